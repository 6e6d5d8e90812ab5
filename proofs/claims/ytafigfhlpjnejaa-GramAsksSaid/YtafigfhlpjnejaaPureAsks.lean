/- The plain law of GramAsks: written by hand for this claim. -/
import Derived.Test.YtafigfhlpjnejaaPureF
import Derived.Test.YtafigfhlpjnejaaPgx9
namespace Go.Proofs.Ytafigfhlpjnejaa.Pure
open Go Go.RowKit Go.Proofs.YtafigfhlpjnejaaW.PrintWords Go.Proofs.YtafigfhlpjnejaaW.PrintLast Go.Proofs.YtafigfhlpjnejaaW.PrintMore
open Go.Proofs.Ytafigfhlpjnejaa.Pg Go.Proofs.YtafigfhlpjnejaaH

/-- GramAsks, in the walk's words. -/
theorem gramAsks (l : List ByteArray) (b : Int) (s : ByteArray) (g : Int) (hl : l.length ≤ 9000000000000000000) (hs : ∀ s ∈ l, s.size ≤ 9000000000000000000) (hb : (Lit.int .u16 b).wf = true) (_hs2 : s.size ≤ 140737488351232) (hg : (Lit.int .u32 g).wf = true) : ∃ k, hopperlaw15_GramAsks.f k l b s g = some true := by
  have hb2 : 0 ≤ b ∧ b ≤ 65535 := by
    have h : (decide (IntKind.u16.min ≤ b) && decide (b ≤ IntKind.u16.max)) = true := hb
    rw [show IntKind.u16.min = 0 by decide, show IntKind.u16.max = 65535 by decide] at h
    simpa using h
  have hg2 : 0 ≤ g ∧ g ≤ 4294967295 := by
    have h : (decide (IntKind.u32.min ≤ g) && decide (g ≤ IntKind.u32.max)) = true := hg
    rw [show IntKind.u32.min = 0 by decide, show IntKind.u32.max = 4294967295 by decide] at h
    simpa using h
  have hskip : Ev (fun k => hopperlaw15_GramAsks.j0 k l b s g true) true := Ev.succ (Ev.via awake_ev (Ev.const _) (fun k hk => by rw [hopperlaw15_GramAsks.j0, if_pos rfl, hk, Option.bind_some]))
  obtain ⟨few, hf, hf2⟩ := few_ev l hl hs
  refine Ev.get (F := fun k => hopperlaw15_GramAsks.f k l b s g) (Ev.via awake_ev (Ev.via hf (G := fun k => if few = true then hopperlaw15_GramAsks.j0 k l b s g (decide ((s.size : Int) > 500)) else hopperlaw15_GramAsks.j0 k l b s g true) (H := fun k => (hopperref15_Few.f k l).bind fun t => if t = true then hopperlaw15_GramAsks.j0 k l b s g (decide ((s.size : Int) > 500)) else hopperlaw15_GramAsks.j0 k l b s g true) ?_ (fun k hk => by rw [hk, Option.bind_some])) (fun k hk => by unfold hopperlaw15_GramAsks.f; rw [hk, Option.bind_some, if_pos rfl]))
  cases few with
  | false => exact Ev.of_eq (fun k => if_neg (by simp)) hskip
  | true =>
    refine Ev.of_eq (G := fun k => hopperlaw15_GramAsks.j0 k l b s g (decide ((s.size : Int) > 500))) (fun k => if_pos rfl) ?_
    obtain ⟨hn, ht⟩ := hf2 rfl
    by_cases h5 : (s.size : Int) > 500
    · rw [decide_eq_true h5]
      exact hskip
    · rw [decide_eq_false h5]
      have e0 : wrap64 b = b := w64 _ (by omega)
      have e1 : 0 ≤ Int.tmod b 2000 := Int.tmod_nonneg _ (by omega)
      have e2 : Int.tmod b 2000 < 2000 := Int.tmod_lt_of_pos _ (by omega)
      have e3 : 0 ≤ Int.tmod g 16777216 := Int.tmod_nonneg _ (by omega)
      have e4 : Int.tmod g 16777216 < 16777216 := Int.tmod_lt_of_pos _ (by omega)
      have e5 : wrap64 (Int.tmod g 16777216) = Int.tmod g 16777216 := w64 _ (by omega)
      generalize hB : Int.tmod b 2000 = B at e1 e2
      generalize hG : Int.tmod g 16777216 = x at e3 e4 e5
      have hm := refmake_ev l B (by omega) (by omega) (by omega)
      have hWB := want_bits l B
      have hgr := grams_ev s (by omega)
      have hfl : [s].flatMap gr = gr s := by simp
      have hgl := gr_length s
      have hal := asc_length_le (gr s)
      have hall := all_ev [s] (by simp) (fun y hy => by obtain rfl : y = s := by simpa using hy
                                                        omega) (by rw [hfl]; omega)
      rw [hfl] at hall
      have hint := ints_ev (asc (gr s)) (by omega)
      have hwl := want_len l B (by omega)
      have hh := has_ev (want l B).1 (want l B).2.1 (want l B).2.2 x (by omega) (by rw [hWB]; omega) (want_set l B) (want_list l B) (by omega)
      have hr := refhas_ev (want l B).1 (want l B).2.1 (want l B).2.2 x (by omega) (by rw [hWB]; omega) (want_set l B) (by omega)
      have hmy := may_ev (want l B).1 (want l B).2.1 (want l B).2.2 (by rw [hWB]; omega) (want_set l B) (want_list l B) (by omega) s (by omega)
      have hrm := refmay_ev (want l B).1 (want l B).2.1 (want l B).2.2 (by rw [hWB]; omega) (want_set l B) (by omega) s (by omega)
      refine Ev.succ ?_
      obtain ⟨K1, h1⟩ := hm
      obtain ⟨K2, h2⟩ := hgr
      obtain ⟨K3, h3⟩ := hall
      obtain ⟨K4, h4⟩ := hint
      obtain ⟨K5, h5⟩ := hh
      obtain ⟨K6, h6⟩ := hr
      obtain ⟨K7, h7⟩ := hmy
      obtain ⟨K8, h8⟩ := hrm
      refine ⟨K1 + K2 + K3 + K4 + K5 + K6 + K7 + K8, fun k hk => ?_⟩
      have h1 := h1 k (by omega)
      have h2 := h2 k (by omega)
      have h3 := h3 k (by omega)
      have h4 := h4 k (by omega)
      have h5 := h5 k (by omega)
      have h6 := h6 k (by omega)
      have h7 := h7 k (by omega)
      have h8 := h8 k (by omega)
      simp only at h1 h2 h3 h4 h5 h6 h7 h8
      show hopperlaw15_GramAsks.j0 (k + 1) l b s g false = some true
      rw [hopperlaw15_GramAsks.j0, if_neg (by simp), e0, hB, hG, e5, h1, Option.bind_some, h2, Option.bind_some, h3, Option.bind_some, h4, Option.bind_some, if_pos rfl, h5, Option.bind_some, h6, Option.bind_some, if_pos (by simp), h7, Option.bind_some, h8, Option.bind_some]
      simp
end Go.Proofs.Ytafigfhlpjnejaa.Pure
