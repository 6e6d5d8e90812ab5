/- Plain laws: 'awake', and the laws GramMakes, GramAsks: written by hand for this claim. -/
import Derived.Test.YtafigfhlpjnejaaPureD
import Derived.Test.YtafigfhlpjnejaaPgx8
namespace Go.Proofs.Ytafigfhlpjnejaa.Pure
open Go Go.RowKit Go.Proofs.YtafigfhlpjnejaaW.PrintWords Go.Proofs.YtafigfhlpjnejaaW.PrintLast Go.Proofs.YtafigfhlpjnejaaW.PrintMore
open Go.Proofs.Ytafigfhlpjnejaa.Pg Go.Proofs.YtafigfhlpjnejaaH

theorem total_abcd : total [(⟨#[97, 98, 99, 100]⟩ : ByteArray)] = 4 := by decide
theorem awake_ev : Ev (fun k => hopperlaw15_awake.f k) true := by
  have m0 := make_ev [(⟨#[97, 98, 99, 100]⟩ : ByteArray)] 0 (by omega) (by rw [total_abcd]; omega)
  have m8 := make_ev [(⟨#[97, 98, 99, 100]⟩ : ByteArray)] 8 (by omega) (by rw [total_abcd]; omega)
  rw [want0] at m0
  have g := grams_ev (⟨#[97, 98, 99, 100]⟩ : ByteArray) (by decide)
  rw [gr_abcd] at g
  have i := ints_ev [6382179, 6447972] (by decide)
  have hr : [(6382179 : Int), 6447972].Pairwise (· < ·) := by decide
  have a1 := may_ev 0 [6382179, 6447972] [] (by omega) (by omega) hr (by decide) (⟨#[97, 98, 99]⟩ : ByteArray) (by decide)
  have a2 := may_ev 0 [6382179, 6447972] [] (by omega) (by omega) hr (by decide) (⟨#[97, 99, 100]⟩ : ByteArray) (by decide)
  rw [gr_abc] at a1
  rw [gr_acd] at a2
  have v1 : [(6382179 : Int)].all (hasv 0 [6382179, 6447972] []) = true := by simp [hasv]
  have v2 : [(6382436 : Int)].all (hasv 0 [6382179, 6447972] []) = false := by simp [hasv]
  rw [v1] at a1
  rw [v2] at a2
  have hb := want_bits [(⟨#[97, 98, 99, 100]⟩ : ByteArray)] 8
  have a3 := may_ev (want [(⟨#[97, 98, 99, 100]⟩ : ByteArray)] 8).1 (want [(⟨#[97, 98, 99, 100]⟩ : ByteArray)] 8).2.1 (want [(⟨#[97, 98, 99, 100]⟩ : ByteArray)] 8).2.2 (by rw [hb]; omega) (want_set _ _) (want_list _ _) (by have := want_len [(⟨#[97, 98, 99, 100]⟩ : ByteArray)] 8 (by rw [total_abcd]; omega); omega) (⟨#[98, 99, 100]⟩ : ByteArray) (by decide)
  have v3 : (asc (gr (⟨#[98, 99, 100]⟩ : ByteArray))).all (hasv (want [(⟨#[97, 98, 99, 100]⟩ : ByteArray)] 8).1 (want [(⟨#[97, 98, 99, 100]⟩ : ByteArray)] 8).2.1 (want [(⟨#[97, 98, 99, 100]⟩ : ByteArray)] 8).2.2) = true := by
    rw [gr_bcd, List.all_cons, List.all_nil, Bool.and_true]
    refine want_has _ _ (by omega) _ ?_
    have : (6447972 : Int) ∈ asc (gr (⟨#[97, 98, 99, 100]⟩ : ByteArray)) := by rw [gr_abcd]; decide
    rw [mem_asc] at this
    simpa using this
  rw [v3] at a3
  obtain ⟨K1, h1⟩ := m0
  obtain ⟨K2, h2⟩ := m8
  obtain ⟨K3, h3⟩ := g
  obtain ⟨K4, h4⟩ := i
  obtain ⟨K5, h5⟩ := a1
  obtain ⟨K6, h6⟩ := a2
  obtain ⟨K7, h7⟩ := a3
  obtain ⟨K8, h8⟩ := write_ev
  refine ⟨K1 + K2 + K3 + K4 + K5 + K6 + K7 + K8, fun k hk => ?_⟩
  have h1 := h1 k (by omega)
  have h2 := h2 k (by omega)
  have h3 := h3 k (by omega)
  have h4 := h4 k (by omega)
  have h5 := h5 k (by omega)
  have h6 := h6 k (by omega)
  have h7 := h7 k (by omega)
  have h8 := h8 k (by omega)
  simp only at h1 h2 h3 h4 h5 h6 h7 h8
  show hopperlaw15_awake.f k = some true
  unfold hopperlaw15_awake.f
  rw [h1, Option.bind_some, h2, Option.bind_some]
  simp only [if_true, h3, Option.bind_some, h4, h5, h6, h7, h8]
  decide

/-- GramMakes, in the walk's words. -/
theorem gramMakes (l : List ByteArray) (b : Int) (hl : l.length ≤ 9000000000000000000) (hs : ∀ s ∈ l, s.size ≤ 9000000000000000000) : ∃ k, hopperlaw15_GramMakes.f k l b = some true := by
  obtain ⟨few, hf, hf2⟩ := few_ev l hl hs
  refine Ev.get (F := fun k => hopperlaw15_GramMakes.f k l b) (Ev.via awake_ev (Ev.via hf (G := fun k => hopperlaw15_GramMakes.j0 k l b (!few)) (H := fun k => (hopperref15_Few.f k l).bind fun t => hopperlaw15_GramMakes.j0 k l b (!t)) ?_ (fun k hk => by rw [hk, Option.bind_some])) (fun k hk => by unfold hopperlaw15_GramMakes.f; rw [hk, Option.bind_some, if_pos rfl]))
  refine Ev.succ ?_
  cases few with
  | false => exact Ev.via awake_ev (Ev.const _) (fun k hk => by rw [hopperlaw15_GramMakes.j0, if_pos (show (!false) = true from rfl), hk, Option.bind_some])
  | true =>
    obtain ⟨_, ht⟩ := hf2 rfl
    by_cases hb : b < 0 ∨ 65536 < b
    · have hm : Ev (fun k => gram_Make.f k l b) (0, [], [], 1) := Ev.of_eq (fun k => by unfold gram_Make.f; rw [if_pos hb]) (Ev.const _)
      have hj : Ev (fun k => hopperlaw15_GramMakes.j1 k l b 1 true 0 [] []) true := Ev.succ (Ev.via (same_ev 0 [] [] (by decide) (by decide)) (Ev.const _) (fun k hk => by rw [hopperlaw15_GramMakes.j1, if_pos rfl, if_pos rfl, hk, Option.bind_some]))
      refine Ev.via hm hj (fun k hk => ?_)
      rw [hopperlaw15_GramMakes.j0, if_neg (by simp), hk, Option.bind_some]
      by_cases h0 : b < 0
      · rw [if_pos h0]
      · rw [if_neg h0, decide_eq_true (by omega)]
    · have hm := make_ev l b (by omega) (by omega)
      have hr := refmake_ev l b (by omega) (by omega) (by omega)
      have hw := want_len l b (by omega)
      have hS : (want l b).2.2.length ≤ 1000000000000 := by
        by_cases h0 : 0 < (want l b).1
        · rw [want_set l b h0, want_bits]; omega
        · rw [want_bits] at h0
          unfold want
          rw [if_pos (by omega)]
          simp
      have hsame := same_ev (want l b).1 (want l b).2.1 (want l b).2.2 (by omega) hS
      have hj : Ev (fun k => hopperlaw15_GramMakes.j1 k l b 0 false (want l b).1 (want l b).2.1 (want l b).2.2) true := Ev.succ (Ev.via hr (Ev.via hsame (Ev.const _) (H := fun k => (hopperref15_Same.f k (want l b).1 (want l b).2.1 (want l b).2.2 (want l b).1 (want l b).2.1 (want l b).2.2).bind fun t => some t) (fun k hk => by rw [hk, Option.bind_some])) (fun k hk => by rw [hopperlaw15_GramMakes.j1, if_neg (by simp), if_pos rfl, hk, Option.bind_some]))
      refine Ev.via hm hj (fun k hk => ?_)
      rw [hopperlaw15_GramMakes.j0, if_neg (by simp), hk, Option.bind_some, if_neg (by omega), decide_eq_false (by omega)]
end Go.Proofs.Ytafigfhlpjnejaa.Pure
