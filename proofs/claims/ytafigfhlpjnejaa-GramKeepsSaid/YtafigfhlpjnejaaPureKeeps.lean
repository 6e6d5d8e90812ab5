/- The plain law of GramKeeps: written by hand for this claim. -/
import Derived.Test.YtafigfhlpjnejaaPureE
import Derived.Test.YtafigfhlpjnejaaPureS
import Derived.Test.YtafigfhlpjnejaaPgx8
namespace Go.Proofs.Ytafigfhlpjnejaa.Pure
open Go Go.RowKit Go.Proofs.YtafigfhlpjnejaaW.PrintWords Go.Proofs.YtafigfhlpjnejaaW.PrintLast Go.Proofs.YtafigfhlpjnejaaW.PrintMore
open Go.Proofs.Ytafigfhlpjnejaa.Pg Go.Proofs.YtafigfhlpjnejaaH

theorem want_sets (l : List ByteArray) : (want l 0).2.2.length ≤ 1000000000000 := by
  unfold want
  rw [if_pos rfl]
  simp
theorem keeps_loop (l : List ByteArray) (B : Int) (S : List Bool) (ht : total l ≤ 65536) (hl : l.length ≤ 1000000) : ∀ (m i : Nat) (L : List Int), i + m = L.length → L.length ≤ 1000000 → Ev (fun k => hopperlaw15_GramKeeps.l0 k l (i : Int) B L S) true
  | 0, i, L, h, _ => by
    have hm := make_ev l 0 (by omega) ht
    have hr := refmake_ev l 0 (by omega) hl (by omega)
    have hw := want_len l 0 ht
    have hsame := same_ev (want l 0).1 (want l 0).2.1 (want l 0).2.2 (by omega) (want_sets l)
    have h2 : Ev (fun k => (hopperref15_Make.f k l 0).bind fun t => (hopperref15_Same.f k (want l 0).1 (want l 0).2.1 (want l 0).2.2 t.1 t.2.1 t.2.2).bind fun t => some t) true :=
      Ev.via hr (Ev.via hsame (Ev.const _) (H := fun k => (hopperref15_Same.f k (want l 0).1 (want l 0).2.1 (want l 0).2.2 (want l 0).1 (want l 0).2.1 (want l 0).2.2).bind fun t => some t) (fun k hk => by rw [hk, Option.bind_some])) (fun k hk => by rw [hk, Option.bind_some])
    refine Ev.succ (Ev.via hm h2 (fun k hk => ?_))
    rw [hopperlaw15_GramKeeps.l0, if_neg (by omega), hk, Option.bind_some, if_pos rfl]
  | m + 1, i, L, h, hL => by
    refine Ev.succ (Ev.of_eq (fun k => ?_) (keeps_loop l B S ht hl m (i + 1) (L.set i (-7)) (by rw [List.length_set]; omega) (by rw [List.length_set]; exact hL)))
    rw [hopperlaw15_GramKeeps.l0, if_pos (by omega), if_pos (by omega), w64 _ (by omega), Int.toNat_natCast]
    rfl
/-- GramKeeps, in the walk's words. -/
theorem gramKeeps (l : List ByteArray) (hl : l.length ≤ 9000000000000000000) (hs : ∀ s ∈ l, s.size ≤ 9000000000000000000) : ∃ k, hopperlaw15_GramKeeps.f k l = some true := by
  obtain ⟨few, hf, hf2⟩ := few_ev l hl hs
  refine Ev.get (F := fun k => hopperlaw15_GramKeeps.f k l) (Ev.via awake_ev (Ev.via hf (G := fun k => hopperlaw15_GramKeeps.j0 k l (!few)) (H := fun k => (hopperref15_Few.f k l).bind fun t => hopperlaw15_GramKeeps.j0 k l (!t)) ?_ (fun k hk => by rw [hk, Option.bind_some])) (fun k hk => by unfold hopperlaw15_GramKeeps.f; rw [hk, Option.bind_some, if_pos rfl]))
  refine Ev.succ ?_
  cases few with
  | false => exact Ev.via awake_ev (Ev.const _) (fun k hk => by rw [hopperlaw15_GramKeeps.j0, if_pos (show (!false) = true from rfl), hk, Option.bind_some])
  | true =>
    obtain ⟨hn, ht⟩ := hf2 rfl
    have hm := make_ev l 0 (by omega) (by omega)
    have hw := want_len l 0 (by omega)
    have hk0 := keeps_loop l (want l 0).1 (want l 0).2.2 (by omega) (by omega) (want l 0).2.1.length 0 (want l 0).2.1 (by omega) (by omega)
    exact Ev.via hm hk0 (fun k hk => by rw [hopperlaw15_GramKeeps.j0, if_neg (by simp), hk, Option.bind_some]; rfl)
end Go.Proofs.Ytafigfhlpjnejaa.Pure
