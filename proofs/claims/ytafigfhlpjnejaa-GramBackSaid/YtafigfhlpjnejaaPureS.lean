/- The plain law of alike filters: written by hand for this claim. -/
import Derived.Test.YtafigfhlpjnejaaPureB
namespace Go.Proofs.Ytafigfhlpjnejaa.Pure
open Go Go.RowKit Go.Proofs.YtafigfhlpjnejaaW.PrintWords Go.Proofs.YtafigfhlpjnejaaW.PrintLast Go.Proofs.YtafigfhlpjnejaaW.PrintMore
open Go.Proofs.Ytafigfhlpjnejaa.Pg Go.Proofs.YtafigfhlpjnejaaH
theorem bools_loop (l : List Bool) (hl : l.length ≤ 1000000000000) : ∀ m i, i + m = l.length → Ev (fun k => hopperref04_Same.l0 k l l (i : Int)) true
  | 0, i, h => by
    refine Ev.succ (Ev.of_eq (G := fun _ => some true) (fun k => ?_) (Ev.const _))
    rw [hopperref04_Same.l0, if_neg (by omega)]
  | m + 1, i, h => by
    refine Ev.succ (Ev.of_eq (fun k => ?_) (bools_loop l hl m (i + 1) (by omega)))
    rw [hopperref04_Same.l0, if_pos (by omega), if_pos (by omega), if_pos (by omega), if_neg (by simp), w64 _ (by omega)]
    rfl
theorem bools_ev (l : List Bool) (hl : l.length ≤ 1000000000000) : Ev (fun k => hopperref04_Same.f k l l) true := by
  refine Ev.of_eq (fun k => ?_) (bools_loop l hl l.length 0 (by omega))
  unfold hopperref04_Same.f
  rw [if_pos rfl]
  rfl
theorem same_ev (a : Int) (l : List Int) (m : List Bool) (hl : l.length ≤ 1000000000000) (hm : m.length ≤ 1000000000000) : Ev (fun k => hopperref15_Same.f k a l m a l m) true := by
  refine Ev.of_eq (G := fun k => (hopperref03_Ints.f k l l).bind fun t => if t = true then (hopperref04_Same.f k m m).bind fun t => some t else some false) (fun k => ?_) (Ev.bind (ints_ev l hl) ?_)
  · unfold hopperref15_Same.f
    rw [if_pos rfl]
  · exact Ev.of_eq (fun k => if_pos rfl) (Ev.bind (bools_ev m hm) (Ev.const _))
end Go.Proofs.Ytafigfhlpjnejaa.Pure
