/- Plain laws: the document's Has and May: written by hand for this claim. -/
import Derived.Test.YtafigfhlpjnejaaPureE
import Derived.Test.YtafigfhlpjnejaaPgx8
namespace Go.Proofs.Ytafigfhlpjnejaa.Pure
open Go Go.RowKit Go.Proofs.YtafigfhlpjnejaaW.PrintWords Go.Proofs.YtafigfhlpjnejaaW.PrintLast Go.Proofs.YtafigfhlpjnejaaW.PrintMore
open Go.Proofs.Ytafigfhlpjnejaa.Pg Go.Proofs.YtafigfhlpjnejaaH

theorem refhas_loop (B : Int) (L : List Int) (S : List Bool) (x : Int) (hl : L.length ≤ 1000000) : ∀ m i, i + m = L.length → (∀ q (h : q < L.length), q < i → L[q] ≠ x) → Ev (fun k => hopperref15_Has.l0 k x (i : Int) B L S) (decide (x ∈ L))
  | 0, i, h, hn => by
    refine Ev.succ (Ev.of_eq (G := fun _ => some (decide (x ∈ L))) (fun k => ?_) (Ev.const _))
    rw [hopperref15_Has.l0, if_neg (by omega)]
    have : ¬ x ∈ L := fun hm => by
      obtain ⟨q, hq, e⟩ := List.mem_iff_getElem.1 hm
      exact hn q hq (by omega) e
    simp [this]
  | m + 1, i, h, hn => by
    have hlt : i < L.length := by omega
    have hrd : rd L (i : Int) = L[i] := rdOf_at (0 : Int) L i hlt
    by_cases hx : L[i] = x
    · refine Ev.succ (Ev.of_eq (G := fun _ => some (decide (x ∈ L))) (fun k => ?_) (Ev.const _))
      rw [hopperref15_Has.l0, if_pos (by omega), if_pos (by omega), hrd, if_pos hx]
      have : x ∈ L := hx ▸ List.getElem_mem hlt
      simp [this]
    · refine Ev.succ (Ev.of_eq (fun k => ?_) (refhas_loop B L S x hl m (i + 1) (by omega) (fun q hq hqi => by
        by_cases hqe : q = i
        · subst hqe; exact hx
        · exact hn q hq (by omega))))
      rw [hopperref15_Has.l0, if_pos (by omega), if_pos (by omega), hrd, if_neg hx, w64 _ (by omega)]
      rfl
theorem refhas_ev (B : Int) (L : List Int) (S : List Bool) (x : Int) (hx : 0 ≤ x ∧ x < 16777216) (hB : 0 ≤ B ∧ B ≤ 65536) (hS : 0 < B → S.length = B.toNat) (hl : L.length ≤ 1000000) : Ev (fun k => hopperref15_Has.f k B L S x) (hasv B L S x) := by
  unfold hasv
  by_cases h0 : 0 < B
  · obtain ⟨n, rfl⟩ : ∃ n : Nat, B = n := ⟨B.toNat, by omega⟩
    have hS2 := hS h0
    obtain ⟨h1, h2⟩ := gram_Make.at_range x n hx h0
    rw [if_pos h0]
    refine Ev.of_eq (G := fun _ => some (S.getD (gram_Make.at_ x n).toNat false)) (fun k => ?_) (Ev.const _)
    unfold hopperref15_Has.f
    rw [if_pos h0, if_neg (by omega)]
    show (if 0 ≤ gram_Make.at_ x n then if gram_Make.at_ x n < (S.length : Int) then some (rdOf false S (gram_Make.at_ x n)) else none else none) = _
    rw [if_pos h1, if_pos (by omega)]
    rfl
  · rw [if_neg h0]
    have := refhas_loop B L S x hl L.length 0 (by omega) (fun q _ h => by omega)
    refine Ev.of_eq (fun k => ?_) this
    unfold hopperref15_Has.f
    rw [if_neg h0]
    rfl
theorem refmay_loop (B : Int) (L : List Int) (S : List Bool) (hB : 0 ≤ B ∧ B ≤ 65536) (hS : 0 < B → S.length = B.toNat) (hl : L.length ≤ 1000000) (t : List Int) (ht : t.length ≤ 1000000) (hr : ∀ x ∈ t, 0 ≤ x ∧ x < 16777216) : ∀ m i, i + m = t.length → Ev (fun k => hopperref15_May.l0 k t (i : Int) B L S) ((t.drop i).all (hasv B L S))
  | 0, i, h => by
    refine Ev.succ (Ev.of_eq (G := fun _ => some ((t.drop i).all (hasv B L S))) (fun k => ?_) (Ev.const _))
    rw [hopperref15_May.l0, if_neg (by omega), List.drop_of_length_le (by omega)]
    rfl
  | m + 1, i, h => by
    have hlt : i < t.length := by omega
    have hrd : rd t (i : Int) = t[i] := rdOf_at (0 : Int) t i hlt
    have h1 := refhas_ev B L S t[i] (hr _ (List.getElem_mem hlt)) hB hS hl
    have ih := refmay_loop B L S hB hS hl t ht hr m (i + 1) (by omega)
    rw [List.drop_eq_getElem_cons hlt, List.all_cons]
    cases hv : hasv B L S t[i] with
    | true =>
      rw [hv] at h1
      refine Ev.succ (Ev.via h1 ih (fun k hk => ?_))
      rw [hopperref15_May.l0, if_pos (by omega), if_pos (by omega), hrd, hk, Option.bind_some, if_pos rfl, w64 _ (by omega)]
      rfl
    | false =>
      rw [hv] at h1
      refine Ev.succ (Ev.via h1 (Ev.const _) (fun k hk => ?_))
      rw [hopperref15_May.l0, if_pos (by omega), if_pos (by omega), hrd, hk, Option.bind_some, if_neg (by simp), Bool.false_and]
/-- The document's May. -/
theorem refmay_ev (B : Int) (L : List Int) (S : List Bool) (hB : 0 ≤ B ∧ B ≤ 65536) (hS : 0 < B → S.length = B.toNat) (hl : L.length ≤ 1000000) (s : ByteArray) (hs : s.size ≤ 65536) : Ev (fun k => hopperref15_May.f k B L S s) ((asc (gr s)).all (hasv B L S)) := by
  have hf : [s].flatMap gr = gr s := by simp
  have hg := gr_length s
  have ha := all_ev [s] (by simp) (fun x hx => by obtain rfl : x = s := by simpa using hx
                                                  omega) (by rw [hf]; omega)
  rw [hf] at ha
  have hal := asc_length_le (gr s)
  have hm := refmay_loop B L S hB hS hl (asc (gr s)) (by omega) (fun x hx => gr_range s x ((mem_asc _ x).1 hx)) (asc (gr s)).length 0 (by omega)
  rw [List.drop_zero] at hm
  exact Ev.via ha hm (fun k hk => by unfold hopperref15_May.f; rw [hk, Option.bind_some]; rfl)
end Go.Proofs.Ytafigfhlpjnejaa.Pure
