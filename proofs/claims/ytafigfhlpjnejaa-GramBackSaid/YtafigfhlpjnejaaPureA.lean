/- Plain laws of the walks' functions: written by hand for this claim. -/
import Derived.Test.YtafigfhlpjnejaaPgx5
import Derived.Test.YtafigfhlpjnejaaAsc
namespace Go.Proofs.Ytafigfhlpjnejaa.Pure
open Go Go.RowKit Go.Proofs.YtafigfhlpjnejaaW.PrintWords Go.Proofs.YtafigfhlpjnejaaW.PrintLast Go.Proofs.YtafigfhlpjnejaaW.PrintMore
open Go.Proofs.Ytafigfhlpjnejaa.Pg Go.Proofs.YtafigfhlpjnejaaH
/-- With rounds enough it is r. -/
def Ev {α : Type} (F : Nat → Option α) (r : α) : Prop := ∃ K, ∀ k, K ≤ k → F k = some r
theorem Ev.const {α : Type} (r : α) : Ev (fun _ => some r) r := ⟨0, fun _ _ => rfl⟩
theorem Ev.of_eq {α : Type} {F G : Nat → Option α} {r : α} (h : ∀ k, F k = G k) (g : Ev G r) : Ev F r := by
  obtain ⟨K, hK⟩ := g
  exact ⟨K, fun k hk => (h k).trans (hK k hk)⟩
theorem Ev.succ {α : Type} {F : Nat → Option α} {r : α} (h : Ev (fun k => F (k + 1)) r) : Ev F r := by
  obtain ⟨K, hK⟩ := h
  refine ⟨K + 1, fun k hk => ?_⟩
  obtain ⟨j, rfl⟩ : ∃ j, k = j + 1 := ⟨k - 1, by omega⟩
  exact hK j (by omega)
theorem Ev.bind {α β : Type} {F : Nat → Option α} {G : Nat → α → Option β} {a : α} {b : β} (h : Ev F a) (g : Ev (fun k => G k a) b) : Ev (fun k => (F k).bind (G k)) b := by
  obtain ⟨K, hK⟩ := h
  obtain ⟨K2, hK2⟩ := g
  refine ⟨max K K2, fun k hk => ?_⟩
  show (F k).bind (G k) = some b
  rw [hK k (by omega), Option.bind_some]
  exact hK2 k (by omega)
theorem Ev.via {α β : Type} {F : Nat → Option α} {G H : Nat → Option β} {a : α} {b : β} (h : Ev F a) (g : Ev G b) (e : ∀ k, F k = some a → H k = G k) : Ev H b := by
  obtain ⟨K, hK⟩ := h
  obtain ⟨K2, hK2⟩ := g
  exact ⟨max K K2, fun k hk => (e k (hK k (by omega))).trans (hK2 k (by omega))⟩
theorem Ev.get {α : Type} {F : Nat → Option α} {r : α} (h : Ev F r) : ∃ k, F k = some r := by
  obtain ⟨K, hK⟩ := h
  exact ⟨K, hK K (Nat.le_refl _)⟩
theorem w64 (n : Int) (h : -9223372036854775808 ≤ n ∧ n ≤ 9223372036854775807) : wrap64 n = n := by unfold wrap64; omega
theorem bt_nat (s : ByteArray) (i : Int) : ∃ n : Nat, bt s i = n ∧ n < 256 := ⟨(bt s i).toNat, by have := bt_range s i; omega, by have := bt_range s i; omega⟩
/-- Three bytes, laid beside each other. -/
theorem or_three (a b c : Nat) (ha : a < 256) (hb : b < 256) (hc : c < 256) : Go.bits .or .i64 (Go.bits .or .i64 ((a : Int) * 65536) ((b : Int) * 256)) (c : Int) = 65536 * (a : Int) + 256 * b + c := by
  have e1 : (a : Int) * 65536 = ((a * 65536 : Nat) : Int) := by simp
  have e2 : (b : Int) * 256 = ((b * 256 : Nat) : Int) := by simp
  rw [e1, e2, i64_or_nat _ _ (by omega) (by omega)]
  have h1 : a * 65536 ||| b * 256 = a * 65536 + b * 256 := by
    have := Nat.two_pow_add_eq_or_of_lt (i := 16) (b := b * 256) (by omega) a
    rw [Nat.mul_comm a, show (65536 : Nat) = 2 ^ 16 from rfl, ← this]
  rw [h1, i64_or_nat _ _ (by omega) (by omega)]
  have h2 : (a * 65536 + b * 256) ||| c = a * 65536 + b * 256 + c := by
    have := Nat.two_pow_add_eq_or_of_lt (i := 8) (b := c) (by omega) (a * 256 + b)
    rw [show a * 65536 + b * 256 = 2 ^ 8 * (a * 256 + b) by omega, ← this]
  rw [h2]
  omega
theorem compact_inv (l : List Int) (hs : l.Pairwise (· ≤ ·)) : ∀ m, m ≤ l.length → (Go.Lib.compactUpTo l.toArray m).Pairwise (· < ·) ∧ ∀ y, y ∈ Go.Lib.compactUpTo l.toArray m ↔ y ∈ l.take m
  | 0, _ => by simp [Go.Lib.compactUpTo]
  | m + 1, hm => by
    obtain ⟨h1, h2⟩ := compact_inv l hs m (by omega)
    have hg : ∀ i, i < l.length → l.toArray[i]! = l.getD i 0 := fun i hi => by
      rw [getElem!_pos l.toArray i (by simpa using hi)]
      simp [List.getD_eq_getElem?_getD, List.getElem?_eq_getElem hi]
    have hgm := hg m (by omega)
    have htk : l.take (m + 1) = l.take m ++ [l.getD m 0] := by
      rw [List.take_succ_eq_append_getElem (by omega)]
      simp [List.getD_eq_getElem?_getD, List.getElem?_eq_getElem (show m < l.length by omega)]
    have hle : ∀ i j, i ≤ j → j < l.length → l.getD i 0 ≤ l.getD j 0 := fun i j hij hj => by
      rcases Nat.eq_or_lt_of_le hij with rfl | hlt
      · exact Int.le_refl _
      · have := List.pairwise_iff_getElem.1 hs i j (by omega) hj hlt
        simpa [List.getD_eq_getElem?_getD, List.getElem?_eq_getElem hj, List.getElem?_eq_getElem (show i < l.length by omega)] using this
    have hmem : ∀ y, y ∈ l.take m → ∃ i, i < m ∧ y = l.getD i 0 := fun y hy => by
      obtain ⟨i, hi, rfl⟩ := List.mem_iff_getElem.1 hy
      have hi' : i < m := by rw [List.length_take] at hi; omega
      refine ⟨i, hi', ?_⟩
      rw [List.getElem_take]
      simp [List.getD_eq_getElem?_getD, List.getElem?_eq_getElem (show i < l.length by omega)]
    rw [Go.Lib.compactUpTo_succ, htk, hgm]
    by_cases hk : Go.Lib.keeps l.toArray m = true
    · rw [if_pos hk]
      refine ⟨List.pairwise_append.2 ⟨h1, by simp, fun y hy z hz => ?_⟩, fun y => by simp [h2 y]⟩
      obtain rfl : z = l.getD m 0 := by simpa using hz
      obtain ⟨i, hi, rfl⟩ := hmem y ((h2 y).1 hy)
      have hk2 : m = 0 ∨ l.toArray[m]! ≠ l.toArray[m - 1]! := by simpa [Go.Lib.keeps] using hk
      rcases hk2 with rfl | hk2
      · omega
      · rw [hgm, hg (m - 1) (by omega)] at hk2
        have a1 := hle i (m - 1) (by omega) (by omega)
        have a2 := hle (m - 1) m (by omega) (by omega)
        omega
    · rw [if_neg hk, List.append_nil]
      refine ⟨h1, fun y => ?_⟩
      have hk2 : ¬ (m = 0 ∨ l.toArray[m]! ≠ l.toArray[m - 1]!) := by simpa [Go.Lib.keeps] using hk
      rw [h2 y, List.mem_append, List.mem_singleton]
      have hm0 : m ≠ 0 := fun e => hk2 (.inl e)
      have hE : l.toArray[m]! = l.toArray[m - 1]! := Classical.byContradiction fun e => hk2 (.inr e)
      rw [hgm, hg (m - 1) (by omega)] at hE
      refine ⟨.inl, ?_⟩
      rintro (h | rfl)
      · exact h
      · rw [hE]
        have hlt : m - 1 < (l.take m).length := by rw [List.length_take]; omega
        have : (l.take m)[m - 1] = l.getD (m - 1) 0 := by
          rw [List.getElem_take]
          simp [List.getD_eq_getElem?_getD, List.getElem?_eq_getElem (show m - 1 < l.length by omega)]
        rw [← this]
        exact List.getElem_mem hlt
theorem sort_le (l : List Int) : (l.mergeSort fun x y => decide (x ≤ y)).Pairwise (· ≤ ·) := by
  have h1 : (l.mergeSort fun x y => decide (x ≤ y)).Pairwise (fun x y => decide (x ≤ y) = true) := List.pairwise_mergeSort (fun a b c h1 h2 => by simp at *; omega) (fun a b => by simp; omega) l
  exact h1.imp fun h => of_decide_eq_true h
/-- Sorted and compacted: the numbers of the list, rising, each once. -/
theorem compact_sort (l : List Int) : Go.Lib.compact (l.mergeSort fun x y => decide (x ≤ y)) = asc l := by
  obtain ⟨h1, h2⟩ := compact_inv _ (sort_le l) _ (Nat.le_refl _)
  refine rising_ext h1 (asc_rising l) fun y => ?_
  show y ∈ Go.Lib.compactUpTo _ _ ↔ _
  rw [h2 y, List.take_length, mem_asc]
  exact (List.mergeSort_perm l _).mem_iff
end Go.Proofs.Ytafigfhlpjnejaa.Pure
