/- Plain laws: 'awake', and the law GramMakes: written by hand for this claim. -/
import Derived.Test.YtafigfhlpjnejaaPureC
namespace Go.Proofs.Ytafigfhlpjnejaa.Pure
open Go Go.RowKit Go.Proofs.YtafigfhlpjnejaaW.PrintWords Go.Proofs.YtafigfhlpjnejaaW.PrintLast Go.Proofs.YtafigfhlpjnejaaW.PrintMore
open Go.Proofs.Ytafigfhlpjnejaa.Pg Go.Proofs.YtafigfhlpjnejaaH
theorem Ev.of_mono {α : Type} {F : Nat → Option α} (h : ∀ k, LeO (F k) (F (k + 1))) {k0 : Nat} {r : α} (e : F k0 = some r) : Ev F r := by
  refine ⟨k0, fun k hk => ?_⟩
  induction k with
  | zero =>
    obtain rfl : k0 = 0 := by omega
    exact e
  | succ k ih =>
    rcases Nat.eq_or_lt_of_le hk with rfl | hlt
    · exact e
    · exact h k r (ih (by omega))
theorem want0 : want [(⟨#[97, 98, 99, 100]⟩ : ByteArray)] 0 = (0, [6382179, 6447972], []) := by decide +kernel
theorem gr_abcd : asc (gr (⟨#[97, 98, 99, 100]⟩ : ByteArray)) = [6382179, 6447972] := by decide +kernel
theorem gr_abc : asc (gr (⟨#[97, 98, 99]⟩ : ByteArray)) = [6382179] := by decide +kernel
theorem gr_acd : asc (gr (⟨#[97, 99, 100]⟩ : ByteArray)) = [6382436] := by decide +kernel
theorem gr_bcd : asc (gr (⟨#[98, 99, 100]⟩ : ByteArray)) = [6447972] := by decide +kernel
/-- Whether a filter has a gram. -/
def hasv (B : Int) (L : List Int) (S : List Bool) (x : Int) : Bool := if 0 < B then S.getD (gram_Make.at_ x B).toNat false else decide (x ∈ L)
theorem less_of (a b : Int) : cmp_Less_int.f a b = some (decide (a < b)) := by
  unfold cmp_Less_int.f cmp_isNaN_int.f
  simp
theorem bs_loop (l : List Int) (x : Int) (hr : l.Pairwise (· < ·)) (hl : l.length ≤ 1000000) : ∀ m i j : Nat, i + m = j → j ≤ l.length → (∀ q (h : q < l.length), q < i → l[q] < x) → (∀ q (h : q < l.length), j ≤ q → x ≤ l[q]) →
    ∃ p : Int, Ev (fun k => slices_BinarySearch_int_int.l0 k l x (l.length : Int) (i : Int) (j : Int)) (p, decide (x ∈ l)) := by
  intro m
  induction m using Nat.strongRecOn with
  | ind m ih =>
    intro i j hij hj h1 h2
    by_cases hlt : i < j
    · have e1 : wrap64 ((IntKind.u64.wrap (wrap64 ((i : Int) + (j : Int)))) / 2) = (((i + j) / 2 : Nat) : Int) := by
        rw [w64 ((i : Int) + j) (by omega), IntKind.wrap_u64, w64 _ (by omega)]
        omega
      have hh : (i + j) / 2 < l.length := by omega
      have hrd : rd l (((i + j) / 2 : Nat) : Int) = l[(i + j) / 2] := rdOf_at (0 : Int) l _ hh
      by_cases hc : l[(i + j) / 2] < x
      · obtain ⟨p, hp⟩ := ih (j - ((i + j) / 2 + 1)) (by omega) ((i + j) / 2 + 1) j (by omega) hj (fun q hq hqi => by
          rcases Nat.lt_or_ge q ((i + j) / 2) with h | h
          · have := List.pairwise_iff_getElem.1 hr q ((i + j) / 2) hq hh h
            omega
          · obtain rfl : q = (i + j) / 2 := by omega
            exact hc) h2
        refine ⟨p, Ev.succ (Ev.of_eq (fun k => ?_) hp)⟩
        rw [slices_BinarySearch_int_int.l0, if_pos (by omega), e1, if_pos (by omega), if_pos (by omega), hrd, less_of, Option.bind_some, if_pos (decide_eq_true hc), w64 _ (by omega)]
        rfl
      · obtain ⟨p, hp⟩ := ih ((i + j) / 2 - i) (by omega) i ((i + j) / 2) (by omega) (by omega) h1 (fun q hq hqi => by
          rcases Nat.eq_or_lt_of_le hqi with h | h
          · subst h; omega
          · have := List.pairwise_iff_getElem.1 hr ((i + j) / 2) q hh hq h
            omega)
        refine ⟨p, Ev.succ (Ev.of_eq (fun k => ?_) hp)⟩
        rw [slices_BinarySearch_int_int.l0, if_pos (by omega), e1, if_pos (by omega), if_pos (by omega), hrd, less_of, Option.bind_some, if_neg (by simpa using hc)]
    · obtain rfl : i = j := by omega
      refine ⟨(i : Int), Ev.succ (Ev.of_eq (G := fun _ => some ((i : Int), decide (x ∈ l))) (fun k => ?_) (Ev.const _))⟩
      rw [slices_BinarySearch_int_int.l0, if_neg (by omega)]
      by_cases hi : i < l.length
      · have hrd : rd l (i : Int) = l[i] := rdOf_at (0 : Int) l i hi
        rw [if_pos (by omega), if_pos (by omega), if_pos (by omega), hrd]
        by_cases hx : l[i] = x
        · rw [if_pos hx]
          have : x ∈ l := hx ▸ List.getElem_mem hi
          simp [this]
        · rw [if_neg hx]
          have hn : ¬ x ∈ l := fun hm => by
            obtain ⟨q, hq, e⟩ := List.mem_iff_getElem.1 hm
            rcases Nat.lt_trichotomy q i with h | h | h
            · have := h1 q hq h; omega
            · subst h; exact hx e
            · have a1 := List.pairwise_iff_getElem.1 hr i q hi hq h
              have a2 := h2 i hi (Nat.le_refl _)
              omega
          unfold slices_isNaN_int.f
          simp [hn]
      · rw [if_neg (by omega)]
        have hn : ¬ x ∈ l := fun hm => by
          obtain ⟨q, hq, e⟩ := List.mem_iff_getElem.1 hm
          have := h1 q hq (by omega)
          omega
        simp [hn]
theorem has_ev (B : Int) (L : List Int) (S : List Bool) (x : Int) (hx : 0 ≤ x ∧ x < 16777216) (hB : 0 ≤ B ∧ B ≤ 65536) (hS : 0 < B → S.length = B.toNat) (hL : L.Pairwise (· < ·)) (hl : L.length ≤ 1000000) : Ev (fun k => gram_Has.f k B L S x) (hasv B L S x) := by
  unfold hasv
  by_cases h0 : 0 < B
  · obtain ⟨n, rfl⟩ : ∃ n : Nat, B = n := ⟨B.toNat, by omega⟩
    have hS2 := hS h0
    obtain ⟨h1, h2⟩ := gram_Make.at_range x n hx h0
    rw [if_pos h0]
    refine Ev.of_eq (G := fun _ => some (S.getD (gram_Make.at_ x n).toNat false)) (fun k => ?_) (Ev.const _)
    unfold gram_Has.f gram_place.f
    rw [if_pos h0, if_neg (by omega), Option.bind_some]
    show (if 0 ≤ gram_Make.at_ x n then if gram_Make.at_ x n < (S.length : Int) then some (rdOf false S (gram_Make.at_ x n)) else none else none) = _
    rw [if_pos h1, if_pos (by omega)]
    rfl
  · rw [if_neg h0]
    obtain ⟨p, hp⟩ := bs_loop L x hL hl L.length 0 L.length (by omega) (Nat.le_refl _) (fun q _ h => by omega) (fun q hq h => by omega)
    refine Ev.via (F := fun k => slices_BinarySearch_int_int.f k L x) hp (Ev.const _) (fun k hk => ?_)
    unfold gram_Has.f
    rw [if_neg h0, hk, Option.bind_some]
theorem may_loop (B : Int) (L : List Int) (S : List Bool) (hB : 0 ≤ B ∧ B ≤ 65536) (hS : 0 < B → S.length = B.toNat) (hL : L.Pairwise (· < ·)) (hl : L.length ≤ 1000000) : ∀ t : List Int, (∀ x ∈ t, 0 ≤ x ∧ x < 16777216) → Ev (fun k => gram_May.g k B L S t) (t.all (hasv B L S))
  | [], _ => Ev.const _
  | x :: t, h => by
    have h1 := has_ev B L S x (h x List.mem_cons_self) hB hS hL hl
    have h2 := may_loop B L S hB hS hL hl t (fun y hy => h y (List.mem_cons_of_mem _ hy))
    rw [List.all_cons]
    cases hv : hasv B L S x with
    | true =>
      rw [hv] at h1
      exact Ev.via h1 h2 (fun k hk => by rw [gram_May.g, hk, Option.bind_some, if_pos rfl])
    | false =>
      rw [hv] at h1
      exact Ev.via h1 (Ev.const _) (fun k hk => by rw [gram_May.g, hk, Option.bind_some, if_neg (by simp), Bool.false_and])
/-- gram.May. -/
theorem may_ev (B : Int) (L : List Int) (S : List Bool) (hB : 0 ≤ B ∧ B ≤ 65536) (hS : 0 < B → S.length = B.toNat) (hL : L.Pairwise (· < ·)) (hl : L.length ≤ 1000000) (s : ByteArray) (hs : s.size ≤ 1000000) : Ev (fun k => gram_May.f k B L S s) ((asc (gr s)).all (hasv B L S)) :=
  Ev.via (grams_ev s hs) (may_loop B L S hB hS hL hl (asc (gr s)) (fun x hx => gr_range s x ((mem_asc _ x).1 hx))) (fun k hk => by rw [gram_May.f, hk, Option.bind_some])
theorem want_bits (l : List ByteArray) (b : Int) : (want l b).1 = b := by
  unfold want
  split
  · rename_i h; exact h.symm
  · rfl
theorem want_set (l : List ByteArray) (b : Int) (h : 0 < (want l b).1) : (want l b).2.2.length = (want l b).1.toNat := by
  rw [want_bits] at *
  unfold want
  rw [if_neg (by omega)]
  simp [gram_Make.marks]
theorem want_list (l : List ByteArray) (b : Int) : (want l b).2.1.Pairwise (· < ·) := by
  unfold want
  split
  · exact asc_rising _
  · exact List.Pairwise.nil
theorem want_len (l : List ByteArray) (b : Int) (ht : total l ≤ 65536) : (want l b).2.1.length ≤ 65536 := by
  have h1 := asc_length_le (l.flatMap gr)
  have h2 := flat_le l
  unfold want
  split
  · simp only; omega
  · simp
/-- A filter has each gram of its strings. -/
theorem want_has (l : List ByteArray) (b : Int) (hb : 0 ≤ b) (x : Int) (hx : x ∈ l.flatMap gr) : hasv (want l b).1 (want l b).2.1 (want l b).2.2 x = true := by
  have hr := flat_range l x hx
  unfold hasv want
  by_cases h0 : b = 0
  · rw [if_pos h0]
    simp only
    rw [if_neg (by omega)]
    exact decide_eq_true ((mem_asc _ x).2 hx)
  · rw [if_neg h0]
    simp only
    rw [if_pos (by omega)]
    obtain ⟨n, rfl⟩ : ∃ n : Nat, b = n := ⟨b.toNat, by omega⟩
    obtain ⟨h1, h2⟩ := gram_Make.at_range x n hr (by omega)
    obtain ⟨p, hp⟩ : ∃ p : Nat, gram_Make.at_ x n = p := ⟨(gram_Make.at_ x n).toNat, by omega⟩
    rw [hp, Int.toNat_natCast, Int.toNat_natCast]
    unfold gram_Make.marks
    rw [List.getD_eq_getElem?_getD, List.getElem?_map, List.getElem?_range (by omega)]
    simp only [Option.map_some, Option.getD_some, List.any_eq_true]
    exact ⟨x, hx, decide_eq_true hp⟩
theorem write_ev : Ev (fun k => gram_Write.f k 0 [6382179, 6447972] []) [0, 2, 23, 99, 98, 225, 128, 128, 0] := Ev.of_mono (k0 := 60) (fun k => gram_Write.mono _ _ _ k) (by decide +kernel)
end Go.Proofs.Ytafigfhlpjnejaa.Pure
