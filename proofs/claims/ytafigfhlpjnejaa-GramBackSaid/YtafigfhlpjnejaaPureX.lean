/- Plain laws: what the program and the document write, numbers packed: written by hand for this claim. -/
import Derived.Test.YtafigfhlpjnejaaPureW
namespace Go.Proofs.Ytafigfhlpjnejaa.Pure
open Go Go.RowKit Go.Proofs.YtafigfhlpjnejaaW.PrintWords Go.Proofs.YtafigfhlpjnejaaW.PrintLast Go.Proofs.YtafigfhlpjnejaaW.PrintMore
open Go.Proofs.Ytafigfhlpjnejaa.Pg Go.Proofs.YtafigfhlpjnejaaH
/-- The bits of numbers, w of each. -/
def pb (l : List Int) (w p : Nat) : Bool := decide ((l.getD (p / w) 0).toNat / 2 ^ (p % w) % 2 = 1)
/-- Numbers, packed. -/
def pk (l : List Int) (w : Nat) : List Int := bmN (pb l w) (l.length * w) ((l.length * w + 7) / 8)
theorem pk_length (l : List Int) (w : Nat) : (pk l w).length = (l.length * w + 7) / 8 := bmN_length _ _ _
theorem div_at (i w k : Nat) (hk : k < w) : (i * w + k) / w = i := by
  rw [Nat.mul_comm, Nat.mul_add_div (by omega), Nat.div_eq_of_lt hk, Nat.add_zero]
theorem mod_at (i w k : Nat) (hk : k < w) : (i * w + k) % w = k := by
  rw [Nat.mul_comm, Nat.mul_add_mod, Nat.mod_eq_of_lt hk]
theorem pb_at (l : List Int) (w i k : Nat) (hk : k < w) (hi : i < l.length) : pb l w (i * w + k) = decide (l[i].toNat / 2 ^ k % 2 = 1) := by
  unfold pb
  rw [div_at i w k hk, mod_at i w k hk, List.getD_eq_getElem?_getD, List.getElem?_eq_getElem hi]
  rfl
theorem at_lt (n w i k : Nat) (hi : i < n) (hk : k < w) : i * w + k < n * w := by
  have : (i + 1) * w ≤ n * w := Nat.mul_le_mul_right _ hi
  rw [Nat.succ_mul] at this
  omega
theorem mul_le32 (n w : Nat) (hn : n ≤ 1000000000) (hw : w ≤ 32) : n * w ≤ 32000000000 := Nat.mul_le_mul hn hw
theorem psize_ev (n w : Nat) (hn : n ≤ 1000000000) (hw : w ≤ 32) : pack_size.f (n : Int) (w : Int) = some (((n * w + 7) / 8 : Nat) : Int) := by
  have hm := mul_le32 n w hn hw
  have e : (n : Int) * (w : Int) = ((n * w : Nat) : Int) := by simp
  unfold pack_size.f
  rw [e, w64 ((n * w : Nat) : Int) (by omega), w64 (((n * w : Nat) : Int) + 8) (by omega), w64 (((n * w : Nat) : Int) + 8 - 1) (by omega), show ((n * w : Nat) : Int) + 8 - 1 = ((n * w + 7 : Nat) : Int) by omega, tdiv8 _ (by omega)]
theorem shr_nat (x k : Nat) (hk : k ≤ 62) : shr .i64 (x : Int) (k : Int) = ((x / 2 ^ k : Nat) : Int) := by
  unfold shr
  rw [show IntKind.i64.bits = 64 from rfl, Int.toNat_natCast, Nat.min_eq_left (by omega)]
  simp
theorem shr8_nat (x k : Nat) (hk : k < 8) : shr .u8 (x : Int) (k : Int) = ((x / 2 ^ k : Nat) : Int) := by
  unfold shr
  rw [show IntKind.u8.bits = 8 from rfl, Int.toNat_natCast, Nat.min_eq_left (by omega)]
  simp
theorem bit_i64 (x k : Nat) (hx : x < 4294967296) (hk : k ≤ 62) : bits .and .i64 (shr .i64 (x : Int) (k : Int)) 1 = ((x / 2 ^ k % 2 : Nat) : Int) := by
  have hd : x / 2 ^ k ≤ x := Nat.div_le_self _ _
  have e := i64_and_nat (x / 2 ^ k) 1 (by omega) (by omega)
  rw [shr_nat x k hk, show (1 : Int) = ((1 : Nat) : Int) from rfl, e, Nat.and_one_is_mod]
theorem bit_u8 (x k : Nat) (hx : x < 256) (hk : k < 8) : bits .and .u8 (shr .u8 (x : Int) (k : Int)) 1 = ((x / 2 ^ k % 2 : Nat) : Int) := by
  have hd : x / 2 ^ k ≤ x := Nat.div_le_self _ _
  have e := u8_and_nat (x / 2 ^ k) 1 (by omega) (by omega)
  rw [shr8_nat x k hk, show (1 : Int) = ((1 : Nat) : Int) from rfl, e, Nat.and_one_is_mod]
theorem or_step (f : Nat → Bool) (p b : Nat) (hb : b = if f p = true then 1 else 0) : bits .or .u8 ((bval f p (p / 8) : Nat) : Int) (shl .u8 ((b : Nat) : Int) ((p % 8 : Nat) : Int)) = ((bval f p (p / 8) + if f p = true then 2 ^ (p % 8) else 0 : Nat) : Int) := by
  by_cases h : f p = true
  · rw [if_pos h] at hb ⊢
    subst hb
    exact or_bit _ _ (bval_lt_at _ _) (by omega)
  · rw [if_neg h] at hb ⊢
    subst hb
    exact or_none _ _ (bval_lt _ _ _)
theorem rd_at (l : List Int) (i : Nat) (h : i < l.length) : rd l (i : Int) = l[i] := by
  unfold rd
  rw [Int.toNat_natCast, List.getD_eq_getElem?_getD, List.getElem?_eq_getElem h]
  rfl
theorem pow_le32 (w : Nat) (hw : w ≤ 32) : 2 ^ w ≤ 4294967296 := Nat.pow_le_pow_right (n := 2) (by omega) hw
section
variable (l : List Int) (w : Nat) (hw : w ≤ 32) (hlen : l.length ≤ 1000000000) (hx : ∀ x ∈ l, 0 ≤ x ∧ x < ((2 ^ w : Nat) : Int))
include hw hlen hx
theorem pput_l1 (i : Nat) (hi : i < l.length) (r : List Int × Int) : ∀ m k : Nat, k + m = w →
    Ev (fun q => pack_Put.l0 q (w : Int) (bmN (pb l w) ((i + 1) * w) ((l.length * w + 7) / 8)) l (l.length : Int) ((i + 1 : Nat) : Int)) r →
    Ev (fun q => pack_Put.l1 q (w : Int) (bmN (pb l w) (i * w + k) ((l.length * w + 7) / 8)) (i : Int) l[i] l (l.length : Int) (i : Int) (w : Int) (k : Int)) r
  | 0, k, h, he => by
    obtain rfl : k = w := by omega
    refine Ev.succ (Ev.of_eq (fun q => ?_) he)
    rw [pack_Put.l1, if_neg (by omega), w64 ((i : Int) + 1) (by omega), Nat.succ_mul]
    rfl
  | m + 1, k, h, he => by
    have ih := pput_l1 i hi r m (k + 1) (by omega) he
    have hmul := mul_le32 l.length w hlen hw
    have hat := at_lt l.length w i k hi (by omega)
    have hxi := hx _ (List.getElem_mem hi)
    have hp := pow_le32 w hw
    have e0 : (i : Int) * (w : Int) = ((i * w : Nat) : Int) := by simp
    have hiw : i * w ≤ i * w + k := by omega
    obtain ⟨x, hxe⟩ : ∃ x : Nat, l[i] = x := ⟨l[i].toNat, by omega⟩
    have hbit : x / 2 ^ k % 2 = if pb l w (i * w + k) = true then 1 else 0 := by
      rw [pb_at l w i k (by omega) hi, hxe, Int.toNat_natCast]
      have := Nat.mod_lt (x / 2 ^ k) (show 2 > 0 by omega)
      by_cases hb : x / 2 ^ k % 2 = 1
      · simp [hb]
      · have h0 : x / 2 ^ k % 2 = 0 := by omega
        simp [h0]
    have hs := bmN_step (pb l w) (i * w + k) ((l.length * w + 7) / 8)
    generalize hp2 : i * w + k = p at *
    have hn : p / 8 < (l.length * w + 7) / 8 := by omega
    refine Ev.succ (Ev.of_eq (fun q => ?_) ih)
    rw [pack_Put.l1, if_pos (by omega), e0, w64 ((i * w : Nat) : Int) (by omega), show ((i * w : Nat) : Int) + (k : Int) = (p : Int) by omega, w64 (p : Int) (by omega), tdiv8 p (by omega), tmod8 p, w64 ((k : Int) + 1) (by omega),
      if_pos (by omega), if_pos (by rw [bmN_length]; omega), if_pos (by omega), if_pos (by omega), bmN_rd _ _ _ _ hn, hxe, bit_i64 x k (by omega) (by omega), show ((x / 2 ^ k % 2 : Nat) : Int) % 256 = ((x / 2 ^ k % 2 : Nat) : Int) by omega, or_step _ _ _ hbit, Int.toNat_natCast, hs, ← Nat.add_assoc, hp2]
    rfl
theorem pput_l0 : ∀ m i : Nat, i + m = l.length → Ev (fun q => pack_Put.l0 q (w : Int) (bmN (pb l w) (i * w) ((l.length * w + 7) / 8)) l (l.length : Int) (i : Int)) (pk l w, 0)
  | 0, i, h => by
    obtain rfl : i = l.length := by omega
    refine Ev.succ (Ev.of_eq (G := fun _ => some (pk l w, 0)) (fun q => ?_) (Ev.const _))
    rw [pack_Put.l0, if_neg (by omega)]
    rfl
  | m + 1, i, h => by
    have hi : i < l.length := by omega
    have ih := pput_l0 m (i + 1) (by omega)
    have h1 := pput_l1 l w hw hlen hx i hi (pk l w, 0) w 0 (by omega) ih
    have hxi := hx _ (List.getElem_mem hi)
    have hp := pow_le32 w hw
    have hs : ¬ shr .i64 l[i] (w : Int) > 0 := by
      obtain ⟨x, hxe⟩ : ∃ x : Nat, l[i] = x := ⟨l[i].toNat, by omega⟩
      rw [hxe] at hxi ⊢
      rw [shr_nat x w (by omega), Nat.div_eq_of_lt (by omega)]
      omega
    refine Ev.succ (Ev.succ (Ev.of_eq (fun q => ?_) h1))
    rw [pack_Put.l0, if_pos (by omega), if_pos (by omega), if_pos (by omega), rd_at l i hi, if_neg (by omega), if_pos (by omega), decide_eq_false hs, pack_Put.j2, if_neg (by simp), Nat.add_zero]
    rfl
theorem pput_ev : Ev (fun q => pack_Put.f q l (w : Int)) (pk l w, 0) := by
  have h := pput_l0 l w hw hlen hx l.length 0 (by omega)
  rw [Nat.zero_mul, bmN_zero] at h
  have hmul := mul_le32 l.length w hlen hw
  refine Ev.of_eq (fun q => ?_) (Ev.succ (F := fun q => pack_Put.j0 q l (w : Int) false) (Ev.of_eq (fun q => ?_) h))
  · unfold pack_Put.f
    rw [if_neg (by omega), decide_eq_false (by omega)]
  · rw [pack_Put.j0, if_neg (by simp), psize_ev _ _ hlen hw, Option.bind_some, if_pos (by omega), Int.toNat_natCast, if_pos (by omega)]
    rfl
omit hlen hx in
theorem rpput_j4 (i k p x : Nat) (hi : i < l.length) (hk : k < w) (hxe : l[i] = (x : Int)) (hx2 : x < 4294967296) (hbit : x / 2 ^ k % 2 = if pb l w p = true then 1 else 0) (hp : p < 32000000000) (r : List Int × Int)
    (ih : Ev (fun q => hopperref03_Put.l1 q l (w : Int) (bmN (pb l w) (p + 1) ((p + 1 + 7) / 8)) ((p + 1 : Nat) : Int) (i : Int) ((k + 1 : Nat) : Int)) r) :
    Ev (fun q => hopperref03_Put.j4 q l (w : Int) (bmN (pb l w) p ((p + 1 + 7) / 8)) (p : Int) (i : Int) (k : Int)) r := by
  have hxd : x / 2 ^ k ≤ x := Nat.div_le_self _ _
  have e2 : Int.tmod (wrap64 (Int.tdiv (x : Int) ((2 ^ k : Nat) : Int))) 2 = ((x / 2 ^ k % 2 : Nat) : Int) := by
    rw [tdiv_nat]
    generalize x / 2 ^ k = y at hxd ⊢
    rw [w64 _ (by omega)]
    exact tmod_nat _ 2
  have hv := bval_lt_at (pb l w) p
  have hs := bmN_step (pb l w) p ((p + 1 + 7) / 8)
  have hn : p / 8 < (p + 1 + 7) / 8 := by omega
  have hp7 : 2 ^ (p % 8) ≤ 2 ^ 7 := Nat.pow_le_pow_right (by omega) (by omega)
  have P1 := power_ev k (by omega)
  have P2 := power_ev (p % 8) (by omega)
  have hk1 : ((2 ^ k : Nat) : Int) ≠ 0 := by have := Nat.two_pow_pos k; omega
  have e1 : (((bval (pb l w) p (p / 8) : Nat) : Int) + ((2 ^ (p % 8) : Nat) : Int) % 256) % 256 = ((bval (pb l w) p (p / 8) + 2 ^ (p % 8) : Nat) : Int) := by omega
  have h1 : (p / 8 : Nat) < (bmN (pb l w) p ((p + 1 + 7) / 8)).length := by rw [bmN_length]; exact hn
  clear hxd hv hp7
  refine Ev.succ (Ev.via P1 (Ev.via P2 ih (H := fun q => if (x / 2 ^ k % 2 : Nat) = 1 then (hopperref03_Power.f q ((p % 8 : Nat) : Int)).bind fun t335 => hopperref03_Put.l1 q l (w : Int) ((bmN (pb l w) p ((p + 1 + 7) / 8)).set (p / 8) ((((bval (pb l w) p (p / 8) : Nat) : Int) + t335 % 256) % 256)) ((p : Int) + 1) (i : Int) ((k : Int) + 1) else hopperref03_Put.l1 q l (w : Int) (bmN (pb l w) p ((p + 1 + 7) / 8)) ((p : Int) + 1) (i : Int) ((k : Int) + 1)) (fun q hq => ?_)) (fun q hq => ?_))
  · by_cases hb : pb l w p = true
    · rw [hb, if_pos rfl] at hbit hs
      rw [if_pos hbit, hq, Option.bind_some, e1, hs]
      rfl
    · rw [if_neg hb] at hbit
      have hb' : pb l w p = false := by simpa using hb
      rw [if_neg (by omega), bmN_skip _ _ _ hb']
      rfl
  · rw [hopperref03_Put.j4, if_pos (Int.natCast_nonneg i), if_pos (by omega), hq, Option.bind_some, if_neg hk1, rd_at l i hi, hxe, e2, tdiv8 p (by omega), tmod8 p, w64 ((k : Int) + 1) (by omega), w64 ((p : Int) + 1) (by omega)]
    generalize x / 2 ^ k % 2 = y
    by_cases hb : y = 1
    · subst hb
      rw [if_pos (show ((1 : Nat) : Int) = 1 from rfl), if_pos rfl, if_pos (Int.natCast_nonneg _), if_pos (by omega), bmN_rd _ _ _ _ hn, Int.toNat_natCast]
    · rw [if_neg (by omega), if_neg hb]
theorem rpput_l1 (i : Nat) (hi : i < l.length) (r : List Int × Int) : ∀ m k : Nat, k + m = w →
    Ev (fun q => hopperref03_Put.l0 q l (w : Int) (bmN (pb l w) ((i + 1) * w) (((i + 1) * w + 7) / 8)) (((i + 1) * w : Nat) : Int) ((i + 1 : Nat) : Int)) r →
    Ev (fun q => hopperref03_Put.l1 q l (w : Int) (bmN (pb l w) (i * w + k) ((i * w + k + 7) / 8)) ((i * w + k : Nat) : Int) (i : Int) (k : Int)) r
  | 0, k, h, he => by
    obtain rfl : k = w := by omega
    refine Ev.succ (Ev.of_eq (fun q => ?_) he)
    rw [hopperref03_Put.l1, if_neg (by omega), w64 ((i : Int) + 1) (by omega), Nat.succ_mul]
    rfl
  | m + 1, k, h, he => by
    have ih := rpput_l1 i hi r m (k + 1) (by omega) he
    have hmul := mul_le32 l.length w hlen hw
    have hat := at_lt l.length w i k hi (by omega)
    have hxi := hx _ (List.getElem_mem hi)
    have hp := pow_le32 w hw
    obtain ⟨x, hxe⟩ : ∃ x : Nat, l[i] = x := ⟨l[i].toNat, by omega⟩
    have hbit : x / 2 ^ k % 2 = if pb l w (i * w + k) = true then 1 else 0 := by
      rw [pb_at l w i k (by omega) hi, hxe, Int.toNat_natCast]
      have := Nat.mod_lt (x / 2 ^ k) (show 2 > 0 by omega)
      by_cases hb : x / 2 ^ k % 2 = 1
      · simp [hb]
      · have h0 : x / 2 ^ k % 2 = 0 := by omega
        simp [h0]
    rw [← Nat.add_assoc] at ih
    have hj := rpput_j4 l w hw i k (i * w + k) x hi (by omega) hxe (by omega) hbit (by omega) r ih
    refine Ev.succ (Ev.of_eq (fun q => ?_) hj)
    clear ih hj hbit
    rw [hopperref03_Put.l1, if_pos (by omega), tmod8 (i * w + k)]
    by_cases h8 : (i * w + k) % 8 = 0
    · rw [if_pos (by omega), if_pos (by rw [bmN_length]; omega), bmN_more _ _ h8]
    · rw [if_neg (by omega), bmN_same _ h8]
theorem rpput_l0 : ∀ m i : Nat, i + m = l.length → Ev (fun q => hopperref03_Put.l0 q l (w : Int) (bmN (pb l w) (i * w) ((i * w + 7) / 8)) ((i * w : Nat) : Int) (i : Int)) (pk l w, 0)
  | 0, i, h => by
    obtain rfl : i = l.length := by omega
    refine Ev.succ (Ev.of_eq (G := fun _ => some (pk l w, 0)) (fun q => ?_) (Ev.const _))
    rw [hopperref03_Put.l0, if_neg (by omega)]
    rfl
  | m + 1, i, h => by
    have hi : i < l.length := by omega
    have ih := rpput_l0 m (i + 1) (by omega)
    have h1 := rpput_l1 l w hw hlen hx i hi (pk l w, 0) w 0 (by omega) ih
    have hxi := hx _ (List.getElem_mem hi)
    have hp := pow_le32 w hw
    have P1 := power_ev w (by omega)
    rw [Nat.add_zero] at h1
    refine Ev.succ (Ev.via P1 (Ev.succ (F := fun q => hopperref03_Put.j2 q l (w : Int) (bmN (pb l w) (i * w) ((i * w + 7) / 8)) ((i * w : Nat) : Int) (i : Int) false) (Ev.of_eq (fun q => ?_) h1)) (fun q hq => ?_))
    · rw [hopperref03_Put.j2, if_neg (by simp)]
      rfl
    · rw [hopperref03_Put.l0, if_pos (by omega), if_pos (by omega), rd_at l i hi, if_neg (by omega), hq, Option.bind_some, decide_eq_false (by omega)]
theorem rpput_ev : Ev (fun q => hopperref03_Put.f q l (w : Int)) (pk l w, 0) := by
  have h := rpput_l0 l w hw hlen hx l.length 0 (by omega)
  rw [Nat.zero_mul, bmN_zero] at h
  refine Ev.of_eq (fun q => ?_) (Ev.succ (F := fun q => hopperref03_Put.j0 q l (w : Int) false) (Ev.of_eq (fun q => ?_) h))
  · unfold hopperref03_Put.f
    rw [if_neg (by omega), decide_eq_false (by omega)]
  · rw [hopperref03_Put.j0, if_neg (by simp)]
    rfl
end
end Go.Proofs.Ytafigfhlpjnejaa.Pure
namespace Go.Proofs.Ytafigfhlpjnejaa.Pure
open Go Go.RowKit Go.Proofs.YtafigfhlpjnejaaW.PrintWords Go.Proofs.YtafigfhlpjnejaaW.PrintLast Go.Proofs.YtafigfhlpjnejaaW.PrintMore
open Go.Proofs.Ytafigfhlpjnejaa.Pg Go.Proofs.YtafigfhlpjnejaaH
theorem IsW.pow (l : List Int) (w : Nat) (h : IsW l w) : ∀ x ∈ l, x < ((2 ^ w : Nat) : Int) := fun x hx => by
  have := h.1 x hx
  rw [← pow_i] at this
  exact this
theorem max_loop (l : List Int) (hl : l.length ≤ 1000000000) : ∀ m i : Nat, i + m = l.length → ∀ b : Int, b ∈ l → (∀ j (h : j < l.length), j < i → l[j] ≤ b) →
    ∃ r, Ev (fun k => slices_Max_int_int.l0 k l b (i : Int)) r ∧ r ∈ l ∧ ∀ x ∈ l, x ≤ r
  | 0, i, h, b, hb, ha => ⟨b, Ev.succ (Ev.of_eq (G := fun _ => some b) (fun k => by rw [slices_Max_int_int.l0, if_neg (by omega)]) (Ev.const _)), hb, fun x hx => by
      obtain ⟨j, hj, rfl⟩ := List.mem_iff_getElem.1 hx
      exact ha j hj (by omega)⟩
  | m + 1, i, h, b, hb, ha => by
    have hi : i < l.length := by omega
    have hmx : mx b l[i] ∈ l := by
      unfold mx
      split
      · exact List.getElem_mem hi
      · exact hb
    obtain ⟨r, hr, h2⟩ := max_loop l hl m (i + 1) (by omega) (mx b l[i]) hmx (fun j hj hji => by
      unfold mx
      by_cases e : j = i
      · subst e; split <;> omega
      · have := ha j hj (by omega)
        split <;> omega)
    refine ⟨r, Ev.succ (Ev.of_eq (fun k => ?_) hr), h2⟩
    rw [slices_Max_int_int.l0, if_pos (by omega), if_pos (by omega), rd_at l i hi, w64 _ (by omega)]
    rfl
theorem pwidth_ev (l : List Int) (hl : l.length ≤ 1000000000) (hx : ∀ x ∈ l, 0 ≤ x ∧ x < 4294967296) : ∃ w : Nat, Ev (fun k => pack_Width.f k l) (w : Int) ∧ IsW l w ∧ w ≤ 32 := by
  by_cases h0 : l.length = 0
  · obtain rfl : l = [] := List.eq_nil_of_length_eq_zero h0
    exact ⟨0, Ev.of_eq (G := fun _ => some ((0 : Nat) : Int)) (fun k => by simp [pack_Width.f]) (Ev.const _), IsW.nil, by omega⟩
  · have hp : 0 < l.length := by omega
    obtain ⟨r, hr, hm, hle⟩ := max_loop l hl (l.length - 1) 1 (by omega) l[0] (List.getElem_mem hp) (fun j hj h1 => by
      obtain rfl : j = 0 := by omega
      exact Int.le_refl _)
    have hr0 := hx r hm
    refine ⟨Lib.bitLen r.toNat, Ev.via (F := fun k => slices_Max_int_int.f k l) (Ev.of_eq (fun k => ?_) hr) (Ev.const _) (fun k hk => ?_), IsW.of_max hm hle hr0.1 (by omega), (bitLen_le_iff r.toNat (by omega) 32).2 (by omega)⟩
    · unfold slices_Max_int_int.f
      have := rd_at l 0 hp
      rw [show ((0 : Nat) : Int) = 0 from rfl] at this
      rw [if_neg (by omega), if_pos (by omega), this]
      rfl
    · unfold pack_Width.f bits_Len32.f
      rw [if_neg (by omega), hk, Option.bind_some, show r % 4294967296 = r by omega, if_pos (by omega), if_pos (by omega), Option.bind_some]
theorem rwidth_l1 (l : List Int) (hl : l.length ≤ 1000000000) (i : Nat) (hi : i < l.length) (hx : ∀ x ∈ l, 0 ≤ x ∧ x < 4294967296) (P : Int → Prop)
    (next : ∀ w : Nat, IsW (l.take (i + 1)) w → w ≤ 32 → ∃ r, Ev (fun k => hopperref03_Width.l0 k l (w : Int) ((i + 1 : Nat) : Int)) r ∧ P r) :
    ∀ m w : Nat, w + m = 32 → (∀ x ∈ l.take i, x < 2 ^ w) → (∀ v : Nat, (∀ x ∈ l.take (i + 1), x < 2 ^ v) → w ≤ v) → ∃ r, Ev (fun k => hopperref03_Width.l1 k l (w : Int) (i : Int)) r ∧ P r
  | m, w, hm, h1, h2 => by
    have hxi := hx _ (List.getElem_mem hi)
    have htk : l.take (i + 1) = l.take i ++ [l[i]] := List.take_succ_eq_append_getElem hi
    have hP := power_ev w (by omega)
    have hpi := pow_i w
    have hpos := Nat.two_pow_pos w
    by_cases hge : ((2 ^ w : Nat) : Int) ≤ l[i]
    · match m, hm with
      | 0, hm =>
        obtain rfl : w = 32 := by omega
        exact absurd hge (by have : (2 : Nat) ^ 32 = 4294967296 := by decide
                             omega)
      | m + 1, hm =>
        obtain ⟨r, hr, hp⟩ := rwidth_l1 l hl i hi hx P next m (w + 1) (by omega) (fun x hx1 => by
          have := h1 x hx1
          have e : (2 : Int) ^ (w + 1) = 2 ^ w * 2 := Int.pow_succ ..
          omega) (fun v hv => by
          have a := h2 v hv
          rcases Nat.eq_or_lt_of_le a with e | e
          · subst e
            have := hv l[i] (by rw [htk]; exact List.mem_append_right _ (List.mem_singleton.2 rfl))
            omega
          · omega)
        refine ⟨r, Ev.succ (Ev.via hP hr (fun k hk => ?_)), hp⟩
        rw [hopperref03_Width.l1, if_pos (by omega), if_pos (by omega), hk, Option.bind_some, rd_at l i hi, if_pos hge, w64 _ (by omega)]
        rfl
    · obtain ⟨r, hr, hp⟩ := next w ⟨fun x hx1 => by
          rw [htk, List.mem_append, List.mem_singleton] at hx1
          rcases hx1 with hx1 | rfl
          · exact h1 x hx1
          · omega, h2⟩ (by omega)
      refine ⟨r, Ev.succ (Ev.via hP hr (fun k hk => ?_)), hp⟩
      rw [hopperref03_Width.l1, if_pos (by omega), if_pos (by omega), hk, Option.bind_some, rd_at l i hi, if_neg (by omega), w64 _ (by omega)]
      rfl
theorem rwidth_l0 (l : List Int) (hl : l.length ≤ 1000000000) (hx : ∀ x ∈ l, 0 ≤ x ∧ x < 4294967296) : ∀ m i w : Nat, i + m = l.length → IsW (l.take i) w → w ≤ 32 →
    ∃ r, Ev (fun k => hopperref03_Width.l0 k l (w : Int) (i : Int)) r ∧ ∃ v : Nat, r = v ∧ IsW l v ∧ v ≤ 32
  | 0, i, w, h, hw, h32 => by
    refine ⟨w, Ev.succ (Ev.of_eq (G := fun _ => some (w : Int)) (fun k => ?_) (Ev.const _)), w, rfl, ?_, h32⟩
    · rw [hopperref03_Width.l0, if_neg (by omega)]
    · rw [List.take_of_length_le (by omega)] at hw
      exact hw
  | m + 1, i, w, h, hw, h32 => by
    have hi : i < l.length := by omega
    obtain ⟨r, hr, hp⟩ := rwidth_l1 l hl i hi hx (fun r => ∃ v : Nat, r = v ∧ IsW l v ∧ v ≤ 32) (fun w2 hw2 h2 => rwidth_l0 l hl hx m (i + 1) w2 (by omega) hw2 h2) (32 - w) w (by omega) hw.1 (fun v hv => hw.2 v (fun x hx1 => hv x (by rw [List.take_succ_eq_append_getElem hi]; exact List.mem_append_left _ hx1)))
    refine ⟨r, Ev.succ (Ev.of_eq (fun k => ?_) hr), hp⟩
    rw [hopperref03_Width.l0, if_pos (by omega)]
theorem rwidth_ev (l : List Int) (hl : l.length ≤ 1000000000) (hx : ∀ x ∈ l, 0 ≤ x ∧ x < 4294967296) (w : Nat) (hw : IsW l w) : Ev (fun k => hopperref03_Width.f k l) (w : Int) := by
  obtain ⟨r, hr, v, rfl, hv, _⟩ := rwidth_l0 l hl hx l.length 0 0 (by omega) (by simpa using IsW.nil) (by omega)
  obtain rfl := hv.uniq hw
  exact hr
/-- What numbers of a width are written as. -/
def pw (l : List Int) (w : Nat) : List Int := vput l.length ++ [(w : Int)] ++ pk l w
theorem pw_ok (l : List Int) (w : Nat) (hx : ∀ x ∈ l, 0 ≤ x ∧ x < 4294967296) (hw : IsW l w) : ∀ x ∈ l, 0 ≤ x ∧ x < ((2 ^ w : Nat) : Int) := fun x h => ⟨(hx x h).1, hw.pow l w x h⟩
theorem pw_length (l : List Int) (w : Nat) (hl : l.length ≤ 1000000000) (hw : w ≤ 32) : (pw l w).length ≤ 33000000000 := by
  have h9 : (128 : Nat) ^ 9 = 9223372036854775808 := by decide
  have := vput_len 9 l.length (by omega) (by omega)
  have hk := pk_length l w
  have hm := mul_le32 l.length w hl hw
  unfold pw
  simp only [List.length_append, List.length_singleton]
  omega
theorem pwrite_ev (l : List Int) (hl : l.length ≤ 1000000000) (hx : ∀ x ∈ l, 0 ≤ x ∧ x < 4294967296) (w : Nat) (hw : IsW l w) (h32 : w ≤ 32) : Ev (fun k => pack_Write.f k l) (pw l w, 0) := by
  obtain ⟨w2, h1, h2, _⟩ := pwidth_ev l hl hx
  obtain rfl := h2.uniq hw
  have h3 := pput_ev l w2 h32 hl (pw_ok l w2 hx hw)
  have h9 : (128 : Nat) ^ 9 = 9223372036854775808 := by decide
  have h4 := cput_ev l.length (by omega)
  have hlen := pw_length l w2 hl h32
  have hany : l.any pack_Write.wide = false := by
    rw [List.any_eq_false]
    intro x hx1
    have := hx x hx1
    unfold pack_Write.wide
    simp
    omega
  refine Ev.via h1 (Ev.via h3 (Ev.via h4 (Ev.const _) (H := fun k => (cursor_Put.f k (l.length : Int)).bind fun hd => (slices_Concat_byte_byte.f [hd, [(w2 : Int) % 256], pk l w2]).bind fun r => some (r, (0 : Int))) (fun k hk => ?_)) (H := fun k => (pack_Put.f k l (w2 : Int)).bind fun p => (cursor_Put.f k (l.length : Int)).bind fun hd => (slices_Concat_byte_byte.f [hd, [(w2 : Int) % 256], p.1]).bind fun r => some (r, (0 : Int))) (fun k hk => ?_)) (fun k hk => ?_)
  · have e : [vput l.length, [(w2 : Int) % 256], pk l w2].flatten = pw l w2 := by
      rw [show (w2 : Int) % 256 = w2 by omega]
      simp [pw]
    rw [hk, Option.bind_some]
    unfold slices_Concat_byte_byte.f
    rw [e, if_pos (by omega), Option.bind_some]
  · rw [hk, Option.bind_some]
  · unfold pack_Write.f
    rw [if_neg (by rw [hany]; simp), hk, Option.bind_some]
theorem rwrite_ev (l : List Int) (hl : l.length ≤ 1000000000) (hx : ∀ x ∈ l, 0 ≤ x ∧ x < 4294967296) (w : Nat) (hw : IsW l w) (h32 : w ≤ 32) : Ev (fun k => hopperref03_Write.f k l) (pw l w) := by
  have h1 := rwidth_ev l hl hx w hw
  have h3 := rpput_ev l w h32 hl (pw_ok l w hx hw)
  have h9 : (128 : Nat) ^ 9 = 9223372036854775808 := by decide
  have h4 := rput_ev 9 l.length (by omega) (by omega)
  have hlen := pw_length l w hl h32
  obtain ⟨K1, g1⟩ := h1
  obtain ⟨K2, g2⟩ := h3
  obtain ⟨K3, g3⟩ := h4
  refine ⟨K1 + K2 + K3, fun k hk => ?_⟩
  have g1 := g1 k (by omega)
  have g2 := g2 k (by omega)
  have g3 := g3 k (by omega)
  simp only at g1 g2 g3
  show hopperref03_Write.f k l = _
  unfold pw at hlen ⊢
  simp only [List.length_append, List.length_singleton] at hlen
  unfold hopperref03_Write.f
  rw [g1, Option.bind_some, g2, Option.bind_some, g3, Option.bind_some, Option.bind_some, if_pos (by omega), Option.bind_some, show (w : Int) % 256 = w by omega, if_pos (by simp only [List.length_append, List.length_singleton]; omega)]
/-- How numbers go on. -/
def diffs : List Int → Int → List Int
  | [], _ => []
  | x :: t, last => (x - last) :: diffs t x
theorem diffs_length : ∀ (l : List Int) (a : Int), (diffs l a).length = l.length
  | [], _ => rfl
  | _ :: t, a => by simp [diffs, diffs_length t]
theorem diffs_append : ∀ (l m : List Int) (a : Int), diffs (l ++ m) a = diffs l a ++ diffs m (l.getLastD a)
  | [], _, _ => rfl
  | x :: t, m, a => by
    rw [List.cons_append, diffs, diffs, diffs_append t m x, List.cons_append]
    cases t <;> rfl
theorem last_take (l : List Int) (i : Nat) (h : i < l.length) : (l.take (i + 1)).getLastD 0 = l[i] := by
  rw [List.take_succ_eq_append_getElem h, List.getLastD_eq_getLast?, List.getLast?_append]
  rfl
theorem diffs_take (l : List Int) (i : Nat) (h : i < l.length) : diffs (l.take (i + 1)) 0 = diffs (l.take i) 0 ++ [l[i] - (l.take i).getLastD 0] := by
  rw [List.take_succ_eq_append_getElem h, diffs_append]
  rfl
/-- What a filter is written as. -/
def gw (b : Int) (l : List Int) (m : List Bool) (w : Nat) : List Int := if 0 < b then vput b.toNat ++ (vput m.length ++ bm m) else vput 0 ++ pw (diffs l 0) w
section
variable (l : List Int) (hl : l.length ≤ 1000000) (hx : ∀ x ∈ l, 0 ≤ x ∧ x < 4294967296) (hd : ∀ x ∈ diffs l 0, 0 ≤ x ∧ x < 4294967296) (w : Nat) (hw : IsW (diffs l 0) w) (h32 : w ≤ 32)
include hl hx hd hw h32
theorem gwrite_loop : ∀ m i : Nat, i + m = l.length → Ev (fun k => gram_Write.l0 k (vput 0) (diffs (l.take i) 0) ((l.take i).getLastD 0) l (l.length : Int) (i : Int)) (vput 0 ++ pw (diffs l 0) w)
  | 0, i, h => by
    have hp := pwrite_ev (diffs l 0) (by rw [diffs_length]; omega) hd w hw h32
    have hlen := pw_length (diffs l 0) w (by rw [diffs_length]; omega) h32
    refine Ev.succ (Ev.via hp (Ev.const _) (fun k hk => ?_))
    have hv : (vput 0).length = 1 := by rw [vput_lt (by omega)]; rfl
    rw [gram_Write.l0, if_neg (by omega), List.take_of_length_le (by omega), hk, Option.bind_some, if_pos (by simp only; omega)]
  | m + 1, i, h => by
    have hi : i < l.length := by omega
    have ih := gwrite_loop m (i + 1) (by omega)
    have hxi := hx _ (List.getElem_mem hi)
    have hla : 0 ≤ (l.take i).getLastD 0 ∧ (l.take i).getLastD 0 < 4294967296 := by
      rcases Nat.eq_zero_or_pos i with e | e
      · subst e; simp
      · have := last_take l (i - 1) (by omega)
        rw [show i - 1 + 1 = i by omega] at this
        rw [this]
        exact hx _ (List.getElem_mem _)
    rw [diffs_take l i hi, last_take l i hi] at ih
    refine Ev.succ (Ev.of_eq (fun k => ?_) ih)
    rw [gram_Write.l0, if_pos (by omega), if_pos (by omega), if_pos (by omega), if_pos (by rw [diffs_length, List.length_take]; omega), rd_at l i hi, w64 (l[i] - _) (by omega), w64 _ (by omega)]
    rfl
theorem rgwrite_loop (b : Int) (s : List Bool) : ∀ m i : Nat, i + m = l.length → Ev (fun k => hopperref15_Write.l0 k (diffs (l.take i) 0) (i : Int) b l s) (vput 0 ++ pw (diffs l 0) w)
  | 0, i, h => by
    have hp := rwrite_ev (diffs l 0) (by rw [diffs_length]; omega) hd w hw h32
    have h1 := rput_ev 9 0 (by decide) (by omega)
    have hlen := pw_length (diffs l 0) w (by rw [diffs_length]; omega) h32
    have hv : (vput 0).length = 1 := by rw [vput_lt (by omega)]; rfl
    refine Ev.succ (Ev.via h1 (Ev.via hp (Ev.const _) (H := fun k => (hopperref03_Write.f k (diffs l 0)).bind fun t => if (vput 0).length + t.length < 140737488355328 then some (vput 0 ++ t) else none) (fun k hk => ?_)) (fun k hk => ?_))
    · rw [hk, Option.bind_some, if_pos (by omega)]
    · rw [show ((0 : Nat) : Int) = 0 from rfl] at hk
      rw [hopperref15_Write.l0, if_neg (by omega), hk, Option.bind_some, List.take_of_length_le (by omega)]
  | m + 1, i, h => by
    have hi : i < l.length := by omega
    have ih := rgwrite_loop b s m (i + 1) (by omega)
    have hxi := hx _ (List.getElem_mem hi)
    rw [diffs_take l i hi] at ih
    refine Ev.succ (Ev.of_eq (fun k => ?_) ih)
    rw [hopperref15_Write.l0, if_pos (by omega), w64 ((i : Int) + 1) (by omega)]
    have hln : (diffs (l.take i) 0).length = i := by rw [diffs_length, List.length_take]; omega
    rcases Nat.eq_zero_or_pos i with e | e
    · subst e
      have := rd_at l 0 hi
      rw [show ((0 : Nat) : Int) = 0 from rfl] at this
      rw [if_pos (show ((0 : Nat) : Int) = 0 from rfl), if_pos (by omega), if_pos (by omega), this]
      simp [diffs]
    · have h1 := last_take l (i - 1) (by omega)
      rw [show i - 1 + 1 = i by omega] at h1
      have h2 := rd_at l (i - 1) (by omega)
      have hxj := hx _ (List.getElem_mem (show i - 1 < l.length by omega))
      rw [if_neg (by omega), if_pos (by omega), w64 ((i : Int) - 1) (by omega), show (i : Int) - 1 = ((i - 1 : Nat) : Int) by omega, if_pos (by omega), if_pos (by omega), if_pos (by omega), rd_at l i hi, h2, w64 (l[i] - l[i - 1]) (by omega), h1]
      rfl
end
theorem gwrite_ev (b : Int) (l : List Int) (s : List Bool) (w : Nat) (hb : 0 ≤ b ∧ b ≤ 65536) (hl : l.length ≤ 1000000) (hs : s.length ≤ 1000000) (hx : ∀ x ∈ l, 0 ≤ x ∧ x < 4294967296) (hd : ∀ x ∈ diffs l 0, 0 ≤ x ∧ x < 4294967296) (hw : IsW (diffs l 0) w) (h32 : w ≤ 32) :
    Ev (fun k => gram_Write.f k b l s) (gw b l s w) ∧ Ev (fun k => hopperref15_Write.f k b l s) (gw b l s w) := by
  have h9 : (128 : Nat) ^ 9 = 9223372036854775808 := by decide
  obtain ⟨n, rfl⟩ : ∃ n : Nat, b = n := ⟨b.toNat, by omega⟩
  unfold gw
  by_cases h0 : 0 < (n : Int)
  · have c1 := cput_ev n (by omega)
    have r1 := rput_ev 9 n (by omega) (by omega)
    have c2 := bmwrite_ev s (by omega)
    have r2 := rbmwrite_ev s (by omega)
    have v1 := vput_len 9 n (by omega) (by omega)
    have v2 := vput_len 9 s.length (by omega) (by omega)
    have v3 := bm_length s
    rw [if_pos h0, Int.toNat_natCast]
    constructor
    · refine Ev.via c1 (Ev.via c2 (Ev.const _) (H := fun k => (bitmap_Write.f k s).bind fun t => if (vput n).length + t.length < 140737488355328 then some (vput n ++ t) else none) (fun k hk => ?_)) (fun k hk => ?_)
      · rw [hk, Option.bind_some, if_pos (by rw [List.length_append]; omega)]
      · unfold gram_Write.f
        rw [hk, Option.bind_some, if_pos h0]
    · refine Ev.via r1 (Ev.via r2 (Ev.const _) (H := fun k => (hopperref04_Write.f k s).bind fun t => if (vput n).length + t.length < 140737488355328 then some (vput n ++ t) else none) (fun k hk => ?_)) (fun k hk => ?_)
      · rw [hk, Option.bind_some, if_pos (by rw [List.length_append]; omega)]
      · unfold hopperref15_Write.f
        rw [if_pos h0, hk, Option.bind_some]
  · obtain rfl : n = 0 := by omega
    rw [if_neg h0]
    have c1 := cput_ev 0 (by omega)
    constructor
    · refine Ev.via c1 (gwrite_loop l hl hx hd w hw h32 l.length 0 (by omega)) (fun k hk => ?_)
      unfold gram_Write.f
      rw [hk, Option.bind_some, if_neg h0]
      rfl
    · refine Ev.of_eq (fun k => ?_) (rgwrite_loop l hl hx hd w hw h32 ((0 : Nat) : Int) s l.length 0 (by omega))
      unfold hopperref15_Write.f
      rw [if_neg h0]
      rfl
end Go.Proofs.Ytafigfhlpjnejaa.Pure
