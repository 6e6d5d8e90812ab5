/- Plain laws: bits in bytes, varints, widths: written by hand for this claim. -/
import Derived.Lib.ItoaNum
import Derived.Laws.BitsAllLaws
import Derived.Test.YtafigfhlpjnejaaKW
import Derived.Test.YtafigfhlpjnejaaPureE
import Derived.Test.YtafigfhlpjnejaaPgx10
namespace Go.Proofs.Ytafigfhlpjnejaa.Pure
open Go Go.RowKit Go.Proofs.YtafigfhlpjnejaaW.PrintWords Go.Proofs.YtafigfhlpjnejaaW.PrintLast Go.Proofs.YtafigfhlpjnejaaW.PrintMore
/-- The number whose bits are told, m of them. -/
def bsum (f : Nat → Bool) : Nat → Nat
  | 0 => 0
  | m + 1 => bsum f m + if f m = true then 2 ^ m else 0
theorem bsum_lt (f : Nat → Bool) : ∀ m, bsum f m < 2 ^ m
  | 0 => by simp [bsum]
  | m + 1 => by
    have := bsum_lt f m
    have h2 : 2 ^ (m + 1) = 2 ^ m * 2 := Nat.pow_succ ..
    unfold bsum
    split <;> omega
theorem bsum_congr {f g : Nat → Bool} : ∀ m, (∀ i, i < m → f i = g i) → bsum f m = bsum g m
  | 0, _ => rfl
  | m + 1, h => by
    unfold bsum
    rw [bsum_congr m (fun i hi => h i (by omega)), h m (by omega)]
theorem bsum_test (f : Nat → Bool) : ∀ m i, i < m → bsum f m / 2 ^ i % 2 = if f i = true then 1 else 0
  | m + 1, i, h => by
    unfold bsum
    by_cases e : i = m
    · subst e
      have := bsum_lt f i
      split
      · rw [Nat.add_div_right _ (Nat.two_pow_pos i), Nat.div_eq_of_lt this]
      · rw [Nat.add_zero, Nat.div_eq_of_lt this]
    · have ih := bsum_test f m i (by omega)
      split
      · have hp : 2 ^ m = 2 ^ i * (2 * 2 ^ (m - i - 1)) := by
          rw [← Nat.pow_succ', ← Nat.pow_add]
          congr 1
          omega
        rw [hp, Nat.add_mul_div_left _ _ (Nat.two_pow_pos i)]
        omega
      · simpa using ih
theorem bsum_bits (x : Nat) : ∀ m, bsum (fun k => decide (x / 2 ^ k % 2 = 1)) m = x % 2 ^ m
  | 0 => by simp [bsum, Nat.mod_one]
  | m + 1 => by
    unfold bsum
    rw [bsum_bits x m, Nat.pow_succ, Nat.mod_mul]
    have := Nat.mod_lt (x / 2 ^ m) (show 2 > 0 by omega)
    by_cases h : x / 2 ^ m % 2 = 1
    · simp [h]
    · have h0 : x / 2 ^ m % 2 = 0 := by omega
      simp [h0]
/-- Byte j of the first p bits. -/
def bval (f : Nat → Bool) (p j : Nat) : Nat := bsum (fun t => f (8 * j + t)) (min 8 (p - 8 * j))
theorem bval_lt (f : Nat → Bool) (p j : Nat) : bval f p j < 256 := by
  have h := bsum_lt (fun t => f (8 * j + t)) (min 8 (p - 8 * j))
  have h2 : 2 ^ min 8 (p - 8 * j) ≤ 2 ^ 8 := Nat.pow_le_pow_right (by omega) (by omega)
  unfold bval
  omega
theorem bval_lt_at (f : Nat → Bool) (p : Nat) : bval f p (p / 8) < 2 ^ (p % 8) := by
  have h := bsum_lt (fun t => f (8 * (p / 8) + t)) (min 8 (p - 8 * (p / 8)))
  have e : min 8 (p - 8 * (p / 8)) = p % 8 := by omega
  unfold bval
  rw [e] at h ⊢
  exact h
theorem bval_at (f : Nat → Bool) (p : Nat) : bval f (p + 1) (p / 8) = bval f p (p / 8) + if f p = true then 2 ^ (p % 8) else 0 := by
  have e : min 8 (p - 8 * (p / 8)) = p % 8 := by omega
  have e2 : min 8 (p + 1 - 8 * (p / 8)) = p % 8 + 1 := by omega
  have e3 : 8 * (p / 8) + p % 8 = p := by omega
  unfold bval
  rw [e, e2, bsum, e3]
theorem bval_ne (f : Nat → Bool) (p j : Nat) (h : j ≠ p / 8) : bval f (p + 1) j = bval f p j := by
  have e : min 8 (p + 1 - 8 * j) = min 8 (p - 8 * j) := by omega
  unfold bval
  rw [e]
/-- The first p bits in n bytes. -/
def bmN (f : Nat → Bool) (p n : Nat) : List Int := (List.range n).map fun j => ((bval f p j : Nat) : Int)
theorem bmN_length (f : Nat → Bool) (p n : Nat) : (bmN f p n).length = n := by simp [bmN]
theorem bmN_rd (f : Nat → Bool) (p n j : Nat) (h : j < n) : rd (bmN f p n) (j : Int) = ((bval f p j : Nat) : Int) := by
  unfold rd bmN
  rw [Int.toNat_natCast, List.getD_eq_getElem?_getD, List.getElem?_map, List.getElem?_range h]
  rfl
theorem bmN_zero (f : Nat → Bool) (n : Nat) : bmN f 0 n = List.replicate n 0 := by
  apply List.ext_getElem
  · simp [bmN]
  · intro i h1 h2
    simp [bmN, bval, bsum]
theorem bmN_step (f : Nat → Bool) (p n : Nat) : (bmN f p n).set (p / 8) ((bval f p (p / 8) + if f p = true then 2 ^ (p % 8) else 0 : Nat) : Int) = bmN f (p + 1) n := by
  rw [← bval_at]
  apply List.ext_getElem
  · simp [bmN]
  · intro i h1 h2
    rw [List.getElem_set]
    split
    · rename_i e
      subst e
      simp [bmN]
    · rename_i e
      simp [bmN, bval_ne f p i (fun q => e q.symm)]
theorem bmN_skip (f : Nat → Bool) (p n : Nat) (h : f p = false) : bmN f (p + 1) n = bmN f p n := by
  unfold bmN
  refine List.map_congr_left fun j _ => ?_
  by_cases e : j = p / 8
  · subst e
    rw [bval_at, h]
    simp
  · rw [bval_ne f p j e]
/-- The document's way: a byte more, where one begins. -/
theorem bmN_more (f : Nat → Bool) (p : Nat) (h : p % 8 = 0) : bmN f p ((p + 7) / 8) ++ [0] = bmN f p ((p + 1 + 7) / 8) := by
  have e1 : (p + 1 + 7) / 8 = (p + 7) / 8 + 1 := by omega
  have e2 : p - 8 * ((p + 7) / 8) = 0 := by omega
  rw [e1]
  unfold bmN
  rw [List.range_succ, List.map_append]
  simp only [List.map_cons, List.map_nil]
  unfold bval
  rw [e2]
  simp [bsum]
theorem bmN_same (p : Nat) (h : p % 8 ≠ 0) : (p + 7) / 8 = (p + 1 + 7) / 8 := by omega
theorem bmN_byte (f : Nat → Bool) (p n : Nat) : ∀ c ∈ bmN f p n, 0 ≤ c ∧ c ≤ 255 := fun c hc => by
  obtain ⟨j, _, rfl⟩ := List.mem_map.1 hc
  have := bval_lt f p j
  omega
/-- A bit of bytes. -/
def tbit (b : List Int) (p : Nat) : Bool := decide ((rd b ((p / 8 : Nat) : Int)).toNat / 2 ^ (p % 8) % 2 = 1)
theorem tbit_bmN (f : Nat → Bool) (q n p : Nat) (hp : p < q) (hn : p / 8 < n) : tbit (bmN f q n) p = f p := by
  unfold tbit
  rw [bmN_rd f q n _ hn, Int.toNat_natCast]
  unfold bval
  rw [bsum_test _ _ _ (by omega), show 8 * (p / 8) + p % 8 = p by omega]
  by_cases h : f p = true
  · simp [h]
  · simp [h]
/-- A bit, set in a byte. -/
theorem or_bit (v r : Nat) (hv : v < 2 ^ r) (hr : r < 8) : bits .or .u8 (v : Int) (shl .u8 1 (r : Int)) = ((v + 2 ^ r : Nat) : Int) := by
  have h1 : 2 ^ r ≤ 2 ^ 7 := Nat.pow_le_pow_right (by omega) (by omega)
  have e : shl .u8 1 (r : Int) = ((2 ^ r : Nat) : Int) := by
    unfold shl
    rw [show IntKind.u8.bits = 8 from rfl, Int.toNat_natCast, Nat.min_eq_left (by omega), IntKind.wrap_u8, Int.one_mul]
    have : ((2 ^ r : Nat) : Int) = 2 ^ r := by simp
    omega
  rw [e, u8_or_nat _ _ (by omega) (by omega)]
  have := Nat.two_pow_add_eq_or_of_lt hv 1
  rw [Nat.mul_one] at this
  rw [Nat.or_comm, ← this, Nat.add_comm]
theorem or_none (v r : Nat) (hv : v < 256) : bits .or .u8 (v : Int) (shl .u8 0 (r : Int)) = (v : Int) := by
  have e : shl .u8 0 (r : Int) = ((0 : Nat) : Int) := by
    unfold shl
    rw [Int.zero_mul, IntKind.wrap_u8]
    rfl
  rw [e, u8_or_nat _ _ hv (by omega), Nat.or_zero]
/-- A number's varint. -/
def vput (n : Nat) : List Int := if h : n < 128 then [(n : Int)] else ((n % 128 + 128 : Nat) : Int) :: vput (n / 128)
termination_by n
decreasing_by omega
theorem vput_lt {n : Nat} (h : n < 128) : vput n = [(n : Int)] := by rw [vput, dif_pos h]
theorem vput_ge {n : Nat} (h : ¬ n < 128) : vput n = ((n % 128 + 128 : Nat) : Int) :: vput (n / 128) := by rw [vput, dif_neg h]
theorem vput_len : ∀ (m n : Nat), n < 128 ^ m → 0 < m → (vput n).length ≤ m
  | 0, n, _, h0 => by omega
  | m + 1, n, h, _ => by
    by_cases hn : n < 128
    · rw [vput_lt hn]; simp
    · rw [vput_ge hn]
      have hm : 0 < m := by
        rcases Nat.eq_zero_or_pos m with e | e
        · subst e; omega
        · exact e
      have := vput_len m (n / 128) (by rw [Nat.pow_succ] at h; omega) hm
      simpa using this
theorem vput_byte : ∀ (m n : Nat), n ≤ m → ∀ c ∈ vput n, 0 ≤ c ∧ c ≤ 255
  | 0, n, h => fun c hc => by
    obtain rfl : n = 0 := by omega
    rw [vput_lt (by omega)] at hc
    simp at hc
    omega
  | m + 1, n, h => fun c hc => by
    by_cases hn : n < 128
    · rw [vput_lt hn] at hc
      simp at hc
      omega
    · rw [vput_ge hn] at hc
      rcases List.mem_cons.1 hc with rfl | hc
      · omega
      · exact vput_byte m (n / 128) (by omega) c hc
/-- A width that all numbers fit, and none less does. -/
def IsW (l : List Int) (w : Nat) : Prop := (∀ x ∈ l, x < 2 ^ w) ∧ ∀ v : Nat, (∀ x ∈ l, x < 2 ^ v) → w ≤ v
theorem IsW.uniq {l : List Int} {a b : Nat} (h : IsW l a) (g : IsW l b) : a = b := Nat.le_antisymm (h.2 b g.1) (g.2 a h.1)
theorem IsW.nil : IsW [] 0 := ⟨by simp, fun _ _ => Nat.zero_le _⟩
theorem bitLen_le_iff (x : Nat) (hx : x < 2 ^ 64) (w : Nat) : Lib.bitLen x ≤ w ↔ x < 2 ^ w := by
  by_cases h0 : x = 0
  · subst h0
    have : Lib.bitLen 0 = 0 := Lib.bitLenAux_zero 64
    rw [this]
    simp [Nat.two_pow_pos]
  · obtain ⟨h1, h2, h3⟩ := Lib.bitLenAux_bounds 64 x hx h0
    show Lib.bitLenAux 64 x ≤ w ↔ _
    constructor
    · intro h
      exact Nat.lt_of_lt_of_le h3 (Nat.pow_le_pow_right (by omega) h)
    · intro h
      rcases Nat.lt_or_ge w (Lib.bitLenAux 64 x) with g | g
      · have : 2 ^ w ≤ 2 ^ (Lib.bitLenAux 64 x - 1) := Nat.pow_le_pow_right (by omega) (by omega)
        omega
      · exact g
/-- The width of a list whose greatest number is told. -/
theorem IsW.of_max {l : List Int} {m : Int} (hm : m ∈ l) (hl : ∀ x ∈ l, x ≤ m) (h0 : 0 ≤ m) (h1 : m < 2 ^ 64) : IsW l (Lib.bitLen m.toNat) := by
  have hx : m.toNat < 2 ^ 64 := by omega
  have key : ∀ v : Nat, m < 2 ^ v ↔ m.toNat < 2 ^ v := fun v => by
    have e : ((2 ^ v : Nat) : Int) = 2 ^ v := by simp
    omega
  constructor
  · intro x hx2
    have := (bitLen_le_iff m.toNat hx _).1 (Nat.le_refl _)
    have h2 := (key _).2 this
    have := hl x hx2
    omega
  · intro v h
    exact (bitLen_le_iff m.toNat hx v).2 ((key v).1 (h m hm))
end Go.Proofs.Ytafigfhlpjnejaa.Pure
namespace Go.Proofs.Ytafigfhlpjnejaa.Pure
open Go Go.RowKit Go.Proofs.YtafigfhlpjnejaaW.PrintWords Go.Proofs.YtafigfhlpjnejaaW.PrintLast Go.Proofs.YtafigfhlpjnejaaW.PrintMore
open Go.Proofs.Ytafigfhlpjnejaa.Pg Go.Proofs.YtafigfhlpjnejaaH
theorem or128_fin : ∀ n : Fin 256, n.val ||| 128 = n.val % 128 + 128 := by decide +kernel
theorem or128 (c : Int) (h0 : 0 ≤ c) (h1 : c < 256) : bits .or .u8 c 128 = c % 128 + 128 := by
  obtain ⟨n, rfl⟩ : ∃ n : Nat, c = n := ⟨c.toNat, by omega⟩
  have e := u8_or_nat n 128 (by omega) (by omega)
  rw [show ((128 : Nat) : Int) = 128 from rfl] at e
  rw [e, or128_fin ⟨n, by omega⟩]
  simp only
  omega
theorem tdiv_nat (a b : Nat) : Int.tdiv (a : Int) (b : Int) = ((a / b : Nat) : Int) := by
  rw [Int.tdiv_eq_ediv_of_nonneg (by omega)]
  simp
theorem tmod_nat (a b : Nat) : Int.tmod (a : Int) (b : Int) = ((a % b : Nat) : Int) := by
  rw [Int.tmod_eq_emod_of_nonneg (by omega)]
  simp
theorem tdiv8 (a : Nat) (h : a ≤ 9000000000000000000) : wrap64 (Int.tdiv (a : Int) 8) = ((a / 8 : Nat) : Int) := by
  have := tdiv_nat a 8
  rw [show ((8 : Nat) : Int) = 8 from rfl] at this
  rw [this, w64 _ (by omega)]
theorem tmod8 (a : Nat) : Int.tmod (a : Int) 8 = ((a % 8 : Nat) : Int) := tmod_nat a 8
theorem pow_i (n : Nat) : ((2 ^ n : Nat) : Int) = 2 ^ n := by simp
theorem cput_loop : ∀ (j n : Nat) (acc : List Int), n < 128 ^ j → acc.length + j ≤ 1000000 → Ev (fun k => cursor_Put.l0 k (n : Int) acc) (acc ++ vput n)
  | j, n, acc, hn, ha => by
    by_cases h : n < 128
    · rw [vput_lt h]
      refine Ev.succ (Ev.of_eq (G := fun _ => some (acc ++ [(n : Int)])) (fun k => ?_) (Ev.const _))
      rw [cursor_Put.l0, if_neg (by omega), if_pos (by omega), show (n : Int) % 256 = n by omega]
    · match j, hn with
      | 0, hn => exact absurd hn (by simp; omega)
      | j + 1, hn =>
        have e1 : bits .or .u8 ((n : Int) % 256) 128 = ((n % 128 + 128 : Nat) : Int) := by
          rw [or128 _ (by omega) (by omega)]
          omega
        have ih := cput_loop j (n / 128) (acc ++ [((n % 128 + 128 : Nat) : Int)]) (by rw [Nat.pow_succ] at hn; omega) (by simp; omega)
        rw [vput_ge h]
        rw [List.append_assoc, List.singleton_append] at ih
        refine Ev.succ (Ev.of_eq (fun k => ?_) ih)
        rw [cursor_Put.l0, if_pos (by omega), if_pos (by omega), e1, show (n : Int) / 128 = ((n / 128 : Nat) : Int) by omega]
theorem cput_ev (n : Nat) (h : n < 128 ^ 9) : Ev (fun k => cursor_Put.f k (n : Int)) (vput n) := by
  have := cput_loop 9 n [] h (by simp)
  refine Ev.of_eq (fun k => ?_) this
  unfold cursor_Put.f
  rw [if_neg (by omega)]
theorem rput_ev : ∀ (j n : Nat), n < 128 ^ j → j ≤ 9 → Ev (fun k => hopperref01_Put.f k (n : Int)) (vput n)
  | j, n, hn, hj => by
    by_cases h : n < 128
    · rw [vput_lt h]
      refine Ev.succ (Ev.of_eq (G := fun _ => some [(n : Int)]) (fun k => ?_) (Ev.const _))
      rw [hopperref01_Put.f, if_neg (by omega), if_pos (by omega), show (n : Int) % 256 = n by omega]
    · match j, hn, hj with
      | 0, hn, _ => exact absurd hn (by simp; omega)
      | j + 1, hn, hj =>
        have hb : n < 128 ^ 9 := Nat.lt_of_lt_of_le hn (Nat.pow_le_pow_right (by omega) hj)
        have h9 : (128 : Nat) ^ 9 = 9223372036854775808 := by decide
        have ih := rput_ev j (n / 128) (by rw [Nat.pow_succ] at hn; omega) (by omega)
        have hl := vput_len 9 (n / 128) (by omega) (by omega)
        have e1 : wrap64 (Int.tdiv (n : Int) 128) = ((n / 128 : Nat) : Int) := by
          have := tdiv_nat n 128
          rw [show ((128 : Nat) : Int) = 128 from rfl] at this
          rw [this, w64 _ (by omega)]
        have e2 : wrap64 (Int.tmod (n : Int) 128 + 128) % 256 = ((n % 128 + 128 : Nat) : Int) := by
          have := tmod_nat n 128
          rw [show ((128 : Nat) : Int) = 128 from rfl] at this
          rw [this, w64 _ (by omega)]
          omega
        rw [vput_ge h]
        refine Ev.succ (Ev.via ih (Ev.const _) (fun k hk => ?_))
        rw [hopperref01_Put.f, if_neg (by omega), if_neg (by omega), e1, e2, Option.bind_some, hk, Option.bind_some, if_pos (by simp; omega)]
        rfl
theorem power_ev (n : Nat) (hn : n ≤ 62) : Ev (fun k => hopperref03_Power.f k (n : Int)) ((2 ^ n : Nat) : Int) := by
  have key : ∀ m i : Nat, i + m = n → Ev (fun k => hopperref03_Power.l0 k (n : Int) ((2 ^ i : Nat) : Int) (i : Int)) ((2 ^ n : Nat) : Int) := by
    intro m
    induction m with
    | zero =>
      intro i h
      obtain rfl : i = n := by omega
      refine Ev.succ (Ev.of_eq (G := fun _ => some ((2 ^ i : Nat) : Int)) (fun k => ?_) (Ev.const _))
      rw [hopperref03_Power.l0, if_neg (by omega)]
    | succ m ih =>
      intro i h
      have h1 : 2 ^ (i + 1) ≤ 2 ^ 62 := Nat.pow_le_pow_right (by omega) (by omega)
      have h2 : 2 ^ (i + 1) = 2 ^ i * 2 := Nat.pow_succ ..
      refine Ev.succ (Ev.of_eq (fun k => ?_) (ih (i + 1) (by omega)))
      rw [hopperref03_Power.l0, if_pos (by omega), w64 (2 * ((2 ^ i : Nat) : Int)) (by omega), w64 _ (by omega), show 2 * ((2 ^ i : Nat) : Int) = ((2 ^ (i + 1) : Nat) : Int) by omega]
      rfl
  exact key n 0 (by omega)
/-- A list's bits. -/
def lb (l : List Bool) (p : Nat) : Bool := l.getD p false
/-- A bitmap's bytes. -/
def bm (l : List Bool) : List Int := bmN (lb l) l.length ((l.length + 7) / 8)
theorem bsize_ev (n : Nat) (h : n ≤ 1000000000000) : bitmap_size.f (n : Int) = some (((n + 7) / 8 : Nat) : Int) := by
  unfold bitmap_size.f
  rw [w64 ((n : Int) + 8) (by omega), w64 ((n : Int) + 8 - 1) (by omega), show (n : Int) + 8 - 1 = ((n + 7 : Nat) : Int) by omega, tdiv8 _ (by omega)]
theorem bmput_loop (l : List Bool) (hl : l.length ≤ 1000000000000) : ∀ m i : Nat, i + m = l.length →
    Ev (fun k => bitmap_Put.l0 k (bmN (lb l) i ((l.length + 7) / 8)) l (l.length : Int) (i : Int)) (bm l)
  | 0, i, h => by
    obtain rfl : i = l.length := by omega
    refine Ev.succ (Ev.of_eq (G := fun _ => some (bm l)) (fun k => ?_) (Ev.const _))
    rw [bitmap_Put.l0, if_neg (by omega)]
    rfl
  | m + 1, i, h => by
    have ih := bmput_loop l hl m (i + 1) (by omega)
    have hn : i / 8 < (l.length + 7) / 8 := by omega
    refine Ev.succ (Ev.of_eq (fun k => ?_) ih)
    rw [bitmap_Put.l0, if_pos (by omega), if_pos (by omega), if_pos (by omega), tdiv8 i (by omega), tmod8 i, w64 ((i : Int) + 1) (by omega)]
    have hr : rdOf false l (i : Int) = lb l i := by unfold rdOf lb; rw [Int.toNat_natCast]
    rw [hr]
    cases hb : lb l i with
    | true =>
      have hs := bmN_step (lb l) i ((l.length + 7) / 8)
      rw [hb, if_pos rfl] at hs
      rw [if_pos rfl, if_pos (by omega), if_pos (by rw [bmN_length]; omega), if_pos (by omega), bmN_rd _ _ _ _ hn, or_bit _ _ (bval_lt_at _ _) (by omega), Int.toNat_natCast, hs]
      rfl
    | false =>
      rw [if_neg (by simp), bmN_skip _ _ _ hb]
      rfl
theorem bmput_ev (l : List Bool) (hl : l.length ≤ 1000000000000) : Ev (fun k => bitmap_Put.f k l) (bm l) := by
  have h := bmput_loop l hl l.length 0 (by omega)
  rw [bmN_zero] at h
  refine Ev.of_eq (fun k => ?_) h
  unfold bitmap_Put.f
  rw [bsize_ev _ hl, Option.bind_some, if_pos (by omega), Int.toNat_natCast, if_pos (by omega)]
  rfl
theorem bm_length (l : List Bool) : (bm l).length = (l.length + 7) / 8 := bmN_length _ _ _
theorem bmwrite_ev (l : List Bool) (hl : l.length ≤ 1000000000000) : Ev (fun k => bitmap_Write.f k l) (vput l.length ++ bm l) := by
  have h9 : (128 : Nat) ^ 9 = 9223372036854775808 := by decide
  have h1 := cput_ev l.length (by omega)
  have h2 := bmput_ev l hl
  have hv := vput_len 9 l.length (by omega) (by omega)
  have hb := bm_length l
  refine Ev.via h1 (Ev.via h2 (Ev.const _) (H := fun k => (bitmap_Put.f k l).bind fun t => if (vput l.length).length + t.length < 140737488355328 then some (vput l.length ++ t) else none) (fun k hk => ?_)) (fun k hk => ?_)
  · rw [hk, Option.bind_some, if_pos (by omega)]
  · unfold bitmap_Write.f
    rw [hk, Option.bind_some]
theorem rbmput_loop (l : List Bool) (hl : l.length ≤ 1000000000000) : ∀ m i : Nat, i + m = l.length →
    Ev (fun k => hopperref04_Put.l0 k l (bmN (lb l) i ((i + 7) / 8)) (i : Int)) (bm l)
  | 0, i, h => by
    obtain rfl : i = l.length := by omega
    refine Ev.succ (Ev.of_eq (G := fun _ => some (bm l)) (fun k => ?_) (Ev.const _))
    rw [hopperref04_Put.l0, if_neg (by omega)]
    rfl
  | m + 1, i, h => by
    have ih := rbmput_loop l hl m (i + 1) (by omega)
    have hn : i / 8 < (i + 1 + 7) / 8 := by omega
    have hr : rdOf false l (i : Int) = lb l i := by unfold rdOf lb; rw [Int.toNat_natCast]
    have hp := power_ev (i % 8) (by omega)
    refine Ev.succ (Ev.via hp ih (fun k hk => ?_))
    have hv := bval_lt_at (lb l) i
    have hp7 : 2 ^ (i % 8) ≤ 2 ^ 7 := Nat.pow_le_pow_right (by omega) (by omega)
    have hs := bmN_step (lb l) i ((i + 1 + 7) / 8)
    have e1 : (((bval (lb l) i (i / 8) : Nat) : Int) + ((2 ^ (i % 8) : Nat) : Int) % 256) % 256 = ((bval (lb l) i (i / 8) + 2 ^ (i % 8) : Nat) : Int) := by omega
    rw [hopperref04_Put.l0, if_pos (by omega), tdiv8 i (by omega), tmod8 i, w64 ((i : Int) + 1) (by omega), hr, hk]
    by_cases h8 : i % 8 = 0
    · rw [if_pos (by omega), if_pos (by rw [bmN_length]; omega), Option.bind_some, if_pos (by omega), bmN_more _ _ h8]
      cases hb : lb l i with
      | true =>
        rw [hb, if_pos rfl] at hs
        rw [if_pos rfl, if_pos (by omega), if_pos (by rw [bmN_length]; omega), Option.bind_some, bmN_rd _ _ _ _ hn, e1, Int.toNat_natCast, hs]
        rfl
      | false =>
        rw [if_neg (by simp), ← bmN_skip _ _ _ hb]
        rfl
    · rw [if_neg (by omega), if_pos (by omega), bmN_same _ h8]
      cases hb : lb l i with
      | true =>
        rw [hb, if_pos rfl] at hs
        rw [if_pos rfl, if_pos (by omega), if_pos (by rw [bmN_length]; omega), Option.bind_some, bmN_rd _ _ _ _ hn, e1, Int.toNat_natCast, hs]
        rfl
      | false =>
        rw [if_neg (by simp), ← bmN_skip _ _ _ hb]
        rfl
theorem rbmput_ev (l : List Bool) (hl : l.length ≤ 1000000000000) : Ev (fun k => hopperref04_Put.f k l) (bm l) := rbmput_loop l hl l.length 0 (by omega)
theorem rbmwrite_ev (l : List Bool) (hl : l.length ≤ 1000000000000) : Ev (fun k => hopperref04_Write.f k l) (vput l.length ++ bm l) := by
  have h9 : (128 : Nat) ^ 9 = 9223372036854775808 := by decide
  have h1 := rput_ev 9 l.length (by omega) (by omega)
  have h2 := rbmput_ev l hl
  have hv := vput_len 9 l.length (by omega) (by omega)
  have hb := bm_length l
  refine Ev.via h1 (Ev.via h2 (Ev.const _) (H := fun k => (hopperref04_Put.f k l).bind fun t => if (vput l.length).length + t.length < 140737488355328 then some (vput l.length ++ t) else none) (fun k hk => ?_)) (fun k hk => ?_)
  · rw [hk, Option.bind_some, if_pos (by omega)]
  · unfold hopperref04_Write.f
    rw [hk, Option.bind_some]
end Go.Proofs.Ytafigfhlpjnejaa.Pure
