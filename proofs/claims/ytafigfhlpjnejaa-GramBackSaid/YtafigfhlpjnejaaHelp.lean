/- Helper lemmas of this session: the sort's and the shelf's words on rows, told in the print's words (Kd.R, Kept, Below). -/
import Derived.Test.YtafigfhlpjnejaaKW
import Derived.Lib.OwnBridge
import Derived.Sort.Grow
import Derived.Laws.BitsAllLaws
import Derived.Laws.BitsLemmas
namespace Go.Proofs.YtafigfhlpjnejaaH
open Go.RowKit Go.Proofs.YtafigfhlpjnejaaW.PrintWords Go.Proofs.YtafigfhlpjnejaaW.PrintLast Go.Proofs.YtafigfhlpjnejaaW.PrintMore
open Go.Sort
theorem below_grow {B : Nat} {w0 w : World} (h : Below B w0 w) (hB : B ≤ w.heap.size) (os : Array Obj) : Below B w0 (grow w os) :=
  ⟨h.os, h.tape, h.output, by have := h.size; simp [grow]; omega, fun k hk => by
    rw [← h.block k hk]
    simp only [grow]
    rw [Array.getElem?_append_left (by omega)]⟩
theorem kept_putRow {α : Type} [Inhabited α] {enc : α → Value} {w : World} {g q : Nat} {d : Array α} {S : Nat → Prop} (hg : S g) : Kept w (putRow enc (Sort.ahead w q) g 0 d) S :=
  ⟨by simp [putRow, mapBlock, Sort.ahead], fun i _ hi => by
    have hne : g ≠ i := fun e => hi (e ▸ hg)
    simp [putRow, mapBlock, Sort.ahead, Array.getElem?_modify, hne]⟩
theorem kept_grow {w W : World} {S : Nat → Prop} (h : Kept w W S) (os : Array Obj) : Kept w (grow W os) S :=
  ⟨by have := h.1; simp [grow]; omega, fun i hi hn => by
    rw [← h.2 i hi hn]
    simp only [grow]
    have := h.1
    rw [Array.getElem?_append_left (by omega)]⟩
theorem owns_grow {w : World} {base : Nat} {e : TypeId} {size n : Nat} {v : Value} {xs : List Value} (h : w.ownsRow base e size v n xs) (os : Array Obj) : (grow w os).ownsRow base e size v n xs :=
  own_move h (fun k hk => by
    have := own_lt h k hk
    simp only [grow]
    rw [Array.getElem?_append_left (by omega)])
section
variable {α : Type} [Inhabited α] {enc : α → Value} {h1 : ∀ x, (enc x).oneCell' = true} {e : Nat} {w0 w : World} {P0 : Nat → Prop} {u : Value} {l : List α}
/-- A row of the call's own, sorted in place (the length's bound is the contract's own). -/
theorem sorted_kd {P : Program} {f : FuncId} {ys : List α} (hys : ys.length = l.length)
    (hsome : ∀ (blk cap : Nat), Holds enc w blk 0 l.toArray → blk < w.heap.size →
      Calls P f #[.slice (some ⟨blk, 0, none⟩) l.length cap] w fun e w' => e = .returned (.tuple #[]) ∧ ∃ n os, w' = grow (putRow enc (Sort.ahead w n) blk 0 ys.toArray) os)
    (hnone : ∀ (p : Option Addr) (cap : Nat), Calls P f #[.slice p 0 cap] w fun e w' => e = .returned (.tuple #[]) ∧ w' = w)
    (hB : Below w0.heap.size w0 w) (ho0 : Kd.R (Kd.scalar enc h1) e w w0.heap.size P0 u l) :
    Calls P f #[u] w fun e' w' => e' = .returned (.tuple #[]) ∧ Kd.R (Kd.scalar enc h1) e w' w0.heap.size (fun k_ => (P0 k_ ∨ w.heap.size ≤ k_)) u ys ∧ Below w0.heap.size w0 w' ∧ Kept w w' (fun k_ => P0 k_) := by
  have ho := Kd.own_of_R ho0
  by_cases hu : u = .slice none 0 0
  · subst hu
    have hl : l = [] := by
      rcases ho.2 with ⟨_, h0⟩ | ⟨g, cap, cur, hg, _⟩
      · exact List.eq_nil_of_length_eq_zero h0
      · simp at hg
    subst hl
    have hy : ys = [] := List.eq_nil_of_length_eq_zero (by simpa using hys)
    subst hy
    refine (hnone none 0).mono ?_
    rintro e' w' ⟨rfl, rfl⟩
    exact ⟨rfl, Kd.R_nil _ _ _ _ _, hB, Kept.refl _ _⟩
  · obtain ⟨g, cap, rfl, hb, hlt, hn, hm, hlen, hH⟩ := Go.Lib.holds_of_ownsRow (enc := enc) (zs := l) ho hu
    have hPg : P0 g := ho0.1 g (by simp [Value.ownBlock])
    refine (hsome g cap hH hlt).mono ?_
    rintro e' w' ⟨rfl, n, os, rfl⟩
    have hown := Go.Lib.ownsRow_putRow (q := n) (k := l.length) (ys := ys) ho hys (Nat.le_refl _)
    rw [← hys, List.take_length] at hown
    refine ⟨rfl, ?_, ?_, kept_grow (kept_putRow (S := fun k_ => P0 k_) hPg) os⟩
    · rw [← hys]
      exact Kd.R_of_own (owns_grow hown os) (fun k hk => by
        have : g = k := by simpa [Value.ownBlock] using hk
        subst this
        exact .inl hPg)
    · exact below_grow (Go.Lib.below_putRow hB hb) (by
        have := hB.size
        simp [putRow, mapBlock, Sort.ahead]
        omega) os
/-- A row of the call's own, compacted in place: what is handed back is its head. -/
theorem compacted_kd {P : Program} {f : FuncId} {ys zs : List α} (hyz : (ys ++ zs).length = l.length)
    (hsome : ∀ (blk cap : Nat), Holds enc w blk 0 l.toArray → l.length ≤ cap → l.length ≤ 9223372036854775807 →
      Calls P f #[.slice (some ⟨blk, 0, none⟩) l.length cap] w fun e w' => e = .returned (.slice (some ⟨blk, 0, none⟩) ys.length cap) ∧ ∃ q, w' = putRow enc (Sort.ahead w q) blk 0 (ys ++ zs).toArray)
    (hnone : ∀ (p : Option Addr) (cap : Nat), Calls P f #[.slice p 0 cap] w fun e w' => e = .returned (.slice p 0 cap) ∧ w' = w)
    (hB : Below w0.heap.size w0 w) (ho0 : Kd.R (Kd.scalar enc h1) e w w0.heap.size P0 u l) :
    Calls P f #[u] w fun e' w' => ∃ v0_ : Value, e' = .returned (v0_) ∧ Kd.R (Kd.scalar enc h1) e w' w0.heap.size (fun k_ => (P0 k_ ∨ w.heap.size ≤ k_)) v0_ ys ∧ Below w0.heap.size w0 w' ∧ Kept w w' (fun k_ => P0 k_) := by
  have ho := Kd.own_of_R ho0
  by_cases hu : u = .slice none 0 0
  · subst hu
    have hl : l = [] := by
      rcases ho.2 with ⟨_, h0⟩ | ⟨g, cap, cur, hg, _⟩
      · exact List.eq_nil_of_length_eq_zero h0
      · simp at hg
    subst hl
    have hy : ys = [] := by simp at hyz; exact hyz.1
    subst hy
    refine (hnone none 0).mono ?_
    rintro e' w' ⟨rfl, rfl⟩
    exact ⟨_, rfl, Kd.R_nil _ _ _ _ _, hB, Kept.refl _ _⟩
  · obtain ⟨g, cap, rfl, hb, hlt, hn, hm, hlen, hH⟩ := Go.Lib.holds_of_ownsRow (enc := enc) (zs := l) ho hu
    have hPg : P0 g := ho0.1 g (by simp [Value.ownBlock])
    refine (hsome g cap hH hn (by unfold maxLen at hm; omega)).mono ?_
    rintro e' w' ⟨rfl, n, rfl⟩
    have hk : ys.length ≤ l.length := by rw [← hyz, List.length_append]; omega
    have hown := Go.Lib.ownsRow_putRow (q := n) (k := ys.length) (ys := ys ++ zs) ho hyz hk
    rw [List.take_left] at hown
    exact ⟨_, rfl, Kd.R_of_own hown (fun k hk => by
      have : g = k := by simpa [Value.ownBlock] using hk
      subst this
      exact .inl hPg), Go.Lib.below_putRow hB hb, kept_putRow (S := fun k_ => P0 k_) hPg⟩
end
/-- An element of a slice of slices that is read. -/
theorem at_rows {k : IntKind} {e : Nat} {w : World} {A : Option Addr} {n : Nat} {xs : List (List Int)} (h : Kd.C (Kd.slice e (Kd.int k)) w A n xs) (j : Nat) (h1 : j < n) :
    ∃ ad A0 c0, A = some ad ∧ w.cell? (ad.add j) = some (.slice A0 (xs.getD j []).length c0) ∧ (xs.getD j []).length ≤ c0 ∧ (Kd.int k).C w A0 (xs.getD j []).length (xs.getD j []) := by
  obtain ⟨ad, c, e1, _, hK, hc0⟩ := Kd.C_get h ([] : List Int) (j : Int) (by omega) (by omega)
  rw [Int.toNat_natCast] at hK hc0
  have hc : ∀ i u, c[i]? = some u → w.cell? (ad.add (j * 1 + i)) = some u := hc0
  obtain ⟨A0, c0, rfl, l0, g0⟩ := hK
  exact ⟨ad, A0, c0, e1, by have hq := hc 0 _ rfl; rwa [Nat.mul_one, Nat.add_zero] at hq, l0, g0⟩
theorem flat_take (l : List (List Int)) (k : Nat) (h : k < l.length) : (l.take (k + 1)).flatten = (l.take k).flatten ++ l.getD k [] := by
  rw [List.take_succ_eq_append_getElem h, List.flatten_append]
  simp [List.getD_eq_getElem?_getD, List.getElem?_eq_getElem h]
theorem flat_len_le (l : List (List Int)) (k : Nat) : (l.take k).flatten.length ≤ l.flatten.length := by
  have h := congrArg List.length (congrArg List.flatten (List.take_append_drop k l))
  rw [List.flatten_append, List.length_append] at h
  omega
/-- How many bytes there are in all (a name of its own, which no simp opens). -/
def flen (l : List (List Int)) : Nat := l.flatten.length
theorem flen_succ (l : List (List Int)) (k : Nat) (h : k < l.length) : flen (l.take (k + 1)) = flen (l.take k) + (l.getD k []).length := by
  unfold flen
  rw [flat_take l k h, List.length_append]
theorem flen_le (l : List (List Int)) (k : Nat) : flen (l.take k) ≤ flen l := flat_len_le l k
/-- Two new blocks. -/
theorem b_alloc2 (w : World) (o1 o2 : Obj) : Below w.heap.size w ((w.alloc o1).alloc o2) := ((Below.refl _ _).alloc (Nat.le_refl _) o1).alloc ((Below.refl _ w).alloc (Nat.le_refl _) o1).size o2
/-- A literal of slices: what it leads to. -/
theorem rows_lit {α : Type} {d : Kd α} {e t : Nat} {W : World} {g : Nat} {cs : Array Value} {xs : List (List α)} (hb : W.heap[g]? = some (.cells cs t (0, 0))) (hn : xs.length ≤ 9223372036854775807)
    (h : ∀ (j : Nat) (l : List α), xs[j]? = some l → ∃ A c, cs[j]? = some (Value.slice A l.length c) ∧ l.length ≤ c ∧ d.C W A l.length l) : Kd.C (Kd.slice e d) W (some ⟨g, 0, none⟩) xs.length xs := by
  refine ⟨rfl, hn, fun _ => ⟨⟨g, 0, none⟩, rfl, fun j l hj => ?_⟩⟩
  obtain ⟨A, c, hc, hl, hC⟩ := h j l hj
  refine ⟨[.slice A l.length c], rfl, ⟨A, c, rfl, hl, hC⟩, fun i u hu => ?_⟩
  have hi : i = 0 := by
    rcases Nat.eq_zero_or_pos i with h0 | h0
    · exact h0
    · rw [List.getElem?_eq_none (by simp; omega)] at hu; cases hu
  subst hi
  have hu' : Value.slice A l.length c = u := by simpa using hu
  subst hu'
  rw [show (Kd.slice e d).sz = 1 from rfl, Nat.mul_one, Nat.add_zero, add_plain]
  exact (blk_cell hb j).trans hc
theorem ofInt_i64 (a : Nat) (ha : a < 9223372036854775808) : (BitVec.ofInt 64 (a : Int)).toNat = a := by
  rw [BitVec.ofInt_natCast, BitVec.toNat_ofNat]; exact Nat.mod_eq_of_lt (by omega)
theorem i64_or_nat (a b : Nat) (ha : a < 9223372036854775808) (hb : b < 9223372036854775808) : bits .or .i64 (a : Int) (b : Int) = ((a ||| b : Nat) : Int) := by
  have hx : a ||| b < 2 ^ 63 := Nat.or_lt_two_pow (by omega) (by omega)
  show IntKind.i64.wrap ((BitVec.ofInt 64 (a : Int) ||| BitVec.ofInt 64 (b : Int)).toNat : Int) = _
  rw [BitVec.toNat_or, ofInt_i64 a ha, ofInt_i64 b hb, IntKind.wrap_i64]
  omega
theorem i64_and_nat (a b : Nat) (ha : a < 9223372036854775808) (hb : b < 9223372036854775808) : bits .and .i64 (a : Int) (b : Int) = ((a &&& b : Nat) : Int) := by
  have hx : a &&& b < 2 ^ 63 := Nat.and_lt_two_pow _ (by omega)
  show IntKind.i64.wrap ((BitVec.ofInt 64 (a : Int) &&& BitVec.ofInt 64 (b : Int)).toNat : Int) = _
  rw [BitVec.toNat_and, ofInt_i64 a ha, ofInt_i64 b hb, IntKind.wrap_i64]
  omega
theorem and127 (c : Int) (h0 : 0 ≤ c) (h1 : c ≤ 255) : bits .and .u8 c 127 = c % 128 := by
  obtain ⟨n, rfl⟩ : ∃ n : Nat, c = n := ⟨c.toNat, by omega⟩
  have := u8_and_nat n 127 (by omega) (by omega)
  rw [show ((127 : Nat) : Int) = 127 from rfl] at this
  rw [this, show (127 : Nat) = 2 ^ 7 - 1 from rfl, Nat.and_two_pow_sub_one_eq_mod]
  omega
/-- A byte's seven bits, laid above what is there. -/
theorem or_above (k : Nat) (v y : Int) (hk : k ≤ 8) (hv0 : 0 ≤ v) (hv : v < 128 ^ k) (hy0 : 0 ≤ y) (hy : y < 128) : bits .or .i64 v (y * 128 ^ k) = v + y * 128 ^ k ∧ v + y * 128 ^ k < 128 ^ (k + 1) ∧ 0 ≤ y * 128 ^ k ∧ y * 128 ^ k < 9223372036854775808 := by
  obtain ⟨a, rfl⟩ : ∃ n : Nat, v = n := ⟨v.toNat, by omega⟩
  obtain ⟨b, rfl⟩ : ∃ n : Nat, y = n := ⟨y.toNat, by omega⟩
  have hav : a < 128 ^ k := by exact_mod_cast hv
  have hb : b < 128 := by omega
  have h1 : b * 128 ^ k ≤ 127 * 128 ^ k := Nat.mul_le_mul_right _ (by omega)
  have h2 : 128 ^ (k + 1) = 128 * 128 ^ k := by rw [Nat.pow_succ, Nat.mul_comm]
  have h3 : 128 ^ (k + 1) ≤ 128 ^ 9 := Nat.pow_le_pow_right (by omega) (by omega)
  have h4 : (128 : Nat) ^ 9 = 9223372036854775808 := by decide
  have hlt : a + b * 128 ^ k < 128 ^ (k + 1) := by omega
  have hor := i64_or_nat a (b * 128 ^ k) (by omega) (by omega)
  have h5 : (128 : Nat) ^ k = 2 ^ (7 * k) := by rw [Nat.pow_mul]
  have h6 : a ||| b * 128 ^ k = a + b * 128 ^ k := by
    rw [Nat.or_comm, Nat.mul_comm, h5, ← Nat.two_pow_add_eq_or_of_lt (by rw [← h5]; exact hav) b]
    omega
  have h7 : ((b * 128 ^ k : Nat) : Int) = (b : Int) * 128 ^ k := by simp
  rw [h7] at hor
  refine ⟨?_, ?_, ?_, ?_⟩
  · rw [hor, h6]; simp
  · have : ((a + b * 128 ^ k : Nat) : Int) < ((128 ^ (k + 1) : Nat) : Int) := by exact_mod_cast hlt
    simpa using this
  · rw [← h7]; omega
  · rw [← h7]; omega
/-- 'xs[lo:hi]' WITHOUT A CASE on the capacity. -/
theorem cut_lh {P : Program} {k : IntKind} (t e : TypeId) (kl kh : IntKind) {i : TypeInfo} (ht : P.underlying t = some (.slice e)) (hi : P.info? e = some i) (hsz : i.size = 1) (A : Option Addr) (c : Nat) (xs : List Int) (lo n : Nat) (h2 : lo + n ≤ xs.length) (hc : xs.length ≤ c) :
    ∃ A' : Option Addr, (∀ W : World, (Instr.slice t (.slice A xs.length c) (some (.int kl (lo : Int))) (some (.int kh ((lo : Int) + n))) none).run P W = .ok (.slice A' n (c - lo)) W) ∧
      ((xs.drop lo).take n).length = n ∧ ∀ w : World, (Kd.int k).C w A xs.length xs → (Kd.int k).C w A' n ((xs.drop lo).take n) := by
  have hn : ((xs.drop lo).take n).length = n := by rw [List.length_take, List.length_drop]; omega
  refine ⟨if c = lo then A else A.map (·.add lo), fun W => ?_, hn, fun w h => ?_⟩
  · have hel : P.elem t = e := by simp [Program.elem, ht]
    have hu : P.underlying t = some (.slice (P.elem t)) := by rw [hel]; exact ht
    rw [run_slice_lh W t A xs.length c hu kl kh (lo : Int) ((lo : Int) + n) (Int.natCast_nonneg _) (by omega) (by omega), hel]
    have e1 : ((lo : Int) + n - lo).toNat = n := by omega
    have e2 : ((lo : Int) + n).toNat - lo = n := by omega
    simp [sizeOf, typeInfo, hi, hsz, sliced, Result.andThen]
    omega
  · have hd := Kd.C_drop h (m := lo) (c := c) (by omega) hc
    have h3 := Kd.C_take hd (m := n) (by rw [List.length_drop]; omega)
    rw [hn] at h3
    simpa [show (Kd.int k).sz = 1 from rfl] using h3
end Go.Proofs.YtafigfhlpjnejaaH
