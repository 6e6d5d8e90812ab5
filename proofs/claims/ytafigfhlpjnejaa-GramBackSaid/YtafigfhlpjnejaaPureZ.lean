/- Plain laws: what the program reads: written by hand for this claim. -/
import Derived.Test.YtafigfhlpjnejaaPureX
import Derived.Test.YtafigfhlpjnejaaPgx13
namespace Go.Proofs.Ytafigfhlpjnejaa.Pure
open Go Go.RowKit Go.Proofs.YtafigfhlpjnejaaW.PrintWords Go.Proofs.YtafigfhlpjnejaaW.PrintLast Go.Proofs.YtafigfhlpjnejaaW.PrintMore
open Go.Proofs.Ytafigfhlpjnejaa.Pg Go.Proofs.YtafigfhlpjnejaaH
/-- A part of bytes. -/
def seg (s : List Int) (a b : Nat) : List Int := (s.drop a).take (b - a)
theorem seg_append (s : List Int) (a b c : Nat) (h1 : a ≤ b) (h2 : b ≤ c) : seg s a b ++ seg s b c = seg s a c := by
  unfold seg
  rw [show c - a = (b - a) + (c - b) by omega, List.take_add, List.drop_drop, show a + (b - a) = b by omega]
theorem seg_length (s : List Int) (a b : Nat) (h : b ≤ s.length) : (seg s a b).length = b - a := by
  unfold seg
  rw [List.length_take, List.length_drop]
  omega
/-- Bytes. -/
def BOk (s : List Int) : Prop := ∀ c ∈ s, 0 ≤ c ∧ c ≤ 255
theorem BOk.drop {s : List Int} (h : BOk s) (a : Nat) : BOk (s.drop a) := fun c hc => h c (List.mem_of_mem_drop hc)
theorem BOk.seg {s : List Int} (h : BOk s) (a b : Nat) : BOk (seg s a b) := fun c hc => h c (List.mem_of_mem_drop (List.mem_of_mem_take hc))
theorem BOk.byteOk {s : List Int} (h : BOk s) : byteOk s = true := by
  unfold Pg.byteOk
  rw [List.all_eq_true]
  exact fun c hc => decide_eq_true (h c hc)
theorem BOk.nil : BOk [] := fun _ hc => absurd hc List.not_mem_nil
theorem bok_rd {b : List Int} (h : BOk b) (i : Int) : ∃ x : Nat, rd b i = x ∧ x < 256 := by
  unfold rd
  rw [List.getD_eq_getElem?_getD]
  cases e : b[i.toNat]? with
  | none => exact ⟨0, rfl, by omega⟩
  | some c =>
    have := h c (List.mem_of_getElem? e)
    exact ⟨c.toNat, by simp; omega, by omega⟩
theorem numScan_vput (rest : List Int) : ∀ (m n i : Nat) (x : Int), n < 128 ^ m → m + i ≤ 9 → (0 < i → 0 < n) → 0 < m → numScan (vput n ++ rest) i x = (x + n * 128 ^ i, ((i + (vput n).length : Nat) : Int), 0)
  | 0, n, i, x, _, _, _, h => by omega
  | m + 1, n, i, x, hn, hi, h0, _ => by
    by_cases h : n < 128
    · rw [vput_lt h]
      simp only [List.cons_append, numScan]
      rw [if_neg (by omega), if_pos (by omega), if_neg (by omega), show (n : Int) % 128 = n by omega]
      simp
    · rw [vput_ge h]
      simp only [List.cons_append, numScan]
      have hm : 0 < m := by
        rcases Nat.eq_zero_or_pos m with e | e
        · subst e; omega
        · exact e
      rw [if_neg (by omega), if_neg (by omega), numScan_vput rest m (n / 128) (i + 1) _ (by rw [Nat.pow_succ] at hn; omega) (by omega) (fun _ => by omega) hm]
      have e1 : ((n % 128 + 128 : Nat) : Int) % 128 = (n : Int) % 128 := by omega
      have e2 : (n : Int) = 128 * ((n / 128 : Nat) : Int) + (n : Int) % 128 := by omega
      rw [e1, Int.pow_succ]
      generalize (n : Int) % 128 = r at e2
      generalize ((n / 128 : Nat) : Int) = q at e2
      generalize (128 : Int) ^ i = P
      rw [e2]
      refine Prod.ext ?_ (Prod.ext ?_ rfl)
      · simp only
        grind
      · simp only [List.length_cons]
        omega
theorem numScan_ok : ∀ (l : List Int) (i : Nat) (x v m : Int), BOk l → numScan l i x = (v, m, 0) →
    ∃ n : Nat, m = ((i + (vput n).length : Nat) : Int) ∧ v = x + n * 128 ^ i ∧ (0 < i → 0 < n) ∧ l.take (vput n).length = vput n ∧ (vput n).length ≤ l.length
  | [], i, x, v, m, _, h => by simp [numScan] at h
  | c :: t, i, x, v, m, hb, h => by
    have hc0 := hb c List.mem_cons_self
    simp only [numScan] at h
    by_cases h9 : i = 9
    · rw [if_pos h9] at h; simp at h
    · rw [if_neg h9] at h
      by_cases hc : c < 128
      · rw [if_pos hc] at h
        by_cases hz : c = 0 ∧ 0 < i
        · rw [if_pos hz] at h; simp at h
        · rw [if_neg hz] at h
          simp only [Prod.mk.injEq] at h
          obtain ⟨h1, h2, _⟩ := h
          refine ⟨c.toNat, ?_, ?_, fun _ => by omega, ?_, ?_⟩
          · rw [vput_lt (by omega)]
            simp only [List.length_singleton]
            omega
          · rw [← h1, show c % 128 = (c.toNat : Int) by omega]
          · rw [vput_lt (by omega)]
            simp
            omega
          · rw [vput_lt (by omega)]
            simp
      · rw [if_neg hc] at h
        obtain ⟨n, e1, e2, e3, e4, e5⟩ := numScan_ok t (i + 1) _ v m (fun d hd => hb d (List.mem_cons_of_mem _ hd)) h
        have hn := e3 (by omega)
        have hN : ¬ (c.toNat - 128 + 128 * n) < 128 := by omega
        have hq : (c.toNat - 128 + 128 * n) / 128 = n := by omega
        have hr : (c.toNat - 128 + 128 * n) % 128 + 128 = c.toNat := by omega
        have hv : vput (c.toNat - 128 + 128 * n) = c :: vput n := by
          rw [vput_ge hN, hq, hr, show ((c.toNat : Nat) : Int) = c by omega]
        refine ⟨c.toNat - 128 + 128 * n, ?_, ?_, fun _ => by omega, ?_, ?_⟩
        · rw [hv, List.length_cons, e1]
          omega
        · have e6 : ((c.toNat - 128 + 128 * n : Nat) : Int) = c % 128 + 128 * (n : Int) := by omega
          rw [e2, e6, Int.pow_succ]
          generalize (128 : Int) ^ i = P
          grind
        · rw [hv, List.length_cons, List.take_succ_cons, e4]
        · rw [hv, List.length_cons, List.length_cons]
          omega
section
variable (s : List Int) (hs : BOk s) (hlen : s.length ≤ 70000000000000)
include hs hlen
omit hlen in
theorem number_spec (p : Nat) (e : Int) (hp : p ≤ s.length) : ∃ (x q : Nat) (e' : Int), cursor_Cursor_Number.f s (p : Int) e = some ((x : Int), (q : Int), e') ∧ p ≤ q ∧ q ≤ s.length ∧ (e' = 0 → e = 0 ∧ seg s p q = vput x) ∧ (e' ≠ 0 → x = 0 ∧ q = p) := by
  unfold cursor_Cursor_Number.f
  by_cases he : e = 0
  · rw [if_pos he, if_pos ⟨by omega, by omega, (hs.drop _).byteOk⟩, Int.toNat_natCast]
    by_cases h : (numScan (s.drop p) 0 0).2.2 = 0
    · rw [if_pos h]
      obtain ⟨n, e1, e2, _, e4, e5⟩ := numScan_ok (s.drop p) 0 0 (numScan (s.drop p) 0 0).1 (numScan (s.drop p) 0 0).2.1 (hs.drop p) (Prod.ext rfl (Prod.ext rfl h))
      rw [List.length_drop] at e5
      refine ⟨n, p + (vput n).length, 0, ?_, by omega, by omega, fun _ => ⟨he, ?_⟩, fun h => absurd rfl h⟩
      · rw [e1, e2]
        simp
      · unfold seg
        rw [show p + (vput n).length - p = (vput n).length by omega, e4]
    · rw [if_neg h]
      exact ⟨0, p, _, rfl, by omega, by omega, fun h2 => absurd h2 h, fun _ => ⟨rfl, rfl⟩⟩
  · rw [if_neg he]
    exact ⟨0, p, e, rfl, by omega, by omega, fun h2 => absurd h2 he, fun _ => ⟨rfl, rfl⟩⟩
omit hlen in
theorem number_fwd (p n : Nat) (rest : List Int) (hn : n < 128 ^ 9) (hp : p ≤ s.length) (h : s.drop p = vput n ++ rest) : cursor_Cursor_Number.f s (p : Int) 0 = some ((n : Int), ((p + (vput n).length : Nat) : Int), 0) := by
  have e := numScan_vput rest 9 n 0 0 hn (by omega) (fun h => by omega) (by omega)
  unfold cursor_Cursor_Number.f
  rw [if_pos rfl, if_pos ⟨by omega, by omega, (hs.drop _).byteOk⟩, Int.toNat_natCast, h, e]
  simp
omit hlen in
theorem most_spec (p n : Nat) (e : Int) (hp : p ≤ s.length) : ∃ (x q : Nat) (e' : Int), cursor_Cursor_Most.f s (p : Int) e (n : Int) = some ((x : Int), (q : Int), e') ∧ x ≤ n ∧ p ≤ q ∧ q ≤ s.length ∧ (e' = 0 → e = 0 ∧ seg s p q = vput x) := by
  obtain ⟨x, q, e', h1, h2, h3, h4, h5⟩ := number_spec s hs p e hp
  unfold cursor_Cursor_Most.f
  rw [h1, Option.bind_some]
  by_cases hx : (x : Int) > (n : Int)
  · have he : e' = 0 := Classical.byContradiction fun hc => by have := h5 hc; omega
    refine ⟨0, p, 3, ?_, by omega, by omega, hp, fun hc => by omega⟩
    rw [if_pos hx]
    unfold cursor_Cursor_Fail.f
    rw [he, if_pos rfl]
    rfl
  · exact ⟨x, q, e', by rw [if_neg hx], by omega, h2, h3, h4⟩
omit hlen in
theorem most_fwd (p n m : Nat) (rest : List Int) (hn : n < 128 ^ 9) (hm : n ≤ m) (hp : p ≤ s.length) (h : s.drop p = vput n ++ rest) : cursor_Cursor_Most.f s (p : Int) 0 (m : Int) = some ((n : Int), ((p + (vput n).length : Nat) : Int), 0) := by
  unfold cursor_Cursor_Most.f
  rw [number_fwd s hs p n rest hn hp h, Option.bind_some, if_neg (by omega)]
omit hs in
theorem bytes_spec (p n : Nat) (e : Int) (hp : p ≤ s.length) : ∃ (b : List Int) (q : Nat) (e' : Int), cursor_Cursor_Bytes.f s (p : Int) e (n : Int) = some (b, (q : Int), e') ∧ p ≤ q ∧ q ≤ s.length ∧ (e' = 0 → e = 0 ∧ q = p + n ∧ b = seg s p q) ∧ (e' ≠ 0 → b = [] ∧ q = p) := by
  unfold cursor_Cursor_Bytes.f
  by_cases he : e = 0
  · rw [if_pos he, if_neg (by omega), if_pos ⟨by omega, by omega, by omega⟩]
    by_cases h : (n : Int) > (s.length : Int) - (p : Int)
    · rw [if_pos h]
      exact ⟨[], p, 2, rfl, by omega, hp, fun hc => by omega, fun _ => ⟨rfl, rfl⟩⟩
    · rw [if_neg h, Int.toNat_natCast, Int.toNat_natCast]
      refine ⟨_, p + n, 0, by simp; rfl, by omega, by omega, fun _ => ⟨he, rfl, ?_⟩, fun hc => absurd rfl hc⟩
      unfold seg
      rw [show p + n - p = n by omega]
  · rw [if_neg he]
    exact ⟨[], p, e, rfl, by omega, hp, fun hc => absurd hc he, fun _ => ⟨rfl, rfl⟩⟩
omit hs in
theorem bytes_fwd (p : Nat) (b rest : List Int) (hp : p ≤ s.length) (h : s.drop p = b ++ rest) : cursor_Cursor_Bytes.f s (p : Int) 0 (b.length : Int) = some (b, ((p + b.length : Nat) : Int), 0) := by
  have hl := congrArg List.length h
  rw [List.length_drop, List.length_append] at hl
  unfold cursor_Cursor_Bytes.f
  rw [if_pos rfl, if_neg (by omega), if_pos ⟨by omega, by omega, by omega⟩, if_neg (by omega), Int.toNat_natCast, Int.toNat_natCast, h, List.take_left]
  simp
theorem byte_spec (p : Nat) (e : Int) (hp : p ≤ s.length) : ∃ (x q : Nat) (e' : Int), cursor_Cursor_Byte.f s (p : Int) e = some ((x : Int), (q : Int), e') ∧ x ≤ 255 ∧ p ≤ q ∧ q ≤ s.length ∧ (e' = 0 → e = 0 ∧ seg s p q = [(x : Int)]) := by
  obtain ⟨b, q, e', h1, h2, h3, h4, h5⟩ := bytes_spec s hlen p 1 e hp
  rw [show ((1 : Nat) : Int) = 1 from rfl] at h1
  unfold cursor_Cursor_Byte.f
  rw [h1, Option.bind_some]
  by_cases he : e' = 0
  · obtain ⟨g1, g2, g3⟩ := h4 he
    have hl : b.length = 1 := by rw [g3, seg_length _ _ _ h3]; omega
    obtain ⟨c, rfl⟩ := List.length_eq_one_iff.1 hl
    have hc : 0 ≤ c ∧ c ≤ 255 := (hs.seg p q) c (by rw [← g3]; exact List.mem_singleton.2 rfl)
    refine ⟨c.toNat, q, e', ?_, by omega, h2, h3, fun _ => ⟨g1, ?_⟩⟩
    · have : rd [c] 0 = c := rfl
      simp only [this, List.length_singleton]
      rw [if_pos (show ((1 : Nat) : Int) = 1 from rfl), if_pos (by omega), w64 c (by omega), show (c.toNat : Int) = c by omega]
    · rw [← g3, show (c.toNat : Int) = c by omega]
  · obtain ⟨rfl, rfl⟩ := h5 he
    exact ⟨0, q, e', by rw [if_neg (by simp)]; rfl, by omega, h2, h3, fun hc => absurd hc he⟩
end
theorem equal_loop (a b : List Int) (hab : a.length = b.length) (hl : a.length ≤ 9000000000000000000) : ∀ m i : Nat, i + m = a.length → a.take i = b.take i → Ev (fun k => slices_Equal_byte_byte.l0 k a b (a.length : Int) (i : Int)) (decide (a = b))
  | 0, i, h, ht => by
    rw [List.take_of_length_le (by omega), List.take_of_length_le (by omega)] at ht
    rw [decide_eq_true ht]
    refine Ev.succ (Ev.of_eq (G := fun _ => some true) (fun k => ?_) (Ev.const _))
    rw [slices_Equal_byte_byte.l0, if_neg (by omega)]
  | m + 1, i, h, ht => by
    have ha : i < a.length := by omega
    have hb : i < b.length := by omega
    by_cases he : a[i] = b[i]
    · refine Ev.succ (Ev.of_eq (fun k => ?_) (equal_loop a b hab hl m (i + 1) (by omega) (by rw [List.take_succ_eq_append_getElem ha, List.take_succ_eq_append_getElem hb, ht, he])))
      rw [slices_Equal_byte_byte.l0, if_pos (by omega), if_pos (by omega), if_pos (by omega), if_pos (by omega), rd_at a i ha, rd_at b i hb, if_pos he, w64 _ (by omega)]
      rfl
    · rw [decide_eq_false (fun hc => he (by subst hc; rfl))]
      refine Ev.succ (Ev.of_eq (G := fun _ => some false) (fun k => ?_) (Ev.const _))
      rw [slices_Equal_byte_byte.l0, if_pos (by omega), if_pos (by omega), if_pos (by omega), if_pos (by omega), rd_at a i ha, rd_at b i hb, if_neg he]
theorem equal_ev (a b : List Int) (hl : a.length ≤ 9000000000000000000) : Ev (fun k => slices_Equal_byte_byte.f k a b) (decide (a = b)) := by
  by_cases hab : a.length = b.length
  · refine Ev.of_eq (fun k => ?_) (equal_loop a b hab hl a.length 0 (by omega) (by simp))
    unfold slices_Equal_byte_byte.f
    rw [if_pos (by omega)]
    rfl
  · rw [decide_eq_false (fun hc => hab (by rw [hc]))]
    refine Ev.of_eq (G := fun _ => some false) (fun k => ?_) (Ev.const _)
    unfold slices_Equal_byte_byte.f
    rw [if_neg (by omega)]
/-- What an error is behind a failure. -/
def err3 (e : Int) : Int := if e = 0 then 3 else e
theorem err3_ne (e : Int) : err3 e ≠ 0 := by unfold err3; split <;> omega
theorem fail_eq (s : List Int) (p e : Int) : cursor_Cursor_Fail.f s p e 3 = some (p, err3 e) := by
  unfold cursor_Cursor_Fail.f err3
  split <;> rfl
def rbits (b : List Int) (i n : Nat) : List Bool := (List.range n).map fun j => if j < i then tbit b j else false
theorem rbits_length (b : List Int) (i n : Nat) : (rbits b i n).length = n := by simp [rbits]
theorem rbits_zero (b : List Int) (n : Nat) : rbits b 0 n = List.replicate n false := by
  apply List.ext_getElem
  · simp [rbits]
  · intro i h1 h2
    simp [rbits]
theorem rbits_step (b : List Int) (i n : Nat) : (rbits b i n).set i (tbit b i) = rbits b (i + 1) n := by
  apply List.ext_getElem
  · simp [rbits]
  · intro j h1 h2
    rw [List.getElem_set]
    split
    · rename_i e
      subst e
      simp [rbits]
    · rename_i e
      have e3 : (j < i + 1) = (j < i) := by simp; omega
      simp [rbits, e3]
theorem tbit_bm (l : List Bool) : rbits (bm l) l.length l.length = l := by
  apply List.ext_getElem
  · simp [rbits]
  · intro i h1 h2
    have e : tbit (bm l) i = lb l i := tbit_bmN _ _ _ _ h2 (by omega)
    simp [rbits, h2, e, lb]
theorem bread_loop (b : List Int) (hb : BOk b) (n : Nat) (hn : n ≤ 1000000) (hsz : (n + 7) / 8 ≤ b.length) (hbl : b.length ≤ 9000000000000000000) (s : List Int) (p e : Int) : ∀ m i : Nat, i + m = n →
    Ev (fun k => bitmap_Read.l0 k b (rbits b i n) (n : Int) (i : Int) s p e) (if bm (rbits b n n) = b then (rbits b n n, p, e) else ([], p, err3 e))
  | 0, i, h => by
    obtain rfl : i = n := by omega
    have h1 := bmput_ev (rbits b i i) (by rw [rbits_length]; omega)
    have h2 := equal_ev (bm (rbits b i i)) b (by rw [bm_length, rbits_length]; omega)
    refine Ev.succ (Ev.via h1 (Ev.via h2 (Ev.const _) (H := fun k => (slices_Equal_byte_byte.f k (bm (rbits b i i)) b).bind fun t => if t = true then some (rbits b i i, p, e) else (cursor_Cursor_Fail.f s p e 3).bind fun bt => some (([] : List Bool), bt.1, bt.2)) (fun k hk => ?_)) (fun k hk => ?_))
    · rw [hk, Option.bind_some]
      by_cases h : bm (rbits b i i) = b
      · rw [decide_eq_true h, if_pos rfl, if_pos h]
      · rw [decide_eq_false h, if_neg (by simp), if_neg h, fail_eq]
        rfl
    · rw [bitmap_Read.l0, if_neg (by omega), hk, Option.bind_some]
  | m + 1, i, h => by
    have ih := bread_loop b hb n hn hsz hbl s p e m (i + 1) (by omega)
    obtain ⟨x, hx, hx2⟩ := bok_rd hb ((i / 8 : Nat) : Int)
    have hbit : (bits .and .u8 (shr .u8 (rd b ((i / 8 : Nat) : Int)) ((i % 8 : Nat) : Int)) 1 == 1) = tbit b i := by
      unfold tbit
      rw [hx, bit_u8 x (i % 8) hx2 (by omega), Int.toNat_natCast, Bool.eq_iff_iff, beq_iff_eq, decide_eq_true_iff]
      generalize x / 2 ^ (i % 8) % 2 = y
      omega
    refine Ev.succ (Ev.of_eq (fun k => ?_) ih)
    rw [bitmap_Read.l0, if_pos (by omega), tdiv8 i (by omega), tmod8 i, if_pos (by omega), if_pos (by omega), if_pos (by omega), if_pos (by omega), if_pos (by rw [rbits_length]; omega), hbit, Int.toNat_natCast, rbits_step, w64 _ (by omega)]
    rfl
section
variable (s : List Int) (hs : BOk s) (hlen : s.length ≤ 70000000000000)
include hs hlen
theorem bread_spec (p n : Nat) (e : Int) (hp : p ≤ s.length) (hn : n ≤ 1000000) : ∃ (r : List Bool) (q : Nat) (e' : Int), Ev (fun k => bitmap_Read.f k s (p : Int) e (n : Int)) (r, (q : Int), e') ∧ r.length ≤ n ∧ p ≤ q ∧ q ≤ s.length ∧ (e' = 0 → e = 0 ∧ seg s p q = vput r.length ++ bm r) := by
  obtain ⟨x, q1, e1, h1, h2, h3, h4, h5⟩ := most_spec s hs p n e hp
  obtain ⟨b, q2, e2, g1, g2, g3, g4, g5⟩ := bytes_spec s hlen q1 ((x + 7) / 8) e1 h4
  have hsz := bsize_ev x (by omega)
  have hbl : b.length ≤ s.length := by
    by_cases he : e2 = 0
    · rw [(g4 he).2.2, seg_length _ _ _ g3]; omega
    · rw [(g5 he).1]; simp
  have hb : BOk b := by
    by_cases he : e2 = 0
    · rw [(g4 he).2.2]; exact hs.seg _ _
    · rw [(g5 he).1]; exact BOk.nil
  by_cases hlt : (b.length : Int) < (((x + 7) / 8 : Nat) : Int)
  · refine ⟨[], q2, e2, Ev.of_eq (G := fun _ => some ([], (q2 : Int), e2)) (fun k => ?_) (Ev.const _), by simp, by omega, g3, fun he => ?_⟩
    · unfold bitmap_Read.f
      rw [h1, Option.bind_some]
      simp only
      rw [hsz, Option.bind_some, g1, Option.bind_some, Option.bind_some, if_pos hlt]
    · exfalso
      obtain ⟨_, k2, k3⟩ := g4 he
      have : b.length = (x + 7) / 8 := by rw [k3, seg_length _ _ _ g3]; omega
      omega
  · have hL := bread_loop b hb x (by omega) (by omega) (by omega) s (q2 : Int) e2 x 0 (by omega)
    rw [rbits_zero] at hL
    have hE : Ev (fun k => bitmap_Read.f k s (p : Int) e (n : Int)) (if bm (rbits b x x) = b then (rbits b x x, (q2 : Int), e2) else ([], (q2 : Int), err3 e2)) := by
      refine Ev.of_eq (fun k => ?_) hL
      unfold bitmap_Read.f
      rw [h1, Option.bind_some]
      simp only
      rw [hsz, Option.bind_some, g1, Option.bind_some, Option.bind_some, if_neg hlt, if_pos (by omega), Int.toNat_natCast, if_pos (by omega), Option.bind_some, List.length_replicate]
      rfl
    by_cases hbm : bm (rbits b x x) = b
    · rw [if_pos hbm] at hE
      refine ⟨_, q2, e2, hE, by rw [rbits_length]; omega, by omega, g3, fun he => ?_⟩
      obtain ⟨k1, k2, k3⟩ := g4 he
      obtain ⟨k4, k5⟩ := h5 k1
      refine ⟨k4, ?_⟩
      rw [rbits_length, hbm, ← seg_append s p q1 q2 h3 g2, k5, k3]
    · rw [if_neg hbm] at hE
      exact ⟨[], q2, _, hE, by simp, by omega, g3, fun he => absurd he (err3_ne _)⟩
theorem bread_fwd (p n : Nat) (l : List Bool) (rest : List Int) (hp : p ≤ s.length) (hn : l.length ≤ n) (hn2 : n ≤ 1000000) (h : s.drop p = vput l.length ++ (bm l ++ rest)) : Ev (fun k => bitmap_Read.f k s (p : Int) 0 (n : Int)) (l, ((p + (vput l.length ++ bm l).length : Nat) : Int), 0) := by
  have h9 : (128 : Nat) ^ 9 = 9223372036854775808 := by decide
  have hl := congrArg List.length h
  rw [List.length_drop, List.length_append, List.length_append] at hl
  have h1 := most_fwd s hs p l.length n _ (by omega) hn hp h
  have hd : s.drop (p + (vput l.length).length) = bm l ++ rest := by rw [← List.drop_drop, h, List.drop_left]
  have h2 := bytes_fwd s hlen (p + (vput l.length).length) (bm l) rest (by omega) hd
  have hsz := bsize_ev l.length (by omega)
  have hbl := bm_length l
  rw [hbl] at h2
  have hL := bread_loop (bm l) (bmN_byte _ _ _) l.length (by omega) (by omega) (by omega) s ((p + (vput l.length ++ bm l).length : Nat) : Int) 0 l.length 0 (by omega)
  rw [rbits_zero, tbit_bm, if_pos rfl] at hL
  refine Ev.of_eq (fun k => ?_) hL
  unfold bitmap_Read.f
  rw [h1, Option.bind_some]
  simp only
  rw [hsz, Option.bind_some, h2, Option.bind_some, Option.bind_some, if_neg (by simp only [hbl]; omega), if_pos (by omega), Int.toNat_natCast, if_pos (by omega), Option.bind_some, List.length_replicate, List.length_append, hbl, ← Nat.add_assoc]
  rfl
end
end Go.Proofs.Ytafigfhlpjnejaa.Pure
namespace Go.Proofs.Ytafigfhlpjnejaa.Pure
open Go Go.RowKit Go.Proofs.YtafigfhlpjnejaaW.PrintWords Go.Proofs.YtafigfhlpjnejaaW.PrintLast Go.Proofs.YtafigfhlpjnejaaW.PrintMore
open Go.Proofs.Ytafigfhlpjnejaa.Pg Go.Proofs.YtafigfhlpjnejaaH
/-- Number i of packed ones. -/
def gv (b : List Int) (w i : Nat) : Nat := bsum (fun k => tbit b (i * w + k)) w
theorem gv_lt (b : List Int) (w i : Nat) : gv b w i < 2 ^ w := bsum_lt _ _
theorem tbit_out (b : List Int) (p : Nat) (h : b.length ≤ p / 8) : tbit b p = false := by
  unfold tbit rd
  rw [Int.toNat_natCast, List.getD_eq_getElem?_getD, List.getElem?_eq_none h]
  simp
theorem or_bit64 (v k y : Nat) (hv : v < 2 ^ k) (hk : k ≤ 40) (hy : y ≤ 1) : bits .or .i64 (v : Int) (shl .i64 (wrap64 (y : Int)) (k : Int)) = ((v + if y = 1 then 2 ^ k else 0 : Nat) : Int) := by
  have h1 : 2 ^ k ≤ 2 ^ 40 := Nat.pow_le_pow_right (by omega) hk
  have e : shl .i64 (wrap64 (y : Int)) (k : Int) = ((y * 2 ^ k : Nat) : Int) := by
    unfold shl
    rw [show IntKind.i64.bits = 64 from rfl, Int.toNat_natCast, Nat.min_eq_left (by omega), w64 (y : Int) (by omega), IntKind.wrap_i64]
    have e2 : (y : Int) * 2 ^ k = ((y * 2 ^ k : Nat) : Int) := by simp
    have e3 : y * 2 ^ k ≤ 1 * 2 ^ k := Nat.mul_le_mul_right _ hy
    rw [e2]
    omega
  rw [e]
  rcases Nat.eq_zero_or_pos y with e | e
  · subst e
    rw [Nat.zero_mul, i64_or_nat _ _ (by omega) (by omega), Nat.or_zero]
    simp
  · obtain rfl : y = 1 := by omega
    rw [Nat.one_mul, i64_or_nat _ _ (by omega) (by omega), if_pos rfl]
    have := Nat.two_pow_add_eq_or_of_lt hv 1
    rw [Nat.mul_one] at this
    rw [Nat.or_comm, ← this, Nat.add_comm]
theorem pget_loop (b : List Int) (hb : BOk b) (w i : Nat) (hw : w ≤ 32) (hi : i ≤ 1000000) : ∀ m k : Nat, k + m = w →
    Ev (fun q => pack_Get.l0 q b (w : Int) (i : Int) ((bsum (fun k => tbit b (i * w + k)) k : Nat) : Int) (w : Int) (k : Int)) ((gv b w i : Nat) : Int)
  | 0, k, h => by
    obtain rfl : k = w := by omega
    refine Ev.succ (Ev.of_eq (G := fun _ => some ((gv b k i : Nat) : Int)) (fun q => ?_) (Ev.const _))
    rw [pack_Get.l0, if_neg (by omega)]
    rfl
  | m + 1, k, h => by
    have ih := pget_loop b hb w i hw hi m (k + 1) (by omega)
    have hmul := mul_le32 i w (by omega) hw
    have e0 : (i : Int) * (w : Int) = ((i * w : Nat) : Int) := by simp
    have hbs := bsum_lt (fun k => tbit b (i * w + k)) k
    have hsucc : bsum (fun k => tbit b (i * w + k)) (k + 1) = bsum (fun k => tbit b (i * w + k)) k + if tbit b (i * w + k) = true then 2 ^ k else 0 := rfl
    rw [hsucc] at ih
    generalize bsum (fun k => tbit b (i * w + k)) k = v at hbs ih ⊢
    refine Ev.succ (Ev.of_eq (fun q => ?_) ih)
    rw [pack_Get.l0, if_pos (by omega), e0, w64 ((i * w : Nat) : Int) (by omega), show ((i * w : Nat) : Int) + (k : Int) = ((i * w + k : Nat) : Int) by omega, w64 ((i * w + k : Nat) : Int) (by omega), tdiv8 _ (by omega), tmod8, w64 ((k : Int) + 1) (by omega)]
    have hout := tbit_out b (i * w + k)
    have htb : ∀ x : Nat, rd b (((i * w + k) / 8 : Nat) : Int) = x → tbit b (i * w + k) = decide (x / 2 ^ ((i * w + k) % 8) % 2 = 1) := fun x hx => by
      unfold tbit
      rw [hx, Int.toNat_natCast]
    obtain ⟨x, hx, hx2⟩ := bok_rd hb (((i * w + k) / 8 : Nat) : Int)
    have htb := htb x hx
    generalize i * w + k = p at *
    by_cases hp : p / 8 < b.length
    · rw [if_pos (by omega), if_pos (by omega), if_pos (by omega), if_pos (by omega), hx, bit_u8 x (p % 8) hx2 (by omega), or_bit64 v k _ hbs (by omega) (by omega), htb]
      simp only [decide_eq_true_eq]
      rfl
    · rw [if_neg (by omega), hout (by omega), if_neg (by simp), Nat.add_zero]
      rfl
theorem pget_ev (b : List Int) (hb : BOk b) (w i : Nat) (hw : w ≤ 32) (hi : i ≤ 1000000) : Ev (fun q => pack_Get.f q b (w : Int) (i : Int)) ((gv b w i : Nat) : Int) := pget_loop b hb w i hw hi w 0 (by omega)
def gvs (b : List Int) (w n : Nat) : List Int := (List.range n).map fun i => ((gv b w i : Nat) : Int)
theorem gvs_length (b : List Int) (w n : Nat) : (gvs b w n).length = n := by simp [gvs]
theorem gvs_ok (b : List Int) (w n : Nat) : ∀ x ∈ gvs b w n, 0 ≤ x ∧ x < ((2 ^ w : Nat) : Int) := fun x hx => by
  obtain ⟨i, _, rfl⟩ := List.mem_map.1 hx
  have := gv_lt b w i
  omega
theorem gvs_ok32 (b : List Int) (w n : Nat) (hw : w ≤ 32) : ∀ x ∈ gvs b w n, 0 ≤ x ∧ x < 4294967296 := fun x hx => by
  have := gvs_ok b w n x hx
  have := pow_le32 w hw
  omega
theorem gvs_pk (l : List Int) (w : Nat) (hx : ∀ x ∈ l, 0 ≤ x ∧ x < ((2 ^ w : Nat) : Int)) : gvs (pk l w) w l.length = l := by
  apply List.ext_getElem
  · simp [gvs]
  · intro i h1 h2
    have hxi := hx _ (List.getElem_mem h2)
    simp only [gvs, List.getElem_map, List.getElem_range]
    unfold gv
    have e : bsum (fun k => tbit (pk l w) (i * w + k)) w = bsum (fun k => decide (l[i].toNat / 2 ^ k % 2 = 1)) w := bsum_congr w (fun k hk => by
      have hat := at_lt l.length w i k h2 hk
      rw [show tbit (pk l w) (i * w + k) = pb l w (i * w + k) from tbit_bmN _ _ _ _ hat (by omega), pb_at l w i k hk h2])
    rw [e, bsum_bits, Nat.mod_eq_of_lt (by omega)]
    omega
theorem pread_loop (b : List Int) (hb : BOk b) (w n : Nat) (hw : w ≤ 32) (hn : n ≤ 1000000) (W : Nat) (hW : IsW (gvs b w n) W) (s : List Int) (p e : Int) : ∀ m i : Nat, i + m = n →
    Ev (fun k => pack_Read.l0 k (w : Int) b (gvs b w i) (n : Int) (i : Int) s p e) (if W = w ∧ pk (gvs b w n) w = b then (gvs b w n, p, e) else ([], p, err3 e))
  | 0, i, h => by
    obtain rfl : i = n := by omega
    have h1 := pput_ev (gvs b w i) w hw (by rw [gvs_length]; omega) (gvs_ok b w i)
    obtain ⟨W2, h2, h3, _⟩ := pwidth_ev (gvs b w i) (by rw [gvs_length]; omega) (gvs_ok32 b w i hw)
    obtain rfl := h3.uniq hW
    have hm := mul_le32 i w (by omega) hw
    have h4 := equal_ev (pk (gvs b w i) w) b (by rw [pk_length, gvs_length]; omega)
    refine Ev.succ (Ev.via h1 (Ev.via h2 (Ev.via h4 (Ev.const _) (H := fun k => if (W2 : Int) = (w : Int) then (slices_Equal_byte_byte.f k (pk (gvs b w i) w) b).bind fun t => if t = true then some (gvs b w i, p, e) else (cursor_Cursor_Fail.f s p e 3).bind fun bt => some (([] : List Int), bt.1, bt.2) else (cursor_Cursor_Fail.f s p e 3).bind fun bt => some (([] : List Int), bt.1, bt.2)) (fun k hk => ?_)) (H := fun k => (pack_Width.f k (gvs b w i)).bind fun t447 => if t447 = (w : Int) then (slices_Equal_byte_byte.f k (pk (gvs b w i) w) b).bind fun t => if t = true then some (gvs b w i, p, e) else (cursor_Cursor_Fail.f s p e 3).bind fun bt => some (([] : List Int), bt.1, bt.2) else (cursor_Cursor_Fail.f s p e 3).bind fun bt => some (([] : List Int), bt.1, bt.2)) (fun k hk => ?_)) (fun k hk => ?_))
    · rw [hk]
      by_cases hWw : W2 = w
      · rw [if_pos (by omega), Option.bind_some]
        by_cases hq : pk (gvs b w i) w = b
        · rw [decide_eq_true hq, if_pos rfl, if_pos ⟨hWw, hq⟩]
        · rw [decide_eq_false hq, if_neg (by simp), if_neg (fun hc => hq hc.2), fail_eq]
          rfl
      · rw [if_neg (by omega), if_neg (fun hc => hWw hc.1), fail_eq]
        rfl
    · rw [hk, Option.bind_some]
    · rw [pack_Read.l0, if_neg (by omega), hk, Option.bind_some]
  | m + 1, i, h => by
    have ih := pread_loop b hb w n hw hn W hW s p e m (i + 1) (by omega)
    have hg := pget_ev b hb w i hw (by omega)
    have hsn : gvs b w (i + 1) = gvs b w i ++ [((gv b w i : Nat) : Int)] := by
      unfold gvs
      rw [List.range_succ, List.map_append]
      rfl
    rw [hsn] at ih
    refine Ev.succ (Ev.via hg ih (fun k hk => ?_))
    rw [pack_Read.l0, if_pos (by omega), hk, Option.bind_some, if_pos (by rw [gvs_length]; omega), w64 _ (by omega)]
    rfl
section
variable (s : List Int) (hs : BOk s) (hlen : s.length ≤ 70000000000000)
include hs hlen
theorem pread_spec (p n : Nat) (e : Int) (hp : p ≤ s.length) (hn : n ≤ 1000000) : ∃ (r : List Int) (q : Nat) (e' : Int), Ev (fun k => pack_Read.f k s (p : Int) e (n : Int)) (r, (q : Int), e') ∧ r.length ≤ n ∧ (∀ x ∈ r, 0 ≤ x ∧ x < 4294967296) ∧ p ≤ q ∧ q ≤ s.length ∧
    (e' = 0 → e = 0 ∧ ∃ w : Nat, w ≤ 32 ∧ IsW r w ∧ seg s p q = pw r w) := by
  obtain ⟨x, q1, e1, h1, h2, h3, h4, h5⟩ := most_spec s hs p n e hp
  obtain ⟨w, q2, e2, f1, f2, f3, f4, f5⟩ := byte_spec s hs hlen q1 e1 h4
  by_cases hw : (w : Int) > 32
  · refine ⟨[], q2, err3 e2, Ev.of_eq (G := fun _ => some ([], (q2 : Int), err3 e2)) (fun k => ?_) (Ev.const _), by simp, by simp, by omega, f4, fun he => absurd he (err3_ne _)⟩
    unfold pack_Read.f
    rw [h1, Option.bind_some]
    simp only
    rw [f1, Option.bind_some, if_pos hw, fail_eq]
    rfl
  · obtain ⟨b, q3, e3, g1, g2, g3, g4, g5⟩ := bytes_spec s hlen q2 ((x * w + 7) / 8) e2 f4
    have hm := mul_le32 x w (by omega) (by omega)
    have hsz := psize_ev x w (by omega) (by omega)
    have hb : BOk b := by
      by_cases he : e3 = 0
      · rw [(g4 he).2.2]; exact hs.seg _ _
      · rw [(g5 he).1]; exact BOk.nil
    by_cases hlt : (b.length : Int) < (((x * w + 7) / 8 : Nat) : Int)
    · refine ⟨[], q3, e3, Ev.of_eq (G := fun _ => some ([], (q3 : Int), e3)) (fun k => ?_) (Ev.const _), by simp, by simp, by omega, g3, fun he => ?_⟩
      · unfold pack_Read.f
        rw [h1, Option.bind_some]
        simp only
        rw [f1, Option.bind_some, if_neg hw, hsz, Option.bind_some, g1, Option.bind_some, Option.bind_some, if_pos hlt]
      · exfalso
        obtain ⟨_, k2, k3⟩ := g4 he
        have : b.length = (x * w + 7) / 8 := by rw [k3, seg_length _ _ _ g3]; omega
        omega
    · obtain ⟨W, _, hW, hW32⟩ := pwidth_ev (gvs b w x) (by rw [gvs_length]; omega) (gvs_ok32 b w x (by omega))
      have hL := pread_loop b hb w x (by omega) (by omega) W hW s (q3 : Int) e3 x 0 (by omega)
      have hE : Ev (fun k => pack_Read.f k s (p : Int) e (n : Int)) (if W = w ∧ pk (gvs b w x) w = b then (gvs b w x, (q3 : Int), e3) else ([], (q3 : Int), err3 e3)) := by
        refine Ev.of_eq (fun k => ?_) hL
        unfold pack_Read.f
        rw [h1, Option.bind_some]
        simp only
        rw [f1, Option.bind_some, if_neg hw, hsz, Option.bind_some, g1, Option.bind_some, Option.bind_some, if_neg hlt]
        rfl
      by_cases hbm : W = w ∧ pk (gvs b w x) w = b
      · rw [if_pos hbm] at hE
        obtain ⟨rfl, hpk⟩ := hbm
        refine ⟨_, q3, e3, hE, by rw [gvs_length]; omega, gvs_ok32 b W x hW32, by omega, g3, fun he => ?_⟩
        obtain ⟨k1, k2, k3⟩ := g4 he
        obtain ⟨k4, k5⟩ := f5 k1
        obtain ⟨k6, k7⟩ := h5 k4
        refine ⟨k6, W, hW32, hW, ?_⟩
        unfold pw
        rw [gvs_length, hpk, ← seg_append s p q2 q3 (by omega) g2, ← seg_append s p q1 q2 h3 f3, k7, k5, k3]
      · rw [if_neg hbm] at hE
        exact ⟨[], q3, _, hE, by simp, by simp, by omega, g3, fun he => absurd he (err3_ne _)⟩
theorem pread_fwd (p n : Nat) (l rest : List Int) (w : Nat) (hp : p ≤ s.length) (hn : l.length ≤ n) (hn2 : n ≤ 1000000) (hx : ∀ x ∈ l, 0 ≤ x ∧ x < 4294967296) (hw : IsW l w) (h32 : w ≤ 32) (h : s.drop p = pw l w ++ rest) :
    Ev (fun k => pack_Read.f k s (p : Int) 0 (n : Int)) (l, ((p + (pw l w).length : Nat) : Int), 0) := by
  have h9 : (128 : Nat) ^ 9 = 9223372036854775808 := by decide
  have hl := congrArg List.length h
  have hpwl : (pw l w).length = (vput l.length).length + 1 + (pk l w).length := by simp [pw]; omega
  rw [List.length_drop, List.length_append, hpwl] at hl
  unfold pw at h
  rw [List.append_assoc, List.append_assoc] at h
  have h1 := most_fwd s hs p l.length n _ (by omega) hn hp h
  have hd : s.drop (p + (vput l.length).length) = [(w : Int)] ++ (pk l w ++ rest) := by rw [← List.drop_drop, h, List.drop_left]
  have h2 := bytes_fwd s hlen (p + (vput l.length).length) [(w : Int)] (pk l w ++ rest) (by omega) hd
  have hd2 : s.drop (p + (vput l.length).length + 1) = pk l w ++ rest := by rw [← List.drop_drop, hd]; rfl
  have h3 := bytes_fwd s hlen (p + (vput l.length).length + 1) (pk l w) rest (by omega) hd2
  have hm := mul_le32 l.length w (by omega) h32
  have hsz := psize_ev l.length w (by omega) h32
  have hpk := pk_length l w
  rw [hpk] at h3
  have hby : cursor_Cursor_Byte.f s ((p + (vput l.length).length : Nat) : Int) 0 = some ((w : Int), ((p + (vput l.length).length + 1 : Nat) : Int), 0) := by
    rw [show (([(w : Int)] : List Int).length : Int) = 1 from rfl] at h2
    unfold cursor_Cursor_Byte.f
    have : rd [(w : Int)] 0 = w := rfl
    rw [h2, Option.bind_some]
    simp only [this, List.length_singleton]
    rw [if_pos (show ((1 : Nat) : Int) = 1 from rfl), if_pos (by omega), w64 (w : Int) (by omega)]
  have hgv := gvs_pk l w (pw_ok l w hx hw)
  have hL := pread_loop (pk l w) (bmN_byte _ _ _) w l.length h32 (by omega) w (by rw [hgv]; exact hw) s ((p + (pw l w).length : Nat) : Int) 0 l.length 0 (by omega)
  rw [hgv, if_pos ⟨rfl, rfl⟩] at hL
  refine Ev.of_eq (fun k => ?_) hL
  unfold pack_Read.f
  rw [h1, Option.bind_some]
  simp only
  rw [hby, Option.bind_some, if_neg (by simp only; omega), hsz, Option.bind_some, h3, Option.bind_some, Option.bind_some, if_neg (by simp only [hpk]; omega), hpwl, hpk, ← Nat.add_assoc, ← Nat.add_assoc]
  rfl
end
theorem rising_loop (r : List Int) (hr : ∀ x ∈ r, 0 ≤ x ∧ x < 4294967296) (hl : r.length ≤ 1000000) : ∀ m i : Nat, ∀ out : List Int, i + m = r.length → diffs out 0 = r.take i → (∀ x ∈ out, 0 ≤ x ∧ x ≤ 16777215) →
    ∃ (o : List Int) (ok : Bool), Ev (fun k => gram_rising.l0 k out (out.getLastD 0) r (r.length : Int) (i : Int)) (o, ok) ∧ (ok = true → diffs o 0 = r ∧ ∀ x ∈ o, 0 ≤ x ∧ x ≤ 16777215)
  | 0, i, out, h, hd, ho => by
    refine ⟨out, true, Ev.succ (Ev.of_eq (G := fun _ => some (out, true)) (fun k => ?_) (Ev.const _)), fun _ => ⟨?_, ho⟩⟩
    · rw [gram_rising.l0, if_neg (by omega)]
    · rw [hd, List.take_of_length_le (by omega)]
  | m + 1, i, out, h, hd, ho => by
    have hi : i < r.length := by omega
    have hri := hr _ (List.getElem_mem hi)
    have hla : 0 ≤ out.getLastD 0 ∧ out.getLastD 0 ≤ 16777215 := by
      cases e : out.getLast? with
      | none => rw [List.getLastD_eq_getLast?, e]; simp
      | some y =>
        rw [List.getLastD_eq_getLast?, e]
        exact ho y (List.mem_of_getLast? e)
    have hlen : out.length = i := by
      have := congrArg List.length hd
      rw [diffs_length, List.length_take] at this
      omega
    have hstop : Ev (fun _ : Nat => some (([] : List Int), false)) ([], false) := Ev.const _
    by_cases hbad : (r[i] = 0 ∧ 0 < i) ∨ 16777215 - out.getLastD 0 < r[i]
    · refine ⟨[], false, Ev.succ (Ev.of_eq (fun k => ?_) hstop), fun hc => by cases hc⟩
      rw [gram_rising.l0, if_pos (by omega), if_pos (by omega), if_pos (by omega), rd_at r i hi, w64 (16777215 - out.getLastD 0) (by omega)]
      by_cases h0 : r[i] = 0
      · rw [if_pos h0]
        by_cases hi0 : 0 < i
        · rw [if_pos (by omega)]
        · rw [if_neg (by omega), if_pos (by omega)]
      · rw [if_neg h0, if_pos (by omega)]
    · obtain ⟨o, ok, hE, h2⟩ := rising_loop r hr hl m (i + 1) (out ++ [out.getLastD 0 + r[i]]) (by omega) (by
        rw [diffs_append, hd, List.take_succ_eq_append_getElem hi]
        simp only [diffs]
        rw [show out.getLastD 0 + r[i] - out.getLastD 0 = r[i] by omega]) (fun x hx => by
        rcases List.mem_append.1 hx with hx | hx
        · exact ho x hx
        · rw [List.mem_singleton] at hx
          omega)
      refine ⟨o, ok, Ev.succ (Ev.of_eq (fun k => ?_) hE), h2⟩
      have el : (out ++ [out.getLastD 0 + r[i]]).getLastD 0 = out.getLastD 0 + r[i] := by
        rw [List.getLastD_eq_getLast?, List.getLast?_append]
        rfl
      rw [gram_rising.l0, if_pos (by omega), if_pos (by omega), if_pos (by omega), rd_at r i hi, w64 (16777215 - out.getLastD 0) (by omega), w64 (out.getLastD 0 + r[i]) (by omega), w64 ((i : Int) + 1) (by omega), el]
      by_cases h0 : r[i] = 0
      · rw [if_pos h0, if_neg (by omega), if_neg (by omega), if_pos (by omega)]
        rfl
      · rw [if_neg h0, if_neg (by omega), if_pos (by omega)]
        rfl
theorem rising_spec (r : List Int) (hr : ∀ x ∈ r, 0 ≤ x ∧ x < 4294967296) (hl : r.length ≤ 1000000) : ∃ (o : List Int) (ok : Bool), Ev (fun k => gram_rising.f k r) (o, ok) ∧ (ok = true → diffs o 0 = r ∧ ∀ x ∈ o, 0 ≤ x ∧ x ≤ 16777215) :=
  rising_loop r hr hl r.length 0 [] (by omega) rfl (by simp)
theorem rising_fwd_loop (l : List Int) (hl : l.length ≤ 1000000) (hp : l.Pairwise (· < ·)) (hx : ∀ x ∈ l, 0 ≤ x ∧ x ≤ 16777215) : ∀ m i : Nat, i + m = l.length →
    Ev (fun k => gram_rising.l0 k (l.take i) ((l.take i).getLastD 0) (diffs l 0) ((diffs l 0).length : Int) (i : Int)) (l, true)
  | 0, i, h => by
    refine Ev.succ (Ev.of_eq (G := fun _ => some (l, true)) (fun k => ?_) (Ev.const _))
    rw [gram_rising.l0, if_neg (by rw [diffs_length]; omega), List.take_of_length_le (by omega)]
  | m + 1, i, h => by
    have hi : i < l.length := by omega
    have hid : i < (diffs l 0).length := by rw [diffs_length]; exact hi
    have ih := rising_fwd_loop l hl hp hx m (i + 1) (by omega)
    have hxi := hx _ (List.getElem_mem hi)
    have hdi : (diffs l 0)[i] = l[i] - (l.take i).getLastD 0 := by
      have h1 : diffs l 0 = diffs (l.take (i + 1)) 0 ++ diffs (l.drop (i + 1)) ((l.take (i + 1)).getLastD 0) := by rw [← diffs_append, List.take_append_drop]
      have h2 : (diffs l 0)[i]? = some (l[i] - (l.take i).getLastD 0) := by
        rw [h1, List.getElem?_append_left (by rw [diffs_length, List.length_take]; omega), diffs_take l i hi, List.getElem?_append_right (by rw [diffs_length, List.length_take]; omega), diffs_length, List.length_take, show i - min i l.length = 0 by omega]
        rfl
      rw [List.getElem?_eq_getElem hid] at h2
      exact Option.some.inj h2
    have hla : 0 ≤ (l.take i).getLastD 0 ∧ (0 < i → (l.take i).getLastD 0 < l[i]) ∧ (i = 0 → (l.take i).getLastD 0 = 0) := by
      rcases Nat.eq_zero_or_pos i with e | e
      · subst e; simp
      · have h1 := last_take l (i - 1) (by omega)
        rw [show i - 1 + 1 = i by omega] at h1
        rw [h1]
        exact ⟨(hx _ (List.getElem_mem _)).1, fun _ => List.pairwise_iff_getElem.1 hp (i - 1) i (by omega) hi (by omega), fun h => by omega⟩
    rw [last_take l i hi, List.take_succ_eq_append_getElem hi] at ih
    refine Ev.succ (Ev.of_eq (fun k => ?_) ih)
    have hlt : (l.take i).length = i := by rw [List.length_take]; omega
    generalize (l.take i).getLastD 0 = a at hla hdi ⊢
    rw [gram_rising.l0, if_pos (by omega), if_pos (by omega), if_pos (by omega), rd_at _ i hid, hdi, w64 (16777215 - a) (by omega), w64 (a + (l[i] - a)) (by omega), w64 ((i : Int) + 1) (by omega), show a + (l[i] - a) = l[i] by omega]
    by_cases h0 : l[i] - a = 0
    · rw [if_pos h0, if_neg (by omega), if_neg (by omega), if_pos (by omega)]
      rfl
    · rw [if_neg h0, if_neg (by omega), if_pos (by omega)]
      rfl
theorem rising_fwd (l : List Int) (hl : l.length ≤ 1000000) (hp : l.Pairwise (· < ·)) (hx : ∀ x ∈ l, 0 ≤ x ∧ x ≤ 16777215) : Ev (fun k => gram_rising.f k (diffs l 0)) (l, true) := rising_fwd_loop l hl hp hx l.length 0 (by omega)
end Go.Proofs.Ytafigfhlpjnejaa.Pure
