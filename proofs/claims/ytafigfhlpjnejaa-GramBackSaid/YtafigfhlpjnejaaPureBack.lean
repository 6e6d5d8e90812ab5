/- The plain law of GramBack: written by hand for this claim. -/
import Derived.Test.YtafigfhlpjnejaaPureZ
import Derived.Test.YtafigfhlpjnejaaPureR
import Derived.Test.YtafigfhlpjnejaaPureS
import Derived.Test.YtafigfhlpjnejaaBackB
namespace Go.Proofs.Ytafigfhlpjnejaa.Pure
open Go Go.RowKit Go.Proofs.YtafigfhlpjnejaaW.PrintWords Go.Proofs.YtafigfhlpjnejaaW.PrintLast Go.Proofs.YtafigfhlpjnejaaW.PrintMore
open Go.Proofs.Ytafigfhlpjnejaa.Pg Go.Proofs.YtafigfhlpjnejaaH
/-- What a filter that was read must be. -/
def FOk (b : Int) (l : List Int) (m : List Bool) (w : Nat) : Prop := (0 ≤ b ∧ b ≤ 65536) ∧ l.length ≤ 1000000 ∧ m.length ≤ 1000000 ∧ (∀ x ∈ l, 0 ≤ x ∧ x < 4294967296) ∧ (∀ x ∈ diffs l 0, 0 ≤ x ∧ x < 4294967296) ∧ IsW (diffs l 0) w ∧ w ≤ 32
theorem good_eq (s : List Int) (p e : Int) : cursor_Cursor_Good.f s p e = some ((e == 0), p, e) := rfl
theorem j0_true (s : List Int) (p e b : Int) (l : List Int) (m : List Bool) : Ev (fun k => gram_Read.j0 k true s p e b l m) (if e = 0 then (b, l, m, p, e) else (0, [], [], p, e)) := by
  refine Ev.succ (Ev.of_eq (G := fun _ => some (if e = 0 then (b, l, m, p, e) else (0, [], [], p, e))) (fun k => ?_) (Ev.const _))
  rw [gram_Read.j0, if_pos rfl, good_eq, Option.bind_some]
  by_cases h : e = 0
  · rw [if_pos (by simpa using h), if_pos h]
  · rw [if_neg (by simpa using h), if_neg h]
theorem j0_false (s : List Int) (p e b : Int) (l : List Int) (m : List Bool) : Ev (fun k => gram_Read.j0 k false s p e b l m) (0, [], [], p, err3 e) := by
  refine Ev.succ (Ev.of_eq (G := fun _ => some (0, [], [], p, err3 e)) (fun k => ?_) (Ev.const _))
  rw [gram_Read.j0, if_neg (by simp), fail_eq, Option.bind_some, good_eq, Option.bind_some]
  have := err3_ne e
  rw [if_neg (by simpa using this)]
theorem gread_spec (s : List Int) (hs : BOk s) (hlen : s.length ≤ 70000000000000) : ∃ (b : Int) (l : List Int) (m : List Bool) (q : Nat) (e : Int), Ev (fun k => gram_Read.f k s 0 0) (b, l, m, (q : Int), e) ∧ q ≤ s.length ∧ (e = 0 → ∃ w, FOk b l m w ∧ gw b l m w = s.take q) ∧ (e ≠ 0 → b = 0 ∧ l = [] ∧ m = []) := by
  obtain ⟨x, q1, e1, h1, h2, h3, h4, h5⟩ := most_spec s hs 0 65536 0 (by omega)
  rw [show ((0 : Nat) : Int) = 0 from rfl, show ((65536 : Nat) : Int) = 65536 from rfl] at h1
  by_cases he1 : e1 = 0
  · subst he1
    by_cases hx : (x : Int) > 0
    · obtain ⟨r, q2, e2, g1, g2, g3, g4, g5⟩ := bread_spec s hs hlen q1 65536 0 h4 (by omega)
      rw [show ((65536 : Nat) : Int) = 65536 from rfl] at g1
      have hE : ∀ R, Ev (fun k => gram_Read.j0 k ((r.length : Int) == (x : Int)) s (q2 : Int) e2 (x : Int) ([] : List Int) r) R → Ev (fun k => gram_Read.f k s 0 0) R := fun R hR => Ev.via g1 hR (fun k hk => by
        unfold gram_Read.f
        rw [h1, Option.bind_some, good_eq, Option.bind_some, if_pos (show ((0 : Int) == 0) = true from rfl), if_pos hx]
        simp only
        rw [hk, Option.bind_some])
      by_cases hr : r.length = x
      · rw [show ((r.length : Int) == (x : Int)) = true by rw [beq_iff_eq]; omega] at hE
        have hE := hE _ (j0_true s q2 e2 x [] r)
        by_cases he2 : e2 = 0
        · rw [if_pos he2] at hE
          refine ⟨x, [], r, q2, e2, hE, g4, fun _ => ⟨0, ⟨⟨by omega, by omega⟩, by simp, by omega, by simp, by simp [diffs], IsW.nil, by omega⟩, ?_⟩, fun hc => absurd he2 hc⟩
          obtain ⟨_, k1⟩ := g5 he2
          obtain ⟨_, k2⟩ := h5 rfl
          unfold gw
          rw [if_pos hx, Int.toNat_natCast, ← k1, ← k2, seg_append s 0 q1 q2 h3 g3]
          simp [seg]
        · rw [if_neg he2] at hE
          exact ⟨0, [], [], q2, e2, hE, g4, fun hc => absurd hc he2, fun _ => ⟨rfl, rfl, rfl⟩⟩
      · rw [show ((r.length : Int) == (x : Int)) = false by rw [beq_eq_false_iff_ne]; omega] at hE
        exact ⟨0, [], [], q2, _, hE _ (j0_false s q2 e2 x [] r), g4, fun hc => absurd hc (err3_ne _), fun _ => ⟨rfl, rfl, rfl⟩⟩
    · obtain rfl : x = 0 := by omega
      obtain ⟨r, q2, e2, g1, g2, gr, g3, g4, g5⟩ := pread_spec s hs hlen q1 65536 0 h4 (by omega)
      rw [show ((65536 : Nat) : Int) = 65536 from rfl] at g1
      obtain ⟨o, ok, f1, f2⟩ := rising_spec r gr (by omega)
      have hE : ∀ R, Ev (fun k => gram_Read.j0 k ok s (q2 : Int) e2 ((0 : Nat) : Int) o []) R → Ev (fun k => gram_Read.f k s 0 0) R := fun R hR => Ev.via g1 (Ev.via f1 hR (H := fun k => (gram_rising.f k r).bind fun bt471 => gram_Read.j0 k bt471.2 s (q2 : Int) e2 ((0 : Nat) : Int) bt471.1 ([] : List Bool)) (fun k hk => by rw [hk, Option.bind_some])) (fun k hk => by
        unfold gram_Read.f
        rw [h1, Option.bind_some, good_eq, Option.bind_some, if_pos (show ((0 : Int) == 0) = true from rfl), if_neg hx]
        simp only
        rw [hk, Option.bind_some])
      cases ok with
      | true =>
        have hE := hE _ (j0_true s q2 e2 _ o [])
        by_cases he2 : e2 = 0
        · rw [if_pos he2] at hE
          obtain ⟨k1, k2⟩ := f2 rfl
          obtain ⟨_, w, k3, k4, k5⟩ := g5 he2
          obtain ⟨_, k6⟩ := h5 rfl
          have hol : o.length = r.length := by rw [← k1, diffs_length]
          refine ⟨_, o, [], q2, e2, hE, g4, fun _ => ⟨w, ⟨⟨by omega, by omega⟩, by omega, by simp, fun x hx => by have := k2 x hx; omega, by rw [k1]; exact gr, by rw [k1]; exact k4, k3⟩, ?_⟩, fun hc => absurd he2 hc⟩
          unfold gw
          rw [if_neg hx, k1, ← k5, ← k6, seg_append s 0 q1 q2 h3 g3]
          simp [seg]
        · rw [if_neg he2] at hE
          exact ⟨0, [], [], q2, e2, hE, g4, fun hc => absurd hc he2, fun _ => ⟨rfl, rfl, rfl⟩⟩
      | false => exact ⟨0, [], [], q2, _, hE _ (j0_false s q2 e2 _ o []), g4, fun hc => absurd hc (err3_ne _), fun _ => ⟨rfl, rfl, rfl⟩⟩
  · refine ⟨0, [], [], q1, e1, Ev.of_eq (G := fun _ => some (0, [], [], (q1 : Int), e1)) (fun k => ?_) (Ev.const _), h4, fun hc => absurd hc he1, fun _ => ⟨rfl, rfl, rfl⟩⟩
    unfold gram_Read.f
    rw [h1, Option.bind_some, good_eq, Option.bind_some, if_neg (by simpa using he1)]
theorem pw_byte (l : List Int) (w : Nat) (h : w ≤ 32) : BOk (pw l w) := fun c hc => by
  unfold pw at hc
  rcases List.mem_append.1 hc with hc | hc
  · rcases List.mem_append.1 hc with hc | hc
    · exact vput_byte _ _ (Nat.le_refl _) c hc
    · rw [List.mem_singleton] at hc
      omega
  · exact bmN_byte _ _ _ c hc
theorem gw_byte (b : Int) (l : List Int) (m : List Bool) (w : Nat) (h : w ≤ 32) : BOk (gw b l m w) := fun c hc => by
  unfold gw at hc
  split at hc
  · rcases List.mem_append.1 hc with hc | hc
    · exact vput_byte _ _ (Nat.le_refl _) c hc
    · rcases List.mem_append.1 hc with hc | hc
      · exact vput_byte _ _ (Nat.le_refl _) c hc
      · exact bmN_byte _ _ _ c hc
  · rcases List.mem_append.1 hc with hc | hc
    · exact vput_byte _ _ (Nat.le_refl _) c hc
    · exact pw_byte _ _ h c hc
theorem gw_length (b : Int) (l : List Int) (m : List Bool) (w : Nat) (h : FOk b l m w) : (gw b l m w).length ≤ 50000000000 := by
  obtain ⟨hb, hl, hm, _, _, _, hw⟩ := h
  have h9 : (128 : Nat) ^ 9 = 9223372036854775808 := by decide
  unfold gw
  split
  · have v1 := vput_len 9 b.toNat (by omega) (by omega)
    have v2 := vput_len 9 m.length (by omega) (by omega)
    have v3 := bm_length m
    rw [List.length_append, List.length_append]
    omega
  · have v1 := pw_length (diffs l 0) w (by rw [diffs_length]; omega) hw
    have v2 := vput_len 9 0 (by omega) (by omega)
    rw [List.length_append]
    omega
theorem gread_fwd (b : Int) (l : List Int) (m : List Bool) (w : Nat) (h : FOk b l m w) (h1 : 0 < b → m.length = b.toNat ∧ l = []) (h2 : b = 0 → m = [] ∧ l.Pairwise (· < ·) ∧ (∀ x ∈ l, 0 ≤ x ∧ x ≤ 16777215) ∧ l.length ≤ 65536) :
    Ev (fun k => gram_Read.f k (gw b l m w) 0 0) (b, l, m, ((gw b l m w).length : Int), 0) := by
  have hlen := gw_length b l m w h
  obtain ⟨hb, hl, hm, hx, hd, hW, hw⟩ := h
  have hB := gw_byte b l m w hw
  have h9 : (128 : Nat) ^ 9 = 9223372036854775808 := by decide
  obtain ⟨n, rfl⟩ : ∃ n : Nat, b = n := ⟨b.toNat, by omega⟩
  generalize hs : gw (n : Int) l m w = s at *
  by_cases h0 : (n : Int) > 0
  · obtain ⟨hml, rfl⟩ := h1 h0
    rw [Int.toNat_natCast] at hml
    unfold gw at hs
    rw [if_pos (by omega), Int.toNat_natCast] at hs
    have a1 := most_fwd s hB 0 n 65536 (vput m.length ++ bm m) (by omega) (by omega) (by omega) (by rw [List.drop_zero, hs])
    rw [show ((0 : Nat) : Int) = 0 from rfl, show ((65536 : Nat) : Int) = 65536 from rfl, Nat.zero_add] at a1
    have hdr : s.drop (vput n).length = vput m.length ++ (bm m ++ []) := by rw [← hs, List.drop_left, List.append_nil]
    have hsl : s.length = (vput n).length + (vput m.length ++ bm m).length := by rw [← hs, List.length_append]
    have a2 := bread_fwd s hB (by omega) (vput n).length 65536 m [] (by omega) (by omega) (by omega) hdr
    rw [show ((65536 : Nat) : Int) = 65536 from rfl] at a2
    refine Ev.via a2 (j0_true s (s.length : Int) 0 n [] m) (fun k hk => ?_)
    unfold gram_Read.f
    rw [a1, Option.bind_some, good_eq, Option.bind_some, if_pos (show ((0 : Int) == 0) = true from rfl), if_pos h0]
    simp only
    rw [hk, Option.bind_some, show ((m.length : Int) == (n : Int)) = true by rw [beq_iff_eq]; omega, hsl]
  · obtain rfl : n = 0 := by omega
    obtain ⟨rfl, hp, hr, hln⟩ := h2 rfl
    unfold gw at hs
    rw [if_neg (by omega)] at hs
    have a1 := most_fwd s hB 0 0 65536 (pw (diffs l 0) w) (by omega) (by omega) (by omega) (by rw [List.drop_zero, hs])
    rw [show ((0 : Nat) : Int) = 0 from rfl, show ((65536 : Nat) : Int) = 65536 from rfl, Nat.zero_add] at a1
    have hdr : s.drop (vput 0).length = pw (diffs l 0) w ++ [] := by rw [← hs, List.drop_left, List.append_nil]
    have hsl : s.length = (vput 0).length + (pw (diffs l 0) w).length := by rw [← hs, List.length_append]
    have a2 := pread_fwd s hB (by omega) (vput 0).length 65536 (diffs l 0) [] w (by omega) (by rw [diffs_length]; omega) (by omega) hd hW hw hdr
    rw [show ((65536 : Nat) : Int) = 65536 from rfl] at a2
    have a3 := rising_fwd l (by omega) hp hr
    refine Ev.via a2 (Ev.via a3 (j0_true s (s.length : Int) 0 0 l []) (H := fun k => (gram_rising.f k (diffs l 0)).bind fun bt471 => gram_Read.j0 k bt471.2 s (s.length : Int) 0 0 bt471.1 ([] : List Bool)) (fun k hk => by rw [hk, Option.bind_some])) (fun k hk => ?_)
    unfold gram_Read.f
    rw [a1, Option.bind_some, good_eq, Option.bind_some, if_pos (show ((0 : Int) == 0) = true from rfl), if_neg (by omega)]
    simp only
    rw [hk, Option.bind_some, hsl]
theorem diffs_ok : ∀ (l : List Int) (a : Int), l.Pairwise (· < ·) → (∀ x ∈ l, a ≤ x ∧ x < 16777216) → 0 ≤ a → ∀ y ∈ diffs l a, 0 ≤ y ∧ y < 4294967296
  | [], _, _, _, _ => by simp [diffs]
  | x :: t, a, hp, hx, ha => fun y hy => by
    have h0 := hx x List.mem_cons_self
    rw [List.pairwise_cons] at hp
    rcases List.mem_cons.1 hy with rfl | hy
    · omega
    · exact diffs_ok t x hp.2 (fun z hz => ⟨by have := hp.1 z hz; omega, (hx z (List.mem_cons_of_mem _ hz)).2⟩) (by omega) y hy
theorem want_ok (l : List ByteArray) (b : Int) (hb : 0 ≤ b ∧ b ≤ 65536) (ht : total l ≤ 65536) : ∃ w, FOk (want l b).1 (want l b).2.1 (want l b).2.2 w ∧ (0 < (want l b).1 → (want l b).2.2.length = (want l b).1.toNat ∧ (want l b).2.1 = []) ∧
    ((want l b).1 = 0 → (want l b).2.2 = [] ∧ (want l b).2.1.Pairwise (· < ·) ∧ (∀ x ∈ (want l b).2.1, 0 ≤ x ∧ x ≤ 16777215) ∧ (want l b).2.1.length ≤ 65536) := by
  have hbits := want_bits l b
  have hlen := want_len l b ht
  have hlist := want_list l b
  have hset := want_set l b
  have hr : ∀ x ∈ (want l b).2.1, 0 ≤ x ∧ x < 16777216 := fun x hx => by
    unfold want at hx
    split at hx
    · exact flat_range l x ((mem_asc _ x).1 hx)
    · simp at hx
  have hd := diffs_ok (want l b).2.1 0 hlist hr (by omega)
  obtain ⟨w, _, hW, h32⟩ := pwidth_ev (diffs (want l b).2.1 0) (by rw [diffs_length]; omega) hd
  have hm : (want l b).2.2.length ≤ 1000000 := by
    by_cases h0 : 0 < (want l b).1
    · rw [hset h0]; omega
    · have : b = 0 := by omega
      unfold want
      rw [if_pos this]
      simp
  refine ⟨w, ⟨⟨by omega, by omega⟩, by omega, hm, fun x hx => by have := hr x hx; omega, hd, hW, h32⟩, fun h0 => ⟨hset h0, ?_⟩, fun h0 => ⟨?_, hlist, fun x hx => by have := hr x hx; omega, hlen⟩⟩
  · unfold want
    rw [if_neg (by omega)]
  · unfold want
    rw [if_pos (by omega)]
theorem same01 (a : List Int) : hopperref01_Same.f a a = some true := by
  unfold hopperref01_Same.f
  simp
theorem half_ev (s : List Int) (hs : BOk s) (hl : s.length ≤ 1000) : Ev (fun k => hopperlaw15_GramBack.half k s) true := by
  obtain ⟨b, l, m, q, e, h1, h2, h3, h4⟩ := gread_spec s hs (by omega)
  have hc : slices_Clone_byte_byte.f s = some s := by
    unfold slices_Clone_byte_byte.f
    rw [if_pos (by omega)]
  by_cases he : e = 0
  · obtain ⟨w, ⟨f1, f2, f3, f4, f5, f6, f7⟩, hw⟩ := h3 he
    obtain ⟨_, g2⟩ := gwrite_ev b l m w f1 f2 f3 f4 f5 f6 f7
    rw [hw] at g2
    refine Ev.via h1 (Ev.via g2 (Ev.const _) (H := fun k => (hopperref15_Write.f k b l m).bind fun z => (cursor_Cursor_Left.f s (q : Int) e).bind fun n => if 0 ≤ (s.length : Int) - n.1 ∧ (s.length : Int) - n.1 ≤ s.length then hopperref01_Same.f z (s.take ((s.length : Int) - n.1).toNat) else none) (fun k hk => ?_)) (fun k hk => ?_)
    · rw [hk, Option.bind_some]
      unfold cursor_Cursor_Left.f
      rw [Option.bind_some]
      simp only
      rw [w64 _ (by omega), if_pos (by omega), show ((s.length : Int) - ((s.length : Int) - (q : Int))).toNat = q by omega]
      exact same01 _
    · unfold hopperlaw15_GramBack.half
      rw [hc, Option.bind_some, if_pos rfl, hk, Option.bind_some, good_eq, Option.bind_some, if_pos (by simpa using he)]
  · obtain ⟨rfl, rfl, rfl⟩ := h4 he
    have hsame := same_ev 0 [] [] (by decide) (by decide)
    refine Ev.via h1 hsame (fun k hk => ?_)
    unfold hopperlaw15_GramBack.half
    rw [hc, Option.bind_some, if_pos rfl, hk, Option.bind_some, good_eq, Option.bind_some, if_neg (by simpa using he)]
theorem main_ev (l : List ByteArray) (b : Int) (s : List Int) (hb : 0 ≤ b ∧ b ≤ 65535) (ht : total l ≤ 2000) (hl : l.length ≤ 150) (hs : BOk s) (hsl : s.length ≤ 1000) : Ev (fun k => hopperlaw15_GramBack.main k l b s) true := by
  have e1 : Int.tmod (wrap64 b) 3000 = b % 3000 := by
    rw [w64 _ (by omega), Int.tmod_eq_emod_of_nonneg (by omega)]
  have hr := refmake_ev l (b % 3000) (by omega) (by omega) (by omega)
  obtain ⟨w, hF, hA, hB⟩ := want_ok l (b % 3000) (by omega) (by omega)
  generalize want l (b % 3000) = f at *
  obtain ⟨fb, fl, fm⟩ := f
  simp only at hF hA hB
  have hgl := gw_length fb fl fm w hF
  have hrd := gread_fwd fb fl fm w hF hA hB
  obtain ⟨f1, f2, f3, f4, f5, f6, f7⟩ := hF
  obtain ⟨g1, g2⟩ := gwrite_ev fb fl fm w f1 f2 f3 f4 f5 f6 f7
  have hsame := same_ev fb fl fm (by omega) (by omega)
  have hh := half_ev s hs hsl
  generalize gw fb fl fm w = x at *
  have hc : slices_Clone_byte_byte.f x = some x := by
    unfold slices_Clone_byte_byte.f
    rw [if_pos (by omega)]
  have hend : cursor_Cursor_End.f x (x.length : Int) 0 = some (0, (x.length : Int), 0) := by
    unfold cursor_Cursor_End.f cursor_Cursor_Left.f
    rw [if_pos rfl, Option.bind_some, w64 _ (by omega), if_neg (by simp only; omega)]
  obtain ⟨K1, k1⟩ := hr
  obtain ⟨K2, k2⟩ := g1
  obtain ⟨K3, k3⟩ := g2
  obtain ⟨K4, k4⟩ := hrd
  obtain ⟨K5, k5⟩ := hsame
  obtain ⟨K6, k6⟩ := hh
  refine ⟨K1 + K2 + K3 + K4 + K5 + K6, fun k hk => ?_⟩
  have k1 := k1 k (by omega)
  have k2 := k2 k (by omega)
  have k3 := k3 k (by omega)
  have k4 := k4 k (by omega)
  have k5 := k5 k (by omega)
  have k6 := k6 k (by omega)
  simp only at k1 k2 k3 k4 k5 k6
  show hopperlaw15_GramBack.main k l b s = _
  unfold hopperlaw15_GramBack.main
  rw [e1, k1, Option.bind_some, k2, Option.bind_some, hc, Option.bind_some, if_pos rfl, k3, Option.bind_some, same01, Option.bind_some, if_pos rfl, k4, Option.bind_some, k5, Option.bind_some, if_pos rfl, hend, Option.bind_some, if_pos rfl, k6]
/-- GramBack, in the walk's words. -/
theorem gramBack (l : List ByteArray) (b : Int) (s : List Int) (hl : l.length ≤ 9000000000000000000) (hs : ∀ s ∈ l, s.size ≤ 9000000000000000000) (hb : (Lit.int .u16 b).wf = true) (hB : ∀ c ∈ s, (Lit.int .u8 c).wf = true) : ∃ k, hopperlaw15_GramBack.f k l b s = some true := by
  have hb2 : 0 ≤ b ∧ b ≤ 65535 := by
    have h : (decide (IntKind.u16.min ≤ b) && decide (b ≤ IntKind.u16.max)) = true := hb
    rw [show IntKind.u16.min = 0 by decide, show IntKind.u16.max = 65535 by decide] at h
    simpa using h
  have hBO : BOk s := fun c hc => by
    have h : (decide (IntKind.u8.min ≤ c) && decide (c ≤ IntKind.u8.max)) = true := hB c hc
    rw [show IntKind.u8.min = 0 by decide, show IntKind.u8.max = 255 by decide] at h
    simpa using h
  obtain ⟨few, hf, hf2⟩ := few_ev l hl hs
  refine Ev.get (F := fun k => hopperlaw15_GramBack.f k l b s) (Ev.via awake_ev (Ev.via hf (G := fun k => if few = true ∧ s.length ≤ 1000 then hopperlaw15_GramBack.main k l b s else some true) (H := fun k => (hopperref15_Few.f k l).bind fun u => if u = true ∧ s.length ≤ 1000 then hopperlaw15_GramBack.main k l b s else some true) ?_ (fun k hk => by rw [hk, Option.bind_some])) (fun k hk => by unfold hopperlaw15_GramBack.f; rw [hk, Option.bind_some, if_pos rfl]))
  by_cases h : few = true ∧ s.length ≤ 1000
  · obtain ⟨h1, h2⟩ := hf2 h.1
    exact Ev.of_eq (fun k => if_pos h) (main_ev l b s hb2 h2 h1 hBO h.2)
  · exact Ev.of_eq (G := fun _ => some true) (fun k => if_neg h) (Ev.const _)
end Go.Proofs.Ytafigfhlpjnejaa.Pure
