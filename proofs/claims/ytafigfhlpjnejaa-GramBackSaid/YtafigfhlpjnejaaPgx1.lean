-- Written by a program of this session out of Lean's print of the program (a turned print); checked by Lean.
import Derived.Test.YtafigfhlpjnejaaPgx0
import Derived.Carry
import Derived.Laws.ResultCell
import Derived.OwnWalk
import Derived.Test.YtafigfhlpjnejaaAsc
import Derived.Test.YtafigfhlpjnejaaHelp
import Derived.Test.YtafigfhlpjnejaaShelf
namespace Go.Proofs.Ytafigfhlpjnejaa.Pg
open Go.RowKit Go.Proofs.YtafigfhlpjnejaaW.PrintWords Go.Proofs.YtafigfhlpjnejaaW.PrintLast Go.Proofs.YtafigfhlpjnejaaW.PrintMore
attribute [local go_sem] max2_int min2_int max_two min_two max_three min_three max_four min_four   -- for this text's walks alone
set_option linter.unusedVariables false
set_option linter.unusedSimpArgs false
def slices_Sort_int_int.f (l0 : List Int) : Option (List Int) := if l0.length < 4611686018427387904 then some (l0.mergeSort fun x y => decide (x ≤ y)) else none
theorem slices_Sort_int_int.calls (P0_ : Nat → Prop) (u9000_ : Value) (l0 : List Int) (r : List Int) (w0 w : World) (hB : Below w0.heap.size w0 w) (ho0 : Kd.R (Kd.int .i64) 3 w w0.heap.size P0_ u9000_ l0) (h : slices_Sort_int_int.f l0 = some r) :
    Calls Try.prog 30 #[u9000_] w fun e w' => e = .returned (.tuple #[]) ∧ Kd.R (Kd.int .i64) 3 w' w0.heap.size (fun k_ => (P0_ k_ ∨ w.heap.size ≤ k_)) u9000_ r ∧ Below w0.heap.size w0 w' ∧ Kept w w' (fun k_ => P0_ k_) := by
  unfold slices_Sort_int_int.f at h
  by_cases hl : l0.length < 4611686018427387904
  · rw [if_pos hl] at h
    obtain rfl := Option.some.inj h
    exact YtafigfhlpjnejaaH.sorted_kd (by simp [List.length_mergeSort]) (fun blk cap hH hlt => Try.slices_Sort_int blk 0 cap l0 w hH hlt hl) (fun p cap => Try.slices_Sort_int_none p cap w) hB ho0
  · rw [if_neg hl] at h
    cases h
def slices_Compact_int_int.f (l0 : List Int) : Option (List Int) := some (Go.Lib.compact l0)
theorem slices_Compact_int_int.calls (P0_ : Nat → Prop) (u9000_ : Value) (l0 : List Int) (r : List Int) (w0 w : World) (hB : Below w0.heap.size w0 w) (ho0 : Kd.R (Kd.int .i64) 3 w w0.heap.size P0_ u9000_ l0) (h : slices_Compact_int_int.f l0 = some r) :
    Calls Try.prog 32 #[u9000_] w fun e w' => ∃ v0_ : Value, e = .returned (v0_) ∧ Kd.R (Kd.int .i64) 3 w' w0.heap.size (fun k_ => (P0_ k_ ∨ w.heap.size ≤ k_)) v0_ r ∧ Below w0.heap.size w0 w' ∧ Kept w w' (fun k_ => P0_ k_) := by
  obtain rfl := Option.some.inj h
  have hle : (Go.Lib.compact l0).length ≤ l0.length := by
    unfold Go.Lib.compact Go.Lib.compactUpTo
    rw [List.length_map]
    exact Nat.le_trans (List.length_filter_le _ _) (by simp)
  exact YtafigfhlpjnejaaH.compacted_kd (ys := Go.Lib.compact l0) (zs := List.replicate (l0.length - (Go.Lib.compact l0).length) 0) (by simp; omega)
    (fun blk cap hH hc hm => Try.slices_Compact_int blk 0 cap l0 w hH hm hc) (fun p cap => Try.slices_Compact_int_empty p cap w) hB ho0
def gram_Grams.l0 : Nat → ByteArray → List Int → Int → Option (List Int)
  | 0, _, _, _ => none
  | k + 1, x0, x3, x4 => if (wrap64 (x4 + 3)) ≤ (x0.size : Int) then (if 0 ≤ x4 then (if x4 < (x0.size : Int) then (if 0 ≤ (wrap64 (x4 + 1)) then (if (wrap64 (x4 + 1)) < (x0.size : Int) then (if 0 ≤ (wrap64 (x4 + 2)) then (if (wrap64 (x4 + 2)) < (x0.size : Int) then (if x3.length < 17592186044416 then (gram_Grams.l0 k x0 (x3 ++ [Go.bits .or .i64 (Go.bits .or .i64 (wrap64 ((wrap64 (bt x0 x4)) * 65536)) (wrap64 ((wrap64 (bt x0 (wrap64 (x4 + 1)))) * 256))) (wrap64 (bt x0 (wrap64 (x4 + 2))))]) (wrap64 (x4 + 1))) else (none)) else (none)) else (none)) else (none)) else (none)) else (none)) else (none)) else ((slices_Sort_int_int.f x3).bind fun t104 => ((slices_Compact_int_int.f t104).bind fun t105 => (some t105)))
def gram_Grams.f (k : Nat) (a0 : ByteArray) : Option (List Int) := gram_Grams.l0 k a0 ([] : List Int) 0
def gram_Grams.T5 : Bool × List (List Nat × List Nat) := (true, [([], []), ([], []), ([], []), ([1, 2], [1, 2]), ([3], [3]), ([4], [4]), ([], []), ([], []), ([7], [7]), ([6, 8], [6, 8]), ([9], [9]), ([10], [10]), ([5, 11], [5, 11]), ([], []), ([], []), ([14], [14]), ([13, 15], [13, 15]), ([16], [16]), ([12, 17], [12, 17]), ([18], [18]), ([0, 19], [0, 19]), ([20, 20, 0, 1, 2, 3, 4, 5, 6, 7, 8, 9, 10, 11, 12, 13, 14, 15, 16, 17, 18, 19, 20], [0, 20])])
def gram_Grams.B5 : List Nat := [0, 0, 0, 6, 14, 30, 0, 0, 128, 448, 960, 1984, 4094, 0, 0, 16384, 57344, 122880, 262142, 524286, 1048575, 2097151]
theorem gram_Grams.tab5 : rtab .any (opsOf Try.f14 5) = gram_Grams.T5 := by kernel_rfl
theorem gram_Grams.bits5 : waitsOk gram_Grams.T5.2 gram_Grams.B5 = true := by kernel_rfl
set_option maxHeartbeats 8000000 in
set_option maxRecDepth 100000 in
theorem gram_Grams.calls (k : Nat) (a0 : ByteArray) (r : List Int) (w : World) (h : gram_Grams.f k a0 = some r) :
    Calls Try.prog 14 #[.string a0] w fun e w' => ∃ v0_ : Value, e = .returned (v0_) ∧ Kd.R (Kd.int .i64) 3 w' w.heap.size (fun _ => True) v0_ r ∧ Below w.heap.size w w' := by
  have HB := Aside0.mk (Below.refl w.heap.size w)
  have H : (gram_Grams.l0 k a0 ([] : List Int) 0) = some r := h
  clear h
  have H' := Aside0.mk H
  clear H
  go_enter Try.func14, Try.ntmps14
  go_wp2
  go_loopg [3, 4] k (fun kq v3 v4 w' => ∃ (x3_1 : List Int) (x4_1 : Int), v4 = .int .i64 x4_1 ∧ Aside0 (gram_Grams.l0 kq a0 x3_1 x4_1 = some r) ∧ Aside0 (kq ≤ k) ∧ Aside0 (Kd.R (Kd.int .i64) 3 w' w.heap.size (fun _ => True) v3 x3_1) ∧ Aside0 (Below w.heap.size w w'))
  case atStart => exact ⟨(([] : List Int)), (0), (by first | rfl | (simp; done) | (simp [*]; done)), H', ⟨Nat.le_refl _⟩, ⟨by first | exact Kd.R_nil _ _ _ _ _ | exact Kd.N_nil _ _ _ _ _ | exact Kd.V_nil _ _ _ _ _ | exact Kd.Q_nil _ _ _ _ _ | exact Kd.S_nil _ _ _ _ _⟩, ⟨by repeat (first | (with_reducible first | exact HB.out | apply below_alloc | apply pw_below_drewN | apply below_drew1) | exact HB.out)⟩⟩
  case round =>
    clear H'
    try clear c1
    obtain ⟨x3_1, x4_1, rfl, HA, HK1, HO_3, HB⟩ := hrel
    cases gk with
    | zero => exact absurd HA.out (by simp [gram_Grams.l0])
    | succ k1 =>
      have H := HA.out
      clear HA
      simp only [gram_Grams.l0] at H
      by_cases c2 : (wrap64 (x4_1 + 3)) ≤ (a0.size : Int)
      · rw [if_pos c2] at H
        have c2b0 : decide ((wrap64 (x4_1 + 3)) ≤ (a0.size : Int)) = true := decide_eq_true c2
        clear c2
        by_cases c3 : 0 ≤ x4_1
        · rw [if_pos c3] at H
          have c3b0 : decide (0 ≤ x4_1) = true := decide_eq_true c3
          clear c3
          by_cases c4 : x4_1 < (a0.size : Int)
          · rw [if_pos c4] at H
            have c4b0 : decide (x4_1 < (a0.size : Int)) = true := decide_eq_true c4
            clear c4
            obtain ⟨ji6, hji6⟩ : ∃ j_ : Int, (wrap64 (x4_1 + 1)) = j_ := ⟨_, rfl⟩
            replace H : (if 0 ≤ (ji6) then (if (ji6) < (a0.size : Int) then (if 0 ≤ (wrap64 (x4_1 + 2)) then (if (wrap64 (x4_1 + 2)) < (a0.size : Int) then (if x3_1.length < 17592186044416 then (gram_Grams.l0 k1 a0 (x3_1 ++ [Go.bits .or .i64 (Go.bits .or .i64 (wrap64 ((wrap64 (bt a0 x4_1)) * 65536)) (wrap64 ((wrap64 (bt a0 (ji6))) * 256))) (wrap64 (bt a0 (wrap64 (x4_1 + 2))))]) ji6) else (none)) else (none)) else (none)) else (none)) else (none)) = some r := by first | (rw [hji6] at H; exact H) | (simp only [hji6] at H ⊢; exact H)
            have hji6w : (IntKind.i64.wrap (x4_1 + 1)) = ji6 := (i64_w _).trans hji6
            by_cases c7 : 0 ≤ (ji6)
            · rw [if_pos c7] at H
              have c7b0 : decide (0 ≤ (ji6)) = true := decide_eq_true c7
              clear c7
              by_cases c8 : (ji6) < (a0.size : Int)
              · rw [if_pos c8] at H
                have c8b0 : decide ((ji6) < (a0.size : Int)) = true := decide_eq_true c8
                clear c8
                obtain ⟨ji10, hji10⟩ : ∃ j_ : Int, (wrap64 (x4_1 + 2)) = j_ := ⟨_, rfl⟩
                replace H : (if 0 ≤ (ji10) then (if (ji10) < (a0.size : Int) then (if x3_1.length < 17592186044416 then (gram_Grams.l0 k1 a0 (x3_1 ++ [Go.bits .or .i64 (Go.bits .or .i64 (wrap64 ((wrap64 (bt a0 x4_1)) * 65536)) (wrap64 ((wrap64 (bt a0 (ji6))) * 256))) (wrap64 (bt a0 (ji10)))]) ji6) else (none)) else (none)) else (none)) = some r := by first | (rw [hji10] at H; exact H) | (simp only [hji10] at H ⊢; exact H)
                have hji10w : (IntKind.i64.wrap (x4_1 + 2)) = ji10 := (i64_w _).trans hji10
                by_cases c11 : 0 ≤ (ji10)
                · rw [if_pos c11] at H
                  have c11b0 : decide (0 ≤ (ji10)) = true := decide_eq_true c11
                  clear c11
                  by_cases c12 : (ji10) < (a0.size : Int)
                  · rw [if_pos c12] at H
                    have c12b0 : decide ((ji10) < (a0.size : Int)) = true := decide_eq_true c12
                    clear c12
                    by_cases c14 : x3_1.length < 17592186044416
                    · rw [if_pos c14] at H
                      have LMc14 := Aside0.mk c14
                      clear c14
                      obtain ⟨y101, hy101⟩ : ∃ y_ : List Int, y_ = (x3_1 ++ [Go.bits .or .i64 (Go.bits .or .i64 (wrap64 ((wrap64 (bt a0 x4_1)) * 65536)) (wrap64 ((wrap64 (bt a0 (ji6))) * 256))) (wrap64 (bt a0 (ji10)))]) := ⟨_, rfl⟩
                      replace H : (gram_Grams.l0 k1 a0 y101 ji6) = some r := by first | (rw [hy101]; with_reducible exact H) | (have H2_ := (Option.bind_some _ _).symm.trans H; rw [hy101]; with_reducible exact H2_) | (have H2_ := (Option.bind_some _ _).symm.trans H; with_reducible exact H2_) | with_reducible exact H | (rw [hy101]; exact H) | exact H
                      have Ny101 := Aside0.mk hy101
                      clear hy101
                      have H' := Aside0.mk H
                      clear H
                      try go_wp2
                      have n0_ := Aside0.mk (Kd.R_drew HO_3.out)
                      have n1_ := Aside0.mk (below_drew1 HB.out)
                      clear HO_3
                      clear HB
                      have HO_3 := n0_
                      have HB := n1_
                      clear n0_ n1_
                      have p5 : 0 ≤ (x4_1 : Int) := of_decide_eq_true (by first | (with_reducible assumption) | assumption)
                      have q5 : x4_1 < (a0.size : Int) := of_decide_eq_true (by first | (with_reducible assumption) | assumption)
                      have hx5 := bt_at a0 x4_1
                      replace p5 := eq_true p5
                      replace q5 := eq_true q5
                      have p9 : 0 ≤ ((ji6) : Int) := of_decide_eq_true (by first | (with_reducible assumption) | assumption)
                      have q9 : (ji6) < (a0.size : Int) := of_decide_eq_true (by first | (with_reducible assumption) | assumption)
                      have hx9 := bt_at a0 (ji6)
                      replace p9 := eq_true p9
                      replace q9 := eq_true q9
                      have p13 : 0 ≤ ((ji10) : Int) := of_decide_eq_true (by first | (with_reducible assumption) | assumption)
                      have q13 : (ji10) < (a0.size : Int) := of_decide_eq_true (by first | (with_reducible assumption) | assumption)
                      have hx13 := bt_at a0 (ji10)
                      replace p13 := eq_true p13
                      replace q13 := eq_true q13
                      refine start_ (n := 22) (S := fun w' => True) (ds := []) #[false, false, false, false, false, false, false, false, false, false, false, false, false, false, false, false, false, false, false, false, false, false] (by kernel_rfl) rfl rfl trivial (fun hHeld => ?_); refine with_tabW gram_Grams.tab5 gram_Grams.bits5 (fun HT_ HW_ => ?_)
                      generalize wr.drew = w15 at HO_3 HB hHeld ⊢
                      refine pure_ (i := 0) (N := some 12) (v := ?_) (a' := ?_) #[true, false, false, false, false, false, false, false, false, false, false, false, false, false, false, false, false, false, false, false, false, false] rfl rfl (any_of HT_.out (by kernel_rfl)) (fun _ _ _ h => h) (Or.inl ⟨by rfl, ?_⟩) ?_ ?_
                      rotate_left
                      · intro w'
                        go_simp
                        with_reducible rfl
                      rotate_left
                      · simp only [Act.put, List.setIfInBounds_toArray, List.set_cons_zero, List.set_cons_succ, i64_w, i32_w]
                        rfl
                      refine pure_ (i := 1) (N := some 13) (v := ?_) (a' := ?_) #[true, true, false, false, false, false, false, false, false, false, false, false, false, false, false, false, false, false, false, false, false, false] rfl rfl (any_of HT_.out (by kernel_rfl)) (fun _ _ _ h => h) (Or.inl ⟨by rfl, ?_⟩) ?_ ?_
                      rotate_left
                      · intro w'
                        go_simp
                        with_reducible rfl
                      rotate_left
                      · simp only [Act.put, List.setIfInBounds_toArray, List.set_cons_zero, List.set_cons_succ, i64_w, i32_w]
                        rfl
                      refine pure_ (i := 2) (N := some 14) (v := ?_) (a' := ?_) #[true, true, true, false, false, false, false, false, false, false, false, false, false, false, false, false, false, false, false, false, false, false] rfl rfl (any_of HT_.out (by kernel_rfl)) (fun _ _ _ h => h) (Or.inl ⟨by rfl, ?_⟩) ?_ ?_
                      rotate_left
                      · intro w'
                        go_simp
                        with_reducible rfl
                      rotate_left
                      · simp only [Act.put, List.setIfInBounds_toArray, List.set_cons_zero, List.set_cons_succ, i64_w, i32_w]
                        rfl
                      refine pure_ (i := 6) (N := some 18) (v := ?_) (a' := ?_) #[true, true, true, false, false, false, true, false, false, false, false, false, false, false, false, false, false, false, false, false, false, false] rfl rfl (any_of HT_.out (by kernel_rfl)) (fun _ _ _ h => h) (Or.inl ⟨by rfl, ?_⟩) ?_ ?_
                      rotate_left
                      · intro w'
                        go_simp
                        with_reducible rfl
                      rotate_left
                      · simp only [Act.put, List.setIfInBounds_toArray, List.set_cons_zero, List.set_cons_succ, i64_w, i32_w]
                        rfl
                      refine pure_ (i := 7) (N := some 19) (v := ?_) (a' := ?_) #[true, true, true, false, false, false, true, true, false, false, false, false, false, false, false, false, false, false, false, false, false, false] rfl rfl (any_of HT_.out (by kernel_rfl)) (fun _ _ _ h => h) (Or.inl ⟨by rfl, ?_⟩) ?_ ?_
                      rotate_left
                      · intro w'
                        go_simp
                        with_reducible rfl
                      rotate_left
                      · simp only [Act.put, List.setIfInBounds_toArray, List.set_cons_zero, List.set_cons_succ, i64_w, i32_w]
                        rfl
                      refine pure_ (i := 8) (N := some 20) (v := ?_) (a' := ?_) #[true, true, true, false, false, false, true, true, true, false, false, false, false, false, false, false, false, false, false, false, false, false] rfl rfl (any_of HT_.out (by kernel_rfl)) (fun _ _ _ h => h) (Or.inl ⟨by rfl, ?_⟩) ?_ ?_
                      rotate_left
                      · intro w'
                        go_simp
                        with_reducible rfl
                      rotate_left
                      · simp only [Act.put, List.setIfInBounds_toArray, List.set_cons_zero, List.set_cons_succ, i64_w, i32_w]
                        rfl
                      refine pure_ (i := 13) (N := some 25) (v := ?_) (a' := ?_) #[true, true, true, false, false, false, true, true, true, false, false, false, false, true, false, false, false, false, false, false, false, false] rfl rfl (any_of HT_.out (by kernel_rfl)) (fun _ _ _ h => h) (Or.inl ⟨by rfl, ?_⟩) ?_ ?_
                      rotate_left
                      · intro w'
                        go_simp
                        with_reducible rfl
                      rotate_left
                      · simp only [Act.put, List.setIfInBounds_toArray, List.set_cons_zero, List.set_cons_succ, i64_w, i32_w]
                        rfl
                      refine pure_ (i := 14) (N := some 26) (v := ?_) (a' := ?_) #[true, true, true, false, false, false, true, true, true, false, false, false, false, true, true, false, false, false, false, false, false, false] rfl rfl (any_of HT_.out (by kernel_rfl)) (fun _ _ _ h => h) (Or.inl ⟨by rfl, ?_⟩) ?_ ?_
                      rotate_left
                      · intro w'
                        go_simp
                        with_reducible rfl
                      rotate_left
                      · simp only [Act.put, List.setIfInBounds_toArray, List.set_cons_zero, List.set_cons_succ, i64_w, i32_w]
                        rfl
                      refine pure_ (i := 15) (N := some 27) (v := ?_) (a' := ?_) #[true, true, true, false, false, false, true, true, true, false, false, false, false, true, true, true, false, false, false, false, false, false] rfl rfl (any_of HT_.out (by kernel_rfl)) (fun _ _ _ h => h) (Or.inl ⟨by rfl, ?_⟩) ?_ ?_
                      rotate_left
                      · intro w'
                        go_simp
                        with_reducible rfl
                      rotate_left
                      · simp only [Act.put, List.setIfInBounds_toArray, List.set_cons_zero, List.set_cons_succ, i64_w, i32_w]
                        rfl
                      refine take_ (i := 3) (N := some 15) (v := ?_) (a' := ?_) #[true, true, true, true, false, false, true, true, true, false, false, false, false, true, true, true, false, false, false, false, false, false] rfl rfl (take_ofW HT_.out HW_.out (by kernel_rfl)) (fun _ _ _ h => h) (Or.inl ⟨by rfl, ?_⟩) hHeld ?_ ?_
                      rotate_left
                      · intro w' _
                        go_simp
                        with_reducible rfl
                      rotate_left
                      · simp only [Act.put, List.setIfInBounds_toArray, List.set_cons_zero, List.set_cons_succ, i64_w, i32_w]
                        rfl
                      refine pure_ (i := 4) (N := some 16) (v := ?_) (a' := ?_) #[true, true, true, true, true, false, true, true, true, false, false, false, false, true, true, true, false, false, false, false, false, false] rfl rfl (any_of HT_.out (by kernel_rfl)) (fun _ _ _ h => h) (Or.inl ⟨by rfl, ?_⟩) ?_ ?_
                      rotate_left
                      · intro w'
                        go_simp
                        with_reducible rfl
                      rotate_left
                      · simp only [Act.put, List.setIfInBounds_toArray, List.set_cons_zero, List.set_cons_succ, i64_w, i32_w]
                        rfl
                      refine pure_ (i := 5) (N := some 17) (v := ?_) (a' := ?_) #[true, true, true, true, true, true, true, true, true, false, false, false, false, true, true, true, false, false, false, false, false, false] rfl rfl (any_of HT_.out (by kernel_rfl)) (fun _ _ _ h => h) (Or.inl ⟨by rfl, ?_⟩) ?_ ?_
                      rotate_left
                      · intro w'
                        go_simp
                        with_reducible rfl
                      rotate_left
                      · simp only [Act.put, List.setIfInBounds_toArray, List.set_cons_zero, List.set_cons_succ, i64_w, i32_w]
                        rfl
                      refine take_ (i := 9) (N := some 21) (v := ?_) (a' := ?_) #[true, true, true, true, true, true, true, true, true, true, false, false, false, true, true, true, false, false, false, false, false, false] rfl rfl (take_ofW HT_.out HW_.out (by kernel_rfl)) (fun _ _ _ h => h) (Or.inl ⟨by rfl, ?_⟩) hHeld ?_ ?_
                      rotate_left
                      · intro w' _
                        go_simp
                        with_reducible rfl
                      rotate_left
                      · simp only [Act.put, List.setIfInBounds_toArray, List.set_cons_zero, List.set_cons_succ, i64_w, i32_w]
                        rfl
                      refine pure_ (i := 10) (N := some 22) (v := ?_) (a' := ?_) #[true, true, true, true, true, true, true, true, true, true, true, false, false, true, true, true, false, false, false, false, false, false] rfl rfl (any_of HT_.out (by kernel_rfl)) (fun _ _ _ h => h) (Or.inl ⟨by rfl, ?_⟩) ?_ ?_
                      rotate_left
                      · intro w'
                        go_simp
                        with_reducible rfl
                      rotate_left
                      · simp only [Act.put, List.setIfInBounds_toArray, List.set_cons_zero, List.set_cons_succ, i64_w, i32_w]
                        rfl
                      refine pure_ (i := 11) (N := some 23) (v := ?_) (a' := ?_) #[true, true, true, true, true, true, true, true, true, true, true, true, false, true, true, true, false, false, false, false, false, false] rfl rfl (any_of HT_.out (by kernel_rfl)) (fun _ _ _ h => h) (Or.inl ⟨by rfl, ?_⟩) ?_ ?_
                      rotate_left
                      · intro w'
                        go_simp
                        with_reducible rfl
                      rotate_left
                      · simp only [Act.put, List.setIfInBounds_toArray, List.set_cons_zero, List.set_cons_succ, i64_w, i32_w]
                        rfl
                      refine pure_ (i := 12) (N := some 24) (v := ?_) (a' := ?_) #[true, true, true, true, true, true, true, true, true, true, true, true, true, true, true, true, false, false, false, false, false, false] rfl rfl (any_of HT_.out (by kernel_rfl)) (fun _ _ _ h => h) (Or.inl ⟨by rfl, ?_⟩) ?_ ?_
                      rotate_left
                      · intro w'
                        go_simp
                        with_reducible rfl
                      rotate_left
                      · simp only [Act.put, List.setIfInBounds_toArray, List.set_cons_zero, List.set_cons_succ, i64_w, i32_w]
                        rfl
                      refine take_ (i := 16) (N := some 28) (v := ?_) (a' := ?_) #[true, true, true, true, true, true, true, true, true, true, true, true, true, true, true, true, true, false, false, false, false, false] rfl rfl (take_ofW HT_.out HW_.out (by kernel_rfl)) (fun _ _ _ h => h) (Or.inl ⟨by rfl, ?_⟩) hHeld ?_ ?_
                      rotate_left
                      · intro w' _
                        go_simp
                        with_reducible rfl
                      rotate_left
                      · simp only [Act.put, List.setIfInBounds_toArray, List.set_cons_zero, List.set_cons_succ, i64_w, i32_w]
                        rfl
                      refine pure_ (i := 17) (N := some 29) (v := ?_) (a' := ?_) #[true, true, true, true, true, true, true, true, true, true, true, true, true, true, true, true, true, true, false, false, false, false] rfl rfl (any_of HT_.out (by kernel_rfl)) (fun _ _ _ h => h) (Or.inl ⟨by rfl, ?_⟩) ?_ ?_
                      rotate_left
                      · intro w'
                        go_simp
                        with_reducible rfl
                      rotate_left
                      · simp only [Act.put, List.setIfInBounds_toArray, List.set_cons_zero, List.set_cons_succ, i64_w, i32_w]
                        rfl
                      refine pure_ (i := 18) (N := some 30) (v := ?_) (a' := ?_) #[true, true, true, true, true, true, true, true, true, true, true, true, true, true, true, true, true, true, true, false, false, false] rfl rfl (any_of HT_.out (by kernel_rfl)) (fun _ _ _ h => h) (Or.inl ⟨by rfl, ?_⟩) ?_ ?_
                      rotate_left
                      · intro w'
                        go_simp
                        with_reducible rfl
                      rotate_left
                      · simp only [Act.put, List.setIfInBounds_toArray, List.set_cons_zero, List.set_cons_succ, i64_w, i32_w]
                        rfl
                      refine one_ (i := 19) (N := some 31) #[true, true, true, true, true, true, true, true, true, true, true, true, true, true, true, true, true, true, true, true, false, false] rfl rfl (one_of HT_.out (by kernel_rfl)) (by decide) (fun K hK => ?_)
                      refine value_ (w1 := ?_) (v := ?_) (by rfl) rfl ?_ ?_
                      rotate_left 2
                      · go_simp
                        constructor
                        · rfl
                        · rfl
                      refine hK.out _ _ trivial (fun hHeld => ?_)
                      clear hK K
                      refine norm_ (a' := ?_) ?_ ?_
                      rotate_left
                      · show Act.put _ (some 31) _ = _
                        simp only [Act.put, List.setIfInBounds_toArray, List.set_cons_zero, List.set_cons_succ, i64_w, i32_w]
                        rfl
                      refine one_ (i := 20) (N := some 32) #[true, true, true, true, true, true, true, true, true, true, true, true, true, true, true, true, true, true, true, true, true, false] rfl rfl (one_of HT_.out (by kernel_rfl)) (by decide) (fun K hK => ?_)
                      refine Kd.R_append_step (Kd.int .i64) (w0 := w) w.heap.size (by rfl) (.tmp 12) (.tmp 31) 25 3 (.int .i64 0) 8 rfl Try.underlying25 info3 rfl (by decide) (by omega) u3 x3_1 (Go.bits .or .i64 (Go.bits .or .i64 (wrap64 ((wrap64 (bt a0 x4_1)) * 65536)) (wrap64 ((wrap64 (bt a0 (ji6))) * 256))) (wrap64 (bt a0 (ji10)))) [.int .i64 (Go.bits .or .i64 (Go.bits .or .i64 (wrap64 ((wrap64 (bt a0 x4_1)) * 65536)) (wrap64 ((wrap64 (bt a0 (ji6))) * 256))) (wrap64 (bt a0 (ji10))))] (fun _ => True) (fun _ => False) rfl rfl ?aP (fun _ hk => hk.elim) ?aF ?aO ?aB ?aS ?aL ?_
                      (case aP => exact rfl)
                      (case aB => exact (by repeat (first | (with_reducible first | exact HB.out | apply below_alloc | apply pw_below_drewN | apply below_drew1) | exact HB.out)))
                      (case aF => exact (fun _ _ => trivial))
                      (case aO => exact (by (with_reducible repeat (first | apply Kd.R_alloc | apply Kd.R_drewN | apply Kd.R_drew)); exact HO_3.out))
                      (case aS => exact (below_size (by repeat (first | (with_reducible first | exact HB.out | apply below_alloc | apply pw_below_drewN | apply below_drew1) | exact HB.out))))
                      (case aL => have := LMc14.out; omega)
                      intro v102 w16 ho hb hg hat
                      rw [← Ny101.out] at ho
                      have n0_ := Aside0.mk (hb)
                      have n1_ := Aside0.mk (ho)
                      clear HB
                      clear HO_3
                      have HB := n0_
                      have HO103 := n1_
                      clear n0_ n1_
                      clear ho hb hg hat
                      refine hK.out _ _ trivial (fun hHeld => ?_)
                      clear hK K
                      refine norm_ (a' := ?_) ?_ ?_
                      rotate_left
                      · show Act.put _ (some 32) _ = _
                        simp only [Act.put, List.setIfInBounds_toArray, List.set_cons_zero, List.set_cons_succ, i64_w, i32_w]
                        rfl
                      refine pure_ (i := 21) (N := some 3) (v := ?_) (a' := ?_) #[true, true, true, true, true, true, true, true, true, true, true, true, true, true, true, true, true, true, true, true, true, true] rfl rfl (any_of HT_.out (by kernel_rfl)) (fun _ _ _ h => h) (Or.inl ⟨by rfl, ?_⟩) ?_ ?_
                      rotate_left
                      · intro w'
                        go_simp
                        with_reducible rfl
                      rotate_left
                      · simp only [Act.put, List.setIfInBounds_toArray, List.set_cons_zero, List.set_cons_succ, i64_w, i32_w]
                        rfl
                      refine done_ (done_of HT_.out (by kernel_rfl)) ?_
                      try go_wp2
                      go_roundg k1
                      case measure => have := HK1.out; omega
                      case rel => exact ⟨(y101), (ji6), (by first | rfl | (simp; done) | (simp only [← hji6] <;> (first | rfl | simp)) | (simp [*]; done)), H', ⟨by have := HK1.out; omega⟩, ⟨by (with_reducible repeat (first | apply Kd.R_alloc | apply Kd.R_drewN | apply Kd.R_drew)); exact HO103.out⟩, ⟨by repeat (first | (with_reducible first | exact HB.out | apply below_alloc | apply pw_below_drewN | apply below_drew1) | exact HB.out)⟩⟩
                    · rw [if_neg c14] at H
                      exact absurd H (by simp)
                  · rw [if_neg c12] at H
                    exact absurd H (by simp)
                · rw [if_neg c11] at H
                  exact absurd H (by simp)
              · rw [if_neg c8] at H
                exact absurd H (by simp)
            · rw [if_neg c7] at H
              exact absurd H (by simp)
          · rw [if_neg c4] at H
            exact absurd H (by simp)
        · rw [if_neg c3] at H
          exact absurd H (by simp)
      · rw [if_neg c2] at H
        have c2b0 : decide ((wrap64 (x4_1 + 3)) ≤ (a0.size : Int)) = false := decide_eq_false c2
        clear c2
        replace H := Option.bind_eq_some_iff.mp H
        obtain ⟨t104, A170, H⟩ := H
        try dsimp only at H
        have A17 := Aside0.mk A170
        clear A170
        replace H := Option.bind_eq_some_iff.mp H
        obtain ⟨t105, A180, H⟩ := H
        try dsimp only at H
        have A18 := Aside0.mk A180
        clear A180
        obtain rfl := Option.some.inj H
        obtain ⟨Ao19, co19, eo19⟩ := Kd.R_slice HO_3.out
        subst eo19
        go_wp2_with (first | ((with_reducible refine gate_callee (f := 30) rfl ?_); refine goesL_ (some 34) rfl rfl Try.func30 (by kernel_rfl) rfl #[.slice Ao19 x3_1.length co19] rfl (by (try simp only [List.map_toArray, List.map_cons, List.map_nil]); first | done | rfl | (simp only [List.length_drop, List.length_take]; rfl)) ?_; (with_reducible refine (slices_Sort_int_int.calls (fun k_ => some k_ = (.slice Ao19 x3_1.length co19 : Value).ownBlock) (.slice Ao19 x3_1.length co19) x3_1 t104 w _ ?side1 ?side2 A17.out).mono ?_); (case side1 => repeat (first | (with_reducible first | exact HB.out | apply below_alloc | apply pw_below_drewN | apply below_drew1) | exact HB.out)); (case side2 => exact Kd.R_tight rfl HO_3.out); rintro e w20 ⟨rfl, hy0, hb, hkp⟩; refine ⟨_, rfl, ?_⟩; have n0_ := Aside0.mk (Kd.R_reok rfl hy0 (fun k_ e_ => HO_3.out.1 k_ e_)); have n1_ := Aside0.mk (hb); clear HO_3; clear HB; have HO_3 := n0_; have HB := n1_; clear n0_ n1_; (try clear hb); (try clear hkp); (try clear hy0)) | ((with_reducible refine gate_callee (f := 32) rfl ?_); refine goesL_ (some 36) rfl rfl Try.func32 (by kernel_rfl) rfl #[.slice Ao19 x3_1.length co19] rfl (by (try simp only [List.map_toArray, List.map_cons, List.map_nil]); first | done | rfl | (simp only [List.length_drop, List.length_take]; rfl)) ?_; (with_reducible refine (slices_Compact_int_int.calls (fun k_ => some k_ = (.slice Ao19 x3_1.length co19 : Value).ownBlock) (.slice Ao19 x3_1.length co19) t104 t105 w _ ?side1 ?side2 A18.out).mono ?_); (case side1 => repeat (first | (with_reducible first | exact HB.out | apply below_alloc | apply pw_below_drewN | apply below_drew1) | exact HB.out)); (case side2 => exact Kd.R_tight rfl HO_3.out); rintro e w21 ⟨v106, rfl, ho0, hb, hkp⟩; refine ⟨_, rfl, ?_⟩; have n0_ := Aside0.mk (Kd.R_mono (ok' := fun k_ => True) ho0 (fun k_ hk_ => trivial)); have n1_ := Aside0.mk (hb); clear HB; clear HO_3; have HO107 := n0_; have HB := n1_; clear n0_ n1_; (try clear hb); (try clear hkp); (try clear ho0)))
        go_ret
        exact ⟨_, by first | rfl | (simp [errW_none, errW_some] <;> rfl) | (simp [*, errW_none, errW_some] <;> rfl), by (with_reducible repeat (first | apply Kd.R_alloc | apply Kd.R_drewN | apply Kd.R_drew)); exact HO107.out, by repeat (first | (with_reducible first | exact HB.out | apply below_alloc | apply pw_below_drewN | apply below_drew1) | exact HB.out)⟩
def gram_place.f (a0 : Int) (a1 : Int) : Option (Int) := if a1 = 0 then (none) else (some (Int.tmod (Int.tmod (wrap64 (a0 * 40503)) 65521) a1))
set_option maxHeartbeats 8000000 in
set_option maxRecDepth 100000 in
theorem gram_place.calls (a0 : Int) (a1 : Int) (r : Int) (w : World) (h : gram_place.f a0 a1 = some r) :
    Calls Try.prog 29 #[.int .i64 a0, .int .i64 a1] w fun e w' => e = .returned (.int .i64 r) ∧ Drawn0 w w' := by
  have H : (if a1 = 0 then (none) else (some (Int.tmod (Int.tmod (wrap64 (a0 * 40503)) 65521) a1))) = some r := h
  clear h
  by_cases c3 : a1 = 0
  · rw [if_pos c3] at H
    exact absurd H (by simp)
  · rw [if_neg c3] at H
    have c3b0 : (a1 == 0) = false := beq_eq_false_iff_ne.mpr c3
    have c3b1 : (a1 != 0) = true := bne_iff_ne.mpr c3
    obtain rfl := Option.some.inj H
    go_enter Try.func29, Try.ntmps29
    go_wp2
    go_ret
    exact ⟨by first | rfl | (simp; done) | (simp [*]; done), by repeat (first | exact Drawn0.refl _ | apply Drawn0.step)⟩
open Go.Proofs.YtafigfhlpjnejaaH (asc marked marked_snoc marked_has asc_length_of sort_asc mem_lt wf_of left_step)
def gram_Make.all (k : Nat) : List ByteArray → Option (List Int)
  | [] => some []
  | s :: t => (gram_Grams.f k s).bind fun g => (gram_Make.all k t).bind fun r => some (g ++ r)
def gram_Make.at_ (g n : Int) : Int := Int.tmod (Int.tmod (wrap64 (g * 40503)) 65521) n
def gram_Make.marks (l : List Int) (n : Nat) : List Bool := (List.range n).map fun (p : Nat) => l.any fun g => decide (gram_Make.at_ g (n : Int) = ((p : Nat) : Int))
def gram_Make.ok (l : List Int) : Bool := (l.all fun g => decide (0 ≤ g) && decide (g < 16777216)) && decide (l.length < 1099511627776)
def gram_Make.f (k : Nat) (l0 : List ByteArray) (a1 : Int) : Option (Int × List Int × List Bool × Int) :=
  if a1 < 0 ∨ 65536 < a1 then some (0, [], [], 1) else (gram_Make.all k l0).bind fun gs => if gram_Make.ok gs = true then (if 0 < a1 then some (a1, [], gram_Make.marks gs a1.toNat, 0) else if 65536 < (asc gs).length then some (0, [], [], 1) else some (a1, asc gs, [], 0)) else none
/-- What stands while the map is filled. -/
def gram_Make.J (w : World) (a1 : Int) (wr : World) (n : Nat) (l : List Int) : Prop :=
  wr.heap[w.heap.size]? = some (.cells #[.int .i64 0, .slice none 0 0, .slice none 0 0] 28 (0, 0)) ∧ wr.heap[w.heap.size + 1]? = some (.cells #[.int .i64 a1, .slice none 0 0, .slice none 0 0] 28 (0, 0)) ∧
    wr.ownsMap Try.prog 3 (plainElem Try.prog 4) (w.heap.size + 1 + 1) n (marked l) ∧ Below w.heap.size w wr
theorem gram_Make.J_start (w : World) (a1 : Int) : gram_Make.J w a1 (((w.alloc (.cells #[.int .i64 0, .slice none 0 0, .slice none 0 0] 28)).alloc (.cells #[.int .i64 a1, .slice none 0 0, .slice none 0 0] 28)).alloc (.map #[] 0)) 0 [] := by
  have hs1 : ∀ (W : World) (o : Obj), (W.alloc o).heap.size = W.heap.size + 1 := fun W o => by simp
  refine ⟨?_, ?_, ?_, ?_⟩
  · rw [heap_alloc_old _ _ (by rw [hs1, hs1]; omega), heap_alloc_old _ _ (by rw [hs1]; omega)]
    exact heap_alloc_new _ _
  · rw [heap_alloc_old _ _ (by rw [hs1, hs1]; omega)]
    have := heap_alloc_new (w.alloc (.cells #[.int .i64 0, .slice none 0 0, .slice none 0 0] 28)) (.cells #[.int .i64 a1, .slice none 0 0, .slice none 0 0] 28)
    rw [hs1] at this
    exact this
  · have := World.ownsMap_made (H := Unit) ((w.alloc (.cells #[.int .i64 0, .slice none 0 0, .slice none 0 0] 28)).alloc (.cells #[.int .i64 a1, .slice none 0 0, .slice none 0 0] 28)) Try.prog 3 (plainElem Try.prog 4)
    rw [hs1, hs1] at this
    exact this
  · exact below_alloc (below_alloc (below_alloc (Below.refl _ _) _) _) _
theorem gram_Make.J_grown {w : World} {a1 : Int} {wr w2 : World} {n n' : Nat} {l l' : List Int} (h : gram_Make.J w a1 wr n l) (hg : wr.grownBy w2 (some (w.heap.size + 1 + 1))) (ho : w2.ownsMap Try.prog 3 (plainElem Try.prog 4) (w.heap.size + 1 + 1) n' (marked l')) : gram_Make.J w a1 w2 n' l' := by
  obtain ⟨h1, h2, h3, h4⟩ := h
  exact ⟨(hg.block _ (blk_lt h1) (by simp; omega)).trans h1, (hg.block _ (blk_lt h2) (by simp)).trans h2, ho, hg.os.trans h4.os, hg.tape.trans h4.tape, hg.output.trans h4.output, Nat.le_trans h4.size hg.size, fun k hk => (hg.block k (Nat.lt_of_lt_of_le hk h4.size) (by simp; omega)).trans (h4.block k hk)⟩
theorem gram_Make.J_below {w : World} {a1 : Int} {wr w2 : World} {n : Nat} {l : List Int} (h : gram_Make.J w a1 wr n l) (hb : Below wr.heap.size wr w2) : gram_Make.J w a1 w2 n l := by
  obtain ⟨h1, h2, h3, h4⟩ := h
  exact ⟨blk_below h1 hb, blk_below h2 hb, h3.kept (row := none) ⟨hb.os, hb.tape, hb.output, hb.size, fun k hk _ => hb.block k hk⟩ (by simp), below_then h4 h4.size hb⟩
theorem gram_Make.grown_set (w : World) (g j : Nat) (u : Value) : w.grownBy (w.setCell ⟨g, j, none⟩ u) (some g) := ⟨rfl, rfl, rfl, Nat.le_of_eq (by simp [World.setCell]), fun i _ hi => Below.heap_setCell w ⟨g, j, none⟩ u i (fun e => hi (by rw [e]))⟩
theorem gram_Make.below_grown {w wr w2 : World} {B : Nat} {row : Option Nat} (h : Below B w wr) (hB : B ≤ wr.heap.size) (hg : wr.grownBy w2 row) (hr : ∀ k, k < B → some k ≠ row) : Below B w w2 :=
  ⟨hg.os.trans h.os, hg.tape.trans h.tape, hg.output.trans h.output, Nat.le_trans h.size hg.size, fun k hk => (hg.block k (Nat.lt_of_lt_of_le hk hB) (hr k hk)).trans (h.block k hk)⟩
theorem gram_Make.start_of (gs : List Int) (g : Int) (hg : g ∈ gs) : Go.Maps.has (marked gs) (.int .i64 g) = true := (marked_has gs g).2 hg
theorem gram_Make.next_ {w : World} {ops : Array Oper} {rest : List Oper} {o : Oper} {a : Act} {Q : Exit → Act → World → Prop} (hg : o.guard = none) (it : Operand) (hop : o.op = Op.next it false)
    (b r n : Nat) (D : DataW Unit) (left : Lit → Bool) (cnt : Nat) (hit : a.eval it = .pointer (some ⟨r, 0, none⟩)) (h : w.ranges Try.prog 3 (plainElem Try.prog 4) b r n D left cnt)
    (hDone : (∀ x, left (.int .i64 x) = false) → wpList Try.prog ops Q rest (a.put o.dst (.tuple #[.bool false])) w)
    (hMore : ∀ (x : Int) (v : Value) (w' : World) (cnt' : Nat), left (.int .i64 x) = true → Go.Maps.has D (.int .i64 x) = true → w'.ranges Try.prog 3 (plainElem Try.prog 4) b r n D (fun z => left z && !z.sameKey (.int .i64 x)) cnt' → cnt' < cnt →
      w.grownBy w' (some r) → w'.heap.size = w.heap.size → (Instr.entry (.pointer (some ⟨r, 0, none⟩))).run Try.prog w' = .ok (.tuple #[.int .i64 x, v]) w' → wpList Try.prog ops Q rest (a.put o.dst (.tuple #[.bool true, .int .i64 x, v])) w') :
    wpList Try.prog ops Q (o :: rest) a w :=
  wpList_next_ranges w hg it hop 3 (Go.Maps.int_keyed Try.underlying3) (plainElem Try.prog 4) (Value.int .i64) (fun v : Value => v) (fun key kl hkey => by obtain ⟨x, rfl, _⟩ := Go.Maps.keyOf_int_inv Try.underlying3 hkey; exact ⟨x, rfl⟩) (fun v y hv => ⟨v, rfl⟩) b r n D left cnt hit h (fun _ hl => hDone fun x => hl _)
    (fun x v kl y w' cnt' hkey hl hv hat hrg hlt hgr hsz hen => by
      obtain ⟨x', ex, rfl, _⟩ := Go.Maps.keyOf_int_inv Try.underlying3 hkey
      cases ex
      exact hMore x v w' cnt' hl (Go.Maps.has_true_of_atKey hat) hrg hlt hgr hsz hen)
theorem gram_Make.sort_nil : slices_Sort_int_int.f [] = some [] := by simp [slices_Sort_int_int.f]
theorem gram_Make.zeros (n : Nat) : madeCells (Value.bool false).cells (n * 1) = ((List.replicate n false).map Value.bool).toArray := by
  apply Array.ext
  · simp [size_madeCells]
  · intro i h1 h2
    simp [madeCells, Value.cells, Nat.mod_one]
theorem gram_Make.make_ {W : World} {ops : Array Oper} {rest : List Oper} {o : Oper} {a : Act} {Q : Exit → Act → World → Prop} (hgd : o.guard = none) (x : Operand) (ho : o.op = .makeSlice 26 x x) (n : Nat) (hx : a.eval x = .int .i64 n) (hn : n ≤ 65536)
    (h : ∀ g, W.heap.size ≤ g → ∀ w1, w1.heap[g]? = some (.cells ((List.replicate n false).map Value.bool).toArray 4 (0, 0)) → Below W.heap.size W w1 → wpList Try.prog ops Q rest (a.put o.dst (.slice (some ⟨g, 0, none⟩) n n)) w1) : wpList Try.prog ops Q (o :: rest) a W := by
  obtain ⟨i0, hi, hz⟩ := Option.map_eq_some_iff.1 info4
  simp only [Prod.mk.injEq] at hz
  obtain ⟨hz0, hz1, hz2⟩ := hz
  have hr := run_make (P := Try.prog) (w := W) 26 4 i0 (.bool false) Try.underlying26 hi hz0 .i64 .i64 (n : Int) (n : Int) (by omega) (by omega) (by rw [hz2]; omega) (by omega)
  rw [hz1, Int.toNat_natCast, gram_Make.zeros] at hr
  refine Kd.event_run hgd (w1 := W.alloc (.cells ((List.replicate n false).map Value.bool).toArray 4)) ?_ (h _ (Nat.le_refl _) _ (heap_alloc_new _ _) (below_alloc (Below.refl _ _) _))
  simp [execOp, ho, hx, hr, Result.andThen]
theorem gram_Make.at_range (g n : Int) (hg : 0 ≤ g ∧ g < 16777216) (hn : 0 < n) : 0 ≤ gram_Make.at_ g n ∧ gram_Make.at_ g n < n := by
  unfold gram_Make.at_
  have h1 : wrap64 (g * 40503) = g * 40503 := by unfold wrap64; omega
  rw [h1]
  have h2 : 0 ≤ Int.tmod (g * 40503) 65521 := Int.tmod_nonneg _ (by omega)
  exact ⟨Int.tmod_nonneg _ h2, Int.tmod_lt_of_pos _ hn⟩
theorem gram_Make.marks_of {S : List Bool} {gs : List Int} {n : Nat} (hl : S.length = n) (h : ∀ p : Nat, S.getD p false = true ↔ (p < n ∧ ∃ g, g ∈ gs ∧ gram_Make.at_ g n = (p : Int))) : S = gram_Make.marks gs n := by
  apply List.ext_getElem
  · simp [gram_Make.marks, hl]
  · intro p h1 h2
    have h3 := h p
    rw [List.getD_eq_getElem?_getD, List.getElem?_eq_getElem h1, Option.getD_some] at h3
    rw [Bool.eq_iff_iff, h3]
    simp only [gram_Make.marks, List.getElem_map, List.getElem_range, List.any_eq_true, decide_eq_true_eq]
    constructor
    · rintro ⟨_, g, hg, e⟩
      exact ⟨g, hg, e⟩
    · rintro ⟨g, hg, e⟩
      exact ⟨by omega, g, hg, e⟩
theorem gram_Make.bools {W : World} {q n B : Nat} {S : List Bool} (hq : W.heap[q]? = some (.cells (S.map Value.bool).toArray 4 (0, 0))) (hl : S.length = n) (hn : n ≤ 65536) (hB : B ≤ q) : Kd.R Kd.bool 4 W B (fun _ => True) (.slice (some ⟨q, 0, none⟩) n n) S := by
  subst hl
  refine ⟨fun _ _ => trivial, S.map Value.bool, ⟨?_, .inr ⟨q, S.length, _, rfl, hB, hq, Nat.le_refl _, by unfold maxLen; omega, ?_, ?_⟩⟩, ?_, ?_⟩
  · simp [show Kd.bool.sz = 1 from rfl]
  · simp [show Kd.bool.sz = 1 from rfl]
  · simp [show Kd.bool.sz = 1 from rfl, List.take_of_length_le]
  · simp [show Kd.bool.sz = 1 from rfl]
  · intro j p hj
    rw [show Kd.bool.sz = 1 from rfl, Nat.mul_one]
    obtain ⟨hlt, rfl⟩ := List.getElem?_eq_some_iff.1 hj
    show ((S.map Value.bool).drop j).take 1 = [Value.bool S[j]]
    rw [List.drop_eq_getElem_cons (by simpa using hlt)]
    simp
theorem gram_Make.set_spec {S : List Bool} {gs : List Int} {n p : Nat} {x : Int} {left : Lit → Bool} (hl : S.length = n) (hp : p < n) (hx : x ∈ gs) (ha : gram_Make.at_ x n = (p : Int))
    (h : ∀ p : Nat, S.getD p false = true ↔ (p < n ∧ ∃ g, g ∈ gs ∧ left (.int .i64 g) = false ∧ gram_Make.at_ g n = (p : Int))) (j : Nat) :
    (S.set p true).getD j false = true ↔ (j < n ∧ ∃ g, g ∈ gs ∧ (left (.int .i64 g) && !(Lit.int .i64 g).sameKey (.int .i64 x)) = false ∧ gram_Make.at_ g n = (j : Int)) := by
  by_cases hj : j = p
  · subst hj
    rw [List.getD_eq_getElem?_getD, List.getElem?_set_self (by omega)]
    simp only [Option.getD_some, true_iff]
    exact ⟨hp, x, hx, (left_step left x x).2 (.inr rfl), ha⟩
  · rw [List.getD_eq_getElem?_getD, List.getElem?_set_ne (fun e => hj e.symm), ← List.getD_eq_getElem?_getD, h j]
    constructor
    · rintro ⟨h1, g, h2, h3, h4⟩
      exact ⟨h1, g, h2, (left_step left x g).2 (.inl h3), h4⟩
    · rintro ⟨h1, g, h2, h3, h4⟩
      rcases (left_step left x g).1 h3 with h5 | rfl
      · exact ⟨h1, g, h2, h5, h4⟩
      · rw [ha] at h4
        omega
/-- What stands while the filter's bits are set. -/
def gram_Make.JA (w : World) (a1 : Int) (n q r : Nat) (gs : List Int) (wr : World) (S : List Bool) (left : Lit → Bool) (cnt : Nat) : Prop :=
  wr.heap[w.heap.size]? = some (.cells #[.int .i64 0, .slice none 0 0, .slice none 0 0] 28 (0, 0)) ∧ wr.heap[w.heap.size + 1]? = some (.cells #[.int .i64 a1, .slice none 0 0, .slice (some ⟨q, 0, none⟩) n n] 28 (0, 0)) ∧
    wr.heap[q]? = some (.cells (S.map Value.bool).toArray 4 (0, 0)) ∧ wr.ranges Try.prog 3 (plainElem Try.prog 4) (w.heap.size + 1 + 1) r gs.length (marked gs) left cnt ∧ Below w.heap.size w wr ∧
    S.length = n ∧ ∀ p : Nat, S.getD p false = true ↔ (p < n ∧ ∃ g, g ∈ gs ∧ left (.int .i64 g) = false ∧ gram_Make.at_ g n = (p : Int))
/-- Blocks that the list may lie in. -/
def gram_Make.okB (w : World) (r : Nat) : Nat → Prop := fun q => q ≠ w.heap.size ∧ q ≠ w.heap.size + 1 ∧ q ≠ w.heap.size + 1 + 1 ∧ q ≠ r
/-- What stands while the filter's list is made. -/
def gram_Make.JB (w : World) (r : Nat) (gs : List Int) (wr : World) (v : Value) (L : List Int) (left : Lit → Bool) (cnt : Nat) : Prop :=
  wr.heap[w.heap.size]? = some (.cells #[.int .i64 0, .slice none 0 0, .slice none 0 0] 28 (0, 0)) ∧ wr.heap[w.heap.size + 1]? = some (.cells #[.int .i64 0, v, .slice none 0 0] 28 (0, 0)) ∧
    Kd.R (Kd.int .i64) 3 wr w.heap.size (gram_Make.okB w r) v L ∧ wr.ranges Try.prog 3 (plainElem Try.prog 4) (w.heap.size + 1 + 1) r gs.length (marked gs) left cnt ∧ Below w.heap.size w wr ∧
    L.Nodup ∧ (∀ y, y ∈ L ↔ (y ∈ gs ∧ left (.int .i64 y) = false)) ∧ L.length + cnt ≤ gs.length
theorem gram_Make.size_le {w : World} {b n : Nat} {D : DataW Unit} (h : w.ownsMap Try.prog 3 (plainElem Try.prog 4) b n D) : Go.Maps.size D ≤ n := by
  obtain ⟨es, clock, _, _, hs, rfl⟩ := h
  simpa [Go.Maps.size, length_sorted] using hs
theorem gram_Make.mem_step {L gs : List Int} {left : Lit → Bool} {x : Int} (hx : x ∈ gs) (h : ∀ y, y ∈ L ↔ (y ∈ gs ∧ left (.int .i64 y) = false)) (y : Int) : y ∈ L ++ [x] ↔ (y ∈ gs ∧ (left (.int .i64 y) && !(Lit.int .i64 y).sameKey (.int .i64 x)) = false) := by
  rw [List.mem_append, List.mem_singleton, left_step, h y]
  constructor
  · rintro (⟨h1, h2⟩ | rfl)
    · exact ⟨h1, .inl h2⟩
    · exact ⟨hx, .inr rfl⟩
  · rintro ⟨h1, h2 | h2⟩
    · exact .inl ⟨h1, h2⟩
    · exact .inr h2
theorem gram_Make.results_row_tmp {P : Program} {fn : Func} {p u : Tmp} {ty : TypeId} (h : fn.results = #[.cell p ty, .tmp u]) (tmps : Array Value) (w : World) (g : Nat) (t : TypeId) (cs : Array Value) (fr : Nat × Nat) (d : TypeDesc)
    (hp : tmps.getD p undef = .pointer (some ⟨g, 0, none⟩)) (hg : w.heap[g]? = some (.cells cs t fr))
    (hu : P.underlying ty = some d) (hd : (match d with | .struct _ | .array _ _ => true | _ => false) = true) (hi : (P.info? ty).map (·.size) = some cs.size) :
    (results fn tmps).run P w = .ok (.tuple #[.agg cs, tmps.getD u undef]) w := by
  rw [results_cell_tmp h, hp]
  simp [asAddr, run_loadVar_row w g t ty cs fr d hg hu hd hi, Result.andThen]
set_option maxHeartbeats 1600000 in
set_option maxRecDepth 100000 in
theorem gram_Make.calls (k : Nat) (A0 : Option Addr) (c0 : Nat) (l0 : List ByteArray) (a1 : Int) (r1 : Int) (r2 : List Int) (r3 : List Bool) (r4 : Int) (w : World) (hr0 : Kd.C Kd.string w A0 l0.length l0) (hc0 : l0.length ≤ c0) (h : gram_Make.f k l0 a1 = some (r1, r2, r3, r4)) :
    Calls Try.prog 10 #[.slice A0 l0.length c0, .int .i64 a1] w fun e w' => ∃ v1_ v2_ : Value, e = .returned (.tuple #[.agg #[.int .i64 r1, v1_, v2_], .int .i64 r4]) ∧ Kd.R (Kd.int .i64) 3 w' w.heap.size (fun _ => True) v1_ r2 ∧ Kd.R Kd.bool 4 w' w.heap.size (fun _ => True) v2_ r3 ∧ Below w.heap.size w w' := by
  have hu28 := Try.underlying28
  have law3 : Go.Maps.Keyed Try.prog 3 := Go.Maps.int_keyed Try.underlying3
  unfold gram_Make.f at h
  have hm : l0.length ≤ 9223372036854775807 := hr0.2.1
  by_cases hb : a1 < 0 ∨ 65536 < a1
  · rw [if_pos hb] at h
    simp only [Option.some.injEq, Prod.mk.injEq] at h
    obtain ⟨rfl, rfl, rfl, rfl⟩ := h
    have HR := Aside0.mk hr0
    clear hr0 hc0
    by_cases hb1 : a1 < 0
    · have d1 : decide (a1 < 0) = true := decide_eq_true hb1
      clear hb hb1
      go_enter Try.func10, Try.ntmps10
      go_wp2
      refine bodyPost_ret (gram_Make.results_row_tmp rfl _ _ w.heap.size 28 #[.int .i64 0, .slice none 0 0, .slice none 0 0] (0, 0) _ rfl (heap_alloc_new _ _) Try.underlying28 rfl (by kernel_rfl)) rfl ?_
      exact ⟨_, _, rfl, Kd.R_nil _ _ _ _ _, Kd.R_nil _ _ _ _ _, below_alloc (Below.refl _ _) _⟩
    · have d1 : decide (a1 < 0) = false := decide_eq_false hb1
      have d2 : decide (65536 < a1) = true := decide_eq_true (hb.resolve_left hb1)
      clear hb hb1
      go_enter Try.func10, Try.ntmps10
      go_wp2
      refine bodyPost_ret (gram_Make.results_row_tmp rfl _ _ w.heap.size 28 #[.int .i64 0, .slice none 0 0, .slice none 0 0] (0, 0) _ rfl (heap_alloc_new _ _) Try.underlying28 rfl (by kernel_rfl)) rfl ?_
      exact ⟨_, _, rfl, Kd.R_nil _ _ _ _ _, Kd.R_nil _ _ _ _ _, below_alloc (Below.refl _ _) _⟩
  · rw [if_neg hb] at h
    obtain ⟨gs, h1, h⟩ := Option.bind_eq_some_iff.mp h
    by_cases hok : gram_Make.ok gs = true
    · rw [if_pos hok] at h
      have d1 : decide (a1 < 0) = false := decide_eq_false (fun e => hb (.inl e))
      have d2 : decide (65536 < a1) = false := decide_eq_false (fun e => hb (.inr e))
      have H := Aside0.mk h
      have H1 := Aside0.mk h1
      have HOK := Aside0.mk hok
      have HBD := Aside0.mk hb
      have HR := Aside0.mk hr0
      clear hr0 hc0 h h1 hok hb
      have hmk := fun W => run_makeMap (P := Try.prog) 54 W
      go_enter Try.func10, Try.ntmps10
      go_wp2
      clear hmk
      go_loopw [25] (fun i wr => ∃ (kk : Nat) (pre rest : List Int), kk ≤ l0.length ∧ i = .int .i64 kk ∧ Aside0 (gs = pre ++ rest) ∧ Aside0 (gram_Make.all k (l0.drop kk) = some rest) ∧ Aside0 (gram_Make.J w a1 wr pre.length pre)) (fun i _ => l0.length - (intOf i).toNat)
      case atStart => exact ⟨0, [], gs, Nat.zero_le _, rfl, ⟨rfl⟩, H1, ⟨gram_Make.J_start w a1⟩⟩
      case round =>
        obtain ⟨kk, pre, rest, hkk, rfl, HG, HA, HJ⟩ := hrel
        by_cases hlt : kk < l0.length
        · have hlt' : (kk : Int) < (l0.length : Int) := by omega
          have hdr : l0.drop kk = l0.getD kk ByteArray.empty :: l0.drop (kk + 1) := by
            rw [List.drop_eq_getElem_cons hlt]
            simp [List.getD_eq_getElem?_getD, List.getElem?_eq_getElem hlt]
          obtain ⟨ad, cc, rfl, _, hK, hc⟩ := Kd.C_get (Kd.C_below HR.out HJ.out.2.2.2) ByteArray.empty (kk : Int) (by omega) (by omega)
          rw [Int.toNat_natCast] at hK hc
          have hcell : wr.cell? (ad.add kk) = some (.string (l0.getD kk ByteArray.empty)) := by
            have e := hc 0 (.string (l0.getD kk ByteArray.empty)) (by rw [show cc = [Value.string (l0.getD kk ByteArray.empty)] from hK]; rfl)
            simpa [show Kd.string.sz = 1 from rfl] using e
          have hA := HA.out
          rw [hdr] at hA
          generalize l0.getD kk ByteArray.empty = s at hcell hA
          obtain ⟨g, hg1, hA⟩ := Option.bind_eq_some_iff.mp hA
          obtain ⟨r, hg2, hA⟩ := Option.bind_eq_some_iff.mp hA
          obtain rfl := Option.some.inj hA
          have HG1 := Aside0.mk hg1
          have HG2 := Aside0.mk hg2
          clear hA hg1 hg2 hdr hK hc HA
          go_wp2_with (go_at_call 14; refine (gram_Grams.calls k s g _ HG1.out).mono ?_; rintro e w2 ⟨v2, rfl, ho, hb⟩; obtain ⟨A2, c2, rfl, hc2, _⟩ := Kd.R_reads ho; have HO := Aside0.mk (Kd.R_mono (Kd.R_bound ho) (ok' := fun q => q ≠ w.heap.size + 1 + 1) (fun q hq => by have := hq.2.1; have := HJ.out.2.2.1.lt; omega)); have HJ2 := Aside0.mk (gram_Make.J_below HJ.out hb); have HC2 := Aside0.mk hc2; clear ho hb hc2)
          have hg30 : g.length ≤ 9223372036854775807 := by have := Kd.R_reads HO.out; obtain ⟨_, _, _, _, hq⟩ := this; exact hq.2.1
          have hsz : pre.length + g.length ≤ 1099511627776 := by
            have h1 := HOK.out
            unfold gram_Make.ok at h1
            rw [Bool.and_eq_true] at h1
            have h2 := of_decide_eq_true h1.2
            rw [HG.out] at h2
            simp only [List.length_append] at h2
            omega
          have HI := Aside0.mk (HR.out)
          go_loopw [32] (fun i wi => ∃ jj : Nat, jj ≤ g.length ∧ i = .int .i64 jj ∧ Aside0 (Kd.R (Kd.int .i64) 3 wi wr.heap.size (fun q => q ≠ w.heap.size + 1 + 1) (.slice A2 g.length c2) g) ∧ Aside0 (gram_Make.J w a1 wi (pre.length + jj) (pre ++ g.take jj))) (fun i _ => g.length - (intOf i).toNat)
          case atStart => exact ⟨0, Nat.zero_le _, rfl, HO, ⟨by simpa using HJ2.out⟩⟩
          case round =>
            clear HO HJ2 HJ
            obtain ⟨jj, hjj, rfl, HO, HJ⟩ := hrel
            by_cases hjl : jj < g.length
            · have hjl' : (jj : Int) < (g.length : Int) := by omega
              have hgm : 0 ≤ g.getD jj 0 ∧ g.getD jj 0 < 16777216 := by
                have h1 := HOK.out
                unfold gram_Make.ok at h1
                rw [Bool.and_eq_true] at h1
                refine mem_lt h1.1 ?_
                rw [HG.out]
                simp only [List.mem_append]
                refine .inr (.inl ?_)
                rw [List.getD_eq_getElem?_getD, List.getElem?_eq_getElem hjl]
                exact List.getElem_mem hjl
              have htk : g.take (jj + 1) = g.take jj ++ [g.getD jj 0] := by
                rw [List.take_succ_eq_append_getElem hjl]
                simp [List.getD_eq_getElem?_getD, List.getElem?_eq_getElem hjl]
              obtain ⟨_, _, hv, _, hC⟩ := Kd.R_reads HO.out
              cases hv
              obtain ⟨ad2, rfl, hcell⟩ := (Kd.reads_of_C (d := (0 : Int)) hC).at_ (jj : Int) (by omega) hjl'
              rw [Int.toNat_natCast] at hcell
              rw [show rdOf 0 g (jj : Int) = g.getD jj 0 by unfold rdOf; rw [Int.toNat_natCast]] at hcell
              have HT := Aside0.mk htk
              clear htk hC
              generalize g.getD jj 0 = y at hcell hgm HT
              go_wp2_with (at_mapUpdate; refine wpList_mapUpdate_own _ rfl _ _ _ 54 rfl 3 4 law3 Try.underlying54 (plainElem Try.prog 4) (w.heap.size + 1 + 1) (pre.length + jj) (marked (pre ++ g.take jj)) rfl HJ.out.2.2.1 (by unfold maxLen; omega) _ _ (.int .i64 y) rfl rfl (Go.Maps.keyOf_int_mk Try.underlying3 (wf_of y hgm)) (.lit (.bool true)) [] (plainElem_bool Try.underlying4 true) ?_; intro w3 hown3 hgrow3; rw [marked_snoc, List.append_assoc, ← HT.out] at hown3; have HJ3 := Aside0.mk (gram_Make.J_grown HJ.out hgrow3 hown3); have HO3 := Aside0.mk (Kd.R_grown HO.out hgrow3 (fun q hq => by simpa using hq)); clear hown3 hgrow3)
              go_roundw
              case rel => exact ⟨jj + 1, by omega, by go_num, HO3, HJ3⟩
              case measure => simp [intOf]; omega
            · obtain rfl : jj = g.length := by omega
              clear hjl
              have HJ4 := HJ.out
              rw [List.take_length] at HJ4
              go_wp2
              go_roundw
              case rel => exact ⟨kk + 1, pre ++ g, r, by omega, by go_num, ⟨by rw [HG.out, List.append_assoc]⟩, HG2, ⟨by rw [List.length_append]; exact HJ4⟩⟩
              case measure => simp [intOf]; omega
        · obtain rfl : kk = l0.length := by omega
          clear hlt
          have hrest : rest = [] := by
            have := HA.out
            rw [List.drop_length] at this
            simpa [gram_Make.all] using this.symm
          have hpre : gs = pre := by rw [HG.out, hrest, List.append_nil]
          subst hpre
          clear HG HA hrest
          by_cases hpos : 0 < a1
          · have d3 : decide (0 < a1) = true := decide_eq_true hpos
            obtain ⟨n, rfl⟩ : ∃ n : Nat, a1 = n := ⟨a1.toNat, by omega⟩
            have hn : n ≤ 65536 := by have := HBD.out; omega
            have hn0 : 0 < n := by omega
            clear hpos
            obtain ⟨jz, jf, jm, jb⟩ := HJ.out
            have bz := Aside0.mk jz
            have cf_2 : wr.cell? ⟨w.heap.size + 1, 2, none⟩ = some (.slice none 0 0) := (blk_cell jf 2).trans rfl
            have BF := Aside0.mk jf
            have BM := Aside0.mk jm
            have HB := Aside0.mk jb
            clear jz jf jm jb HJ cf_2
            go_wp2_with (first
              | (at_make; refine gram_Make.make_ rfl (.tmp 42) rfl n rfl hn ?_; intro q hq w1 hbq hb1; have hq0 := Nat.le_trans HB.out.size hq; have hqm : q ≠ w.heap.size + 1 + 1 := Nat.ne_of_gt (Nat.lt_of_lt_of_le BM.out.lt hq); have hqf : q ≠ w.heap.size + 1 := Nat.ne_of_gt (Nat.lt_of_lt_of_le (blk_lt BF.out) hq); have hqz : q ≠ w.heap.size := Nat.ne_of_gt (Nat.lt_of_lt_of_le (blk_lt bz.out) hq); have BF1 := Aside0.mk (blk_below BF.out hb1); have BZ1 := Aside0.mk (blk_below bz.out hb1); have BM1 := Aside0.mk (BM.out.kept (row := none) ⟨hb1.os, hb1.tape, hb1.output, hb1.size, fun k hk _ => hb1.block k hk⟩ (by simp)); have HB1 := Aside0.mk (below_then HB.out HB.out.size hb1); have BQ := Aside0.mk hbq; have cf_2 : w1.cell? ⟨w.heap.size + 1, 2, none⟩ = some (.slice none 0 0) := (blk_cell BF1.out 2).trans rfl; have ff_2 := blk_frozen BF1.out 2; clear hbq hb1 hq BF bz BM HB)
              | (at_range; refine wpList_range_own _ rfl _ 54 rfl 3 4 law3 Try.underlying54 _ (w.heap.size + 1 + 1) gs.length (marked gs) rfl (BM1.out.kept (gram_Make.grown_set _ _ 2 (.slice (some ⟨q, 0, none⟩) n n)) (by simp)) ?_; intro w3 hrg3 hg3 hs3))
            go_frame
            have bz3 := Aside0.mk ((hg3.block _ (by rw [World.size_setCell]; exact blk_lt BZ1.out) (by simp)).trans (blk_far (p := ⟨w.heap.size + 1, 2, none⟩) BZ1.out (by simp) (.slice (some ⟨q, 0, none⟩) n n)))
            have bf3 := Aside0.mk ((hg3.block _ (by rw [World.size_setCell]; exact blk_lt BF1.out) (by simp)).trans (blk_put BF1.out 2 (.slice (some ⟨q, 0, none⟩) n n) rfl))
            have bq3 := Aside0.mk ((hg3.block _ (by rw [World.size_setCell]; exact blk_lt BQ.out) (by simp)).trans (blk_far (p := ⟨w.heap.size + 1, 2, none⟩) BQ.out hqf (.slice (some ⟨q, 0, none⟩) n n)))
            have hb3 := Aside0.mk (gram_Make.below_grown (below_set HB1.out (show w.heap.size ≤ w.heap.size + 1 by omega)) (by rw [World.size_setCell]; exact HB1.out.size) hg3 (by simp))
            have hr0 : w.heap.size < w1.heap.size := blk_lt BZ1.out
            have hr1 : w.heap.size + 1 < w1.heap.size := blk_lt BF1.out
            have hr2 : w.heap.size + 1 + 1 < w1.heap.size := BM1.out.lt
            have hr3 : q < w1.heap.size := blk_lt BQ.out
            simp only [World.size_setCell] at hrg3 ⊢
            have HRG := Aside0.mk hrg3
            clear hrg3 hg3 hs3 BZ1 BF1 BQ HB1 BM1 cf_2 ff_2
            generalize w1.heap.size = r at HRG hr0 hr1 hr2 hr3 ⊢
            go_loopw [12] (fun _ wi => ∃ (S : List Bool) (left : Lit → Bool) (cnt : Nat), Aside0 (gram_Make.JA w n n q r gs wi S left cnt)) (fun _ wi => wi.rangeLeft (w.heap.size + 1 + 1) r)
            case atStart => exact ⟨List.replicate n false, _, _, ⟨bz3.out, bf3.out, bq3.out, HRG.out, hb3.out, by simp, fun p => ⟨fun e => by rw [List.getD_eq_getElem?_getD, List.getElem?_replicate] at e; (split at e <;> cases e), fun e => by obtain ⟨_, g, hg, hl, _⟩ := e; rw [gram_Make.start_of gs g hg] at hl; cases hl⟩⟩⟩
            case round =>
              clear bz3 bf3 bq3 hb3 HRG
              obtain ⟨S, left, cnt, HJ⟩ := hrel
              go_wp2_with (at_next; refine gram_Make.next_ rfl _ rfl (w.heap.size + 1 + 1) r gs.length (marked gs) left cnt rfl HJ.out.2.2.2.1 ?_ ?_)
              · intro hl0
                obtain ⟨jz, jf, jq, jr, jb, jl, jS⟩ := HJ.out
                have hS : S = gram_Make.marks gs n := gram_Make.marks_of jl (fun p => by rw [jS p]; simp [hl0])
                have BZ := Aside0.mk jz
                have BF := Aside0.mk jf
                have BQ := Aside0.mk jq
                have HB := Aside0.mk jb
                have HS := Aside0.mk hS
                have cf_1 : wr.cell? ⟨w.heap.size + 1, 1, none⟩ = some (.slice none 0 0) := (blk_cell BF.out 1).trans rfl
                clear jz jf jq jr jb jl jS HJ hS hl0
                go_wp2_with (go_at_call 30; refine (slices_Sort_int_int.calls (fun _ => False) (.slice none 0 0) [] [] w wr HB.out (Kd.R_nil _ _ _ _ _) gram_Make.sort_nil).mono ?_; rintro e w5 ⟨rfl, _, hb5, hk5⟩; have BZ5 := Aside0.mk ((hk5.2 _ (blk_lt BZ.out) (fun h => h)).trans BZ.out); have BF5 := Aside0.mk ((hk5.2 _ (blk_lt BF.out) (fun h => h)).trans BF.out); have BQ5 := Aside0.mk ((hk5.2 _ (blk_lt BQ.out) (fun h => h)).trans BQ.out); have HB5 := Aside0.mk hb5; have cf5_0 : w5.cell? ⟨w.heap.size + 1, 0, none⟩ = some (.int .i64 n) := (blk_cell BF5.out 0).trans rfl; have cf5_1 : w5.cell? ⟨w.heap.size + 1, 1, none⟩ = some (.slice none 0 0) := (blk_cell BF5.out 1).trans rfl; have cf5_2 : w5.cell? ⟨w.heap.size + 1, 2, none⟩ = some (.slice (some ⟨q, 0, none⟩) n n) := (blk_cell BF5.out 2).trans rfl; have cz5_0 : w5.cell? ⟨w.heap.size, 0, none⟩ = some (.int .i64 0) := (blk_cell BZ5.out 0).trans rfl; have cz5_1 : w5.cell? ⟨w.heap.size, 1, none⟩ = some (.slice none 0 0) := (blk_cell BZ5.out 1).trans rfl; have cz5_2 : w5.cell? ⟨w.heap.size, 2, none⟩ = some (.slice none 0 0) := (blk_cell BZ5.out 2).trans rfl; have fz5_0 := blk_frozen BZ5.out 0; have fz5_1 := blk_frozen BZ5.out 1; have fz5_2 := blk_frozen BZ5.out 2; clear hb5 hk5)
                refine bodyPost_ret (gram_Make.results_row_tmp rfl _ _ w.heap.size 28 #[.int .i64 n, .slice none 0 0, .slice (some ⟨q, 0, none⟩) n n] (0, 0) _ rfl (by refine blk_put (cs := #[.int .i64 n, .slice none 0 0, .slice none 0 0]) ?_ 2 _ rfl; refine blk_put (cs := #[.int .i64 n, .slice none 0 0, .slice none 0 0]) ?_ 1 _ rfl; refine blk_put (cs := #[.int .i64 0, .slice none 0 0, .slice none 0 0]) ?_ 0 _ rfl; exact BZ5.out) Try.underlying28 rfl (by kernel_rfl)) rfl ?_
                have h := H.out
                rw [if_pos (by omega), Int.toNat_natCast] at h
                simp only [Option.some.injEq, Prod.mk.injEq] at h
                obtain ⟨rfl, rfl, rfl, rfl⟩ := h
                refine ⟨_, _, rfl, Kd.R_nil _ _ _ _ _, ?_, below_set (below_set (below_set HB5.out (Nat.le_refl _)) (Nat.le_refl _)) (Nat.le_refl _)⟩
                rw [← HS.out]
                exact gram_Make.bools (blk_far (blk_far (blk_far BQ5.out hqz _) hqz _) hqz _) (by rw [HS.out]; simp [gram_Make.marks]) hn hq0
              · intro x v w4 cnt4 hlx hhas hrg4 hlt hg4 hs4 hen
                have hxg : x ∈ gs := (marked_has gs x).1 hhas
                have hxr : 0 ≤ x ∧ x < 16777216 := by
                  have h1 := HOK.out
                  unfold gram_Make.ok at h1
                  rw [Bool.and_eq_true] at h1
                  exact mem_lt h1.1 hxg
                obtain ⟨hp0, hp1⟩ := gram_Make.at_range x n hxr (by omega)
                have hpl : gram_place.f x n = some (gram_Make.at_ x n) := by
                  unfold gram_place.f gram_Make.at_
                  rw [if_neg (by omega)]
                obtain ⟨p, hp⟩ : ∃ p : Nat, gram_Make.at_ x n = p := ⟨(gram_Make.at_ x n).toNat, by omega⟩
                rw [hp] at hp0 hp1 hpl
                obtain ⟨jz, jf, jq, jr, jb, jl, jS⟩ := HJ.out
                have BZ := Aside0.mk ((hg4.block _ (blk_lt jz) (by simp; omega)).trans jz)
                have BF := Aside0.mk ((hg4.block _ (blk_lt jf) (by simp; omega)).trans jf)
                have BQ := Aside0.mk ((hg4.block _ (blk_lt jq) (by simp; omega)).trans jq)
                have HB := Aside0.mk (gram_Make.below_grown jb jb.size hg4 (fun i hi => by simp; omega))
                have HS := Aside0.mk jS
                have hm4 := jr.left_eq
                have HRG := Aside0.mk hrg4
                have HP := Aside0.mk hp
                have HX := Aside0.mk (And.intro hxg hlx)
                have cf_2 : w4.cell? ⟨w.heap.size + 1, 2, none⟩ = some (.slice (some ⟨q, 0, none⟩) n n) := (blk_cell BF.out 2).trans rfl
                have hpS : p < S.length := by omega
                have cq : w4.cell? ⟨q, p, none⟩ = some (.bool S[p]) := (blk_cell BQ.out p).trans (by simp [hpS])
                have fq := blk_frozen BQ.out p
                have hPl := fun W => gram_place.calls x n (p : Int) W hpl
                clear jz jf jq jr jb jS HJ hrg4 hg4 hs4 hp hhas hlx hxg hpl
                go_wp2
                clear hen
                go_region_held3 (fun w' => w'.cell? ⟨w.heap.size + 1, 2, none⟩ = some (.slice (some ⟨q, 0, none⟩) n n)) (go_keep) (first | (go_at_call 29; refine (hPl _).mono ?_; rintro e w5 ⟨rfl, ⟨nd, rfl⟩⟩))
                go_wp2
                have hR5 : ((w4.drewN (1 + nd)).setCell ⟨q, p, none⟩ (.bool true)).ranges Try.prog 3 (plainElem Try.prog 4) (w.heap.size + 1 + 1) r gs.length (marked gs) (fun z => left z && !z.sameKey (Lit.int .i64 x)) cnt4 :=
                  World.ranges.kept (w := w4.drewN (1 + nd)) (show (w4.drewN (1 + nd)).ranges Try.prog 3 (plainElem Try.prog 4) (w.heap.size + 1 + 1) r gs.length (marked gs) (fun z => left z && !z.sameKey (Lit.int .i64 x)) cnt4 from HRG.out) (gram_Make.grown_set _ q p (.bool true)) (by simp; omega) (by simp; omega)
                go_roundw
                case rel => exact ⟨S.set p true, (fun z => left z && !z.sameKey (Lit.int .i64 x)), cnt4, ⟨blk_far (p := ⟨q, p, none⟩) (w := w4.drewN _) BZ.out (fun e => hqz e.symm) _, blk_far (p := ⟨q, p, none⟩) (w := w4.drewN _) BF.out (fun e => hqf e.symm) _, blk_put (w := w4.drewN _) BQ.out p (.bool true) (by simp [List.map_set]), hR5, below_set (pw_below_drewN HB.out _) hq0, by rw [List.length_set]; exact jl, gram_Make.set_spec jl (by omega) HX.out.1 HP.out HS.out⟩⟩
                case measure => rw [hR5.left_eq, hm4]; exact hlt
          · obtain rfl : a1 = 0 := by have := HBD.out; omega
            have d3 : decide ((0 : Int) < 0) = false := by decide
            clear hpos
            obtain ⟨jz, jf, jm, jb⟩ := HJ.out
            have hsm := gram_Make.size_le jm
            have hr0 : w.heap.size < wr.heap.size := blk_lt jz
            have hr1 : w.heap.size + 1 < wr.heap.size := blk_lt jf
            have hr2 : w.heap.size + 1 + 1 < wr.heap.size := jm.lt
            go_wp2_with (at_range; refine wpList_range_own _ rfl _ 54 rfl 3 4 law3 Try.underlying54 _ (w.heap.size + 1 + 1) gs.length (marked gs) rfl jm ?_; intro w3 hrg3 hg3 hs3)
            go_frame
            have bz3 := Aside0.mk ((hg3.block _ (blk_lt jz) (by simp)).trans jz)
            have bf3 := Aside0.mk ((hg3.block _ (blk_lt jf) (by simp)).trans jf)
            have hb3 := Aside0.mk (gram_Make.below_grown jb jb.size hg3 (by simp))
            have HRG := Aside0.mk hrg3
            clear hrg3 hg3 hs3 jz jf jm jb HJ
            generalize wr.heap.size = r at HRG hr0 hr1 hr2 ⊢
            go_loopw [12] (fun _ wi => ∃ (v : Value) (L : List Int) (left : Lit → Bool) (cnt : Nat), Aside0 (gram_Make.JB w r gs wi v L left cnt)) (fun _ wi => wi.rangeLeft (w.heap.size + 1 + 1) r)
            case atStart => exact ⟨.slice none 0 0, [], _, _, ⟨bz3.out, bf3.out, Kd.R_nil _ _ _ _ _, HRG.out, hb3.out, List.nodup_nil, fun y => ⟨fun e => (by simp at e), fun e => by rw [gram_Make.start_of gs y e.1] at e; cases e.2⟩, by simpa using hsm⟩⟩
            case round =>
              clear bz3 bf3 hb3 HRG
              obtain ⟨v1, L, left, cnt, HJ⟩ := hrel
              obtain ⟨jz, jf, jo, jr, jb, jn, jy, jc⟩ := HJ.out
              obtain ⟨A1, c1, rfl⟩ := Kd.R_slice jo
              go_wp2_with (at_next; refine gram_Make.next_ rfl _ rfl (w.heap.size + 1 + 1) r gs.length (marked gs) left cnt rfl jr ?_ ?_)
              · intro hl0
                have hL : ∀ y, y ∈ L ↔ y ∈ gs := fun y => by rw [jy y]; simp [hl0]
                have hlen := asc_length_of jn hL
                have hsort := sort_asc jn hL
                have BZ := Aside0.mk jz
                have BF := Aside0.mk jf
                have HB := Aside0.mk jb
                have HO := Aside0.mk jo
                have HLN := Aside0.mk hlen
                have HST := Aside0.mk hsort
                have cf_1 : wr.cell? ⟨w.heap.size + 1, 1, none⟩ = some (.slice A1 L.length c1) := (blk_cell BF.out 1).trans rfl
                clear jz jf jr jb jy jo jn HJ hl0 hL hlen hsort
                have h := H.out
                rw [if_neg (by omega)] at h
                by_cases hmany : 65536 < (asc gs).length
                · rw [if_pos hmany] at h
                  simp only [Option.some.injEq, Prod.mk.injEq] at h
                  obtain ⟨rfl, rfl, rfl, rfl⟩ := h
                  have d4 : decide ((65536 : Int) < (L.length : Int)) = true := decide_eq_true (by have := HLN.out; omega)
                  have cz5_0 : wr.cell? ⟨w.heap.size, 0, none⟩ = some (.int .i64 0) := (blk_cell BZ.out 0).trans rfl
                  have cz5_1 : wr.cell? ⟨w.heap.size, 1, none⟩ = some (.slice none 0 0) := (blk_cell BZ.out 1).trans rfl
                  have cz5_2 : wr.cell? ⟨w.heap.size, 2, none⟩ = some (.slice none 0 0) := (blk_cell BZ.out 2).trans rfl
                  have fz5_0 := blk_frozen BZ.out 0
                  have fz5_1 := blk_frozen BZ.out 1
                  have fz5_2 := blk_frozen BZ.out 2
                  go_wp2
                  refine bodyPost_ret (gram_Make.results_row_tmp rfl _ _ w.heap.size 28 #[.int .i64 0, .slice none 0 0, .slice none 0 0] (0, 0) _ rfl (by refine blk_put (cs := #[.int .i64 0, .slice none 0 0, .slice none 0 0]) ?_ 2 _ rfl; refine blk_put (cs := #[.int .i64 0, .slice none 0 0, .slice none 0 0]) ?_ 1 _ rfl; refine blk_put (cs := #[.int .i64 0, .slice none 0 0, .slice none 0 0]) ?_ 0 _ rfl; exact BZ.out) Try.underlying28 rfl (by kernel_rfl)) rfl ?_
                  exact ⟨_, _, rfl, Kd.R_nil _ _ _ _ _, Kd.R_nil _ _ _ _ _, below_set (below_set (below_set HB.out (Nat.le_refl _)) (Nat.le_refl _)) (Nat.le_refl _)⟩
                · rw [if_neg hmany] at h
                  simp only [Option.some.injEq, Prod.mk.injEq] at h
                  obtain ⟨rfl, rfl, rfl, rfl⟩ := h
                  have d4 : decide ((65536 : Int) < (L.length : Int)) = false := decide_eq_false (by have := HLN.out; omega)
                  have hsf : slices_Sort_int_int.f L = some (asc gs) := by
                    unfold slices_Sort_int_int.f
                    rw [if_pos (by have := HLN.out; omega), HST.out]
                  have hSrt := slices_Sort_int_int.calls (gram_Make.okB w r) (.slice A1 L.length c1) L (asc gs) w wr HB.out HO.out hsf
                  have HSRT := Aside0.mk hSrt
                  clear hsf hSrt
                  go_wp2_with (go_at_call 30; refine HSRT.out.mono ?_; rintro e w5 ⟨rfl, hr5, hb5, hk5⟩; have BZ5 := Aside0.mk ((hk5.2 _ (blk_lt BZ.out) (fun h => h.1 rfl)).trans BZ.out); have BF5 := Aside0.mk ((hk5.2 _ (blk_lt BF.out) (fun h => h.2.1 rfl)).trans BF.out); have HB5 := Aside0.mk hb5; have HR5 := Aside0.mk hr5; have cf5_0 : w5.cell? ⟨w.heap.size + 1, 0, none⟩ = some (.int .i64 0) := (blk_cell BF5.out 0).trans rfl; have cf5_1 : w5.cell? ⟨w.heap.size + 1, 1, none⟩ = some (.slice A1 L.length c1) := (blk_cell BF5.out 1).trans rfl; have cf5_2 : w5.cell? ⟨w.heap.size + 1, 2, none⟩ = some (.slice none 0 0) := (blk_cell BF5.out 2).trans rfl; have cz5_0 : w5.cell? ⟨w.heap.size, 0, none⟩ = some (.int .i64 0) := (blk_cell BZ5.out 0).trans rfl; have cz5_1 : w5.cell? ⟨w.heap.size, 1, none⟩ = some (.slice none 0 0) := (blk_cell BZ5.out 1).trans rfl; have cz5_2 : w5.cell? ⟨w.heap.size, 2, none⟩ = some (.slice none 0 0) := (blk_cell BZ5.out 2).trans rfl; have fz5_0 := blk_frozen BZ5.out 0; have fz5_1 := blk_frozen BZ5.out 1; have fz5_2 := blk_frozen BZ5.out 2; clear hb5 hk5 hr5)
                  refine bodyPost_ret (gram_Make.results_row_tmp rfl _ _ w.heap.size 28 #[.int .i64 0, .slice A1 L.length c1, .slice none 0 0] (0, 0) _ rfl (by refine blk_put (cs := #[.int .i64 0, .slice A1 L.length c1, .slice none 0 0]) ?_ 2 _ rfl; refine blk_put (cs := #[.int .i64 0, .slice none 0 0, .slice none 0 0]) ?_ 1 _ rfl; refine blk_put (cs := #[.int .i64 0, .slice none 0 0, .slice none 0 0]) ?_ 0 _ rfl; exact BZ5.out) Try.underlying28 rfl (by kernel_rfl)) rfl ?_
                  have hok : ∀ k, (gram_Make.okB w r k ∨ wr.heap.size ≤ k) → k ≠ w.heap.size := fun k hk => by
                    rcases hk with hk | hk
                    · exact hk.1
                    · have := blk_lt BZ.out
                      omega
                  exact ⟨_, _, rfl, Kd.R_mono (Kd.R_far (p := ⟨w.heap.size, 2, none⟩) (Kd.R_far (p := ⟨w.heap.size, 1, none⟩) (Kd.R_far (p := ⟨w.heap.size, 0, none⟩) HR5.out hok _) hok _) hok _) (fun _ _ => trivial), Kd.R_nil _ _ _ _ _, below_set (below_set (below_set HB5.out (Nat.le_refl _)) (Nat.le_refl _)) (Nat.le_refl _)⟩
              · intro x vb w4 cnt4 hlx hhas hrg4 hlt hg4 hs4 hen
                have hxg : x ∈ gs := (marked_has gs x).1 hhas
                have hxL : x ∉ L := fun e => by rw [((jy x).1 e).2] at hlx; cases hlx
                have hm4 := jr.left_eq
                have hgs : gs.length < 1099511627776 := by
                  have h1 := HOK.out
                  unfold gram_Make.ok at h1
                  rw [Bool.and_eq_true] at h1
                  exact of_decide_eq_true h1.2
                have hrlt : r < wr.heap.size := jr.lt
                have HO := Aside0.mk (Kd.R_grown jo hg4 (fun k hk => by simpa using hk.2.2.2))
                have BZ := Aside0.mk ((hg4.block _ (blk_lt jz) (by simp; omega)).trans jz)
                have BF := Aside0.mk ((hg4.block _ (blk_lt jf) (by simp; omega)).trans jf)
                have HB := Aside0.mk (gram_Make.below_grown jb jb.size hg4 (fun i hi => by simp; omega))
                have HRG := Aside0.mk hrg4
                have HN := Aside0.mk (List.nodup_append.2 ⟨jn, by simp, fun a ha b hb => by rw [List.mem_singleton] at hb; subst hb; exact fun e => hxL (e ▸ ha)⟩ : (L ++ [x]).Nodup)
                have HY := Aside0.mk (gram_Make.mem_step hxg jy)
                have cf_1 : w4.cell? ⟨w.heap.size + 1, 1, none⟩ = some (.slice A1 L.length c1) := (blk_cell BF.out 1).trans rfl
                have hsz4 : r < w4.heap.size := by omega
                have hjc : L.length + cnt4 + 1 ≤ gs.length := by omega
                clear jz jf jo jr jb jn jy HJ hrg4 hg4 hhas hlx hxg hxL hs4
                go_wp2_with (at_builtin; refine Kd.R_append (Kd.int .i64) (w0 := w) w.heap.size rfl (.tmp 60) (.tmp 62) 25 3 (.int .i64 0) 8 rfl Try.underlying25 info3 rfl (by decide) (by decide) (.slice A1 L.length c1) L x [.int .i64 x] (gram_Make.okB w r) (fun _ => False) rfl rfl rfl (fun _ h => h.elim) (fun k hk => ⟨by omega, by omega, by omega, by omega⟩) HO.out HB.out HB.out.size (by omega) ?_; intro v2 w5 ho5 hb5 hg5 hat5; obtain ⟨A5, c5, rfl⟩ := Kd.R_slice ho5; have hneq : ∀ k, ¬ gram_Make.okB w r k → some k ≠ (Value.slice A1 L.length c1).ownBlock := fun k hk e => hk (HO.out.1 k e.symm); have BZ5 := Aside0.mk ((hg5.block _ (blk_lt BZ.out) (hneq _ (fun h => h.1 rfl))).trans BZ.out); have BF5 := Aside0.mk ((hg5.block _ (blk_lt BF.out) (hneq _ (fun h => h.2.1 rfl))).trans BF.out); have HRG5 := Aside0.mk (HRG.out.kept hg5 (hneq _ (fun h => h.2.2.1 rfl)) (hneq _ (fun h => h.2.2.2 rfl))); have HO5 := Aside0.mk ho5; have HB5 := Aside0.mk hb5; have cf5_1 : w5.cell? ⟨w.heap.size + 1, 1, none⟩ = some (.slice A1 L.length c1) := (blk_cell BF5.out 1).trans rfl; have ff5_1 := blk_frozen BF5.out 1; clear ho5 hb5 hg5 hat5 hneq BZ BF HRG HO HB)
                have hO6 := HO5.out
                rw [show (L ++ [x]).length = L.length + 1 by simp] at hO6
                have hR6 : (w5.setCell ⟨w.heap.size + 1, 1, none⟩ (.slice A5 (L.length + 1) c5)).ranges Try.prog 3 (plainElem Try.prog 4) (w.heap.size + 1 + 1) r gs.length (marked gs) (fun z => left z && !z.sameKey (Lit.int .i64 x)) cnt4 := HRG5.out.kept (gram_Make.grown_set _ _ 1 (.slice A5 (L.length + 1) c5)) (by simp) (by simp; omega)
                go_roundw
                case rel => exact ⟨.slice A5 (L.length + 1) c5, L ++ [x], (fun z => left z && !z.sameKey (Lit.int .i64 x)), cnt4, ⟨blk_far (p := ⟨w.heap.size + 1, 1, none⟩) BZ5.out (by simp) _, blk_put BF5.out 1 (.slice A5 (L.length + 1) c5) rfl, Kd.R_far (p := ⟨w.heap.size + 1, 1, none⟩) hO6 (fun k hk => hk.2.1) (.slice A5 (L.length + 1) c5), hR6, below_set HB5.out (by omega), HN.out, HY.out, by rw [List.length_append]; simp; omega⟩⟩
                case measure => rw [hR6.left_eq, hm4]; exact hlt
    · rw [if_neg hok] at h
      cases h
end Go.Proofs.Ytafigfhlpjnejaa.Pg
