-- Written by a program of this session out of Lean's print of the program (a turned print); checked by Lean.
import Derived.Test.YtafigfhlpjnejaaPgx0
import Derived.Test.YtafigfhlpjnejaaPgx1
import Derived.Test.YtafigfhlpjnejaaPgx5
import Derived.Test.YtafigfhlpjnejaaPgx7
namespace Go.Proofs.Ytafigfhlpjnejaa.Pg
open Go.RowKit Go.Proofs.YtafigfhlpjnejaaW.PrintWords Go.Proofs.YtafigfhlpjnejaaW.PrintLast Go.Proofs.YtafigfhlpjnejaaW.PrintMore
attribute [local go_sem] max2_int min2_int max_two min_two max_three min_three max_four min_four   -- for this text's walks alone
set_option linter.unusedVariables false
set_option linter.unusedSimpArgs false

/-! ### hopperlaw15_GramKeeps: function 5 -/
mutual
def hopperlaw15_GramKeeps.j0 : Nat → List ByteArray → Bool → Option (Bool)
  | 0, _, _ => none
  | k + 1, x0, x14 => if x14 = true then ((hopperlaw15_awake.f k).bind fun t292 => (some t292)) else ((gram_Make.f k x0 0).bind fun bt293 => (hopperlaw15_GramKeeps.l0 k x0 0 bt293.1 bt293.2.1 bt293.2.2.1))
def hopperlaw15_GramKeeps.l0 : Nat → List ByteArray → Int → Int → List Int → List Bool → Option (Bool)
  | 0, _, _, _, _, _ => none
  | k + 1, x0, x5, x302000, x302001, x302002 => if x5 < (x302001.length : Int) then (if 0 ≤ x5 then (hopperlaw15_GramKeeps.l0 k x0 (wrap64 (x5 + 1)) x302000 (x302001.set (x5 : Int).toNat (-7)) x302002) else (none)) else ((gram_Make.f k x0 0).bind fun bt303 => (if bt303.2.2.2 = 0 then ((hopperref15_Make.f k x0 0).bind fun bt312 => ((hopperref15_Same.f k bt303.1 bt303.2.1 bt303.2.2.1 bt312.1 bt312.2.1 bt312.2.2).bind fun t319 => (some t319))) else (none)))
end
def hopperlaw15_GramKeeps.f (k : Nat) (l0 : List ByteArray) : Option (Bool) := (hopperlaw15_awake.f k).bind fun t290 => (if t290 = true then ((hopperref15_Few.f k l0).bind fun t291 => (hopperlaw15_GramKeeps.j0 k l0 (!t291))) else (hopperlaw15_GramKeeps.j0 k l0 true))
theorem hopperlaw15_GramKeeps.mono_l : ∀ k, (∀ y0 y1, LeO (hopperlaw15_GramKeeps.j0 k y0 y1) (hopperlaw15_GramKeeps.j0 (k + 1) y0 y1)) ∧ (∀ y0 y1 y2 y3 y4, LeO (hopperlaw15_GramKeeps.l0 k y0 y1 y2 y3 y4) (hopperlaw15_GramKeeps.l0 (k + 1) y0 y1 y2 y3 y4))
  | 0 => ⟨fun _ _ r h => by simp [hopperlaw15_GramKeeps.j0] at h, fun _ _ _ _ _ r h => by simp [hopperlaw15_GramKeeps.l0] at h⟩
  | k + 1 => by
    obtain ⟨ih0, ih1⟩ := hopperlaw15_GramKeeps.mono_l k
    refine ⟨?_, ?_⟩
    · intro y0 y1
      unfold hopperlaw15_GramKeeps.j0
      repeat' first
      | (with_reducible exact ih0 _ _)
      | (with_reducible exact ih1 _ _ _ _ _)
      | (with_reducible exact gram_Make.mono _ _ _)
      | (with_reducible exact hopperlaw15_awake.mono _)
      | (with_reducible exact hopperref15_Few.mono _ _)
      | (with_reducible exact hopperref15_Make.mono _ _ _)
      | (with_reducible exact hopperref15_Same.mono _ _ _ _ _ _ _)
      | (with_reducible exact LeO.refl _)
      | (with_reducible exact LeO.none _)
      | (with_reducible refine LeO.ite ?_ ?_)
      | (with_reducible refine LeO.bind ?_ (fun _ => ?_))
      | exact ih0 _ _
      | exact ih1 _ _ _ _ _
      | exact gram_Make.mono _ _ _
      | exact hopperlaw15_awake.mono _
      | exact hopperref15_Few.mono _ _
      | exact hopperref15_Make.mono _ _ _
      | exact hopperref15_Same.mono _ _ _ _ _ _ _
      | exact LeO.none _
      | refine LeO.ite ?_ ?_
      | refine LeO.bind ?_ (fun _ => ?_)
    · intro y0 y1 y2 y3 y4
      unfold hopperlaw15_GramKeeps.l0
      repeat' first
      | (with_reducible exact ih0 _ _)
      | (with_reducible exact ih1 _ _ _ _ _)
      | (with_reducible exact gram_Make.mono _ _ _)
      | (with_reducible exact hopperlaw15_awake.mono _)
      | (with_reducible exact hopperref15_Few.mono _ _)
      | (with_reducible exact hopperref15_Make.mono _ _ _)
      | (with_reducible exact hopperref15_Same.mono _ _ _ _ _ _ _)
      | (with_reducible exact LeO.refl _)
      | (with_reducible exact LeO.none _)
      | (with_reducible refine LeO.ite ?_ ?_)
      | (with_reducible refine LeO.bind ?_ (fun _ => ?_))
      | exact ih0 _ _
      | exact ih1 _ _ _ _ _
      | exact gram_Make.mono _ _ _
      | exact hopperlaw15_awake.mono _
      | exact hopperref15_Few.mono _ _
      | exact hopperref15_Make.mono _ _ _
      | exact hopperref15_Same.mono _ _ _ _ _ _ _
      | exact LeO.none _
      | refine LeO.ite ?_ ?_
      | refine LeO.bind ?_ (fun _ => ?_)
theorem hopperlaw15_GramKeeps.mono : ∀ a0 k, LeO (hopperlaw15_GramKeeps.f k a0) (hopperlaw15_GramKeeps.f (k + 1) a0) := by
  intro a0 k
  obtain ⟨ih0, ih1⟩ := hopperlaw15_GramKeeps.mono_l k
  unfold hopperlaw15_GramKeeps.f
  repeat' first
      | (with_reducible exact ih0 _ _)
      | (with_reducible exact ih1 _ _ _ _ _)
      | (with_reducible exact gram_Make.mono _ _ _)
      | (with_reducible exact hopperlaw15_awake.mono _)
      | (with_reducible exact hopperref15_Few.mono _ _)
      | (with_reducible exact hopperref15_Make.mono _ _ _)
      | (with_reducible exact hopperref15_Same.mono _ _ _ _ _ _ _)
      | (with_reducible exact LeO.refl _)
      | (with_reducible exact LeO.none _)
      | (with_reducible refine LeO.ite ?_ ?_)
      | (with_reducible refine LeO.bind ?_ (fun _ => ?_))
      | exact ih0 _ _
      | exact ih1 _ _ _ _ _
      | exact gram_Make.mono _ _ _
      | exact hopperlaw15_awake.mono _
      | exact hopperref15_Few.mono _ _
      | exact hopperref15_Make.mono _ _ _
      | exact hopperref15_Same.mono _ _ _ _ _ _ _
      | exact LeO.none _
      | refine LeO.ite ?_ ?_
      | refine LeO.bind ?_ (fun _ => ?_)
def hopperlaw15_GramKeeps.T9 : Bool × List (List Nat × List Nat) := (true, [([], []), ([0], [0]), ([1], [1]), ([2], [2]), ([2], [2]), ([4, 2, 2], [2, 4]), ([3, 5, 5, 2], [2, 3, 5]), ([2, 6], [2, 6]), ([7, 6, 0, 1, 2, 3, 4, 5, 6, 7], [7])])
def hopperlaw15_GramKeeps.B9 : List Nat := [0, 1, 3, 7, 7, 23, 63, 127, 255]
theorem hopperlaw15_GramKeeps.tab9 : rtab .any (opsOf Try.f5 9) = hopperlaw15_GramKeeps.T9 := by kernel_rfl
theorem hopperlaw15_GramKeeps.bits9 : waitsOk hopperlaw15_GramKeeps.T9.2 hopperlaw15_GramKeeps.B9 = true := by kernel_rfl
set_option maxHeartbeats 8000000 in
set_option maxRecDepth 100000 in
theorem hopperlaw15_GramKeeps.calls (k : Nat) (A0 : Option Addr) (c0 : Nat) (l0 : List ByteArray) (r : Bool) (w : World) (hr0 : Kd.C Kd.string w A0 l0.length l0) (hc0 : l0.length ≤ c0) (h : hopperlaw15_GramKeeps.f k l0 = some r) :
    Calls Try.prog 5 #[.slice A0 l0.length c0] w fun e w' => e = .returned (.bool r) ∧ Below w.heap.size w w' := by
  have hu28 := Try.underlying28
  have HR0 := Aside0.mk hr0
  have HC0 := Aside0.mk hc0
  clear hr0 hc0
  have HB := Aside0.mk (Below.refl w.heap.size w)
  have H : ((hopperlaw15_awake.f k).bind fun t290 => (if t290 = true then ((hopperref15_Few.f k l0).bind fun t291 => (hopperlaw15_GramKeeps.j0 k l0 (!t291))) else (hopperlaw15_GramKeeps.j0 k l0 true))) = some r := h
  clear h
  have HC2 := Aside0.mk H
  clear H
  go_enter Try.func5, Try.ntmps5
  go_upto_region 1 with (fail)
  go_cut [14] (fun v14 wc => ∃ (kq : Nat) (x14_1 : Bool), v14 = .bool x14_1 ∧ Aside0 (hopperlaw15_GramKeeps.j0 kq l0 x14_1 = some r) ∧ Aside0 (kq ≤ k) ∧ Aside0 (Below w.heap.size w wc))
  case first =>
    have H := HC2.out
    clear HC2
    replace H := Option.bind_eq_some_iff.mp H
    obtain ⟨t290, A30, H⟩ := H
    replace H : (if t290 = true then ((hopperref15_Few.f k l0).bind fun t291 => (hopperlaw15_GramKeeps.j0 k l0 (!t291))) else (hopperlaw15_GramKeeps.j0 k l0 true)) = some r := H
    have A3 := Aside0.mk A30
    clear A30
    by_cases c4 : t290 = true
    · subst c4
      have H1 : ((hopperref15_Few.f k l0).bind fun t291 => (hopperlaw15_GramKeeps.j0 k l0 (!t291))) = some r := by rw [if_pos rfl] at H; exact H
      clear H
      have H := H1
      clear H1
      replace H := Option.bind_eq_some_iff.mp H
      obtain ⟨t291, A50, H⟩ := H
      replace H : (hopperlaw15_GramKeeps.j0 k l0 (!t291)) = some r := H
      have A5 := Aside0.mk A50
      clear A50
      have H' := Aside0.mk H
      clear H
      go_wp2_with (first | ((with_reducible refine gate_callee (f := 8) rfl ?_); refine goesL_ (some 8) rfl rfl Try.func8 (by kernel_rfl) rfl #[] rfl (by (try simp only [List.map_toArray, List.map_cons, List.map_nil]); first | done | rfl | (simp only [List.length_drop, List.length_take]; rfl)) ?_; (with_reducible refine (hopperlaw15_awake.calls k  true _ A3.out).mono ?_); rintro e w6 ⟨rfl, hb⟩; refine ⟨_, rfl, ?_⟩; have n0_ := Aside0.mk (below_step (by repeat (first | (with_reducible first | exact HB.out | apply below_alloc | apply pw_below_drewN | apply below_drew1) | exact HB.out)) hb); clear HB; have HB := n0_; clear n0_; (try clear hb); (try clear hb2); (try clear hk); (try clear hi)) | (go_at_call 9; (with_reducible refine (hopperref15_Few.calls k _ _ l0 t291 _ ?side1 ?side2 A5.out).mono ?_); (case side1 => repeat (first | exact (Kd.C_below HR0.out HB.out) | (with_reducible refine Kd.C_alloc ?_ _) | (with_reducible refine Kd.C_drewN ?_ _) | (with_reducible refine Kd.C_drew ?_))); (case side2 => exact HC0.out); rintro e w' ⟨rfl, ⟨nd, rfl⟩⟩))
      go_meet
      case rel => exact ⟨_, (!t291), (by first | rfl | (simp; done) | (simp [*]; done)), H', ⟨by first | omega | exact Nat.le_refl _⟩, ⟨by repeat (first | (with_reducible first | exact HB.out | apply below_alloc | apply pw_below_drewN | apply below_drew1) | exact HB.out)⟩⟩
    · replace c4 := Bool.eq_false_iff.mpr c4
      subst c4
      have H1 : (hopperlaw15_GramKeeps.j0 k l0 true) = some r := by rw [if_neg (show ¬ (false = true) by decide)] at H; exact H
      clear H
      have H := H1
      clear H1
      have H' := Aside0.mk H
      clear H
      go_wp2_with (first | ((with_reducible refine gate_callee (f := 8) rfl ?_); refine goesL_ (some 8) rfl rfl Try.func8 (by kernel_rfl) rfl #[] rfl (by (try simp only [List.map_toArray, List.map_cons, List.map_nil]); first | done | rfl | (simp only [List.length_drop, List.length_take]; rfl)) ?_; (with_reducible refine (hopperlaw15_awake.calls k  false _ A3.out).mono ?_); rintro e w7 ⟨rfl, hb⟩; refine ⟨_, rfl, ?_⟩; have n0_ := Aside0.mk (below_step (by repeat (first | (with_reducible first | exact HB.out | apply below_alloc | apply pw_below_drewN | apply below_drew1) | exact HB.out)) hb); clear HB; have HB := n0_; clear n0_; (try clear hb); (try clear hb2); (try clear hk); (try clear hi)))
      go_meet
      case rel => exact ⟨_, (true), (by first | rfl | (simp; done) | (simp [*]; done)), H', ⟨by first | omega | exact Nat.le_refl _⟩, ⟨by repeat (first | (with_reducible first | exact HB.out | apply below_alloc | apply pw_below_drewN | apply below_drew1) | exact HB.out)⟩⟩
  case rest =>
    clear HC2
    try clear p2
    try clear c4
    try clear c5
    obtain ⟨kq, x14_1, rfl, HA, HJ1, HB⟩ := hcut
    cases kq with
    | zero => exact absurd HA.out (by simp [hopperlaw15_GramKeeps.j0])
    | succ kj1 =>
      have H := HA.out
      clear HA
      simp only [hopperlaw15_GramKeeps.j0] at H
      by_cases c8 : x14_1 = true
      · subst c8
        have H1 : ((hopperlaw15_awake.f kj1).bind fun t292 => (some t292)) = some r := by rw [if_pos rfl] at H; exact H
        clear H
        have H := H1
        clear H1
        replace H := Option.bind_eq_some_iff.mp H
        obtain ⟨t292, A90, H⟩ := H
        replace H : (some t292) = some r := H
        have A9 := Aside0.mk A90
        clear A90
        obtain rfl := Option.some.inj H
        go_wp2_with (first | ((with_reducible refine gate_callee (f := 8) rfl ?_); refine goesL_ (some 15) rfl rfl Try.func8 (by kernel_rfl) rfl #[] rfl (by (try simp only [List.map_toArray, List.map_cons, List.map_nil]); first | done | rfl | (simp only [List.length_drop, List.length_take]; rfl)) ?_; (with_reducible refine (hopperlaw15_awake.calls kj1  t292 _ A9.out).mono ?_); rintro e w10 ⟨rfl, hb⟩; refine ⟨_, rfl, ?_⟩; have n0_ := Aside0.mk (below_step (by repeat (first | (with_reducible first | exact HB.out | apply below_alloc | apply pw_below_drewN | apply below_drew1) | exact HB.out)) hb); clear HB; have HB := n0_; clear n0_; (try clear hb); (try clear hb2); (try clear hk); (try clear hi)))
        go_ret
        exact ⟨by first | rfl | (simp [errW_none, errW_some] <;> rfl) | (simp [*, errW_none, errW_some] <;> rfl), by repeat (first | (with_reducible first | exact HB.out | apply below_alloc | apply pw_below_drewN | apply below_drew1) | exact HB.out)⟩
      · replace c8 := Bool.eq_false_iff.mpr c8
        subst c8
        have H1 : ((gram_Make.f kj1 l0 0).bind fun bt293 => (hopperlaw15_GramKeeps.l0 kj1 l0 0 bt293.1 bt293.2.1 bt293.2.2.1)) = some r := by rw [if_neg (show ¬ (false = true) by decide)] at H; exact H
        clear H
        have H := H1
        clear H1
        replace H := Option.bind_eq_some_iff.mp H
        obtain ⟨⟨t293, t294, t297, t300⟩, A110, H⟩ := H
        replace H : (hopperlaw15_GramKeeps.l0 kj1 l0 0 t293 t294 t297) = some r := H
        have A11 := Aside0.mk A110
        clear A110
        have H' := Aside0.mk H
        clear H
        go_wp2_with (first | ((with_reducible refine gate_callee (f := 10) rfl ?_); refine goesL_ (some 18) rfl rfl Try.func10 (by kernel_rfl) rfl #[.slice A0 l0.length c0, .int .i64 0] rfl (by (try simp only [List.map_toArray, List.map_cons, List.map_nil]); first | done | rfl | (simp only [List.length_drop, List.length_take]; rfl)) ?_; (with_reducible refine (gram_Make.calls kj1 _ _ l0 0 t293 t294 t297 t300 _ ?side1 ?side2 A11.out).mono ?_); (case side1 => repeat (first | exact (Kd.C_below HR0.out HB.out) | (with_reducible refine Kd.C_alloc ?_ _) | (with_reducible refine Kd.C_drewN ?_ _) | (with_reducible refine Kd.C_drew ?_))); (case side2 => exact HC0.out); rintro e w12 ⟨v295, v298, rfl, ho0, ho1, hb⟩; refine ⟨_, rfl, ?_⟩; have n0_ := Aside0.mk (Kd.R_lower ho0 (below_size (by repeat (first | (with_reducible first | exact HB.out | apply below_alloc | apply pw_below_drewN | apply below_drew1) | exact HB.out)))); have n1_ := Aside0.mk (Kd.R_lower ho1 (below_size (by repeat (first | (with_reducible first | exact HB.out | apply below_alloc | apply pw_below_drewN | apply below_drew1) | exact HB.out)))); have n2_ := Aside0.mk (below_step (by repeat (first | (with_reducible first | exact HB.out | apply below_alloc | apply pw_below_drewN | apply below_drew1) | exact HB.out)) hb); clear HB; have HO296 := n0_; have HO299 := n1_; have HB := n2_; clear n0_ n1_ n2_; (try clear hb); (try clear hb2); (try clear hk); (try clear hi); (try clear ho0); (try clear ho1)) | ((with_reducible refine gate_dst (N := 3) rfl ?_); refine box_event ?hg (N := 3) ?hd (cs := #[.int .i64 0, .slice none 0 0, .slice none 0 0]) (t := 28) ?hr ?_; (case hd => rfl); (case hg => rfl); (case hr => first | (go_simp; done) | (go_simp; rfl)); intro gb301 hg w13 hbox hb; have n0_ := Aside0.mk (Kd.R_below (by (with_reducible repeat (first | apply Kd.R_alloc | apply Kd.R_drewN | apply Kd.R_drew)); exact HO296.out) hb); have n1_ := Aside0.mk (Kd.R_below (by (with_reducible repeat (first | apply Kd.R_alloc | apply Kd.R_drewN | apply Kd.R_drew)); exact HO299.out) hb); have n2_ := Aside0.mk (below_step (by repeat (first | (with_reducible first | exact HB.out | apply below_alloc | apply pw_below_drewN | apply below_drew1) | exact HB.out)) hb); have n3_ := Aside0.mk (hbox); have n4_ := Aside0.mk ((by rw [hg]; exact (below_size (by repeat (first | (with_reducible first | exact HB.out | apply below_alloc | apply pw_below_drewN | apply below_drew1) | exact HB.out))) : w.heap.size ≤ gb301)); have n5_ := Aside0.mk ((by rw [hg]; exact (below_size (by repeat (first | (with_reducible first | exact HB.out | apply below_alloc | apply pw_below_drewN | apply below_drew1) | exact HB.out))) : w.heap.size ≤ gb301)); clear HO296; clear HO299; clear HB; have HO296 := n0_; have HO299 := n1_; have HB := n2_; have BK301 := n3_; have GW301 := n4_; have GE301 := n5_; clear n0_ n1_ n2_ n3_ n4_ n5_; clear hb hbox hg; have hcz14_0 : w13.cell? ⟨gb301, 0, none⟩ = some (.int .i64 0) := (blk_cell BK301.out 0).trans rfl; have hcz14_1 : w13.cell? ⟨gb301, 1, none⟩ = some (.slice none 0 0) := (blk_cell BK301.out 1).trans rfl; have hcz14_2 : w13.cell? ⟨gb301, 2, none⟩ = some (.slice none 0 0) := (blk_cell BK301.out 2).trans rfl; have hfz14_0 := blk_frozen BK301.out 0; have hfz14_1 := blk_frozen BK301.out 1; have hfz14_2 := blk_frozen BK301.out 2; obtain ⟨Ao15, co15, eo15⟩ := Kd.R_slice HO296.out; subst eo15; obtain ⟨Ao16, co16, eo16⟩ := Kd.R_slice HO299.out; subst eo16))
        go_loopg [5] kj1 (fun kq v5 w' => ∃ (x5_2 : Int) (x302001_2 : List Int) (u302001 : Value), v5 = .int .i64 x5_2 ∧ Aside0 (hopperlaw15_GramKeeps.l0 kq l0 x5_2 t293 x302001_2 t297 = some r) ∧ Aside0 (kq ≤ kj1) ∧ Aside0 (Kd.R (Kd.int .i64) 3 w' w.heap.size (fun _ => True) u302001 x302001_2) ∧ Aside0 (Kd.R Kd.bool 4 w' w.heap.size (fun _ => True) (.slice Ao16 t297.length co16) t297) ∧ Aside0 (w'.heap[gb301]? = some (.cells #[.int .i64 t293, u302001, (.slice Ao16 t297.length co16)] 28 (0, 0))) ∧ Aside0 (Below w.heap.size w w'))
        case atStart => exact ⟨(0), (t294), (.slice Ao15 t294.length co15), (by first | rfl | (simp; done) | (simp [*]; done)), H', ⟨Nat.le_refl _⟩, ⟨by (with_reducible repeat (first | apply Kd.R_alloc | apply Kd.R_drewN | apply Kd.R_drew)); exact Kd.R_mono (Kd.R_far (p := ⟨gb301, 2, none⟩) (Kd.R_far (p := ⟨gb301, 1, none⟩) (Kd.R_far (p := ⟨gb301, 0, none⟩) (Kd.R_types HO296.out BK301.out (by decide)) (fun _ hk => hk.2) (.int .i64 t293)) (fun _ hk => hk.2) (.slice Ao15 t294.length co15)) (fun _ hk => hk.2) (.slice Ao16 t297.length co16)) (fun _ hk => trivial)⟩, ⟨by (with_reducible repeat (first | apply Kd.R_alloc | apply Kd.R_drewN | apply Kd.R_drew)); exact Kd.R_mono (Kd.R_far (p := ⟨gb301, 2, none⟩) (Kd.R_far (p := ⟨gb301, 1, none⟩) (Kd.R_far (p := ⟨gb301, 0, none⟩) (Kd.R_types HO299.out BK301.out (by decide)) (fun _ hk => hk.2) (.int .i64 t293)) (fun _ hk => hk.2) (.slice Ao15 t294.length co15)) (fun _ hk => hk.2) (.slice Ao16 t297.length co16)) (fun _ hk => trivial)⟩, ⟨by (with_reducible repeat (first | refine blk_drewN ?_ _ | refine blk_drew ?_ | refine blk_alloc ?_ _)); refine blk_put (cs := #[.int .i64 t293, .slice Ao15 t294.length co15, .slice none 0 0]) ?_ 2 _ rfl; (with_reducible repeat (first | refine blk_drewN ?_ _ | refine blk_drew ?_ | refine blk_alloc ?_ _)); refine blk_put (cs := #[.int .i64 t293, .slice none 0 0, .slice none 0 0]) ?_ 1 _ rfl; (with_reducible repeat (first | refine blk_drewN ?_ _ | refine blk_drew ?_ | refine blk_alloc ?_ _)); refine blk_put (cs := #[.int .i64 0, .slice none 0 0, .slice none 0 0]) ?_ 0 _ rfl; (with_reducible repeat (first | refine blk_drewN ?_ _ | refine blk_drew ?_ | refine blk_alloc ?_ _)); exact BK301.out⟩, ⟨by repeat (first | (with_reducible first | exact HB.out | apply below_alloc | apply pw_below_drewN | apply below_drew1 | refine below_set ?_ GE301.out) | exact HB.out)⟩⟩
        case round =>
          clear H'
          try clear c1
          try clear p2
          try clear c4
          try clear c5
          try clear c8
          try clear c10
          try clear hcz14_0
          try clear hcz14_1
          try clear hcz14_2
          try clear hfz14_0
          try clear hfz14_1
          try clear hfz14_2
          try clear p2
          obtain ⟨x5_2, x302001_2, u302001, rfl, HA, HK2, HO_302001, HO_302002, BK301, HB⟩ := hrel
          cases gk with
          | zero => exact absurd HA.out (by simp [hopperlaw15_GramKeeps.l0])
          | succ k2 =>
            have H := HA.out
            clear HA
            simp only [hopperlaw15_GramKeeps.l0] at H
            by_cases c17 : x5_2 < (x302001_2.length : Int)
            · rw [if_pos c17] at H
              have c17b0 : decide (x5_2 < (x302001_2.length : Int)) = true := decide_eq_true c17
              clear c17
              by_cases c18 : 0 ≤ x5_2
              · rw [if_pos c18] at H
                have c18b0 : decide (0 ≤ x5_2) = true := decide_eq_true c18
                clear c18
                obtain ⟨y302, hy302⟩ : ∃ y_ : List Int, y_ = (x302001_2.set (x5_2 : Int).toNat (-7)) := ⟨_, rfl⟩
                replace H : (hopperlaw15_GramKeeps.l0 k2 l0 (wrap64 (x5_2 + 1)) t293 y302 t297) = some r := by first | (rw [hy302]; with_reducible exact H) | (have H2_ := (Option.bind_some _ _).symm.trans H; rw [hy302]; with_reducible exact H2_) | (have H2_ := (Option.bind_some _ _).symm.trans H; with_reducible exact H2_) | with_reducible exact H | (rw [hy302]; exact H) | exact H
                have Ny302 := Aside0.mk hy302
                clear hy302
                have H' := Aside0.mk H
                clear H
                have hcz20_0 : wr.cell? ⟨gb301, 0, none⟩ = some (.int .i64 t293) := (blk_cell BK301.out 0).trans rfl
                have hcz20_1 : wr.cell? ⟨gb301, 1, none⟩ = some (u302001) := (blk_cell BK301.out 1).trans rfl
                have hcz20_2 : wr.cell? ⟨gb301, 2, none⟩ = some (.slice Ao16 t297.length co16) := (blk_cell BK301.out 2).trans rfl
                have hfz20_0 := blk_frozen BK301.out 0
                have hfz20_1 := blk_frozen BK301.out 1
                have hfz20_2 := blk_frozen BK301.out 2
                obtain ⟨Ao21, co21, eo21⟩ := Kd.R_slice HO_302001.out
                subst eo21
                have p19 : 0 ≤ (x5_2 : Int) := of_decide_eq_true (by first | (with_reducible assumption) | assumption)
                have q19 : (x5_2 : Int) < ((x302001_2.length : Int) : Int) := of_decide_eq_true (by first | (with_reducible assumption) | assumption)
                obtain ⟨go19, co19, eo19, gb19, gl19, cl19, HG19⟩ := Kd.R_form HO_302001.out (by omega)
                (first | cases eo19 | (injection eo19 with ea_ en_ ec_; (first | subst ea_ | (injection ea_ with ea_; subst ea_)); subst ec_; clear en_))
                have GB19 := Aside0.mk gb19
                have GG19 := Aside0.mk HG19
                clear gb19 gl19 HG19
                obtain ⟨hx19_0, hf19_0⟩ := Kd.R_celln 0 HO_302001.out (x5_2 : Int) p19 q19
                replace p19 := eq_true p19
                replace q19 := eq_true q19
                have HP22 := Kd.R_putg HO_302001.out (x5_2 : Int) (-7)
                go_wp2_with (first | ((with_reducible refine gate_store (t := 3) (p := 31) rfl ?_); refine store_event (t := 3) (p := 31) (v := ?vo_w23) (w1 := (wr.setCell ⟨go19, (x5_2 : Int).toNat, none⟩ (.int .i64 (-7)))) ?hg ?ho ?hn ?hr ?_; (case ho => rfl); (case hg => rfl); (case hn => rfl); (case hr => first | (go_simp; done) | (go_simp; rfl)); intro w23 hw; have hg : wr.grownBy w23 (some go19) := (by rw [hw]; exact HP22.2); have hp_ : Kd.R (Kd.int .i64) 3 w23 w.heap.size (fun _ => True) (.slice (some ⟨go19, 0, none⟩) x302001_2.length co21) y302 := (by rw [hw, Ny302.out]; exact HP22.1); clear HP22; have n0_ := Aside0.mk (hp_); have n1_ := Aside0.mk (Kd.R_over' (v := (.slice (some ⟨go19, 0, none⟩) x302001_2.length co21)) (by (with_reducible repeat (first | apply Kd.R_alloc | apply Kd.R_drewN | apply Kd.R_drew)); exact HO_302002.out) (Kd.R_typed HO_302001.out) (by decide) hg); have n2_ := Aside0.mk (blk_grown (g := gb301) (o := .cells #[.int .i64 t293, .slice (some ⟨go19, 0, none⟩) x302001_2.length co21, .slice Ao16 t297.length co16] 28 (0, 0)) (by (with_reducible repeat (first | refine blk_drewN ?_ _ | refine blk_drew ?_ | refine blk_alloc ?_ _)); exact BK301.out) hg (Kd.R_ne HO_302001.out BK301.out (by decide))); have n3_ := Aside0.mk ((by rw [hw]; exact below_set (HB.out) GB19.out : Below w.heap.size w w23)); clear HO_302001; clear HO_302002; clear BK301; clear HB; have HO_302001 := n0_; have HO_302002 := n1_; have BK301 := n2_; have HB := n3_; clear n0_ n1_ n2_ n3_; clear hg hw hp_))
                go_roundg k2
                case measure => have := HJ1.out; have := HK2.out; omega
                case rel => exact ⟨(wrap64 (x5_2 + 1)), (y302), (.slice (some ⟨go19, 0, none⟩) x302001_2.length co21), (by first | rfl | (simp; done) | (simp [*]; done)), H', ⟨by have := HJ1.out; have := HK2.out; omega⟩, ⟨by (with_reducible repeat (first | apply Kd.R_alloc | apply Kd.R_drewN | apply Kd.R_drew)); exact HO_302001.out⟩, ⟨by (with_reducible repeat (first | apply Kd.R_alloc | apply Kd.R_drewN | apply Kd.R_drew)); exact HO_302002.out⟩, ⟨by (with_reducible repeat (first | refine blk_drewN ?_ _ | refine blk_drew ?_ | refine blk_alloc ?_ _)); exact BK301.out⟩, ⟨by repeat (first | (with_reducible first | exact HB.out | apply below_alloc | apply pw_below_drewN | apply below_drew1 | refine below_set ?_ GE301.out) | exact HB.out)⟩⟩
              · rw [if_neg c18] at H
                exact absurd H (by simp)
            · rw [if_neg c17] at H
              have c17b0 : decide (x5_2 < (x302001_2.length : Int)) = false := decide_eq_false c17
              clear c17
              replace H := Option.bind_eq_some_iff.mp H
              obtain ⟨⟨t303, t304, t307, t310⟩, A240, H⟩ := H
              replace H : (if t310 = 0 then ((hopperref15_Make.f k2 l0 0).bind fun bt312 => ((hopperref15_Same.f k2 t303 t304 t307 bt312.1 bt312.2.1 bt312.2.2).bind fun t319 => (some t319))) else (none)) = some r := H
              have A24 := Aside0.mk A240
              clear A240
              by_cases c25 : t310 = 0
              · rw [if_pos c25] at H
                have c25b0 : (t310 == 0) = true := beq_iff_eq.mpr c25
                have c25b1 : (t310 != 0) = false := bne_eq_false_iff_eq.mpr c25
                clear c25
                replace H := Option.bind_eq_some_iff.mp H
                obtain ⟨⟨t312, t313, t316⟩, A260, H⟩ := H
                replace H : ((hopperref15_Same.f k2 t303 t304 t307 t312 t313 t316).bind fun t319 => (some t319)) = some r := H
                have A26 := Aside0.mk A260
                clear A260
                replace H := Option.bind_eq_some_iff.mp H
                obtain ⟨t319, A270, H⟩ := H
                replace H : (some t319) = some r := H
                have A27 := Aside0.mk A270
                clear A270
                obtain rfl := Option.some.inj H
                have hcz28_0 : wr.cell? ⟨gb301, 0, none⟩ = some (.int .i64 t293) := (blk_cell BK301.out 0).trans rfl
                have hcz28_1 : wr.cell? ⟨gb301, 1, none⟩ = some (u302001) := (blk_cell BK301.out 1).trans rfl
                have hcz28_2 : wr.cell? ⟨gb301, 2, none⟩ = some (.slice Ao16 t297.length co16) := (blk_cell BK301.out 2).trans rfl
                have hfz28_0 := blk_frozen BK301.out 0
                have hfz28_1 := blk_frozen BK301.out 1
                have hfz28_2 := blk_frozen BK301.out 2
                obtain ⟨Ao29, co29, eo29⟩ := Kd.R_slice HO_302001.out
                subst eo29
                try go_wp2_with (first | ((with_reducible refine gate_callee (f := 10) rfl ?_); refine goesL_ (some 34) rfl rfl Try.func10 (by kernel_rfl) rfl #[.slice A0 l0.length c0, .int .i64 0] rfl (by (try simp only [List.map_toArray, List.map_cons, List.map_nil]); first | done | rfl | (simp only [List.length_drop, List.length_take]; rfl)) ?_; (with_reducible refine (gram_Make.calls k2 _ _ l0 0 t303 t304 t307 t310 _ ?side1 ?side2 A24.out).mono ?_); (case side1 => repeat (first | exact (Kd.C_below HR0.out HB.out) | (with_reducible refine Kd.C_alloc ?_ _) | (with_reducible refine Kd.C_drewN ?_ _) | (with_reducible refine Kd.C_drew ?_))); (case side2 => exact HC0.out); rintro e w30 ⟨v305, v308, rfl, ho0, ho1, hb⟩; refine ⟨_, rfl, ?_⟩; have n0_ := Aside0.mk (Kd.R_elder' (by (with_reducible repeat (first | apply Kd.R_alloc | apply Kd.R_drewN | apply Kd.R_drew)); exact HO_302001.out) (Kd.R_base ho0) hb); have n1_ := Aside0.mk (Kd.R_elder' (by (with_reducible repeat (first | apply Kd.R_alloc | apply Kd.R_drewN | apply Kd.R_drew)); exact HO_302002.out) (Kd.R_base ho1) hb); have n2_ := Aside0.mk (Kd.R_lower (Kd.R_new' ho0 (Kd.R_lt (by (with_reducible repeat (first | apply Kd.R_alloc | apply Kd.R_drewN | apply Kd.R_drew)); exact HO_302001.out))) (below_size (by repeat (first | (with_reducible first | exact HB.out | apply below_alloc | apply pw_below_drewN | apply below_drew1 | refine below_set ?_ GE301.out) | exact HB.out)))); have n3_ := Aside0.mk (Kd.R_lower (Kd.R_new' ho1 (Kd.R_lt (by (with_reducible repeat (first | apply Kd.R_alloc | apply Kd.R_drewN | apply Kd.R_drew)); exact HO_302002.out))) (below_size (by repeat (first | (with_reducible first | exact HB.out | apply below_alloc | apply pw_below_drewN | apply below_drew1 | refine below_set ?_ GE301.out) | exact HB.out)))); have n4_ := Aside0.mk (blk_below (g := gb301) (o := .cells #[.int .i64 t293, .slice Ao29 x302001_2.length co29, .slice Ao16 t297.length co16] 28 (0, 0)) (by (with_reducible repeat (first | refine blk_drewN ?_ _ | refine blk_drew ?_ | refine blk_alloc ?_ _)); exact BK301.out) hb); have n5_ := Aside0.mk (below_step (by repeat (first | (with_reducible first | exact HB.out | apply below_alloc | apply pw_below_drewN | apply below_drew1 | refine below_set ?_ GE301.out) | exact HB.out)) hb); clear HO_302001; clear HO_302002; clear BK301; clear HB; have HO_302001 := n0_; have HO_302002 := n1_; have HO306 := n2_; have HO309 := n3_; have BK301 := n4_; have HB := n5_; clear n0_ n1_ n2_ n3_ n4_ n5_; (try clear hb); (try clear hb2); (try clear hk); (try clear hi); (try clear ho0); (try clear ho1)) | ((with_reducible refine gate_dst (N := 6) rfl ?_); refine box_event ?hg (N := 6) ?hd (cs := #[.int .i64 0, .slice none 0 0, .slice none 0 0]) (t := 28) ?hr ?_; (case hd => rfl); (case hg => rfl); (case hr => first | (go_simp; done) | (go_simp; rfl)); intro gb311 hg w31 hbox hb; have n0_ := Aside0.mk (Kd.R_below (by (with_reducible repeat (first | apply Kd.R_alloc | apply Kd.R_drewN | apply Kd.R_drew)); exact HO_302001.out) hb); have n1_ := Aside0.mk (Kd.R_below (by (with_reducible repeat (first | apply Kd.R_alloc | apply Kd.R_drewN | apply Kd.R_drew)); exact HO_302002.out) hb); have n2_ := Aside0.mk (Kd.R_below (by (with_reducible repeat (first | apply Kd.R_alloc | apply Kd.R_drewN | apply Kd.R_drew)); exact HO306.out) hb); have n3_ := Aside0.mk (Kd.R_below (by (with_reducible repeat (first | apply Kd.R_alloc | apply Kd.R_drewN | apply Kd.R_drew)); exact HO309.out) hb); have n4_ := Aside0.mk (blk_below (g := gb301) (o := .cells #[.int .i64 t293, .slice Ao29 x302001_2.length co29, .slice Ao16 t297.length co16] 28 (0, 0)) (by (with_reducible repeat (first | refine blk_drewN ?_ _ | refine blk_drew ?_ | refine blk_alloc ?_ _)); exact BK301.out) hb); have n5_ := Aside0.mk (below_step (by repeat (first | (with_reducible first | exact HB.out | apply below_alloc | apply pw_below_drewN | apply below_drew1 | refine below_set ?_ GE301.out) | exact HB.out)) hb); have n6_ := Aside0.mk (hbox); have n7_ := Aside0.mk ((by rw [hg]; exact (below_size (by repeat (first | (with_reducible first | exact HB.out | apply below_alloc | apply pw_below_drewN | apply below_drew1 | refine below_set ?_ GE301.out) | exact HB.out))) : w.heap.size ≤ gb311)); have n8_ := Aside0.mk ((by rw [hg]; exact (below_size (by repeat (first | (with_reducible first | exact HB.out | apply below_alloc | apply pw_below_drewN | apply below_drew1 | refine below_set ?_ GE301.out) | exact HB.out))) : w.heap.size ≤ gb311)); have n9_ := Aside0.mk ((by rw [hg]; exact Nat.ne_of_lt (blk_lt (g := gb301) (o := .cells #[.int .i64 t293, .slice Ao29 x302001_2.length co29, .slice Ao16 t297.length co16] 28 (0, 0)) (by (with_reducible repeat (first | refine blk_drewN ?_ _ | refine blk_drew ?_ | refine blk_alloc ?_ _)); exact BK301.out)) : gb301 ≠ gb311)); have n10_ := Aside0.mk ((by rw [hg]; exact Nat.ne_of_gt (blk_lt (g := gb301) (o := .cells #[.int .i64 t293, .slice Ao29 x302001_2.length co29, .slice Ao16 t297.length co16] 28 (0, 0)) (by (with_reducible repeat (first | refine blk_drewN ?_ _ | refine blk_drew ?_ | refine blk_alloc ?_ _)); exact BK301.out)) : gb311 ≠ gb301)); clear HO_302001; clear HO_302002; clear HO306; clear HO309; clear BK301; clear HB; have HO_302001 := n0_; have HO_302002 := n1_; have HO306 := n2_; have HO309 := n3_; have BK301 := n4_; have HB := n5_; have BK311 := n6_; have GW311 := n7_; have GE311 := n8_; have NB301_311 := n9_; have NB311_301 := n10_; clear n0_ n1_ n2_ n3_ n4_ n5_ n6_ n7_ n8_ n9_ n10_; clear hb hbox hg; have hnb32 := NB311_301.out; have hnc32 := NB301_311.out; have hcz33_0 : w31.cell? ⟨gb311, 0, none⟩ = some (.int .i64 0) := (blk_cell BK311.out 0).trans rfl; have hcz33_1 : w31.cell? ⟨gb311, 1, none⟩ = some (.slice none 0 0) := (blk_cell BK311.out 1).trans rfl; have hcz33_2 : w31.cell? ⟨gb311, 2, none⟩ = some (.slice none 0 0) := (blk_cell BK311.out 2).trans rfl; have hfz33_0 := blk_frozen BK311.out 0; have hfz33_1 := blk_frozen BK311.out 1; have hfz33_2 := blk_frozen BK311.out 2; obtain ⟨Ao34, co34, eo34⟩ := Kd.R_slice HO306.out; subst eo34; obtain ⟨Ao35, co35, eo35⟩ := Kd.R_slice HO309.out; subst eo35))
                have n0_ : Aside0 (Kd.R (Kd.int .i64) 3 (((w31.setCell ⟨gb311, 0, none⟩ (.int .i64 t303)).setCell ⟨gb311, 1, none⟩ (.slice Ao34 t304.length co34)).setCell ⟨gb311, 2, none⟩ (.slice Ao35 t307.length co35)) w.heap.size (fun k_ => some k_ ≠ (.slice Ao34 t304.length co34 : Value).ownBlock) (.slice Ao29 x302001_2.length co29) x302001_2) := ⟨by (with_reducible repeat (first | apply Kd.R_alloc | apply Kd.R_drewN | apply Kd.R_drew)); exact Kd.R_mono (Kd.R_far (p := ⟨gb311, 2, none⟩) (Kd.R_far (p := ⟨gb311, 1, none⟩) (Kd.R_far (p := ⟨gb311, 0, none⟩) (Kd.R_types HO_302001.out BK311.out (by decide)) (fun _ hk => hk.2) (.int .i64 t303)) (fun _ hk => hk.2) (.slice Ao34 t304.length co34)) (fun _ hk => hk.2) (.slice Ao35 t307.length co35)) (fun _ hk => hk.1.2)⟩
                have n1_ : Aside0 (Kd.R Kd.bool 4 (((w31.setCell ⟨gb311, 0, none⟩ (.int .i64 t303)).setCell ⟨gb311, 1, none⟩ (.slice Ao34 t304.length co34)).setCell ⟨gb311, 2, none⟩ (.slice Ao35 t307.length co35)) w.heap.size (fun k_ => some k_ ≠ (.slice Ao35 t307.length co35 : Value).ownBlock) (.slice Ao16 t297.length co16) t297) := ⟨by (with_reducible repeat (first | apply Kd.R_alloc | apply Kd.R_drewN | apply Kd.R_drew)); exact Kd.R_mono (Kd.R_far (p := ⟨gb311, 2, none⟩) (Kd.R_far (p := ⟨gb311, 1, none⟩) (Kd.R_far (p := ⟨gb311, 0, none⟩) (Kd.R_types HO_302002.out BK311.out (by decide)) (fun _ hk => hk.2) (.int .i64 t303)) (fun _ hk => hk.2) (.slice Ao34 t304.length co34)) (fun _ hk => hk.2) (.slice Ao35 t307.length co35)) (fun _ hk => hk.1.2)⟩
                have n2_ : Aside0 (Kd.R (Kd.int .i64) 3 (((w31.setCell ⟨gb311, 0, none⟩ (.int .i64 t303)).setCell ⟨gb311, 1, none⟩ (.slice Ao34 t304.length co34)).setCell ⟨gb311, 2, none⟩ (.slice Ao35 t307.length co35)) w.heap.size (fun k_ => some k_ ≠ (.slice Ao29 x302001_2.length co29 : Value).ownBlock) (.slice Ao34 t304.length co34) t304) := ⟨by (with_reducible repeat (first | apply Kd.R_alloc | apply Kd.R_drewN | apply Kd.R_drew)); exact Kd.R_mono (Kd.R_far (p := ⟨gb311, 2, none⟩) (Kd.R_far (p := ⟨gb311, 1, none⟩) (Kd.R_far (p := ⟨gb311, 0, none⟩) (Kd.R_types HO306.out BK311.out (by decide)) (fun _ hk => hk.2) (.int .i64 t303)) (fun _ hk => hk.2) (.slice Ao34 t304.length co34)) (fun _ hk => hk.2) (.slice Ao35 t307.length co35)) (fun _ hk => hk.1.2)⟩
                have n3_ : Aside0 (Kd.R Kd.bool 4 (((w31.setCell ⟨gb311, 0, none⟩ (.int .i64 t303)).setCell ⟨gb311, 1, none⟩ (.slice Ao34 t304.length co34)).setCell ⟨gb311, 2, none⟩ (.slice Ao35 t307.length co35)) w.heap.size (fun k_ => some k_ ≠ (.slice Ao16 t297.length co16 : Value).ownBlock) (.slice Ao35 t307.length co35) t307) := ⟨by (with_reducible repeat (first | apply Kd.R_alloc | apply Kd.R_drewN | apply Kd.R_drew)); exact Kd.R_mono (Kd.R_far (p := ⟨gb311, 2, none⟩) (Kd.R_far (p := ⟨gb311, 1, none⟩) (Kd.R_far (p := ⟨gb311, 0, none⟩) (Kd.R_types HO309.out BK311.out (by decide)) (fun _ hk => hk.2) (.int .i64 t303)) (fun _ hk => hk.2) (.slice Ao34 t304.length co34)) (fun _ hk => hk.2) (.slice Ao35 t307.length co35)) (fun _ hk => hk.1.2)⟩
                have n4_ : Aside0 ((((w31.setCell ⟨gb311, 0, none⟩ (.int .i64 t303)).setCell ⟨gb311, 1, none⟩ (.slice Ao34 t304.length co34)).setCell ⟨gb311, 2, none⟩ (.slice Ao35 t307.length co35)).heap[gb301]? = some (.cells #[.int .i64 t293, .slice Ao29 x302001_2.length co29, .slice Ao16 t297.length co16] 28 (0, 0))) := ⟨by (with_reducible repeat (first | refine blk_drewN ?_ _ | refine blk_drew ?_ | refine blk_alloc ?_ _)); refine blk_far ?_ NB301_311.out _; (with_reducible repeat (first | refine blk_drewN ?_ _ | refine blk_drew ?_ | refine blk_alloc ?_ _)); refine blk_far ?_ NB301_311.out _; (with_reducible repeat (first | refine blk_drewN ?_ _ | refine blk_drew ?_ | refine blk_alloc ?_ _)); refine blk_far ?_ NB301_311.out _; (with_reducible repeat (first | refine blk_drewN ?_ _ | refine blk_drew ?_ | refine blk_alloc ?_ _)); exact BK301.out⟩
                have n5_ : Aside0 ((((w31.setCell ⟨gb311, 0, none⟩ (.int .i64 t303)).setCell ⟨gb311, 1, none⟩ (.slice Ao34 t304.length co34)).setCell ⟨gb311, 2, none⟩ (.slice Ao35 t307.length co35)).heap[gb311]? = some (.cells #[.int .i64 t303, .slice Ao34 t304.length co34, .slice Ao35 t307.length co35] 28 (0, 0))) := ⟨by (with_reducible repeat (first | refine blk_drewN ?_ _ | refine blk_drew ?_ | refine blk_alloc ?_ _)); refine blk_put (cs := #[.int .i64 t303, .slice Ao34 t304.length co34, .slice none 0 0]) ?_ 2 _ rfl; (with_reducible repeat (first | refine blk_drewN ?_ _ | refine blk_drew ?_ | refine blk_alloc ?_ _)); refine blk_put (cs := #[.int .i64 t303, .slice none 0 0, .slice none 0 0]) ?_ 1 _ rfl; (with_reducible repeat (first | refine blk_drewN ?_ _ | refine blk_drew ?_ | refine blk_alloc ?_ _)); refine blk_put (cs := #[.int .i64 0, .slice none 0 0, .slice none 0 0]) ?_ 0 _ rfl; (with_reducible repeat (first | refine blk_drewN ?_ _ | refine blk_drew ?_ | refine blk_alloc ?_ _)); exact BK311.out⟩
                have n6_ : Aside0 (Below w.heap.size w (((w31.setCell ⟨gb311, 0, none⟩ (.int .i64 t303)).setCell ⟨gb311, 1, none⟩ (.slice Ao34 t304.length co34)).setCell ⟨gb311, 2, none⟩ (.slice Ao35 t307.length co35))) := ⟨by repeat (first | (with_reducible first | exact HB.out | apply below_alloc | apply pw_below_drewN | apply below_drew1 | refine below_set ?_ GE301.out | refine below_set ?_ GE311.out) | exact HB.out)⟩
                (try clear HO_302001)
                (try clear HO_302002)
                (try clear HO306)
                (try clear HO309)
                (try clear BK301)
                (try clear BK311)
                (try clear HB)
                generalize (((w31.setCell ⟨gb311, 0, none⟩ (.int .i64 t303)).setCell ⟨gb311, 1, none⟩ (.slice Ao34 t304.length co34)).setCell ⟨gb311, 2, none⟩ (.slice Ao35 t307.length co35)) = w36 at n0_ n1_ n2_ n3_ n4_ n5_ n6_ ⊢
                have HO_302001 := n0_
                have HO_302002 := n1_
                have HO306 := n2_
                have HO309 := n3_
                have BK301 := n4_
                have BK311 := n5_
                have HB := n6_
                clear n0_ n1_ n2_ n3_ n4_ n5_ n6_
                have n0_ := Aside0.mk (Kd.R_drew HO_302001.out)
                have n1_ := Aside0.mk (Kd.R_drew HO_302002.out)
                have n2_ := Aside0.mk (Kd.R_drew HO306.out)
                have n3_ := Aside0.mk (Kd.R_drew HO309.out)
                have n4_ := Aside0.mk (blk_drew BK301.out)
                have n5_ := Aside0.mk (blk_drew BK311.out)
                have n6_ := Aside0.mk (below_drew1 HB.out)
                clear HO_302001
                clear HO_302002
                clear HO306
                clear HO309
                clear BK301
                clear BK311
                clear HB
                have HO_302001 := n0_
                have HO_302002 := n1_
                have HO306 := n2_
                have HO309 := n3_
                have BK301 := n4_
                have BK311 := n5_
                have HB := n6_
                clear n0_ n1_ n2_ n3_ n4_ n5_ n6_
                refine start_ (n := 9) (S := fun w' => w'.cell? ⟨gb311, 0, none⟩ = some (.int .i64 t303) ∧ w'.cell? ⟨gb311, 1, none⟩ = some (.slice Ao34 t304.length co34) ∧ w'.cell? ⟨gb311, 2, none⟩ = some (.slice Ao35 t307.length co35)) (ds := []) #[false, false, false, false, false, false, false, false, false] (by kernel_rfl) rfl rfl ⟨(blk_cell BK311.out 0).trans rfl, (blk_cell BK311.out 1).trans rfl, (blk_cell BK311.out 2).trans rfl⟩ (fun hHeld => ?_); refine with_tabW hopperlaw15_GramKeeps.tab9 hopperlaw15_GramKeeps.bits9 (fun HT_ HW_ => ?_)
                generalize w36.drew = w37 at HO_302001 HO_302002 HO306 HO309 BK301 BK311 HB hHeld ⊢
                refine pure_ (i := 0) (N := some 37) (v := ?_) (a' := ?_) #[true, false, false, false, false, false, false, false, false] rfl rfl (any_of HT_.out (by kernel_rfl)) (fun _ _ _ h => h) (Or.inl ⟨by rfl, ?_⟩) ?_ ?_
                rotate_left
                · intro w'
                  go_simp
                  with_reducible rfl
                rotate_left
                · simp only [Act.put, List.setIfInBounds_toArray, List.set_cons_zero, List.set_cons_succ, i64_w, i32_w]
                  rfl
                refine pure_ (i := 1) (N := some 38) (v := ?_) (a' := ?_) #[true, true, false, false, false, false, false, false, false] rfl rfl (any_of HT_.out (by kernel_rfl)) (fun _ _ _ h => h) (Or.inl ⟨by rfl, ?_⟩) ?_ ?_
                rotate_left
                · intro w'
                  go_simp
                  with_reducible rfl
                rotate_left
                · simp only [Act.put, List.setIfInBounds_toArray, List.set_cons_zero, List.set_cons_succ, i64_w, i32_w]
                  rfl
                refine pure_ (i := 2) (N := some 39) (v := ?_) (a' := ?_) #[true, true, true, false, false, false, false, false, false] rfl rfl (any_of HT_.out (by kernel_rfl)) (fun _ _ _ h => h) (Or.inl ⟨by rfl, ?_⟩) ?_ ?_
                rotate_left
                · intro w'
                  go_simp
                  with_reducible rfl
                rotate_left
                · simp only [Act.put, List.setIfInBounds_toArray, List.set_cons_zero, List.set_cons_succ, i64_w, i32_w]
                  rfl
                refine pure_ (i := 4) (N := some 41) (v := ?_) (a' := ?_) #[true, true, true, false, true, false, false, false, false] rfl rfl (any_of HT_.out (by kernel_rfl)) (fun _ _ _ h => h) (Or.inl ⟨by rfl, ?_⟩) ?_ ?_
                rotate_left
                · intro w'
                  go_simp
                  with_reducible rfl
                rotate_left
                · simp only [Act.put, List.setIfInBounds_toArray, List.set_cons_zero, List.set_cons_succ, i64_w, i32_w]
                  rfl
                refine take_ (i := 3) (N := some 40) (v := ?_) (a' := ?_) #[true, true, true, true, true, false, false, false, false] rfl rfl (take_ofW HT_.out HW_.out (by kernel_rfl)) (fun _ _ _ h => h) (Or.inl ⟨by rfl, ?_⟩) hHeld ?_ ?_
                rotate_left
                · rintro w' ⟨s0, s1, s2⟩
                  go_simp
                  with_reducible rfl
                rotate_left
                · simp only [Act.put, List.setIfInBounds_toArray, List.set_cons_zero, List.set_cons_succ, i64_w, i32_w]
                  rfl
                refine one_ (i := 5) (N := some 42) #[true, true, true, true, true, true, false, false, false] rfl rfl (one_of HT_.out (by kernel_rfl)) (by decide) (fun K hK => ?_)
                refine goes_ Try.func12 (by kernel_rfl) rfl #[.slice A0 l0.length c0, .int .i64 0] (by rfl) rfl rfl (by (try simp only [List.map_toArray, List.map_cons, List.map_nil]); first | done | rfl | (simp only [List.length_drop, List.length_take]; rfl)) ?_
                with_reducible refine (hopperref15_Make.calls k2 _ _ l0 0 t312 t313 t316 _ ?side1 ?side2 A26.out).mono ?_
                (case side1 => repeat (first | exact (Kd.C_below HR0.out HB.out) | (with_reducible refine Kd.C_alloc ?_ _) | (with_reducible refine Kd.C_drewN ?_ _) | (with_reducible refine Kd.C_drew ?_)))
                (case side2 => exact HC0.out)
                rintro e w38 ⟨v314, v317, rfl, ho0, ho1, hb⟩
                refine ⟨_, rfl, ?_⟩
                have n0_ := Aside0.mk (Kd.R_below (by (with_reducible repeat (first | apply Kd.R_alloc | apply Kd.R_drewN | apply Kd.R_drew)); exact HO_302001.out) hb)
                have n1_ := Aside0.mk (Kd.R_elder' (by (with_reducible repeat (first | apply Kd.R_alloc | apply Kd.R_drewN | apply Kd.R_drew)); exact HO_302002.out) (Kd.R_base ho1) hb)
                have n2_ := Aside0.mk (Kd.R_below (by (with_reducible repeat (first | apply Kd.R_alloc | apply Kd.R_drewN | apply Kd.R_drew)); exact HO306.out) hb)
                have n3_ := Aside0.mk (Kd.R_elder' (by (with_reducible repeat (first | apply Kd.R_alloc | apply Kd.R_drewN | apply Kd.R_drew)); exact HO309.out) (Kd.R_base ho1) hb)
                have n4_ := Aside0.mk (Kd.V_lower (Kd.V_mono (ok' := fun k_ => some k_ ≠ (v317 : Value).ownBlock ∧ some k_ ≠ (.slice Ao29 x302001_2.length co29 : Value).ownBlock ∧ some k_ ≠ (.slice Ao16 t297.length co16 : Value).ownBlock ∧ some k_ ≠ (.slice Ao34 t304.length co34 : Value).ownBlock ∧ some k_ ≠ (.slice Ao35 t307.length co35 : Value).ownBlock ∧ k_ ≠ gb301 ∧ k_ ≠ gb311) ho0 (fun k_ hk_ => ⟨hk_.2, (Kd.fresh' (Kd.R_lt (by (with_reducible repeat (first | apply Kd.R_alloc | apply Kd.R_drewN | apply Kd.R_drew)); exact HO_302001.out)) k_ hk_.1), (Kd.fresh' (Kd.R_lt (by (with_reducible repeat (first | apply Kd.R_alloc | apply Kd.R_drewN | apply Kd.R_drew)); exact HO_302002.out)) k_ hk_.1), (Kd.fresh' (Kd.R_lt (by (with_reducible repeat (first | apply Kd.R_alloc | apply Kd.R_drewN | apply Kd.R_drew)); exact HO306.out)) k_ hk_.1), (Kd.fresh' (Kd.R_lt (by (with_reducible repeat (first | apply Kd.R_alloc | apply Kd.R_drewN | apply Kd.R_drew)); exact HO309.out)) k_ hk_.1), (Kd.freshB (g := gb301) (o := .cells #[.int .i64 t293, .slice Ao29 x302001_2.length co29, .slice Ao16 t297.length co16] 28 (0, 0)) (by (with_reducible repeat (first | refine blk_drewN ?_ _ | refine blk_drew ?_ | refine blk_alloc ?_ _)); exact BK301.out) k_ hk_.1), (Kd.freshB (g := gb311) (o := .cells #[.int .i64 t303, .slice Ao34 t304.length co34, .slice Ao35 t307.length co35] 28 (0, 0)) (by (with_reducible repeat (first | refine blk_drewN ?_ _ | refine blk_drew ?_ | refine blk_alloc ?_ _)); exact BK311.out) k_ hk_.1)⟩)) (below_size (by repeat (first | (with_reducible first | exact HB.out | apply below_alloc | apply pw_below_drewN | apply below_drew1 | refine below_set ?_ GE301.out | refine below_set ?_ GE311.out) | exact HB.out))))
                have n5_ := Aside0.mk (Kd.R_lower (Kd.R_new' (Kd.R_new' (Kd.R_mono (ok' := fun k_ => True) ho1 (fun _ hk_ => trivial)) (Kd.R_lt (by (with_reducible repeat (first | apply Kd.R_alloc | apply Kd.R_drewN | apply Kd.R_drew)); exact HO_302002.out))) (Kd.R_lt (by (with_reducible repeat (first | apply Kd.R_alloc | apply Kd.R_drewN | apply Kd.R_drew)); exact HO309.out))) (below_size (by repeat (first | (with_reducible first | exact HB.out | apply below_alloc | apply pw_below_drewN | apply below_drew1 | refine below_set ?_ GE301.out | refine below_set ?_ GE311.out) | exact HB.out))))
                have n6_ := Aside0.mk (blk_below (g := gb301) (o := .cells #[.int .i64 t293, .slice Ao29 x302001_2.length co29, .slice Ao16 t297.length co16] 28 (0, 0)) (by (with_reducible repeat (first | refine blk_drewN ?_ _ | refine blk_drew ?_ | refine blk_alloc ?_ _)); exact BK301.out) hb)
                have n7_ := Aside0.mk (blk_below (g := gb311) (o := .cells #[.int .i64 t303, .slice Ao34 t304.length co34, .slice Ao35 t307.length co35] 28 (0, 0)) (by (with_reducible repeat (first | refine blk_drewN ?_ _ | refine blk_drew ?_ | refine blk_alloc ?_ _)); exact BK311.out) hb)
                have n8_ := Aside0.mk (below_step (by repeat (first | (with_reducible first | exact HB.out | apply below_alloc | apply pw_below_drewN | apply below_drew1 | refine below_set ?_ GE301.out | refine below_set ?_ GE311.out) | exact HB.out)) hb)
                clear HO_302001
                clear HO_302002
                clear HO306
                clear HO309
                clear BK301
                clear BK311
                clear HB
                have HO_302001 := n0_
                have HO_302002 := n1_
                have HO306 := n2_
                have HO309 := n3_
                have HO315 := n4_
                have HO318 := n5_
                have BK301 := n6_
                have BK311 := n7_
                have HB := n8_
                clear n0_ n1_ n2_ n3_ n4_ n5_ n6_ n7_ n8_
                (try clear hb)
                (try clear hb2)
                (try clear hk)
                (try clear hi)
                (try clear ho0)
                (try clear ho1)
                obtain ⟨Ao39, co39, eo39⟩ := Kd.V_slice HO315.out
                (first | subst eo39 | (injection eo39 with f1_ f2_ f3_; have f4_ := f1_.symm; have f5_ := f3_.symm; clear f1_ f2_ f3_; subst f4_; subst f5_))
                obtain ⟨Ao40, co40, eo40⟩ := Kd.R_slice HO318.out
                (first | subst eo40 | (injection eo40 with f1_ f2_ f3_; have f4_ := f1_.symm; have f5_ := f3_.symm; clear f1_ f2_ f3_; subst f4_; subst f5_))
                refine hK.out _ _ ⟨(blk_cell BK311.out 0).trans rfl, (blk_cell BK311.out 1).trans rfl, (blk_cell BK311.out 2).trans rfl⟩ (fun hHeld => ?_)
                clear hK K
                refine norm_ (a' := ?_) ?_ ?_
                rotate_left
                · show Act.put _ (some 42) _ = _
                  simp only [Act.put, List.setIfInBounds_toArray, List.set_cons_zero, List.set_cons_succ, i64_w, i32_w]
                  rfl
                refine one_ (i := 6) (N := some 43) #[true, true, true, true, true, true, true, false, false] rfl rfl (one_of HT_.out (by kernel_rfl)) (by decide) (fun K hK => ?_)
                refine goes_ Try.func11 (by kernel_rfl) rfl #[.agg #[.int .i64 t303, .slice Ao34 t304.length co34, .slice Ao35 t307.length co35], .agg #[.int .i64 t312, .slice Ao39 t313.length co39, .slice Ao40 t316.length co40]] (by rfl) rfl rfl (by (try simp only [List.map_toArray, List.map_cons, List.map_nil]); first | done | rfl | (simp only [List.length_drop, List.length_take]; rfl)) ?_
                with_reducible refine (hopperref15_Same.calls k2 t303 _ _ t304 _ _ t307 t312 _ _ t313 _ _ t316 t319 _ ?side1 ?side2 ?side3 ?side4 ?side5 ?side6 ?side7 ?side8 A27.out).mono ?_
                (case side1 => repeat (first | exact (Kd.R_reads' HO306.out).2.2 | (with_reducible refine Kd.C_alloc ?_ _) | (with_reducible refine Kd.C_drewN ?_ _) | (with_reducible refine Kd.C_drew ?_)))
                (case side2 => exact (Kd.R_reads' HO306.out).2.1)
                (case side3 => repeat (first | exact (Kd.R_reads' HO309.out).2.2 | (with_reducible refine Kd.C_alloc ?_ _) | (with_reducible refine Kd.C_drewN ?_ _) | (with_reducible refine Kd.C_drew ?_)))
                (case side4 => exact (Kd.R_reads' HO309.out).2.1)
                (case side5 => repeat (first | exact (Kd.V_reads' HO315.out).2.2 | (with_reducible refine Kd.C_alloc ?_ _) | (with_reducible refine Kd.C_drewN ?_ _) | (with_reducible refine Kd.C_drew ?_)))
                (case side6 => exact (Kd.V_reads' HO315.out).2.1)
                (case side7 => repeat (first | exact (Kd.R_reads' HO318.out).2.2 | (with_reducible refine Kd.C_alloc ?_ _) | (with_reducible refine Kd.C_drewN ?_ _) | (with_reducible refine Kd.C_drew ?_)))
                (case side8 => exact (Kd.R_reads' HO318.out).2.1)
                rintro e w41 ⟨rfl, hb⟩
                refine ⟨_, rfl, ?_⟩
                have n0_ := Aside0.mk (Kd.R_below (by (with_reducible repeat (first | apply Kd.R_alloc | apply Kd.R_drewN | apply Kd.R_drew)); exact HO_302001.out) hb)
                have n1_ := Aside0.mk (Kd.R_below (by (with_reducible repeat (first | apply Kd.R_alloc | apply Kd.R_drewN | apply Kd.R_drew)); exact HO_302002.out) hb)
                have n2_ := Aside0.mk (Kd.R_below (by (with_reducible repeat (first | apply Kd.R_alloc | apply Kd.R_drewN | apply Kd.R_drew)); exact HO306.out) hb)
                have n3_ := Aside0.mk (Kd.R_below (by (with_reducible repeat (first | apply Kd.R_alloc | apply Kd.R_drewN | apply Kd.R_drew)); exact HO309.out) hb)
                have n4_ := Aside0.mk (Kd.V_below (by (with_reducible repeat (first | apply Kd.V_alloc | apply Kd.V_drewN | apply Kd.V_drew)); exact HO315.out) hb)
                have n5_ := Aside0.mk (Kd.R_below (by (with_reducible repeat (first | apply Kd.R_alloc | apply Kd.R_drewN | apply Kd.R_drew)); exact HO318.out) hb)
                have n6_ := Aside0.mk (blk_below (g := gb301) (o := .cells #[.int .i64 t293, .slice Ao29 x302001_2.length co29, .slice Ao16 t297.length co16] 28 (0, 0)) (by (with_reducible repeat (first | refine blk_drewN ?_ _ | refine blk_drew ?_ | refine blk_alloc ?_ _)); exact BK301.out) hb)
                have n7_ := Aside0.mk (blk_below (g := gb311) (o := .cells #[.int .i64 t303, .slice Ao34 t304.length co34, .slice Ao35 t307.length co35] 28 (0, 0)) (by (with_reducible repeat (first | refine blk_drewN ?_ _ | refine blk_drew ?_ | refine blk_alloc ?_ _)); exact BK311.out) hb)
                have n8_ := Aside0.mk (below_step (by repeat (first | (with_reducible first | exact HB.out | apply below_alloc | apply pw_below_drewN | apply below_drew1 | refine below_set ?_ GE301.out | refine below_set ?_ GE311.out) | exact HB.out)) hb)
                clear HO_302001
                clear HO_302002
                clear HO306
                clear HO309
                clear HO315
                clear HO318
                clear BK301
                clear BK311
                clear HB
                have HO_302001 := n0_
                have HO_302002 := n1_
                have HO306 := n2_
                have HO309 := n3_
                have HO315 := n4_
                have HO318 := n5_
                have BK301 := n6_
                have BK311 := n7_
                have HB := n8_
                clear n0_ n1_ n2_ n3_ n4_ n5_ n6_ n7_ n8_
                (try clear hb)
                (try clear hb2)
                (try clear hk)
                (try clear hi)
                refine hK.out _ _ ⟨(blk_cell BK311.out 0).trans rfl, (blk_cell BK311.out 1).trans rfl, (blk_cell BK311.out 2).trans rfl⟩ (fun hHeld => ?_)
                clear hK K
                refine norm_ (a' := ?_) ?_ ?_
                rotate_left
                · show Act.put _ (some 43) _ = _
                  simp only [Act.put, List.setIfInBounds_toArray, List.set_cons_zero, List.set_cons_succ, i64_w, i32_w]
                  rfl
                refine pure_ (i := 7) (N := some 44) (v := ?_) (a' := ?_) #[true, true, true, true, true, true, true, true, false] rfl rfl (any_of HT_.out (by kernel_rfl)) (fun _ _ _ h => h) (Or.inl ⟨by rfl, ?_⟩) ?_ ?_
                rotate_left
                · intro w'
                  go_simp
                  with_reducible rfl
                rotate_left
                · simp only [Act.put, List.setIfInBounds_toArray, List.set_cons_zero, List.set_cons_succ, i64_w, i32_w]
                  rfl
                refine pure_ (i := 8) (N := some 2) (v := ?_) (a' := ?_) #[true, true, true, true, true, true, true, true, true] rfl rfl (any_of HT_.out (by kernel_rfl)) (fun _ _ _ h => h) (Or.inl ⟨by rfl, ?_⟩) ?_ ?_
                rotate_left
                · intro w'
                  go_simp
                  with_reducible rfl
                rotate_left
                · simp only [Act.put, List.setIfInBounds_toArray, List.set_cons_zero, List.set_cons_succ, i64_w, i32_w]
                  rfl
                refine done_ (done_of HT_.out (by kernel_rfl)) ?_
                try go_wp2
                go_ret
                exact ⟨by first | rfl | (simp [errW_none, errW_some] <;> rfl) | (simp [*, errW_none, errW_some] <;> rfl), by repeat (first | (with_reducible first | exact HB.out | apply below_alloc | apply pw_below_drewN | apply below_drew1 | refine below_set ?_ GE301.out | refine below_set ?_ GE311.out) | exact HB.out)⟩
              · rw [if_neg c25] at H
                have c25b0 : (t310 == 0) = false := beq_eq_false_iff_ne.mpr c25
                have c25b1 : (t310 != 0) = true := bne_iff_ne.mpr c25
                exact absurd H (by simp)

end Go.Proofs.Ytafigfhlpjnejaa.Pg
