-- Written by a program of this session out of Lean's print of the program (a turned print); checked by Lean.
import Derived.Test.YtafigfhlpjnejaaPgx0
import Derived.Test.YtafigfhlpjnejaaPgx7
import Derived.Deep.RegionHeld3
import Derived.OwnWalk
import Derived.StillTailTactics
import Derived.Test.YtafigfhlpjnejaaFun
import Derived.Test.YtafigfhlpjnejaaHelp
namespace Go.Proofs.Ytafigfhlpjnejaa.Pg
open Go.RowKit Go.Proofs.YtafigfhlpjnejaaW.PrintWords Go.Proofs.YtafigfhlpjnejaaW.PrintLast Go.Proofs.YtafigfhlpjnejaaW.PrintMore
attribute [local go_sem] max2_int min2_int max_two min_two max_three min_three max_four min_four   -- for this text's walks alone
set_option linter.unusedVariables false
set_option linter.unusedSimpArgs false
/-- A state of type 72 at block g of W; what its slices lead to came in by w0. -/
def IsS72 (w0 W : World) (g : Nat) (f0 : List Int) (f1 : Int) (f2 : Int) : Prop := ∃ A0 c0, W.heap[g]? = some (.cells #[.slice A0 f0.length c0, .int .i64 f1, .int .i64 f2] 72 (0, 0)) ∧ (w0.heap.size ≤ g ∧ f0.length ≤ c0) ∧ Kd.C (Kd.int .u8) w0 A0 f0.length f0
theorem IsS72.grown {w0 W : World} {g : Nat} {f0 : List Int} {f1 : Int} {f2 : Int} {W1 : World} {row : Option Nat} (h : IsS72 w0 W g f0 f1 f2) (hw : W.grownBy W1 row) (hne : some g ≠ row) : IsS72 w0 W1 g f0 f1 f2 := by
  obtain ⟨A0, c0, hb, hg, hr0⟩ := h
  exact ⟨A0, c0, blk_grown hb hw hne, hg, hr0⟩
theorem IsS72.kept {w0 W : World} {g : Nat} {f0 : List Int} {f1 : Int} {f2 : Int} {W1 : World} {S : Nat → Prop} (h : IsS72 w0 W g f0 f1 f2) (hk : Kept W W1 S) (hne : ¬ S g) : IsS72 w0 W1 g f0 f1 f2 := by
  obtain ⟨A0, c0, hb, hg, hr0⟩ := h
  exact ⟨A0, c0, blk_kept hb hk hne, hg, hr0⟩
theorem IsS72.below {w0 W : World} {g : Nat} {f0 : List Int} {f1 : Int} {f2 : Int} {W1 : World} (h : IsS72 w0 W g f0 f1 f2) (hw : Below W.heap.size W W1) : IsS72 w0 W1 g f0 f1 f2 := h.grown (grown_of_below hw none) (by simp)
theorem IsS72.alloc {w0 W : World} {g : Nat} {f0 : List Int} {f1 : Int} {f2 : Int} (h : IsS72 w0 W g f0 f1 f2) (o : Obj) : IsS72 w0 (W.alloc o) g f0 f1 f2 := h.below (below_alloc (Below.refl _ _) o)
theorem IsS72.drewN {w0 W : World} {g : Nat} {f0 : List Int} {f1 : Int} {f2 : Int} (h : IsS72 w0 W g f0 f1 f2) (m : Nat) : IsS72 w0 (W.drewN m) g f0 f1 f2 := h
theorem IsS72.drew {w0 W : World} {g : Nat} {f0 : List Int} {f1 : Int} {f2 : Int} (h : IsS72 w0 W g f0 f1 f2) : IsS72 w0 W.drew g f0 f1 f2 := h
theorem IsS72.at_ {w0 W : World} {g : Nat} {f0 : List Int} {f1 : Int} {f2 : Int} {w' : World} {m : Nat} (hq : W.drewN m = w') (h : IsS72 w0 W g f0 f1 f2) : IsS72 w0 w' g f0 f1 f2 := by subst hq; exact IsS72.drewN h m
theorem IsS72.apart {w0 W : World} {g : Nat} {f0 : List Int} {f1 : Int} {f2 : Int} {α : Type} {d : Kd α} {e : Nat} {base : Nat} {ok : Nat → Prop} {v : Value} {xs : List α} (h : IsS72 w0 W g f0 f1 f2) (ho : d.R e W base ok v xs) (ht : ∀ q, q ∈ e :: d.E → q ≠ 72) : d.R e W base (fun k => ok k ∧ k ≠ g) v xs := by
  obtain ⟨A0, c0, hb, hg, hr0⟩ := h
  exact Kd.R_types ho hb ht
theorem IsS72.own_ne {w0 W : World} {g : Nat} {f0 : List Int} {f1 : Int} {f2 : Int} {α : Type} {d : Kd α} {e : Nat} {base : Nat} {ok : Nat → Prop} {v : Value} {xs : List α} (h : IsS72 w0 W g f0 f1 f2) (ho : d.R e W base ok v xs) (ht : e ≠ 72) : some g ≠ v.ownBlock := by
  obtain ⟨A0, c0, hb, hg, hr0⟩ := h
  exact Kd.R_ne ho hb ht
theorem IsS72.lt {w0 W : World} {g : Nat} {f0 : List Int} {f1 : Int} {f2 : Int} (h : IsS72 w0 W g f0 f1 f2) : g < W.heap.size := by
  obtain ⟨A0, c0, hb, hg, hr0⟩ := h
  exact blk_lt hb
theorem IsS72.ge {w0 W : World} {g : Nat} {f0 : List Int} {f1 : Int} {f2 : Int} (h : IsS72 w0 W g f0 f1 f2) : w0.heap.size ≤ g := by
  obtain ⟨A0, c0, hb, hg, hr0⟩ := h
  exact hg.1
theorem IsS72.far {w0 W : World} {g : Nat} {f0 : List Int} {f1 : Int} {f2 : Int} {p : Addr} (h : IsS72 w0 W g f0 f1 f2) (hne : g ≠ p.block) (u : Value) : IsS72 w0 (W.setCell p u) g f0 f1 f2 := by
  obtain ⟨A0, c0, hb, hg, hr0⟩ := h
  exact ⟨A0, c0, blk_far hb hne u, hg, hr0⟩
theorem cellS72_0 {W : World} {g : Nat} {A0 : Option Addr} {c0 : Nat} {f0 : List Int} {f1 : Int} {f2 : Int} (h : W.heap[g]? = some (.cells #[.slice A0 f0.length c0, .int .i64 f1, .int .i64 f2] 72 (0, 0))) : W.cell? ⟨g, 0, none⟩ = some (.slice A0 f0.length c0) := (blk_cell h 0).trans rfl
theorem cellS72_1 {W : World} {g : Nat} {A0 : Option Addr} {c0 : Nat} {f0 : List Int} {f1 : Int} {f2 : Int} (h : W.heap[g]? = some (.cells #[.slice A0 f0.length c0, .int .i64 f1, .int .i64 f2] 72 (0, 0))) : W.cell? ⟨g, 1, none⟩ = some (.int .i64 f1) := (blk_cell h 1).trans rfl
theorem IsS72.set_1 {w0 W : World} {g : Nat} {f0 : List Int} {f1 : Int} {f2 : Int} (h : IsS72 w0 W g f0 f1 f2) (x : Int) : IsS72 w0 (W.setCell ⟨g, 1, none⟩ (.int .i64 x)) g f0 x f2 := by
  obtain ⟨A0, c0, hb, hg, hr0⟩ := h
  exact ⟨A0, c0, by simpa using blk_set hb 1 (.int .i64 x), hg, hr0⟩
theorem cellS72_2 {W : World} {g : Nat} {A0 : Option Addr} {c0 : Nat} {f0 : List Int} {f1 : Int} {f2 : Int} (h : W.heap[g]? = some (.cells #[.slice A0 f0.length c0, .int .i64 f1, .int .i64 f2] 72 (0, 0))) : W.cell? ⟨g, 2, none⟩ = some (.int .i64 f2) := (blk_cell h 2).trans rfl
theorem IsS72.set_2 {w0 W : World} {g : Nat} {f0 : List Int} {f1 : Int} {f2 : Int} (h : IsS72 w0 W g f0 f1 f2) (x : Int) : IsS72 w0 (W.setCell ⟨g, 2, none⟩ (.int .i64 x)) g f0 f1 x := by
  obtain ⟨A0, c0, hb, hg, hr0⟩ := h
  exact ⟨A0, c0, by simpa using blk_set hb 2 (.int .i64 x), hg, hr0⟩
theorem IsS72.new (w0 W : World) (A0 : Option Addr) (c0 : Nat) (f0 : List Int) (f1 : Int) (f2 : Int) (hB : Below w0.heap.size w0 W) (hr0 : Kd.C (Kd.int .u8) w0 A0 f0.length f0) (hc0 : f0.length ≤ c0) : IsS72 w0 (W.alloc (.cells #[.slice A0 f0.length c0, .int .i64 f1, .int .i64 f2] 72)) W.heap.size f0 f1 f2 := ⟨A0, c0, by simpa using heap_alloc_new W _, ⟨hB.size, hc0⟩, hr0⟩
def cursor_Cursor_Good.f (s0_0 : List Int) (s0_1 : Int) (s0_2 : Int) : Option (Bool × Int × Int) := some ((s0_2 == 0), s0_1, s0_2)
set_option maxHeartbeats 8000000 in
set_option maxRecDepth 100000 in
theorem cursor_Cursor_Good.calls (g : Nat) (s0_0 : List Int) (s0_1 : Int) (s0_2 : Int) (r1 : Bool) (r2 : Int) (r3 : Int) (w0 w : World) (hI : IsS72 w0 w g s0_0 s0_1 s0_2) (hB : Below w0.heap.size w0 w) (h : cursor_Cursor_Good.f s0_0 s0_1 s0_2 = some (r1, r2, r3)) :
    Calls Try.prog 27 #[.pointer (some ⟨g, 0, none⟩)] w fun e w' => e = .returned (.bool r1) ∧ IsS72 w0 w' g s0_0 r2 r3 ∧ Below w0.heap.size w0 w' ∧ KeepBut w w' g none := by
  have HI0 := Aside0.mk hI
  have HK := Aside0.mk (KeepBut.refl w g none)
  have HL := Aside0.mk hB.size
  clear hI
  have HW0 := Aside0.mk hB.size
  have HB := Aside0.mk hB
  clear hB
  have H : (some ((s0_2 == 0), s0_1, s0_2)) = some (r1, r2, r3) := h
  clear h
  simp only [Option.some.injEq, Prod.mk.injEq] at H
  obtain ⟨rfl, rfl, rfl⟩ := H
  obtain ⟨ASz2_0, cSz2_0, HGz2, hgz2, HSz2_0⟩ := HI0.out
  have hcz2_0 := cellS72_0 HGz2
  have hcz2_1 := cellS72_1 HGz2
  have hcz2_2 := cellS72_2 HGz2
  have hfz2_1 := blk_frozen HGz2 1
  have hfz2_2 := blk_frozen HGz2 2
  clear HGz2 hgz2
  go_enter Try.func27, Try.ntmps27
  go_wp2
  go_ret
  exact ⟨by first | rfl | (simp [errW_none, errW_some] <;> rfl) | (simp [*, errW_none, errW_some] <;> rfl), by repeat (first | (with_reducible first | exact HI0.out | apply IsS72.alloc | apply IsS72.drewN | apply IsS72.drew | apply IsS72.set_1 | apply IsS72.set_2) | exact HI0.out), by repeat (first | (with_reducible first | exact HB.out | apply below_alloc | apply pw_below_drewN | apply below_drew1 | refine below_set ?_ (IsS72.ge HI0.out)) | exact HB.out), by repeat (first | (with_reducible first | exact HK.out | apply KeepBut.set_ | apply keep_drewN | apply keep_drew | apply keep_alloc) | exact HK.out)⟩
def cursor_Cursor_Fail.f (s0_0 : List Int) (s0_1 : Int) (s0_2 : Int) (a1 : Int) : Option (Int × Int) := if s0_2 = 0 then (some (s0_1, a1)) else (some (s0_1, s0_2))
set_option maxHeartbeats 8000000 in
set_option maxRecDepth 100000 in
theorem cursor_Cursor_Fail.calls (g : Nat) (s0_0 : List Int) (s0_1 : Int) (s0_2 : Int) (a1 : Int) (r1 : Int) (r2 : Int) (w0 w : World) (hI : IsS72 w0 w g s0_0 s0_1 s0_2) (hB : Below w0.heap.size w0 w) (h : cursor_Cursor_Fail.f s0_0 s0_1 s0_2 a1 = some (r1, r2)) :
    Calls Try.prog 49 #[.pointer (some ⟨g, 0, none⟩), .int .i64 a1] w fun e w' => e = .returned (.tuple #[]) ∧ IsS72 w0 w' g s0_0 r1 r2 ∧ Below w0.heap.size w0 w' ∧ KeepBut w w' g none := by
  have HI0 := Aside0.mk hI
  have HK := Aside0.mk (KeepBut.refl w g none)
  have HL := Aside0.mk hB.size
  clear hI
  have HW0 := Aside0.mk hB.size
  have HB := Aside0.mk hB
  clear hB
  have H : (if s0_2 = 0 then (some (s0_1, a1)) else (some (s0_1, s0_2))) = some (r1, r2) := h
  clear h
  by_cases c3 : s0_2 = 0
  · rw [if_pos c3] at H
    have c3b0 : (s0_2 == 0) = true := beq_iff_eq.mpr c3
    have c3b1 : (s0_2 != 0) = false := bne_eq_false_iff_eq.mpr c3
    clear c3
    simp only [Option.some.injEq, Prod.mk.injEq] at H
    obtain ⟨rfl, rfl⟩ := H
    obtain ⟨ASz4_0, cSz4_0, HGz4, hgz4, HSz4_0⟩ := HI0.out
    have hcz4_0 := cellS72_0 HGz4
    have hcz4_1 := cellS72_1 HGz4
    have hcz4_2 := cellS72_2 HGz4
    have hfz4_1 := blk_frozen HGz4 1
    have hfz4_2 := blk_frozen HGz4 2
    clear HGz4 hgz4
    go_enter Try.func49, Try.ntmps49
    go_wp2
    first | go_end0 | ((try simp only [Exit.inBlock, Exit.then]); refine bodyPost_ret (results_none rfl _ _ _) rfl ?_)
    exact ⟨by first | rfl | (simp [errW_none, errW_some] <;> rfl) | (simp [*, errW_none, errW_some] <;> rfl), by repeat (first | (with_reducible first | exact HI0.out | apply IsS72.alloc | apply IsS72.drewN | apply IsS72.drew | apply IsS72.set_1 | apply IsS72.set_2) | exact HI0.out), by repeat (first | (with_reducible first | exact HB.out | apply below_alloc | apply pw_below_drewN | apply below_drew1 | refine below_set ?_ (IsS72.ge HI0.out)) | exact HB.out), by repeat (first | (with_reducible first | exact HK.out | apply KeepBut.set_ | apply keep_drewN | apply keep_drew | apply keep_alloc) | exact HK.out)⟩
  · rw [if_neg c3] at H
    have c3b0 : (s0_2 == 0) = false := beq_eq_false_iff_ne.mpr c3
    have c3b1 : (s0_2 != 0) = true := bne_iff_ne.mpr c3
    simp only [Option.some.injEq, Prod.mk.injEq] at H
    obtain ⟨rfl, rfl⟩ := H
    obtain ⟨ASz5_0, cSz5_0, HGz5, hgz5, HSz5_0⟩ := HI0.out
    have hcz5_0 := cellS72_0 HGz5
    have hcz5_1 := cellS72_1 HGz5
    have hcz5_2 := cellS72_2 HGz5
    have hfz5_1 := blk_frozen HGz5 1
    have hfz5_2 := blk_frozen HGz5 2
    clear HGz5 hgz5
    go_enter Try.func49, Try.ntmps49
    go_wp2
    first | go_end0 | ((try simp only [Exit.inBlock, Exit.then]); refine bodyPost_ret (results_none rfl _ _ _) rfl ?_)
    exact ⟨by first | rfl | (simp [errW_none, errW_some] <;> rfl) | (simp [*, errW_none, errW_some] <;> rfl), by repeat (first | (with_reducible first | exact HI0.out | apply IsS72.alloc | apply IsS72.drewN | apply IsS72.drew | apply IsS72.set_1 | apply IsS72.set_2) | exact HI0.out), by repeat (first | (with_reducible first | exact HB.out | apply below_alloc | apply pw_below_drewN | apply below_drew1 | refine below_set ?_ (IsS72.ge HI0.out)) | exact HB.out), by repeat (first | (with_reducible first | exact HK.out | apply KeepBut.set_ | apply keep_drewN | apply keep_drew | apply keep_alloc) | exact HK.out)⟩
/-- What a varint's bytes say: the number, how many bytes, the error. -/
def numScan : List Int → Nat → Int → Int × Int × Int
  | [], _, _ => (0, 0, 2)
  | c :: t, i, x => if i = 9 then (0, 0, 3) else if c < 128 then (if c = 0 ∧ 0 < i then (0, 0, 3) else (x + (c % 128) * 128 ^ i, (i : Int) + 1, 0)) else numScan t (i + 1) (x + (c % 128) * 128 ^ i)
def byteOk (l : List Int) : Bool := l.all fun c => decide (0 ≤ c ∧ c ≤ 255)
def cursor_Cursor_Number.f (s0_0 : List Int) (s0_1 : Int) (s0_2 : Int) : Option (Int × Int × Int) :=
  if s0_2 = 0 then (if 0 ≤ s0_1 ∧ s0_1 ≤ s0_0.length ∧ byteOk (s0_0.drop s0_1.toNat) = true then
    (if (numScan (s0_0.drop s0_1.toNat) 0 0).2.2 = 0 then some ((numScan (s0_0.drop s0_1.toNat) 0 0).1, s0_1 + (numScan (s0_0.drop s0_1.toNat) 0 0).2.1, 0) else some (0, s0_1, (numScan (s0_0.drop s0_1.toNat) 0 0).2.2)) else none) else some (0, s0_1, s0_2)
set_option maxHeartbeats 1600000 in
set_option maxRecDepth 100000 in
theorem cursor_Cursor_Number.calls (g : Nat) (s0_0 : List Int) (s0_1 : Int) (s0_2 : Int) (r1 : Int) (r2 : Int) (r3 : Int) (w0 w : World) (hI : IsS72 w0 w g s0_0 s0_1 s0_2) (hB : Below w0.heap.size w0 w) (h : cursor_Cursor_Number.f s0_0 s0_1 s0_2 = some (r1, r2, r3)) :
    Calls Try.prog 64 #[.pointer (some ⟨g, 0, none⟩)] w fun e w' => e = .returned (.int .i64 r1) ∧ IsS72 w0 w' g s0_0 r2 r3 ∧ Below w0.heap.size w0 w' ∧ KeepBut w w' g none := by
  unfold cursor_Cursor_Number.f at h
  have HI := Aside0.mk hI
  have HB := Aside0.mk hB
  obtain ⟨A0, cc0, HG, hg, HS⟩ := hI
  have y0 := cellS72_0 HG
  have y1 := cellS72_1 HG
  have y2 := cellS72_2 HG
  have yf := blk_frozen HG 1
  have hcc : s0_0.length ≤ cc0 := hg.2
  have HSA := Aside0.mk HS
  clear HG hg HS hB
  by_cases he : s0_2 = 0
  · rw [if_pos he] at h
    subst he
    by_cases hat : 0 ≤ s0_1 ∧ s0_1 ≤ s0_0.length ∧ byteOk (s0_0.drop s0_1.toNat) = true
    · rw [if_pos hat] at h
      obtain ⟨h0, h1, h2⟩ := hat
      obtain ⟨t, rfl⟩ : ∃ t : Nat, s0_1 = t := ⟨s0_1.toNat, by omega⟩
      rw [Int.toNat_natCast] at h h2
      have H := Aside0.mk h
      have HOK := Aside0.mk h2
      clear h h2
      have htl : t ≤ s0_0.length := by omega
      obtain ⟨i0, hi0, hz⟩ := Option.map_eq_some_iff.1 info5
      simp only [Prod.mk.injEq] at hz
      obtain ⟨A3, hsl, hC⟩ := print_cut (P := Try.prog) 45 5 .i64 Try.underlying45 hi0 hz.2.1 A0 s0_0.length cc0 t htl
      have HC := Aside0.mk hC
      clear hC hz hi0
      have hlo : (0 : Int) ≤ (t : Int) := by omega
      have hm : s0_0.length ≤ 9223372036854775807 := HSA.out.2.1
      go_enter Try.func64, Try.ntmps64
      go_wp2_with fail
      go_region_held3 (fun w' => w'.cell? ⟨g, 0, none⟩ = some (.slice A0 s0_0.length cc0) ∧ w'.cell? ⟨g, 1, none⟩ = some (.int .i64 (t : Int))) (go_keep) (fail)
      go_wp2_with fail
      have hF := fun (er : Int) W hW hB' => cursor_Cursor_Fail.calls g s0_0 (t : Int) 0 er (t : Int) er w0 W hW hB' (by simp [cursor_Cursor_Fail.f])
      have HK0 := Aside0.mk (keep_drew (KeepBut.refl w g none))
      go_loop [3, 21] (fun x i => ∃ (kk : Nat) (v : Int), kk ≤ s0_0.length - t ∧ kk ≤ 9 ∧ i = .int .i64 kk ∧ x = .int .i64 v ∧ Aside0 (numScan (s0_0.drop (t + kk)) kk v = numScan (s0_0.drop t) 0 0) ∧ Aside0 (0 ≤ v ∧ v < 128 ^ kk)) (fun _ i => s0_0.length - (intOf i).toNat)
      case atStart => exact ⟨0, 0, Nat.zero_le _, by omega, rfl, rfl, ⟨rfl⟩, ⟨by omega, by decide⟩⟩
      case round =>
        obtain ⟨kk, v, hkk, hk9, rfl, rfl, hsc, hv⟩ := hrel
        by_cases hlt : kk < s0_0.length - t
        · have hlt' : (kk : Int) < ((s0_0.length - t : Nat) : Int) := by omega
          have hk0 : (0 : Int) ≤ (kk : Int) := by omega
          have hC1 := Kd.C_below HSA.out HB.out
          obtain ⟨ad, rfl, hcell⟩ := (HC.out w .u8 s0_0 hcc (Kd.reads_of_C (d := (0 : Int)) hC1)).at_ (kk : Int) hk0 hlt'
          rw [Int.toNat_natCast] at hcell
          have hdr : s0_0.drop (t + kk) = rd (s0_0.drop t) (kk : Int) :: s0_0.drop (t + (kk + 1)) := by
            have := YtafigfhlpjnejaaH.rd_drop (s0_0.drop t) kk (by rw [List.length_drop]; exact hlt)
            rw [List.drop_drop, List.drop_drop] at this
            exact this
          have hb0 : 0 ≤ rd (s0_0.drop t) (kk : Int) ∧ rd (s0_0.drop t) (kk : Int) ≤ 255 := by
            have h3 := HOK.out
            unfold byteOk at h3
            rw [List.all_eq_true] at h3
            have h4 : rd (s0_0.drop t) (kk : Int) ∈ s0_0.drop t := by
              have : (s0_0.drop (t + kk)) = (s0_0.drop t).drop kk := by rw [List.drop_drop]
              rw [this] at hdr
              exact List.mem_of_mem_drop (hdr ▸ List.mem_cons_self)
            simpa using h3 _ h4
          have hs2 := hsc.out
          rw [hdr] at hs2
          generalize rd (s0_0.drop t) (kk : Int) = c at hcell hb0 hs2
          obtain ⟨hc0, hc1⟩ := hb0
          simp only [numScan] at hs2
          clear hdr hsc hC1
          have hdone : ∀ (v' n' e' : Int), numScan (s0_0.drop t) 0 0 = (v', n', e') → e' ≠ 0 → (0 : Int) = r1 ∧ (t : Int) = r2 ∧ e' = r3 := by
            intro v' n' e' h5 h6
            have h := H.out
            rw [h5] at h
            simpa [h6] using h
          have hgood : ∀ (v' n' : Int), numScan (s0_0.drop t) 0 0 = (v', n', 0) → v' = r1 ∧ (t : Int) + n' = r2 ∧ (0 : Int) = r3 := by
            intro v' n' h5
            have h := H.out
            rw [h5] at h
            simpa using h
          have HD := Aside0.mk hdone
          have HG := Aside0.mk hgood
          clear hdone hgood
          by_cases h9 : kk = 9
          · have h9b : ((kk : Int) == 9) = true := beq_iff_eq.mpr (by omega)
            rw [if_pos h9] at hs2
            obtain ⟨rfl, rfl, rfl⟩ := HD.out _ _ _ hs2.symm (by decide)
            clear hs2 hv h9
            go_wp2_with (go_at_call 49; refine (hF _ _ (IsS72.drew HI.out) (below_drew HB.out)).mono ?_; rintro e w1 ⟨rfl, hi, hb, hk⟩)
            go_ret
            exact ⟨rfl, hi, hb, KeepBut.trans HK0.out hk (.inl rfl)⟩
          · have h9b : ((kk : Int) == 9) = false := beq_eq_false_iff_ne.mpr (by omega)
            rw [if_neg h9] at hs2
            have ha := YtafigfhlpjnejaaH.and127 c hc0 hc1
            have hkl : (kk : Int) ≤ 8 := by omega
            have HV := hv
            clear hv
            obtain ⟨o1, o2, o3, o4⟩ := YtafigfhlpjnejaaH.or_above kk v (c % 128) (by omega) HV.out.1 HV.out.2 (by omega) (by omega)
            have hor : bits .or .i64 v (wrap64 (c % 128 * 2 ^ (7 * kk))) = v + c % 128 * 128 ^ kk := by
              have e1 : (c % 128 * 2 ^ (7 * kk) : Int) = c % 128 * 128 ^ kk := by rw [Int.pow_mul]; rfl
              rw [e1, show wrap64 (c % 128 * 128 ^ kk) = c % 128 * 128 ^ kk by unfold wrap64; omega]
              exact o1
            have hv2 : 0 ≤ v + c % 128 * 128 ^ kk := by have := HV.out.1; omega
            have OR := Aside0.mk hor
            have O2 := Aside0.mk o2
            have HV2 := Aside0.mk hv2
            clear hor o1 o2 o3 o4 hv2
            by_cases h128 : c < 128
            · rw [if_pos h128] at hs2
              by_cases hz : c = 0
              · by_cases hk0' : 0 < kk
                · rw [if_pos ⟨hz, hk0'⟩] at hs2
                  obtain ⟨rfl, rfl, rfl⟩ := HD.out _ _ _ hs2.symm (by decide)
                  subst hz
                  have hkp : (0 : Int) < (kk : Int) := by omega
                  clear hs2 OR O2 HV2
                  go_wp2_with (go_at_call 49; refine (hF _ _ (IsS72.drew HI.out) (below_drew HB.out)).mono ?_; rintro e w1 ⟨rfl, hi, hb, hk⟩)
                  go_ret
                  exact ⟨rfl, hi, hb, KeepBut.trans HK0.out hk (.inl rfl)⟩
                · rw [if_neg (fun hh => hk0' hh.2)] at hs2
                  obtain ⟨q1, q2, rfl⟩ := HG.out _ _ hs2.symm
                  have hkz : decide ((0 : Int) < (kk : Int)) = false := decide_eq_false (by omega)
                  have hkz' : ¬ (0 : Int) < (kk : Int) := by omega
                  subst hz
                  clear hk0'
                  have Q1 := Aside0.mk q1
                  have Q2 := Aside0.mk q2
                  clear hs2 q1 q2 O2 HV2
                  go_wp2_with fail
                  go_ret
                  have e1 : bits .or .i64 v 0 = r1 := by
                    rw [← Q1.out, ← OR.out, Int.zero_emod, Int.zero_mul, show wrap64 0 = 0 by unfold wrap64; omega]
                  have q2 := Q2.out
                  subst q2
                  exact ⟨by rw [← e1]; rfl, IsS72.drew (IsS72.set_1 HI.out _), below_drew (below_set HB.out (IsS72.ge HI.out)), keep_drew (KeepBut.set_ (KeepBut.refl w g none) 1 _)⟩
              · rw [if_neg (fun hh => hz hh.1)] at hs2
                obtain ⟨q1, q2, rfl⟩ := HG.out _ _ hs2.symm
                have hzb : (c == 0) = false := beq_eq_false_iff_ne.mpr hz
                have Q1 := Aside0.mk q1
                have Q2 := Aside0.mk q2
                clear hs2 q1 q2 hz O2 HV2
                go_wp2_with fail
                go_ret
                have q2 := Q2.out
                subst q2
                exact ⟨by rw [← Q1.out, ← OR.out]; rfl, IsS72.drew (IsS72.set_1 HI.out _), below_drew (below_set HB.out (IsS72.ge HI.out)), keep_drew (KeepBut.set_ (KeepBut.refl w g none) 1 _)⟩
            · rw [if_neg h128] at hs2
              have HS2 := Aside0.mk hs2
              clear hs2
              go_wp2_with fail
              go_round
              case rel => exact ⟨kk + 1, v + c % 128 * 128 ^ kk, by omega, by omega, by go_num, by rw [OR.out], HS2, ⟨HV2.out, O2.out⟩⟩
              case measure => simp [intOf]; omega
        · obtain rfl : kk = s0_0.length - t := by omega
          have hs2 := hsc.out
          rw [List.drop_eq_nil_of_le (by omega)] at hs2
          simp only [numScan] at hs2
          have h := H.out
          rw [← hs2] at h
          simp only [show ((2 : Int) = 0) = False by simp, if_false, Option.some.injEq, Prod.mk.injEq] at h
          obtain ⟨rfl, rfl, rfl⟩ := h
          clear hs2 hsc hv
          go_wp2_with (go_at_call 49; refine (hF _ _ (IsS72.drew HI.out) (below_drew HB.out)).mono ?_; rintro e w1 ⟨rfl, hi, hb, hk⟩)
          go_ret
          exact ⟨rfl, hi, hb, KeepBut.trans HK0.out hk (.inl rfl)⟩
    · exfalso
      rw [if_neg hat] at h
      cases h
  · rw [if_neg he] at h
    have H := Aside0.mk h
    have he1 : (s0_2 == 0) = false := beq_eq_false_iff_ne.mpr he
    have he2 : (s0_2 != 0) = true := bne_iff_ne.mpr he
    clear h he
    go_enter Try.func64, Try.ntmps64
    go_wp2
    go_ret
    have h := H.out
    simp only [Option.some.injEq, Prod.mk.injEq] at h
    obtain ⟨rfl, rfl, rfl⟩ := h
    exact ⟨rfl, HI.out, HB.out, KeepBut.refl _ _ _⟩
def cursor_Cursor_Most.f (s0_0 : List Int) (s0_1 : Int) (s0_2 : Int) (a1 : Int) : Option (Int × Int × Int) := (cursor_Cursor_Number.f s0_0 s0_1 s0_2).bind fun bt382 => (if bt382.1 > a1 then ((cursor_Cursor_Fail.f s0_0 s0_1 bt382.2.2 3).bind fun bt385 => (some (0, bt385.1, bt385.2))) else (some (bt382.1, bt382.2.1, bt382.2.2)))
set_option maxHeartbeats 8000000 in
set_option maxRecDepth 100000 in
theorem cursor_Cursor_Most.calls (g : Nat) (s0_0 : List Int) (s0_1 : Int) (s0_2 : Int) (a1 : Int) (r1 : Int) (r2 : Int) (r3 : Int) (w0 w : World) (hI : IsS72 w0 w g s0_0 s0_1 s0_2) (hB : Below w0.heap.size w0 w) (h : cursor_Cursor_Most.f s0_0 s0_1 s0_2 a1 = some (r1, r2, r3)) :
    Calls Try.prog 45 #[.pointer (some ⟨g, 0, none⟩), .int .i64 a1] w fun e w' => e = .returned (.int .i64 r1) ∧ IsS72 w0 w' g s0_0 r2 r3 ∧ Below w0.heap.size w0 w' ∧ KeepBut w w' g none := by
  have HI0 := Aside0.mk hI
  have HK := Aside0.mk (KeepBut.refl w g none)
  have HL := Aside0.mk hB.size
  clear hI
  have HW0 := Aside0.mk hB.size
  have HB := Aside0.mk hB
  clear hB
  have H : ((cursor_Cursor_Number.f s0_0 s0_1 s0_2).bind fun bt382 => (if bt382.1 > a1 then ((cursor_Cursor_Fail.f s0_0 s0_1 bt382.2.2 3).bind fun bt385 => (some (0, bt385.1, bt385.2))) else (some (bt382.1, bt382.2.1, bt382.2.2)))) = some (r1, r2, r3) := h
  clear h
  replace H := Option.bind_eq_some_iff.mp H
  obtain ⟨⟨t382, t383, t384⟩, A30, H⟩ := H
  replace H : (if t382 > a1 then ((cursor_Cursor_Fail.f s0_0 s0_1 t384 3).bind fun bt385 => (some (0, bt385.1, bt385.2))) else (some (t382, t383, t384))) = some (r1, r2, r3) := H
  have A3 := Aside0.mk A30
  clear A30
  by_cases c4 : t382 > a1
  · rw [if_pos c4] at H
    have c4b0 : decide (a1 < t382) = true := decide_eq_true c4
    clear c4
    replace H := Option.bind_eq_some_iff.mp H
    obtain ⟨⟨t385, t386⟩, A50, H⟩ := H
    replace H : (some (0, t385, t386)) = some (r1, r2, r3) := H
    have A5 := Aside0.mk A50
    clear A50
    simp only [Option.some.injEq, Prod.mk.injEq] at H
    obtain ⟨rfl, rfl, rfl⟩ := H
    obtain ⟨ASz6_0, cSz6_0, HGz6, hgz6, HSz6_0⟩ := HI0.out
    have hcz6_0 := cellS72_0 HGz6
    have hcz6_1 := cellS72_1 HGz6
    have hcz6_2 := cellS72_2 HGz6
    have hfz6_1 := blk_frozen HGz6 1
    have hfz6_2 := blk_frozen HGz6 2
    clear HGz6 hgz6
    go_enter Try.func45, Try.ntmps45
    go_wp2_with (first | ((with_reducible refine gate_callee (f := 64) rfl ?_); refine goesL_ (some 12) rfl rfl Try.func64 (by kernel_rfl) rfl #[.pointer (some ⟨g, 0, none⟩)] rfl (by (try simp only [List.map_toArray, List.map_cons, List.map_nil]); first | done | rfl | (simp only [List.length_drop, List.length_take]; rfl)) ?_; (with_reducible refine (cursor_Cursor_Number.calls g s0_0 s0_1 s0_2 t382 t383 t384 w0 _ ?side1 ?side2 A3.out).mono ?_); (case side1 => repeat (first | (with_reducible first | exact HI0.out | apply IsS72.alloc | apply IsS72.drewN | apply IsS72.drew | apply IsS72.set_1 | apply IsS72.set_2) | exact HI0.out)); (case side2 => repeat (first | (with_reducible first | exact HB.out | apply below_alloc | apply pw_below_drewN | apply below_drew1 | refine below_set ?_ (IsS72.ge HI0.out)) | exact HB.out)); rintro e w7 ⟨rfl, hi, hb, hk⟩; refine ⟨_, rfl, ?_⟩; have n0_ := Aside0.mk (KeepBut.trans (by repeat (first | (with_reducible first | exact HK.out | apply KeepBut.set_ | apply keep_drewN | apply keep_drew | apply keep_alloc) | exact HK.out)) hk (.inl rfl)); have n1_ := Aside0.mk (hb); have n2_ := Aside0.mk (hi); clear HK; clear HB; clear HI0; have HK := n0_; have HB := n1_; have HI0 := n2_; clear n0_ n1_ n2_; (try clear hb); (try clear hb2); (try clear hk); (try clear hi); obtain ⟨ASz8_0, cSz8_0, HGz8, hgz8, HSz8_0⟩ := HI0.out; have hcz8_0 := cellS72_0 HGz8; have hcz8_1 := cellS72_1 HGz8; have hcz8_2 := cellS72_2 HGz8; have hfz8_1 := blk_frozen HGz8 1; have hfz8_2 := blk_frozen HGz8 2; clear HGz8 hgz8) | ((with_reducible refine gate_callee (f := 49) rfl ?_); refine goesL_ (some 21) rfl rfl Try.func49 (by kernel_rfl) rfl #[.pointer (some ⟨g, 0, none⟩), .int .i64 3] rfl (by (try simp only [List.map_toArray, List.map_cons, List.map_nil]); first | done | rfl | (simp only [List.length_drop, List.length_take]; rfl)) ?_; (with_reducible refine (cursor_Cursor_Fail.calls g s0_0 s0_1 t384 3 t385 t386 w0 _ ?side1 ?side2 A5.out).mono ?_); (case side1 => repeat (first | (with_reducible first | exact HI0.out | apply IsS72.alloc | apply IsS72.drewN | apply IsS72.drew | apply IsS72.set_1 | apply IsS72.set_2) | exact HI0.out)); (case side2 => repeat (first | (with_reducible first | exact HB.out | apply below_alloc | apply pw_below_drewN | apply below_drew1 | refine below_set ?_ (IsS72.ge HI0.out)) | exact HB.out)); rintro e w9 ⟨rfl, hi, hb, hk⟩; refine ⟨_, rfl, ?_⟩; have n0_ := Aside0.mk (KeepBut.trans (by repeat (first | (with_reducible first | exact HK.out | apply KeepBut.set_ | apply keep_drewN | apply keep_drew | apply keep_alloc) | exact HK.out)) hk (.inl rfl)); have n1_ := Aside0.mk (hb); have n2_ := Aside0.mk (hi); clear HK; clear HB; clear HI0; have HK := n0_; have HB := n1_; have HI0 := n2_; clear n0_ n1_ n2_; (try clear hb); (try clear hb2); (try clear hk); (try clear hi)))
    go_ret
    exact ⟨by first | rfl | (simp [errW_none, errW_some] <;> rfl) | (simp [*, errW_none, errW_some] <;> rfl), by repeat (first | (with_reducible first | exact HI0.out | apply IsS72.alloc | apply IsS72.drewN | apply IsS72.drew | apply IsS72.set_1 | apply IsS72.set_2) | exact HI0.out), by repeat (first | (with_reducible first | exact HB.out | apply below_alloc | apply pw_below_drewN | apply below_drew1 | refine below_set ?_ (IsS72.ge HI0.out)) | exact HB.out), by repeat (first | (with_reducible first | exact HK.out | apply KeepBut.set_ | apply keep_drewN | apply keep_drew | apply keep_alloc) | exact HK.out)⟩
  · rw [if_neg c4] at H
    have c4b0 : decide (a1 < t382) = false := decide_eq_false c4
    clear c4
    simp only [Option.some.injEq, Prod.mk.injEq] at H
    obtain ⟨rfl, rfl, rfl⟩ := H
    obtain ⟨ASz10_0, cSz10_0, HGz10, hgz10, HSz10_0⟩ := HI0.out
    have hcz10_0 := cellS72_0 HGz10
    have hcz10_1 := cellS72_1 HGz10
    have hcz10_2 := cellS72_2 HGz10
    have hfz10_1 := blk_frozen HGz10 1
    have hfz10_2 := blk_frozen HGz10 2
    clear HGz10 hgz10
    go_enter Try.func45, Try.ntmps45
    go_wp2_with (first | ((with_reducible refine gate_callee (f := 64) rfl ?_); refine goesL_ (some 12) rfl rfl Try.func64 (by kernel_rfl) rfl #[.pointer (some ⟨g, 0, none⟩)] rfl (by (try simp only [List.map_toArray, List.map_cons, List.map_nil]); first | done | rfl | (simp only [List.length_drop, List.length_take]; rfl)) ?_; (with_reducible refine (cursor_Cursor_Number.calls g s0_0 s0_1 s0_2 t382 t383 t384 w0 _ ?side1 ?side2 A3.out).mono ?_); (case side1 => repeat (first | (with_reducible first | exact HI0.out | apply IsS72.alloc | apply IsS72.drewN | apply IsS72.drew | apply IsS72.set_1 | apply IsS72.set_2) | exact HI0.out)); (case side2 => repeat (first | (with_reducible first | exact HB.out | apply below_alloc | apply pw_below_drewN | apply below_drew1 | refine below_set ?_ (IsS72.ge HI0.out)) | exact HB.out)); rintro e w11 ⟨rfl, hi, hb, hk⟩; refine ⟨_, rfl, ?_⟩; have n0_ := Aside0.mk (KeepBut.trans (by repeat (first | (with_reducible first | exact HK.out | apply KeepBut.set_ | apply keep_drewN | apply keep_drew | apply keep_alloc) | exact HK.out)) hk (.inl rfl)); have n1_ := Aside0.mk (hb); have n2_ := Aside0.mk (hi); clear HK; clear HB; clear HI0; have HK := n0_; have HB := n1_; have HI0 := n2_; clear n0_ n1_ n2_; (try clear hb); (try clear hb2); (try clear hk); (try clear hi)))
    go_ret
    exact ⟨by first | rfl | (simp [errW_none, errW_some] <;> rfl) | (simp [*, errW_none, errW_some] <;> rfl), by repeat (first | (with_reducible first | exact HI0.out | apply IsS72.alloc | apply IsS72.drewN | apply IsS72.drew | apply IsS72.set_1 | apply IsS72.set_2) | exact HI0.out), by repeat (first | (with_reducible first | exact HB.out | apply below_alloc | apply pw_below_drewN | apply below_drew1 | refine below_set ?_ (IsS72.ge HI0.out)) | exact HB.out), by repeat (first | (with_reducible first | exact HK.out | apply KeepBut.set_ | apply keep_drewN | apply keep_drew | apply keep_alloc) | exact HK.out)⟩
def cursor_Cursor_Left.f (s0_0 : List Int) (s0_1 : Int) (s0_2 : Int) : Option (Int × Int × Int) := some (wrap64 ((s0_0.length : Int) - s0_1), s0_1, s0_2)
set_option maxHeartbeats 8000000 in
set_option maxRecDepth 100000 in
theorem cursor_Cursor_Left.calls (g : Nat) (s0_0 : List Int) (s0_1 : Int) (s0_2 : Int) (r1 : Int) (r2 : Int) (r3 : Int) (w0 w : World) (hI : IsS72 w0 w g s0_0 s0_1 s0_2) (hB : Below w0.heap.size w0 w) (h : cursor_Cursor_Left.f s0_0 s0_1 s0_2 = some (r1, r2, r3)) :
    Calls Try.prog 28 #[.pointer (some ⟨g, 0, none⟩)] w fun e w' => e = .returned (.int .i64 r1) ∧ IsS72 w0 w' g s0_0 r2 r3 ∧ Below w0.heap.size w0 w' ∧ KeepBut w w' g none := by
  have HI0 := Aside0.mk hI
  have HK := Aside0.mk (KeepBut.refl w g none)
  have HL := Aside0.mk hB.size
  clear hI
  have HW0 := Aside0.mk hB.size
  have HB := Aside0.mk hB
  clear hB
  have H : (some (wrap64 ((s0_0.length : Int) - s0_1), s0_1, s0_2)) = some (r1, r2, r3) := h
  clear h
  simp only [Option.some.injEq, Prod.mk.injEq] at H
  obtain ⟨rfl, rfl, rfl⟩ := H
  obtain ⟨ASz2_0, cSz2_0, HGz2, hgz2, HSz2_0⟩ := HI0.out
  have hcz2_0 := cellS72_0 HGz2
  have hcz2_1 := cellS72_1 HGz2
  have hcz2_2 := cellS72_2 HGz2
  have hfz2_1 := blk_frozen HGz2 1
  have hfz2_2 := blk_frozen HGz2 2
  clear HGz2 hgz2
  go_enter Try.func28, Try.ntmps28
  go_wp2
  repeat (go_quiet (fail); try go_wp2)
  go_ret
  exact ⟨by first | rfl | (simp [errW_none, errW_some] <;> rfl) | (simp [*, errW_none, errW_some] <;> rfl), by repeat (first | (with_reducible first | exact HI0.out | apply IsS72.alloc | apply IsS72.drewN | apply IsS72.drew | apply IsS72.set_1 | apply IsS72.set_2) | exact HI0.out), by repeat (first | (with_reducible first | exact HB.out | apply below_alloc | apply pw_below_drewN | apply below_drew1 | refine below_set ?_ (IsS72.ge HI0.out)) | exact HB.out), by repeat (first | (with_reducible first | exact HK.out | apply KeepBut.set_ | apply keep_drewN | apply keep_drew | apply keep_alloc) | exact HK.out)⟩
def cursor_Cursor_Bytes.f (s0_0 : List Int) (s0_1 : Int) (s0_2 : Int) (a1 : Int) : Option (List Int × Int × Int) :=
  if s0_2 = 0 then (if a1 < 0 then some ([], s0_1, 3) else (if 0 ≤ s0_1 ∧ s0_1 ≤ s0_0.length ∧ s0_0.length < 140737488355328 then (if a1 > (s0_0.length : Int) - s0_1 then some ([], s0_1, 2) else some ((s0_0.drop s0_1.toNat).take a1.toNat, s0_1 + a1, 0)) else none)) else some ([], s0_1, s0_2)
set_option maxHeartbeats 1600000 in
set_option maxRecDepth 100000 in
theorem cursor_Cursor_Bytes.calls (g : Nat) (s0_0 : List Int) (s0_1 : Int) (s0_2 : Int) (a1 : Int) (r1 : List Int) (r2 : Int) (r3 : Int) (w0 w : World) (hI : IsS72 w0 w g s0_0 s0_1 s0_2) (hB : Below w0.heap.size w0 w) (h : cursor_Cursor_Bytes.f s0_0 s0_1 s0_2 a1 = some (r1, r2, r3)) :
    Calls Try.prog 65 #[.pointer (some ⟨g, 0, none⟩), .int .i64 a1] w fun e w' => ∃ v0_ : Value, e = .returned (v0_) ∧ Kd.R (Kd.int .u8) 5 w' w.heap.size (fun _ => True) v0_ r1 ∧ IsS72 w0 w' g s0_0 r2 r3 ∧ Below w0.heap.size w0 w' ∧ KeepBut w w' g none := by
  unfold cursor_Cursor_Bytes.f at h
  have HI := Aside0.mk hI
  have HB := Aside0.mk hB
  obtain ⟨A0, cc0, HG, hg, HS⟩ := hI
  have hz0 := cellS72_0 HG
  have hz1 := cellS72_1 HG
  have hz2 := cellS72_2 HG
  have hf1 := blk_frozen HG 1
  have HSA := Aside0.mk HS
  have HGG := Aside0.mk HG
  clear HG hg HS hB
  by_cases he : s0_2 = 0
  · rw [if_pos he] at h
    subst he
    by_cases hn : a1 < 0
    · rw [if_pos hn] at h
      have H := Aside0.mk h
      have hF := fun W (hW : w = W) => cursor_Cursor_Fail.calls g s0_0 s0_1 0 3 s0_1 3 w0 W (hW ▸ HI.out) (hW ▸ HB.out) (by simp [cursor_Cursor_Fail.f])
      clear h
      go_enter Try.func65, Try.ntmps65
      go_wp2_with (go_at_call 49; refine (hF _ rfl).mono ?_; rintro e w1 ⟨rfl, hi, hb, hk⟩; have HI1 := Aside0.mk hi; have HB1 := Aside0.mk hb; have HK1 := Aside0.mk hk; clear hi hb hk)
      go_ret
      have h := H.out
      simp only [Option.some.injEq, Prod.mk.injEq] at h
      obtain ⟨rfl, rfl, rfl⟩ := h
      exact ⟨_, rfl, Kd.R_nil _ _ _ _ _, HI1.out, HB1.out, HK1.out⟩
    · rw [if_neg hn] at h
      by_cases hat : 0 ≤ s0_1 ∧ s0_1 ≤ s0_0.length ∧ s0_0.length < 140737488355328
      · rw [if_pos hat] at h
        obtain ⟨h0, h1, h2⟩ := hat
        have hw : wrap64 ((s0_0.length : Int) - s0_1) = (s0_0.length : Int) - s0_1 := by unfold wrap64; omega
        have hL := fun W (hW : w = W) => cursor_Cursor_Left.calls g s0_0 s0_1 0 ((s0_0.length : Int) - s0_1) s0_1 0 w0 W (hW ▸ HI.out) (hW ▸ HB.out) (by simp only [cursor_Cursor_Left.f, hw])
        clear hw
        by_cases hm : a1 > (s0_0.length : Int) - s0_1
        · rw [if_pos hm] at h
          have H := Aside0.mk h
          have hF := fun W hW hB' => cursor_Cursor_Fail.calls g s0_0 s0_1 0 2 s0_1 2 w0 W hW hB' (by simp [cursor_Cursor_Fail.f])
          have hm' : ((s0_0.length : Int) - s0_1) < a1 := hm
          clear h
          go_enter Try.func65, Try.ntmps65
          go_wp2_with (first | (go_at_call 28; refine (hL _ rfl).mono ?_; rintro e w1 ⟨rfl, hi, hb, hk⟩; have HI1 := Aside0.mk hi; have HB1 := Aside0.mk hb; have HK1 := Aside0.mk hk; clear hi hb hk) | (go_at_call 49; refine (hF _ HI1.out HB1.out).mono ?_; rintro e w2 ⟨rfl, hi, hb, hk⟩; have HI2 := Aside0.mk hi; have HB2 := Aside0.mk hb; have HK2 := Aside0.mk hk; clear hi hb hk))
          go_ret
          have h := H.out
          simp only [Option.some.injEq, Prod.mk.injEq] at h
          obtain ⟨rfl, rfl, rfl⟩ := h
          exact ⟨_, rfl, Kd.R_nil _ _ _ _ _, HI2.out, HB2.out, KeepBut.trans HK1.out HK2.out (.inl rfl)⟩
        · rw [if_neg hm] at h
          have H := Aside0.mk h
          have hm' : ¬ ((s0_0.length : Int) - s0_1) < a1 := hm
          clear h
          obtain ⟨n, rfl⟩ : ∃ n : Nat, a1 = n := ⟨a1.toNat, by omega⟩
          obtain ⟨t, rfl⟩ : ∃ t : Nat, s0_1 = t := ⟨s0_1.toNat, by omega⟩
          clear hn
          go_enter Try.func65, Try.ntmps65
          clear HGG HSA
          go_wp2_with (first | (go_at_call 28; refine (hL _ rfl).mono ?_; rintro e w1 ⟨rfl, hi, hb, hk⟩; have HI1 := Aside0.mk hi; have HB1 := Aside0.mk hb; have HK1 := Aside0.mk hk; obtain ⟨A1, cc1, HG1, hg1, HS1⟩ := hi; have y0 := cellS72_0 HG1; have y1 := cellS72_1 HG1; have y2 := cellS72_2 HG1; have yf := blk_frozen HG1 1; have HSA := Aside0.mk HS1; clear HG1 hg1 HS1 hb hk hz0 hz1 hz2 hf1))
          have hr1 : IntKind.i64.wrap ((t : Int) + n - n) = t := by rw [IntKind.wrap_i64]; omega
          have hr2 : IntKind.i64.wrap (t : Int) = t := by rw [IntKind.wrap_i64]; omega
          have hlo : (0 : Int) ≤ (t : Int) := by omega
          have hlh : (t : Int) ≤ (t : Int) + n := by omega
          have hhl : (t : Int) + n ≤ (s0_0.length : Int) := by omega
          have hI2 := IsS72.set_1 HI1.out ((t : Int) + n)
          have hB2 : Below w0.heap.size w0 (w1.setCell ⟨g, 1, none⟩ (.int .i64 ((t : Int) + n))) := below_set HB1.out (IsS72.ge HI1.out)
          have hK2 : KeepBut w (w1.setCell ⟨g, 1, none⟩ (.int .i64 ((t : Int) + n))) g none := KeepBut.set_ HK1.out 1 _
          clear y0 y1 y2 yf HSA HI1 HB1 HK1
          generalize w1.setCell ⟨g, 1, none⟩ (.int .i64 ((t : Int) + n)) = W at hI2 hB2 hK2 ⊢
          have HI2 := Aside0.mk hI2
          have HB2 := Aside0.mk hB2
          have HK2 := Aside0.mk hK2
          obtain ⟨A2, cc2, HG2, hg2, HS2⟩ := hI2
          have y0 := cellS72_0 HG2
          have y1 := cellS72_1 HG2
          have hcc : s0_0.length ≤ cc2 := hg2.2
          clear HG2 hg2 hB2 hK2
          have HSA := Aside0.mk HS2
          clear HS2
          obtain ⟨i0, hi0, hz⟩ := Option.map_eq_some_iff.1 info5
          simp only [Prod.mk.injEq] at hz
          obtain ⟨A3, hsl, hln, hC⟩ := YtafigfhlpjnejaaH.cut_lh (P := Try.prog) (k := .u8) 45 5 .i64 .i64 Try.underlying45 hi0 hz.2.1 A2 cc2 s0_0 t n (by omega) hcc
          have hCl := fun W' (hW : W.drew = W') => slices_Clone_byte_byte.calls A3 (cc2 - t) ((s0_0.drop t).take n) ((s0_0.drop t).take n) W' (by rw [hln]; exact hW ▸ Kd.C_below (hC w0 HSA.out) (below_drew HB2.out)) (by rw [hln]; omega) (by unfold slices_Clone_byte_byte.f; rw [if_pos (by rw [hln]; omega)])
          rw [hln] at hCl
          have HC := Aside0.mk hCl
          clear hC hz hi0 hCl hln
          go_region_held3 (fun w' => w'.cell? ⟨g, 0, none⟩ = some (.slice A2 s0_0.length cc2) ∧ w'.cell? ⟨g, 1, none⟩ = some (.int .i64 ((t : Int) + n))) (go_keep) (first | (go_at_call 41; refine (HC.out _ rfl).mono ?_; rintro e w2 ⟨v, rfl, ho, hb⟩; have q0 := pw_cell_below (w := W.drew) hb (show W.drew.cell? ⟨g, 0, none⟩ = _ from y0); have q1 := pw_cell_below (w := W.drew) hb (show W.drew.cell? ⟨g, 1, none⟩ = _ from y1)))
          go_wp2
          go_ret
          have h := H.out
          simp only [Option.some.injEq, Prod.mk.injEq, Int.toNat_natCast] at h
          obtain ⟨rfl, rfl, rfl⟩ := h
          exact ⟨_, rfl, Kd.R_lower ho HK2.out.1, IsS72.below (IsS72.drew HI2.out) hb, below_step (below_drew HB2.out) hb, KeepBut.trans HK2.out (KeepBut.of_below (w := W) (below_then (below_drew (Below.refl _ _)) (Nat.le_refl _) hb) g none) (.inl rfl)⟩
      · exfalso
        rw [if_neg hat] at h
        cases h
  · rw [if_neg he] at h
    have H := Aside0.mk h
    have he1 : (s0_2 == 0) = false := beq_eq_false_iff_ne.mpr he
    have he2 : (s0_2 != 0) = true := bne_iff_ne.mpr he
    clear h he
    go_enter Try.func65, Try.ntmps65
    go_wp2
    go_ret
    have h := H.out
    simp only [Option.some.injEq, Prod.mk.injEq] at h
    obtain ⟨rfl, rfl, rfl⟩ := h
    exact ⟨_, rfl, Kd.R_nil _ _ _ _ _, HI.out, HB.out, KeepBut.refl _ _ _⟩
def slices_Equal_byte_byte.l0 : Nat → List Int → List Int → Int → Int → Option (Bool)
  | 0, _, _, _, _ => none
  | k + 1, x0, x1, x12, x13 => if x13 < x12 then (if 0 ≤ x13 then (if x13 < (x0.length : Int) then (if x13 < (x1.length : Int) then (if (rd x0 x13) = (rd x1 x13) then (slices_Equal_byte_byte.l0 k x0 x1 x12 (wrap64 (x13 + 1))) else (some false)) else (none)) else (none)) else (none)) else (some true)
def slices_Equal_byte_byte.f (k : Nat) (l0 : List Int) (l1 : List Int) : Option (Bool) := if (l0.length : Int) = (l1.length : Int) then (slices_Equal_byte_byte.l0 k l0 l1 (l0.length : Int) 0) else (some false)
set_option maxHeartbeats 8000000 in
set_option maxRecDepth 100000 in
theorem slices_Equal_byte_byte.calls (k : Nat) (A0 : Option Addr) (c0 : Nat) (l0 : List Int) (A1 : Option Addr) (c1 : Nat) (l1 : List Int) (r : Bool) (w : World) (hr0 : Kd.C (Kd.int .u8) w A0 l0.length l0) (hc0 : l0.length ≤ c0) (hr1 : Kd.C (Kd.int .u8) w A1 l1.length l1) (hc1 : l1.length ≤ c1) (h : slices_Equal_byte_byte.f k l0 l1 = some r) :
    Calls Try.prog 67 #[.slice A0 l0.length c0, .slice A1 l1.length c1] w fun e w' => e = .returned (.bool r) ∧ Drawn0 w w' := by
  have HR0 := Aside0.mk hr0
  have HC0 := Aside0.mk hc0
  clear hr0 hc0
  have HR1 := Aside0.mk hr1
  have HC1 := Aside0.mk hc1
  clear hr1 hc1
  have H : (if (l0.length : Int) = (l1.length : Int) then (slices_Equal_byte_byte.l0 k l0 l1 (l0.length : Int) 0) else (some false)) = some r := h
  clear h
  by_cases c3 : (l0.length : Int) = (l1.length : Int)
  · rw [if_pos c3] at H
    have c3b0 : ((l0.length : Int) == (l1.length : Int)) = true := beq_iff_eq.mpr c3
    have c3b1 : ((l0.length : Int) != (l1.length : Int)) = false := bne_eq_false_iff_eq.mpr c3
    have c3b2 : (l0.length == l1.length) = true := by first | simpa using c3 | (simp at c3 ⊢; omega)
    clear c3
    have H' := Aside0.mk H
    clear H
    go_enter Try.func67, Try.ntmps67
    go_wp2
    repeat (go_quiet (fail); try go_wp2)
    go_loopg [13] k (fun kq v13 w' => ∃ (x13_1 : Int), v13 = .int .i64 x13_1 ∧ Aside0 (slices_Equal_byte_byte.l0 kq l0 l1 (l0.length : Int) x13_1 = some r) ∧ Aside0 (kq ≤ k) ∧ Drawn0 w w')
    case atStart => exact ⟨(0), (by first | rfl | (simp; done) | (simp [*]; done)), H', ⟨Nat.le_refl _⟩, by repeat (first | exact Drawn0.refl _ | apply Drawn0.step)⟩
    case round =>
      clear H'
      try clear c1
      try clear p2
      try clear c3
      try clear c3b0
      try clear c3b1
      try clear c3b2
      obtain ⟨x13_1, rfl, HA, HK1, ⟨m1, rfl⟩⟩ := hrel
      cases gk with
      | zero => exact absurd HA.out (by simp [slices_Equal_byte_byte.l0])
      | succ k1 =>
        have H := HA.out
        clear HA
        simp only [slices_Equal_byte_byte.l0] at H
        by_cases c4 : x13_1 < (l0.length : Int)
        · rw [if_pos c4] at H
          have c4b0 : decide (x13_1 < (l0.length : Int)) = true := decide_eq_true c4
          clear c4
          by_cases c5 : 0 ≤ x13_1
          · rw [if_pos c5] at H
            have c5b0 : decide (0 ≤ x13_1) = true := decide_eq_true c5
            clear c5
            by_cases c6 : x13_1 < (l0.length : Int)
            · rw [if_pos c6] at H
              have c6b0 : decide (x13_1 < (l0.length : Int)) = true := decide_eq_true c6
              clear c6
              by_cases c7 : x13_1 < (l1.length : Int)
              · rw [if_pos c7] at H
                have c7b0 : decide (x13_1 < (l1.length : Int)) = true := decide_eq_true c7
                clear c7
                by_cases c8 : (rd l0 x13_1) = (rd l1 x13_1)
                · rw [if_pos c8] at H
                  have c8b0 : ((rd l0 x13_1) == (rd l1 x13_1)) = true := beq_iff_eq.mpr c8
                  have c8b1 : ((rd l0 x13_1) != (rd l1 x13_1)) = false := bne_eq_false_iff_eq.mpr c8
                  clear c8
                  have H' := Aside0.mk H
                  clear H
                  have p387 : 0 ≤ (x13_1 : Int) := of_decide_eq_true (by first | (with_reducible assumption) | assumption)
                  have q387 : x13_1 < (l0.length : Int) := of_decide_eq_true (by first | (with_reducible assumption) | assumption)
                  obtain ⟨ad387, e387, hx387_0⟩ := Kd.at_int HR0.out x13_1 p387 q387
                  cases e387
                  replace p387 := eq_true p387
                  replace q387 := eq_true q387
                  have p388 : 0 ≤ (x13_1 : Int) := of_decide_eq_true (by first | (with_reducible assumption) | assumption)
                  have q388 : x13_1 < (l1.length : Int) := of_decide_eq_true (by first | (with_reducible assumption) | assumption)
                  obtain ⟨ad388, e388, hx388_0⟩ := Kd.at_int HR1.out x13_1 p388 q388
                  cases e388
                  replace p388 := eq_true p388
                  replace q388 := eq_true q388
                  go_wp2
                  repeat (go_quiet (fail); try go_wp2)
                  go_roundg k1
                  case measure => have := HK1.out; omega
                  case rel => exact ⟨(wrap64 (x13_1 + 1)), (by first | rfl | (simp; done) | (simp [*]; done)), H', ⟨by have := HK1.out; omega⟩, by repeat (first | exact Drawn0.refl _ | apply Drawn0.step)⟩
                · rw [if_neg c8] at H
                  have c8b0 : ((rd l0 x13_1) == (rd l1 x13_1)) = false := beq_eq_false_iff_ne.mpr c8
                  have c8b1 : ((rd l0 x13_1) != (rd l1 x13_1)) = true := bne_iff_ne.mpr c8
                  obtain rfl := Option.some.inj H
                  have p387 : 0 ≤ (x13_1 : Int) := of_decide_eq_true (by first | (with_reducible assumption) | assumption)
                  have q387 : x13_1 < (l0.length : Int) := of_decide_eq_true (by first | (with_reducible assumption) | assumption)
                  obtain ⟨ad387, e387, hx387_0⟩ := Kd.at_int HR0.out x13_1 p387 q387
                  cases e387
                  replace p387 := eq_true p387
                  replace q387 := eq_true q387
                  have p388 : 0 ≤ (x13_1 : Int) := of_decide_eq_true (by first | (with_reducible assumption) | assumption)
                  have q388 : x13_1 < (l1.length : Int) := of_decide_eq_true (by first | (with_reducible assumption) | assumption)
                  obtain ⟨ad388, e388, hx388_0⟩ := Kd.at_int HR1.out x13_1 p388 q388
                  cases e388
                  replace p388 := eq_true p388
                  replace q388 := eq_true q388
                  go_wp2
                  repeat (go_quiet (fail); try go_wp2)
                  go_ret
                  exact ⟨by first | rfl | (simp; done) | (simp [*]; done), by repeat (first | exact Drawn0.refl _ | apply Drawn0.step)⟩
              · rw [if_neg c7] at H
                exact absurd H (by simp)
            · rw [if_neg c6] at H
              exact absurd H (by simp)
          · rw [if_neg c5] at H
            exact absurd H (by simp)
        · rw [if_neg c4] at H
          have c4b0 : decide (x13_1 < (l0.length : Int)) = false := decide_eq_false c4
          clear c4
          obtain rfl := Option.some.inj H
          go_wp2
          repeat (go_quiet (fail); try go_wp2)
          go_ret
          exact ⟨by first | rfl | (simp; done) | (simp [*]; done), by repeat (first | exact Drawn0.refl _ | apply Drawn0.step)⟩
  · rw [if_neg c3] at H
    have c3b0 : ((l0.length : Int) == (l1.length : Int)) = false := beq_eq_false_iff_ne.mpr c3
    have c3b1 : ((l0.length : Int) != (l1.length : Int)) = true := bne_iff_ne.mpr c3
    have c3b2 : (l0.length == l1.length) = false := by first | simpa using c3 | (simp at c3 ⊢; omega)
    obtain rfl := Option.some.inj H
    go_enter Try.func67, Try.ntmps67
    go_wp2
    repeat (go_quiet (fail); try go_wp2)
    go_ret
    exact ⟨by first | rfl | (simp; done) | (simp [*]; done), by repeat (first | exact Drawn0.refl _ | apply Drawn0.step)⟩
end Go.Proofs.Ytafigfhlpjnejaa.Pg
