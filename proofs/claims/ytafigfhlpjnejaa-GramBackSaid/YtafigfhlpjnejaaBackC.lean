/- The walk of GramBack, by hand. -/
import Derived.Test.YtafigfhlpjnejaaBackB
import Derived.Test.YtafigfhlpjnejaaPgx
import Derived.Deep.RegionHeld3
import Derived.OwnWalk
namespace Go.Proofs.Ytafigfhlpjnejaa.Pg
open Go.RowKit Go.Proofs.YtafigfhlpjnejaaW.PrintWords Go.Proofs.YtafigfhlpjnejaaW.PrintLast Go.Proofs.YtafigfhlpjnejaaW.PrintMore
set_option linter.unusedVariables false
theorem some_if {α : Type} {c : Prop} [Decidable c] {a : Option α} {r : α} (h : (if c then a else none) = some r) : c ∧ a = some r := by
  by_cases hc : c
  · rw [if_pos hc] at h; exact ⟨hc, h⟩
  · rw [if_neg hc] at h; cases h
theorem hopperlaw15_GramBack.main_some {k : Nat} {l0 : List ByteArray} {a1 : Int} {l2 : List Int} {r : Bool} (h : hopperlaw15_GramBack.main k l0 a1 l2 = some r) : ∃ (fb : Int) (fl : List Int) (fm : List Bool) (x y : List Int) (gb : Int) (gl : List Int) (gm : List Bool) (gp ge ep eq : Int),
    hopperref15_Make.f k l0 (Int.tmod (wrap64 a1) 3000) = some (fb, fl, fm) ∧ gram_Write.f k fb fl fm = some x ∧ slices_Clone_byte_byte.f x = some x ∧ hopperref15_Write.f k fb fl fm = some y ∧ hopperref01_Same.f x y = some true ∧ gram_Read.f k x 0 0 = some (gb, gl, gm, gp, ge) ∧
    hopperref15_Same.f k gb gl gm fb fl fm = some true ∧ cursor_Cursor_End.f x gp ge = some (0, ep, eq) ∧ hopperlaw15_GramBack.half k l2 = some r := by
  unfold hopperlaw15_GramBack.main at h
  obtain ⟨⟨fb, fl, fm⟩, hmk, h⟩ := Option.bind_eq_some_iff.mp h
  obtain ⟨x, hx, h⟩ := Option.bind_eq_some_iff.mp h
  obtain ⟨x2, hx2, h⟩ := Option.bind_eq_some_iff.mp h
  obtain ⟨rfl, h⟩ := some_if h
  obtain ⟨y, hy, h⟩ := Option.bind_eq_some_iff.mp h
  obtain ⟨s1, hs1, h⟩ := Option.bind_eq_some_iff.mp h
  obtain ⟨rfl, h⟩ := some_if h
  obtain ⟨⟨gb, gl, gm, gp, ge⟩, hrd, h⟩ := Option.bind_eq_some_iff.mp h
  obtain ⟨s2, hs2, h⟩ := Option.bind_eq_some_iff.mp h
  obtain ⟨rfl, h⟩ := some_if h
  obtain ⟨⟨ee, ep, eq⟩, hen, h⟩ := Option.bind_eq_some_iff.mp h
  obtain ⟨h0, h⟩ := some_if h
  simp only at h0
  subst h0
  exact ⟨fb, fl, fm, x2, y, gb, gl, gm, gp, ge, ep, eq, hmk, hx, hx2, hy, hs1, hrd, hs2, hen, h⟩
/-- The half, taken apart. -/
theorem hopperlaw15_GramBack.half_some {k : Nat} {l2 : List Int} {r : Bool} (h : hopperlaw15_GramBack.half k l2 = some r) : ∃ (gb : Int) (gl : List Int) (gm : List Bool) (gp ge gq gf : Int) (g : Bool), slices_Clone_byte_byte.f l2 = some l2 ∧ gram_Read.f k l2 0 0 = some (gb, gl, gm, gp, ge) ∧ cursor_Cursor_Good.f l2 gp ge = some (g, gq, gf) ∧
    ((g = true ∧ ∃ (z : List Int) (n nq nf : Int), hopperref15_Write.f k gb gl gm = some z ∧ cursor_Cursor_Left.f l2 gq gf = some (n, nq, nf) ∧ (0 ≤ (l2.length : Int) - n ∧ (l2.length : Int) - n ≤ l2.length) ∧ hopperref01_Same.f z (l2.take ((l2.length : Int) - n).toNat) = some r) ∨ (g = false ∧ hopperref15_Same.f k gb gl gm 0 [] [] = some r)) := by
  unfold hopperlaw15_GramBack.half at h
  obtain ⟨x2, hx2, h⟩ := Option.bind_eq_some_iff.mp h
  obtain ⟨rfl, h⟩ := some_if h
  obtain ⟨⟨gb, gl, gm, gp, ge⟩, hrd, h⟩ := Option.bind_eq_some_iff.mp h
  obtain ⟨⟨g, gq, gf⟩, hg, h⟩ := Option.bind_eq_some_iff.mp h
  refine ⟨gb, gl, gm, gp, ge, gq, gf, g, hx2, hrd, hg, ?_⟩
  cases g with
  | true =>
    rw [if_pos rfl] at h
    obtain ⟨z, hz, h⟩ := Option.bind_eq_some_iff.mp h
    obtain ⟨⟨n, nq, nf⟩, hn, h⟩ := Option.bind_eq_some_iff.mp h
    obtain ⟨hb, h⟩ := some_if h
    exact .inl ⟨rfl, z, n, nq, nf, hz, hn, hb, h⟩
  | false =>
    rw [if_neg (by simp)] at h
    exact .inr ⟨rfl, h⟩
/-- f's box. -/
def BoxF (W : World) (g : Nat) (fb : Int) (A1 : Option Addr) (n1 c1 : Nat) (A3 : Option Addr) (n3 c3 : Nat) : Prop := W.heap[g]? = some (.cells #[.int .i64 fb, .slice A1 n1 c1, .slice A3 n3 c3] 28 (0, 0))
theorem BoxF.cells {W : World} {g : Nat} {fb : Int} {A1 : Option Addr} {n1 c1 : Nat} {A3 : Option Addr} {n3 c3 : Nat} (h : BoxF W g fb A1 n1 c1 A3 n3 c3) :
    W.cell? ⟨g, 0, none⟩ = some (.int .i64 fb) ∧ W.cell? ⟨g, 1, none⟩ = some (.slice A1 n1 c1) ∧ W.cell? ⟨g, 2, none⟩ = some (.slice A3 n3 c3) := ⟨(blk_cell h 0).trans rfl, (blk_cell h 1).trans rfl, (blk_cell h 2).trans rfl⟩
theorem BoxF.below {W W1 : World} {g : Nat} {fb : Int} {A1 : Option Addr} {n1 c1 : Nat} {A3 : Option Addr} {n3 c3 : Nat} (h : BoxF W g fb A1 n1 c1 A3 n3 c3) (hb : Below W.heap.size W W1) : BoxF W1 g fb A1 n1 c1 A3 n3 c3 := blk_below h hb
/-- A cursor's state, beside what was there ahead of it. -/
def St (w0 W : World) (g : Nat) (x : List Int) (p e : Int) : Prop := Below w0.heap.size w0 W ∧ IsS72 w0 W g x p e
theorem St.drewN {w0 W : World} {g : Nat} {x : List Int} {p e : Int} (h : St w0 W g x p e) (n : Nat) : St w0 (W.drewN n) g x p e := ⟨pw_below_drewN h.1 n, IsS72.drewN h.2 n⟩
theorem St.drew {w0 W : World} {g : Nat} {x : List Int} {p e : Int} (h : St w0 W g x p e) : St w0 W.drew g x p e := ⟨below_drew h.1, IsS72.drew h.2⟩
theorem St.below {w0 W W1 : World} {g : Nat} {x : List Int} {p e : Int} (h : St w0 W g x p e) (hb : Below W.heap.size W W1) : St w0 W1 g x p e := ⟨below_then h.1 h.1.size hb, IsS72.below h.2 hb⟩
theorem St.alloc {w0 W : World} {g : Nat} {x : List Int} {p e : Int} (h : St w0 W g x p e) (o : Obj) : St w0 (W.alloc o) g x p e := h.below (below_alloc (Below.refl _ _) o)
/-- A row that is read. -/
def Rd5 (W : World) (A : Option Addr) (c : Nat) (y : List Int) : Prop := y.length ≤ c ∧ Kd.C (Kd.int .u8) W A y.length y
theorem Rd5.below {W W1 : World} {A : Option Addr} {c : Nat} {y : List Int} (h : Rd5 W A c y) (hb : Below W.heap.size W W1) : Rd5 W1 A c y := ⟨h.1, Kd.C_below h.2 hb⟩
theorem Rd5.drewN {W : World} {A : Option Addr} {c : Nat} {y : List Int} (h : Rd5 W A c y) (n : Nat) : Rd5 (W.drewN n) A c y := ⟨h.1, Kd.C_drewN h.2 n⟩
/-- A filter that is read. -/
def RdF (W : World) (A1 : Option Addr) (c1 : Nat) (l : List Int) (A3 : Option Addr) (c3 : Nat) (m : List Bool) : Prop := (l.length ≤ c1 ∧ Kd.C (Kd.int .i64) W A1 l.length l) ∧ m.length ≤ c3 ∧ Kd.C Kd.bool W A3 m.length m
theorem RdF.below {W W1 : World} {A1 A3 : Option Addr} {c1 c3 : Nat} {l : List Int} {m : List Bool} (h : RdF W A1 c1 l A3 c3 m) (hb : Below W.heap.size W W1) : RdF W1 A1 c1 l A3 c3 m := ⟨⟨h.1.1, Kd.C_below h.1.2 hb⟩, h.2.1, Kd.C_below h.2.2 hb⟩
theorem RdF.drewN {W : World} {A1 A3 : Option Addr} {c1 c3 : Nat} {l : List Int} {m : List Bool} (h : RdF W A1 c1 l A3 c3 m) (n : Nat) : RdF (W.drewN n) A1 c1 l A3 c3 m := ⟨⟨h.1.1, Kd.C_drewN h.1.2 n⟩, h.2.1, Kd.C_drewN h.2.2 n⟩
/-- A filter of the call's own, apart from a cursor. -/
def OwF (W : World) (g : Nat) (v1 : Value) (l : List Int) (v3 : Value) (m : List Bool) : Prop := (∃ b, Kd.R (Kd.int .i64) 3 W b (fun k => k ≠ g) v1 l) ∧ ∃ b, Kd.R Kd.bool 4 W b (fun k => k ≠ g) v3 m
theorem OwF.reads {W : World} {g : Nat} {v1 v3 : Value} {l : List Int} {m : List Bool} (h : OwF W g v1 l v3 m) : ∃ A1 c1 A3 c3, v1 = .slice A1 l.length c1 ∧ v3 = .slice A3 m.length c3 ∧ RdF W A1 c1 l A3 c3 m := by
  obtain ⟨⟨b1, h1⟩, b3, h3⟩ := h
  obtain ⟨A1, c1, e1, l1, r1⟩ := Kd.R_reads h1
  obtain ⟨A3, c3, e3, l3, r3⟩ := Kd.R_reads h3
  exact ⟨A1, c1, A3, c3, e1, e3, ⟨l1, r1⟩, l3, r3⟩
theorem OwF.rd {W : World} {g : Nat} {A1 A3 : Option Addr} {c1 c3 : Nat} {l : List Int} {m : List Bool} (h : OwF W g (.slice A1 l.length c1) l (.slice A3 m.length c3) m) : RdF W A1 c1 l A3 c3 m := by
  obtain ⟨⟨b1, h1⟩, b3, h3⟩ := h
  exact ⟨(Kd.R_reads' h1).2, (Kd.R_reads' h3).2⟩
theorem OwF.alloc {W : World} {g : Nat} {v1 v3 : Value} {l : List Int} {m : List Bool} (h : OwF W g v1 l v3 m) (o : Obj) : OwF (W.alloc o) g v1 l v3 m := by
  obtain ⟨⟨b1, h1⟩, b3, h3⟩ := h
  exact ⟨⟨b1, Kd.R_alloc h1 o⟩, b3, Kd.R_alloc h3 o⟩
theorem OwF.keep {W W1 : World} {g : Nat} {v1 v3 : Value} {l : List Int} {m : List Bool} (h : OwF W g v1 l v3 m) (hk : KeepBut W W1 g none) : OwF W1 g v1 l v3 m := by
  obtain ⟨⟨b1, h1⟩, b3, h3⟩ := h
  exact ⟨⟨b1, Kd.R_keep h1 hk (fun _ hk => hk)⟩, b3, Kd.R_keep h3 hk (fun _ hk => hk)⟩
section
variable {k : Nat} {w0 : World} {g : Nat} {x : List Int} {p e0 : Int}
theorem back_write {fb : Int} {A1 A3 : Option Addr} {c1 c3 : Nat} {fl : List Int} {fm : List Bool} {y : List Int} (hy : hopperref15_Write.f k fb fl fm = some y) (W : World) (hs : St w0 W g x p e0) (hf : RdF W A1 c1 fl A3 c3 fm) :
    Calls Try.prog 24 #[.agg #[.int .i64 fb, .slice A1 fl.length c1, .slice A3 fm.length c3]] W fun e w' => ∃ A c, e = .returned (.slice A y.length c) ∧ Rd5 w' A c y ∧ St w0 w' g x p e0 ∧ Below W.heap.size W w' ∧ ∃ b, Kd.R (Kd.int .u8) 5 w' b (fun k => k ≠ g) (.slice A y.length c) y := by
  refine (hopperref15_Write.calls k fb A1 c1 fl A3 c3 fm y W hf.1.2 hf.1.1 hf.2.2 hf.2.1 hy).mono ?_
  rintro e w' ⟨v, rfl, ho, hb⟩
  have hs' := hs.below hb
  have hap := IsS72.apart hs'.2 ho (by decide)
  obtain ⟨A, c, rfl, h1, h2⟩ := Kd.R_reads ho
  exact ⟨A, c, rfl, ⟨h1, h2⟩, hs', hb, _, Kd.R_mono hap (fun _ h => h.2)⟩
theorem back_same5 {A A' : Option Addr} {c c' : Nat} {y : List Int} {x1 : List Int} {r : Bool} (h : hopperref01_Same.f x1 y = some r) (W : World) (h1 : Rd5 W A c x1) (h2 : Rd5 W A' c' y) :
    Calls Try.prog 23 #[.slice A x1.length c, .slice A' y.length c'] W fun e w' => e = .returned (.bool r) ∧ ∃ n, w' = W.drewN n := by
  refine (hopperref01_Same.calls A c x1 A' c' y r W h1.2 h1.1 h2.2 h2.1 h).mono ?_
  rintro e w' ⟨rfl, ⟨n, rfl⟩⟩
  exact ⟨rfl, n, rfl⟩
theorem back_read {gb : Int} {gl : List Int} {gm : List Bool} {gp ge : Int} (h : gram_Read.f k x p e0 = some (gb, gl, gm, gp, ge)) (W : World) (hs : St w0 W g x p e0) :
    Calls Try.prog 25 #[.pointer (some ⟨g, 0, none⟩)] W fun e w' => ∃ A1 c1 A3 c3, e = .returned (.agg #[.int .i64 gb, .slice A1 gl.length c1, .slice A3 gm.length c3]) ∧ RdF w' A1 c1 gl A3 c3 gm ∧ St w0 w' g x gp ge ∧ OwF w' g (.slice A1 gl.length c1) gl (.slice A3 gm.length c3) gm := by
  refine (gram_Read.calls k g x p e0 gb gl gm gp ge w0 W hs.2 hs.1 h).mono ?_
  rintro e w' ⟨v1, v2, rfl, ho1, ho2, hi, hb, hk⟩
  have a1 := Kd.R_mono (IsS72.apart hi ho1 (by decide)) (ok' := fun k => k ≠ g) (fun _ h => h.2)
  have a2 := Kd.R_mono (IsS72.apart hi ho2 (by decide)) (ok' := fun k => k ≠ g) (fun _ h => h.2)
  obtain ⟨A1, c1, A3, c3, rfl, rfl, hr⟩ := OwF.reads (⟨⟨_, a1⟩, _, a2⟩ : OwF w' g v1 gl v2 gm)
  exact ⟨A1, c1, A3, c3, rfl, hr, ⟨hb, hi⟩, ⟨_, a1⟩, _, a2⟩
theorem back_same15 {b1 : Int} {A1 A3 : Option Addr} {c1 c3 : Nat} {l1 : List Int} {m1 : List Bool} {b2 : Int} {B1 B3 : Option Addr} {d1 d3 : Nat} {l2 : List Int} {m2 : List Bool} {r : Bool} (h : hopperref15_Same.f k b1 l1 m1 b2 l2 m2 = some r) (W : World) (hs : St w0 W g x p e0) (h1 : RdF W A1 c1 l1 A3 c3 m1) (h2 : RdF W B1 d1 l2 B3 d3 m2) :
    Calls Try.prog 11 #[.agg #[.int .i64 b1, .slice A1 l1.length c1, .slice A3 m1.length c3], .agg #[.int .i64 b2, .slice B1 l2.length d1, .slice B3 m2.length d3]] W fun e w' => e = .returned (.bool r) ∧ St w0 w' g x p e0 := by
  refine (hopperref15_Same.calls k b1 A1 c1 l1 A3 c3 m1 b2 B1 d1 l2 B3 d3 m2 r W h1.1.2 h1.1.1 h1.2.2 h1.2.1 h2.1.2 h2.1.1 h2.2.2 h2.2.1 h).mono ?_
  rintro e w' ⟨rfl, hb⟩
  exact ⟨rfl, hs.below hb⟩
theorem back_end {r ep eq : Int} (h : cursor_Cursor_End.f x p e0 = some (r, ep, eq)) (W : World) (hs : St w0 W g x p e0) :
    Calls Try.prog 26 #[.pointer (some ⟨g, 0, none⟩)] W fun e w' => e = .returned (.int .i64 r) ∧ St w0 w' g x ep eq := by
  refine (cursor_Cursor_End.calls g x p e0 r ep eq w0 W hs.2 hs.1 h).mono ?_
  rintro e w' ⟨rfl, hi, hb, hk⟩
  exact ⟨rfl, hb, hi⟩
theorem back_good {r : Bool} {gq gf : Int} {gh : Nat} {o : Obj} {v1 v3 : Value} {l : List Int} {m : List Bool} (h : cursor_Cursor_Good.f x p e0 = some (r, gq, gf)) (W : World) (hs : St w0 W g x p e0) (ho : OwF W g v1 l v3 m) (hb : W.heap[gh]? = some o) (hne : gh ≠ g) :
    Calls Try.prog 27 #[.pointer (some ⟨g, 0, none⟩)] W fun e w' => e = .returned (.bool r) ∧ St w0 w' g x gq gf ∧ OwF w' g v1 l v3 m ∧ w'.heap[gh]? = some o := by
  refine (cursor_Cursor_Good.calls g x p e0 r gq gf w0 W hs.2 hs.1 h).mono ?_
  rintro e w' ⟨rfl, hi, hb2, hk⟩
  exact ⟨rfl, ⟨hb2, hi⟩, ho.keep hk, hk.blk hb hne (by simp)⟩
theorem back_left {n nq nf : Int} {v : Value} {b : Nat} {z : List Int} (h : cursor_Cursor_Left.f x p e0 = some (n, nq, nf)) (W : World) (hs : St w0 W g x p e0) (ho : Kd.R (Kd.int .u8) 5 W b (fun k => k ≠ g) v z) :
    Calls Try.prog 28 #[.pointer (some ⟨g, 0, none⟩)] W fun e w' => e = .returned (.int .i64 n) ∧ St w0 w' g x nq nf ∧ Kd.R (Kd.int .u8) 5 w' b (fun k => k ≠ g) v z := by
  refine (cursor_Cursor_Left.calls g x p e0 n nq nf w0 W hs.2 hs.1 h).mono ?_
  rintro e w' ⟨rfl, hi, hb2, hk⟩
  exact ⟨rfl, ⟨hb2, hi⟩, Kd.R_keep ho hk (fun _ h => h)⟩
end
set_option maxHeartbeats 1600000 in
set_option maxRecDepth 100000 in
theorem hopperlaw15_GramBack.calls (k : Nat) (A0 : Option Addr) (c0 : Nat) (l0 : List ByteArray) (a1 : Int) (A2 : Option Addr) (c2 : Nat) (l2 : List Int) (r : Bool) (w : World) (hr0 : Kd.C Kd.string w A0 l0.length l0) (hc0 : l0.length ≤ c0) (hr2 : Kd.C (Kd.int .u8) w A2 l2.length l2) (hc2 : l2.length ≤ c2) (h : hopperlaw15_GramBack.f k l0 a1 l2 = some r) :
    Calls Try.prog 7 #[.slice A0 l0.length c0, .int .u16 a1, .slice A2 l2.length c2] w fun e w' => e = .returned (.bool r) ∧ Below w.heap.size w w' := by
  have hu28 := Try.underlying28
  unfold hopperlaw15_GramBack.f at h
  have h1 := Option.bind_eq_some_iff.mp h
  clear h
  obtain ⟨t, ha, h⟩ := h1
  cases t with
  | false => rw [if_neg (by simp)] at h; cases h
  | true =>
    rw [if_pos rfl] at h
    have h1 := Option.bind_eq_some_iff.mp h
    clear h
    obtain ⟨u, hf, h⟩ := h1
    have HR0 := Aside0.mk hr0
    have HR2 := Aside0.mk hr2
    have HA := fun W => hopperlaw15_awake.calls k true W ha
    have HF := fun W (hb : Below w.heap.size w W) => hopperref15_Few.calls k A0 c0 l0 u W (Kd.C_below hr0 hb) hc0 hf
    have hm2 : l2.length ≤ 9223372036854775807 := hr2.2.1
    clear hr0 hr2
    by_cases hu : u = true ∧ l2.length ≤ 1000
    · rw [if_pos hu] at h
      obtain ⟨rfl, hlen⟩ := hu
      have d1 : decide ((1000 : Int) < (l2.length : Int)) = false := decide_eq_false (by omega)
      obtain ⟨fb, fl, fm, x, y, gb, gl, gm, gp, ge, ep, eq, hmk, hx, hx2, hy, hs1, hrd, hs2, hen, hh⟩ := hopperlaw15_GramBack.main_some h
      have HMK := Aside0.mk hmk
      have HX := Aside0.mk hx
      have HX2 := Aside0.mk hx2
      have HY := Aside0.mk hy
      have HS1 := Aside0.mk hs1
      have HRD := Aside0.mk hrd
      have HS2 := Aside0.mk hs2
      have HEN := Aside0.mk hen
      have H := Aside0.mk hh
      clear h hh ha hf hmk hx hx2 hy hs1 hrd hs2 hen
      go_enter Try.func7, Try.ntmps7
      go_wp2_with (first
        | (go_at_call 8; refine (HA _).mono ?_; rintro e w1 ⟨rfl, hb1⟩; have HB := Aside0.mk hb1; clear hb1)
        | (go_at_call 9; refine (HF _ HB.out).mono ?_; rintro e w2 ⟨rfl, ⟨nd, rfl⟩⟩))
      refine (hopperref15_Make.calls k A0 c0 l0 _ fb fl fm _ (Kd.C_drewN (Kd.C_below HR0.out HB.out) nd) hc0 HMK.out).mono ?_
      rintro e w3 ⟨v1, v2, rfl, hv, hr, hb⟩
      obtain ⟨A1, c1, rfl, hc1, hf1⟩ := hv
      obtain ⟨A3, c3, rfl, hc3, hC3⟩ := Kd.R_reads hr
      have HC1 := Aside0.mk (Kd.F_now hf1)
      have HC3 := Aside0.mk hC3
      have HL1 := Aside0.mk hc1
      have HL3 := Aside0.mk hc3
      have HB3 := Aside0.mk (below_then (pw_below_drewN HB.out nd) HB.out.size hb)
      clear hf1 hr hC3 hc1 hc3 hb HA HF
      go_wp2_with fail
      refine (gram_Write.calls k fb A1 c1 fl A3 c3 fm x _ (Kd.C_alloc HC1.out _) HL1.out (Kd.C_alloc HC3.out _) HL3.out HX.out).mono ?_
      rintro e w5 ⟨v5, rfl, ho5, hb5⟩
      obtain ⟨A5, c5, rfl, hc5, hC5⟩ := Kd.R_reads ho5
      have HBX5 := Aside0.mk (show BoxF w5 w3.heap.size fb A1 fl.length c1 A3 fm.length c3 from blk_below (heap_alloc_new w3 _) hb5)
      have HB5 := Aside0.mk (below_then (below_alloc HB3.out _) (below_alloc HB3.out _).size hb5)
      have HC1a := Aside0.mk (Kd.C_below (Kd.C_alloc HC1.out _) hb5)
      have HC3a := Aside0.mk (Kd.C_below (Kd.C_alloc HC3.out _) hb5)
      have HCx := Aside0.mk hC5
      have HLx := Aside0.mk hc5
      clear ho5 hb5 hC5 hc5 HC1 HC3 HB3 HB
      generalize w3.heap.size = gf at HBX5 ⊢
      go_wp2_with fail
      refine (cursor_New.calls A5 c5 x _ HCx.out HLx.out HX2.out).mono ?_
      rintro e w6 ⟨w0, gc, rfl, hi, hb0, hbn, hlt⟩
      have HI := Aside0.mk hi
      have HB0 := Aside0.mk hb0
      have HBn := Aside0.mk hbn
      clear hi hb0 hbn
      have HS6 := Aside0.mk (show St w0 w6 gc x 0 0 from ⟨HB0.out, HI.out⟩)
      have HBX0 := Aside0.mk (BoxF.below HBX5.out HBn.out)
      have HF0 := Aside0.mk (show RdF w0 A1 c1 fl A3 c3 fm from ⟨⟨HL1.out, Kd.C_below HC1a.out HBn.out⟩, HL3.out, Kd.C_below HC3a.out HBn.out⟩)
      have Hx0 := Aside0.mk (show Rd5 w0 A5 c5 x from ⟨HLx.out, Kd.C_below HCx.out HBn.out⟩)
      have HBw0 := Aside0.mk (below_then HB5.out HB5.out.size HBn.out)
      clear HI HB0 HBX5 HC1a HC3a HCx HLx HBn HB5 HL1 HL3 HX HX2 HMK
      have HBX6 := Aside0.mk (BoxF.below HBX0.out HS6.out.1)
      have z0 := HBX6.out.cells.1
      have z1 := HBX6.out.cells.2.1
      have z2 := HBX6.out.cells.2.2
      go_wp2_with fail
      go_region_held3 (fun w' => w'.cell? ⟨gf, 0, none⟩ = some (.int .i64 fb) ∧ w'.cell? ⟨gf, 1, none⟩ = some (.slice A1 fl.length c1) ∧ w'.cell? ⟨gf, 2, none⟩ = some (.slice A3 fm.length c3))
        (first | go_keep | exact (HBX0.out.below HS11.out.1).cells | exact (HBX0.out.below HS10.out.1).cells | exact (HBX0.out.below HS9.out.1).cells | exact (HBX0.out.below HS8.out.1).cells | exact (HBX0.out.below HS7.out.1).cells)
        (first
          | (go_at_call 24; refine (back_write HY.out _ (by first | exact HS6.out | exact HS6.out.drew | exact HS6.out.drewN _) (by first | exact HF0.out.below HS6.out.1 | exact HF0.out.below HS6.out.drew.1 | exact HF0.out.below (HS6.out.drewN _).1)).mono ?_; rintro e w7 ⟨A7, c7, rfl, h7, hs7, _, _⟩; have HS7 := Aside0.mk hs7; have Hy7 := Aside0.mk h7; clear hs7 h7)
          | (go_at_call 23; refine (back_same5 HS1.out _ (by first | exact Hx0.out.below HS7.out.1 | exact (Hx0.out.below HS7.out.1).drewN _) (by first | exact Hy7.out | exact Hy7.out.drewN _)).mono ?_; rintro e w8 ⟨rfl, n8, rfl⟩; have HS8 := Aside0.mk (show St w0 (w7.drewN n8) gc x 0 0 from HS7.out.drewN _))
          | (go_at_call 25; refine (back_read HRD.out _ (by first | exact HS8.out | exact HS8.out.drew | exact HS8.out.drewN _)).mono ?_; rintro e w9 ⟨B1, d1', B3, d3', rfl, h9, hs9, _⟩; have HS9 := Aside0.mk hs9; have Hh9 := Aside0.mk h9; clear hs9 h9)
          | (go_at_call 11; refine (back_same15 HS2.out _ (by first | exact HS9.out | exact HS9.out.drewN _) (by first | exact Hh9.out | exact Hh9.out.drewN _) (by first | exact HF0.out.below HS9.out.1 | exact HF0.out.below (HS9.out.drewN _).1)).mono ?_; rintro e w10 ⟨rfl, hs10⟩; have HS10 := Aside0.mk hs10; clear hs10)
          | (go_at_call 26; refine (back_end HEN.out _ (by first | exact HS10.out | exact HS10.out.drewN _)).mono ?_; rintro e w11 ⟨rfl, hs11⟩; have HS11 := Aside0.mk hs11; clear hs11))
      have HBw := Aside0.mk (below_then HBw0.out HBw0.out.size HS11.out.1)
      clear z0 z1 z2
      obtain ⟨hb, hl, hm, hp, he, hq, hf, g, hcl, hrd2, hgd, hcase⟩ := hopperlaw15_GramBack.half_some H.out
      have HCL := Aside0.mk hcl
      have HRD2 := Aside0.mk hrd2
      have HGD := Aside0.mk hgd
      have HCASE := Aside0.mk hcase
      clear hcl hrd2 hgd hcase
      go_wp2_with fail
      refine (cursor_New.calls A2 c2 l2 _ (Kd.C_below HR2.out HBw.out) hc2 HCL.out).mono ?_
      rintro e w12 ⟨w0', gd, rfl, hi2, hb2, hbn2, _⟩
      have HS12 := Aside0.mk (show St w0' w12 gd l2 0 0 from ⟨hb2, hi2⟩)
      have HBw2 := Aside0.mk (below_then HBw.out HBw.out.size hbn2)
      clear hi2 hb2 hbn2
      go_wp2_with fail
      refine (back_read HRD2.out _ HS12.out).mono ?_
      rintro e w13 ⟨B1', e1', B3', e3', rfl, _, hs13, ho13⟩
      have HS13 := Aside0.mk hs13
      have HO13 := Aside0.mk ho13
      clear hs13 ho13
      go_wp2_with fail
      refine (back_good (gh := w13.heap.size) HGD.out _ (HS13.out.alloc _) (HO13.out.alloc _) (heap_alloc_new w13 _) (Nat.ne_of_gt (IsS72.lt HS13.out.2))).mono ?_
      rintro e w14 ⟨rfl, hs14, ho14, hbx14⟩
      have HS14 := Aside0.mk hs14
      have HF14 := Aside0.mk ho14.rd
      have y0 : w14.cell? ⟨w13.heap.size, 0, none⟩ = some (.int .i64 hb) := (blk_cell hbx14 0).trans rfl
      have y1 : w14.cell? ⟨w13.heap.size, 1, none⟩ = some (.slice B1' hl.length e1') := (blk_cell hbx14 1).trans rfl
      have y2 : w14.cell? ⟨w13.heap.size, 2, none⟩ = some (.slice B3' hm.length e3') := (blk_cell hbx14 2).trans rfl
      clear hs14 ho14 hbx14
      rcases HCASE.out with ⟨hg, z, n, nq, nf, hz, hn, hbd, hsm⟩ | ⟨hg, hsm⟩
      · subst hg
        have HZ := Aside0.mk hz
        have HN := Aside0.mk hn
        have HSM := Aside0.mk hsm
        obtain ⟨hb0, hb1⟩ := hbd
        obtain ⟨i0, hi0, hzz⟩ := Option.map_eq_some_iff.1 info5
        simp only [Prod.mk.injEq] at hzz
        have hsl := (print_take_int (P := Try.prog) (k := .u8) 45 5 Try.underlying45 hi0 hzz.2.1 A2 c2 l2 ((l2.length : Int) - n) hb0 hb1 hc2).1
        have HT := Aside0.mk (fun (W : World) (hC : Kd.C (Kd.int .u8) W A2 l2.length l2) => (⟨by rw [List.length_take]; omega, Kd.C_take hC (by omega)⟩ : Rd5 W A2 c2 (l2.take ((l2.length : Int) - n).toNat)))
        clear hz hn hsm hzz hi0
        go_wp2_with fail
        refine (back_write HZ.out _ HS14.out HF14.out).mono ?_
        rintro e w15 ⟨A15, c15, rfl, _, hs15, _, b15, ho15⟩
        have HS15 := Aside0.mk hs15
        have HO15 := Aside0.mk ho15
        clear hs15 ho15
        go_wp2_with fail
        refine (back_left HN.out _ HS15.out HO15.out).mono ?_
        rintro e w16 ⟨rfl, hs16, ho16⟩
        have HS16 := Aside0.mk hs16
        have HR16 := Aside0.mk (show Rd5 w16 A15 c15 z from (Kd.R_reads' ho16).2)
        clear hs16 ho16
        go_wp2_with fail
        have hcl := back_same5 HSM.out w16 HR16.out (HT.out _ (Kd.C_below (Kd.C_below HR2.out HBw2.out) HS16.out.1))
        rw [show (l2.take ((l2.length : Int) - n).toNat).length = ((l2.length : Int) - n).toNat by rw [List.length_take]; omega] at hcl
        refine hcl.mono ?_
        clear hcl
        rintro e w17 ⟨rfl, n17, rfl⟩
        go_wp2_with fail
        go_ret
        exact ⟨rfl, pw_below_drewN (below_then HBw2.out HBw2.out.size HS16.out.1) n17⟩
      · subst hg
        have HSM := Aside0.mk hsm
        clear hsm
        go_wp2_with fail
        refine (back_same15 (l2 := []) (m2 := []) (B1 := none) (B3 := none) (d1 := 0) (d3 := 0) HSM.out _ HS14.out HF14.out ⟨⟨Nat.le_refl _, Kd.C_nil _ _⟩, Nat.le_refl _, Kd.C_nil _ _⟩).mono ?_
        rintro e w15 ⟨rfl, hs15⟩
        have HS15 := Aside0.mk hs15
        clear hs15
        go_wp2_with fail
        go_ret
        exact ⟨rfl, below_then HBw2.out HBw2.out.size HS15.out.1⟩
    · rw [if_neg hu] at h
      obtain rfl := Option.some.inj h
      clear h ha hf
      cases u with
      | false =>
        clear hu
        go_enter Try.func7, Try.ntmps7
        go_wp2_with (first
          | (go_at_call 8; refine (HA _).mono ?_; rintro e w1 ⟨rfl, hb1⟩; first | (have HB2 := Aside0.mk (below_then (pw_below_drewN HB.out _) (pw_below_drewN HB.out _).size hb1); clear hb1) | (have HB := Aside0.mk hb1; clear hb1))
          | (go_at_call 9; refine (HF _ HB.out).mono ?_; rintro e w2 ⟨rfl, ⟨nd, rfl⟩⟩))
        go_ret
        exact ⟨rfl, HB2.out⟩
      | true =>
        have d1 : decide ((1000 : Int) < (l2.length : Int)) = true := decide_eq_true (by
          have : ¬ l2.length ≤ 1000 := fun hc => hu ⟨rfl, hc⟩
          omega)
        clear hu
        go_enter Try.func7, Try.ntmps7
        go_wp2_with (first
          | (go_at_call 8; refine (HA _).mono ?_; rintro e w1 ⟨rfl, hb1⟩; first | (have HB2 := Aside0.mk (below_then (pw_below_drewN HB.out _) (pw_below_drewN HB.out _).size hb1); clear hb1) | (have HB := Aside0.mk hb1; clear hb1))
          | (go_at_call 9; refine (HF _ HB.out).mono ?_; rintro e w2 ⟨rfl, ⟨nd, rfl⟩⟩))
        go_ret
        exact ⟨rfl, HB2.out⟩
end Go.Proofs.Ytafigfhlpjnejaa.Pg
