/- The walk of cursor.New, by hand: its state holds a clone of what came in. -/
import Derived.Test.YtafigfhlpjnejaaPgx13
import Derived.Test.YtafigfhlpjnejaaPgx10
import Derived.Test.YtafigfhlpjnejaaPgx5
import Derived.Test.YtafigfhlpjnejaaPgx7
namespace Go.Proofs.Ytafigfhlpjnejaa.Pg
open Go.RowKit Go.Proofs.YtafigfhlpjnejaaW.PrintWords Go.Proofs.YtafigfhlpjnejaaW.PrintLast Go.Proofs.YtafigfhlpjnejaaW.PrintMore
set_option linter.unusedVariables false
theorem cursor_New.calls (A0 : Option Addr) (c0 : Nat) (l0 : List Int) (w : World) (hr0 : Kd.C (Kd.int .u8) w A0 l0.length l0) (hc0 : l0.length ≤ c0) (hl : slices_Clone_byte_byte.f l0 = some l0) :
    Calls Try.prog 22 #[.slice A0 l0.length c0] w fun e w' => ∃ (w0 : World) (g : Nat), e = .returned (.pointer (some ⟨g, 0, none⟩)) ∧ IsS72 w0 w' g l0 0 0 ∧ Below w0.heap.size w0 w' ∧ Below w.heap.size w w0 ∧ g < w'.heap.size := by
  have hC := slices_Clone_byte_byte.calls A0 c0 l0 l0 w hr0 hc0 hl
  clear hr0 hc0 hl
  go_enter Try.func22, Try.ntmps22
  go_wp2_with (go_at_call 41; refine hC.mono ?_; rintro e w1 ⟨v, rfl, ho, hb⟩; obtain ⟨A1, c1, rfl, hc1, hC1⟩ := Kd.R_reads ho; have HB := Aside0.mk hb; have HC := Aside0.mk hC1; have HL := Aside0.mk hc1; clear ho hb hC1 hc1)
  go_ret
  exact ⟨w1, w1.heap.size, rfl, ⟨A1, c1, heap_alloc_new _ _, ⟨Nat.le_refl _, HL.out⟩, HC.out⟩, (Below.refl _ _).alloc (Nat.le_refl _) _, HB.out, by simp⟩
end Go.Proofs.Ytafigfhlpjnejaa.Pg
namespace Go.Proofs.Ytafigfhlpjnejaa.Pg
open Go.RowKit Go.Proofs.YtafigfhlpjnejaaW.PrintWords Go.Proofs.YtafigfhlpjnejaaW.PrintLast Go.Proofs.YtafigfhlpjnejaaW.PrintMore
/-- The second half: of whatever bytes. -/
def hopperlaw15_GramBack.half (k : Nat) (l2 : List Int) : Option Bool :=
  (slices_Clone_byte_byte.f l2).bind fun b => if b = l2 then (gram_Read.f k l2 0 0).bind fun h => (cursor_Cursor_Good.f l2 h.2.2.2.1 h.2.2.2.2).bind fun g =>
    if g.1 = true then (hopperref15_Write.f k h.1 h.2.1 h.2.2.1).bind fun z => (cursor_Cursor_Left.f l2 g.2.1 g.2.2).bind fun n => if 0 ≤ (l2.length : Int) - n.1 ∧ (l2.length : Int) - n.1 ≤ l2.length then hopperref01_Same.f z (l2.take ((l2.length : Int) - n.1).toNat) else none
    else hopperref15_Same.f k h.1 h.2.1 h.2.2.1 0 [] [] else none
def hopperlaw15_GramBack.main (k : Nat) (l0 : List ByteArray) (a1 : Int) (l2 : List Int) : Option Bool :=
  (hopperref15_Make.f k l0 (Int.tmod (wrap64 a1) 3000)).bind fun f => (gram_Write.f k f.1 f.2.1 f.2.2).bind fun x => (slices_Clone_byte_byte.f x).bind fun x2 => if x2 = x then (hopperref15_Write.f k f.1 f.2.1 f.2.2).bind fun y => (hopperref01_Same.f x y).bind fun s1 =>
    if s1 = true then (gram_Read.f k x 0 0).bind fun h => (hopperref15_Same.f k h.1 h.2.1 h.2.2.1 f.1 f.2.1 f.2.2).bind fun s2 => if s2 = true then (cursor_Cursor_End.f x h.2.2.2.1 h.2.2.2.2).bind fun e => if e.1 = 0 then hopperlaw15_GramBack.half k l2 else none else none else none else none
def hopperlaw15_GramBack.f (k : Nat) (l0 : List ByteArray) (a1 : Int) (l2 : List Int) : Option Bool :=
  (hopperlaw15_awake.f k).bind fun t => if t = true then (hopperref15_Few.f k l0).bind fun u => if u = true ∧ l2.length ≤ 1000 then hopperlaw15_GramBack.main k l0 a1 l2 else some true else none
end Go.Proofs.Ytafigfhlpjnejaa.Pg
