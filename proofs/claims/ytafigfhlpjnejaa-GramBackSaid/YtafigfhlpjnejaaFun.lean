/- slices.IndexFunc, slices.ContainsFunc at []int: whatever function value that is told by its contract (it may lay blocks of its own). -/
import Derived.Test.YtafigfhlpjnejaaProg
import Derived.Test.YtafigfhlpjnejaaHelp
import Derived.WalkKit
import Derived.KernelRfl
import Derived.RowKit3
import Derived.Deep.LoopGhost
import Derived.Deep.QuietTactic
import Derived.BigQuiet
import Derived.WideLaws
import Derived.Shelf.Abstract
namespace Go.Proofs.YtafigfhlpjnejaaH
open Go.RowKit Go.Proofs.YtafigfhlpjnejaaW.PrintWords Go.Proofs.YtafigfhlpjnejaaW.PrintLast Go.Proofs.YtafigfhlpjnejaaW.PrintMore
def idxQ (q : Int → Option Bool) : List Int → Int → Option Int
  | [], _ => some (-1)
  | x :: t, i => (q x).bind fun b => if b = true then some i else idxQ q t (i + 1)
/-- Is there one? Asked one behind the other. -/
def anyQ (q : Int → Option Bool) : List Int → Option Bool
  | [] => some false
  | x :: t => (q x).bind fun b => if b = true then some true else anyQ q t
theorem idx_of_any (q : Int → Option Bool) : ∀ (l : List Int) (i : Int) (b : Bool), 0 ≤ i → anyQ q l = some b → ∃ r, idxQ q l i = some r ∧ decide (0 ≤ r) = b
  | [], i, b, _, h => by
    simp only [anyQ, Option.some.injEq] at h
    exact ⟨-1, rfl, by rw [← h]; rfl⟩
  | x :: t, i, b, hi, h => by
    simp only [anyQ] at h
    obtain ⟨y, hy, h⟩ := Option.bind_eq_some_iff.mp h
    simp only [idxQ, hy, Option.bind_some]
    cases y with
    | true =>
      simp only [if_true, Option.some.injEq] at h ⊢
      exact ⟨i, rfl, by rw [← h]; exact decide_eq_true hi⟩
    | false =>
      simp only [Bool.false_eq_true, if_false] at h ⊢
      exact idx_of_any q t (i + 1) b (by omega) h
theorem rd_drop (l : List Int) (k : Nat) (h : k < l.length) : l.drop k = rd l (k : Int) :: l.drop (k + 1) := by
  rw [List.drop_eq_getElem_cons h]
  simp [rd, List.getD_eq_getElem?_getD, List.getElem?_eq_getElem h]
set_option maxHeartbeats 400000 in
theorem indexFunc_any (q : Int → Option Bool) (g : Nat) (lb : Array Value) (eg : ∀ args w, (callFunc g args).run Try.prog w = .ok (.enter g args) w) (A : Option Addr) (c : Nat) (l : List Int) (r : Int) (w : World)
    (hr : Kd.C (Kd.int .i64) w A l.length l) (hp : ∀ (W : World) (x : Int) (b : Bool), Below w.heap.size w W → q x = some b → Calls Try.prog g (#[.int .i64 x] ++ lb) W fun e w' => e = .returned (.bool b) ∧ Below w.heap.size w w')
    (h : idxQ q l 0 = some r) :
    Calls Try.prog 54 #[.slice A l.length c, .func (.func g) #[] lb] w fun e w' => e = .returned (.int .i64 r) ∧ Below w.heap.size w w' := by
  have hbig : l.length ≤ 9223372036854775807 := hr.2.1
  have HC := Aside0.mk hr
  have H0 := Aside0.mk h
  clear hr h
  go_enter Try.func54, Try.ntmps54
  go_wp2
  go_loopg [5, 8] l.length (fun gg _ s8 wr => ∃ kk : Nat, kk ≤ l.length ∧ l.length - kk ≤ gg ∧ s8 = .int .i64 kk ∧ Aside0 (Below w.heap.size w wr) ∧ Aside0 (idxQ q (l.drop kk) kk = some r))
  case atStart => exact ⟨0, Nat.zero_le _, by omega, rfl, ⟨Below.refl _ w⟩, ⟨by simpa using H0.out⟩⟩
  case round =>
    obtain ⟨kk, hkk, hg, rfl, BW, A0⟩ := hrel
    by_cases hlt : kk < l.length
    · have hltz : (kk : Int) < (l.length : Int) := by omega
      have h2 := A0.out
      rw [rd_drop l kk hlt] at h2
      simp only [idxQ] at h2
      obtain ⟨y, hy, h2⟩ := Option.bind_eq_some_iff.mp h2
      obtain ⟨ad, rfl, hcell⟩ := Kd.at_int (Kd.C_below HC.out BW.out) (kk : Int) (by omega) hltz
      have hcall := hp wr (rd l (kk : Int)) y BW.out hy
      rw [Int.toNat_natCast] at hcell
      generalize rd l (kk : Int) = x at hcell hcall
      clear hp hy
      have hz : (0 : Int) ≤ (kk : Int) := by omega
      have H2 := Aside0.mk h2
      clear h2 A0
      cases y with
      | true =>
        go_wp2_with (go_at_fn g; refine hcall.mono ?_; rintro e w' ⟨rfl, hb'⟩)
        go_ret
        have h3 := H2.out
        simp only [if_true, Option.some.injEq] at h3
        exact ⟨by rw [h3]; rfl, hb'⟩
      | false =>
        go_wp2_with (go_at_fn g; refine hcall.mono ?_; rintro e w' ⟨rfl, hb'⟩)
        go_roundg (l.length - (kk + 1))
        case measure => omega
        case rel =>
          have h3 := H2.out
          simp only [Bool.false_eq_true, if_false] at h3
          exact ⟨kk + 1, by omega, by omega, by go_num, ⟨hb'⟩, ⟨by rw [← h3]; congr 1⟩⟩
    · have hltz : ¬ (kk : Int) < (l.length : Int) := by omega
      have h3 := A0.out
      rw [List.drop_eq_nil_of_le (by omega)] at h3
      simp only [idxQ, Option.some.injEq] at h3
      have H3 := Aside0.mk h3
      clear h3 A0
      go_wp2
      go_ret
      exact ⟨by rw [← H3.out]; rfl, BW.out⟩
set_option maxHeartbeats 400000 in
theorem containsFunc_any (q : Int → Option Bool) (g : Nat) (lb : Array Value) (eg : ∀ args w, (callFunc g args).run Try.prog w = .ok (.enter g args) w) (A : Option Addr) (c : Nat) (l : List Int) (b : Bool) (w : World)
    (hr : Kd.C (Kd.int .i64) w A l.length l) (hp : ∀ (W : World) (x : Int) (b : Bool), Below w.heap.size w W → q x = some b → Calls Try.prog g (#[.int .i64 x] ++ lb) W fun e w' => e = .returned (.bool b) ∧ Below w.heap.size w w')
    (h : anyQ q l = some b) :
    Calls Try.prog 35 #[.slice A l.length c, .func (.func g) #[] lb] w fun e w' => e = .returned (.bool b) ∧ Below w.heap.size w w' := by
  obtain ⟨r, hr1, hr2⟩ := idx_of_any q l 0 b (Int.le_refl _) h
  have hc := indexFunc_any q g lb eg A c l r w hr hp hr1
  have HR := Aside0.mk hr2
  clear hr hp h hr1 hr2
  go_enter Try.func35, Try.ntmps35
  go_wp2_with (go_at_call 54; refine hc.mono ?_; rintro e w' ⟨rfl, hb'⟩)
  go_ret
  exact ⟨by rw [← HR.out]; rfl, hb'⟩
end Go.Proofs.YtafigfhlpjnejaaH
