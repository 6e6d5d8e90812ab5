/- Plain laws of the walks' functions, further: written by hand for this claim. -/
import Derived.Test.YtafigfhlpjnejaaPureA
namespace Go.Proofs.Ytafigfhlpjnejaa.Pure
open Go Go.RowKit Go.Proofs.YtafigfhlpjnejaaW.PrintWords Go.Proofs.YtafigfhlpjnejaaW.PrintLast Go.Proofs.YtafigfhlpjnejaaW.PrintMore
open Go.Proofs.Ytafigfhlpjnejaa.Pg Go.Proofs.YtafigfhlpjnejaaH
/-- The grams of a string, in their order. -/
def gr (s : ByteArray) : List Int := (List.range (s.size - 2)).map fun (i : Nat) => 65536 * bt s (i : Int) + 256 * bt s ((i : Int) + 1) + bt s ((i : Int) + 2)
theorem gr_length (s : ByteArray) : (gr s).length = s.size - 2 := by simp [gr]
theorem gr_take (s : ByteArray) (i : Nat) (h : i < s.size - 2) : (gr s).take (i + 1) = (gr s).take i ++ [65536 * bt s (i : Int) + 256 * bt s ((i : Int) + 1) + bt s ((i : Int) + 2)] := by
  rw [List.take_succ_eq_append_getElem (by rw [gr_length]; exact h)]
  simp [gr]
theorem gr_range (s : ByteArray) (g : Int) (h : g ∈ gr s) : 0 ≤ g ∧ g < 16777216 := by
  obtain ⟨i, _, rfl⟩ := List.mem_map.1 h
  have h1 := bt_range s (i : Int)
  have h2 := bt_range s ((i : Int) + 1)
  have h3 := bt_range s ((i : Int) + 2)
  omega
theorem grams_loop (s : ByteArray) (hs : s.size ≤ 1000000) : ∀ m i, i + m = (gr s).length → Ev (fun k => gram_Grams.l0 k s ((gr s).take i) (i : Int)) (asc (gr s))
  | 0, i, h => by
    rw [gr_length] at h
    refine Ev.succ (Ev.of_eq (G := fun _ => some (asc (gr s))) (fun k => ?_) (Ev.const _))
    rw [gram_Grams.l0]
    rw [if_neg (by rw [w64 _ (by omega)]; omega)]
    have e : (gr s).take i = gr s := List.take_of_length_le (by rw [gr_length]; omega)
    rw [e]
    unfold slices_Sort_int_int.f
    rw [if_pos (by rw [gr_length]; omega), Option.bind_some]
    unfold slices_Compact_int_int.f
    rw [Option.bind_some, compact_sort]
  | m + 1, i, h => by
    have ih := grams_loop s hs m (i + 1) (by omega)
    rw [gr_length] at h
    refine Ev.succ (Ev.of_eq (fun k => ?_) ih)
    rw [gram_Grams.l0]
    have e1 : wrap64 ((i : Int) + 1) = (i : Int) + 1 := w64 _ (by omega)
    have e2 : wrap64 ((i : Int) + 2) = (i : Int) + 2 := w64 _ (by omega)
    have e3 : wrap64 ((i : Int) + 3) = (i : Int) + 3 := w64 _ (by omega)
    rw [e1, e2, e3, if_pos (by omega), if_pos (by omega), if_pos (by omega), if_pos (by omega), if_pos (by omega), if_pos (by omega), if_pos (by omega), if_pos (by rw [List.length_take]; have := gr_length s; omega)]
    rw [gr_take s i (by omega)]
    obtain ⟨a, ha, ha'⟩ := bt_nat s (i : Int)
    obtain ⟨b, hb, hb'⟩ := bt_nat s ((i : Int) + 1)
    obtain ⟨c, hc, hc'⟩ := bt_nat s ((i : Int) + 2)
    rw [ha, hb, hc, w64 (a : Int) (by omega), w64 (b : Int) (by omega), w64 (c : Int) (by omega), w64 ((a : Int) * 65536) (by omega), w64 ((b : Int) * 256) (by omega), or_three a b c ha' hb' hc']
    rfl
/-- gram.Grams. -/
theorem grams_ev (s : ByteArray) (hs : s.size ≤ 1000000) : Ev (fun k => gram_Grams.f k s) (asc (gr s)) := by
  have := grams_loop s hs (gr s).length 0 (by omega)
  simpa [gram_Grams.f] using this
theorem ints_loop (l : List Int) (hl : l.length ≤ 1000000000000) : ∀ m i, i + m = l.length → Ev (fun k => hopperref03_Ints.l0 k l l (i : Int)) true
  | 0, i, h => by
    refine Ev.succ (Ev.of_eq (G := fun _ => some true) (fun k => ?_) (Ev.const _))
    rw [hopperref03_Ints.l0, if_neg (by omega)]
  | m + 1, i, h => by
    refine Ev.succ (Ev.of_eq (fun k => ?_) (ints_loop l hl m (i + 1) (by omega)))
    rw [hopperref03_Ints.l0, if_pos (by omega), if_pos (by omega), if_pos (by omega), if_pos rfl, w64 _ (by omega)]
    rfl
theorem ints_ev (l : List Int) (hl : l.length ≤ 1000000000000) : Ev (fun k => hopperref03_Ints.f k l l) true := by
  refine Ev.of_eq (fun k => ?_) (ints_loop l hl l.length 0 (by omega))
  unfold hopperref03_Ints.f
  rw [if_pos rfl]
  rfl
theorem insU_length (g : Int) : ∀ l : List Int, (insU g l).length ≤ l.length + 1
  | [] => by simp [insU]
  | x :: t => by
    unfold insU
    split
    · simp
    · split
      · simp
      · have := insU_length g t
        simp
        omega
/-- Put one behind the other. -/
def puts (a l : List Int) : List Int := l.foldl (fun a g => insU g a) a
theorem puts_append (a l m : List Int) : puts a (l ++ m) = puts (puts a l) m := by simp [puts]
theorem puts_length : ∀ (l a : List Int), (puts a l).length ≤ a.length + l.length
  | [], a => by simp [puts]
  | g :: t, a => by
    have h1 := puts_length t (insU g a)
    have h2 := insU_length g a
    simp only [puts, List.foldl_cons, List.length_cons] at *
    omega
end Go.Proofs.Ytafigfhlpjnejaa.Pure
