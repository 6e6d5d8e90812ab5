/- Lists that rise, with no number twice: written by hand for this claim. -/
import Derived.WalkKit
import Derived.Maps.RangeWalk
namespace Go.Proofs.YtafigfhlpjnejaaH
open Go Go.Maps
/-- A number, put where it belongs, once. -/
def insU (g : Int) : List Int → List Int
  | [] => [g]
  | x :: t => if g < x then g :: x :: t else if g = x then x :: t else x :: insU g t
/-- The numbers of a list, rising, each once. -/
def asc (l : List Int) : List Int := l.foldl (fun a g => insU g a) []
theorem mem_insU (g y : Int) : ∀ l : List Int, y ∈ insU g l ↔ y = g ∨ y ∈ l
  | [] => by simp [insU]
  | x :: t => by
    unfold insU
    split
    · simp
    · split
      · rename_i h
        subst h
        simp
      · rw [List.mem_cons, mem_insU g y t, List.mem_cons]
        constructor
        · rintro (h | h | h)
          · exact .inr (.inl h)
          · exact .inl h
          · exact .inr (.inr h)
        · rintro (h | h | h)
          · exact .inr (.inl h)
          · exact .inl h
          · exact .inr (.inr h)
theorem insU_rising (g : Int) : ∀ l : List Int, l.Pairwise (· < ·) → (insU g l).Pairwise (· < ·)
  | [], _ => by simp [insU]
  | x :: t, h => by
    obtain ⟨h1, h2⟩ := List.pairwise_cons.1 h
    unfold insU
    split
    · rename_i hlt
      refine List.pairwise_cons.2 ⟨fun y hy => ?_, h⟩
      rcases List.mem_cons.1 hy with rfl | hy
      · exact hlt
      · have := h1 y hy
        omega
    · split
      · exact h
      · rename_i h3 h4
        refine List.pairwise_cons.2 ⟨fun y hy => ?_, insU_rising g t h2⟩
        rcases (mem_insU g y t).1 hy with rfl | hy
        · omega
        · exact h1 y hy
theorem foldl_rising : ∀ (l a : List Int), a.Pairwise (· < ·) → (l.foldl (fun a g => insU g a) a).Pairwise (· < ·)
  | [], _, h => h
  | x :: t, a, h => foldl_rising t _ (insU_rising x a h)
theorem mem_foldl (y : Int) : ∀ (l a : List Int), y ∈ l.foldl (fun a g => insU g a) a ↔ y ∈ l ∨ y ∈ a
  | [], a => by simp
  | x :: t, a => by
    rw [List.foldl_cons, mem_foldl y t, mem_insU, List.mem_cons]
    constructor
    · rintro (h | h | h)
      · exact .inl (.inr h)
      · exact .inl (.inl h)
      · exact .inr h
    · rintro ((h | h) | h)
      · exact .inr (.inl h)
      · exact .inl h
      · exact .inr (.inr h)
theorem asc_rising (l : List Int) : (asc l).Pairwise (· < ·) := foldl_rising l [] List.Pairwise.nil
theorem mem_asc (l : List Int) (y : Int) : y ∈ asc l ↔ y ∈ l := by simp [asc, mem_foldl]
/-- Two rising lists of the same numbers are one. -/
theorem rising_ext : ∀ {a b : List Int}, a.Pairwise (· < ·) → b.Pairwise (· < ·) → (∀ y, y ∈ a ↔ y ∈ b) → a = b
  | [], [], _, _, _ => rfl
  | [], y :: b, _, _, h => by have := (h y).2 List.mem_cons_self; simp at this
  | x :: a, [], _, _, h => by have := (h x).1 List.mem_cons_self; simp at this
  | x :: a, y :: b, ha, hb, h => by
    obtain ⟨a1, a2⟩ := List.pairwise_cons.1 ha
    obtain ⟨b1, b2⟩ := List.pairwise_cons.1 hb
    have hxy : x = y := by
      rcases List.mem_cons.1 ((h x).1 List.mem_cons_self) with h1 | h1
      · exact h1
      · rcases List.mem_cons.1 ((h y).2 List.mem_cons_self) with h2 | h2
        · exact h2.symm
        · have := b1 x h1
          have := a1 y h2
          omega
    subst hxy
    rw [rising_ext a2 b2 fun z => ?_]
    have hz := h z
    simp only [List.mem_cons] at hz
    constructor
    · intro hm
      rcases hz.1 (.inr hm) with rfl | h2
      · have := a1 z hm; omega
      · exact h2
    · intro hm
      rcases hz.2 (.inr hm) with rfl | h2
      · have := b1 z hm; omega
      · exact h2
/-- A list in which nothing stands twice, sorted. -/
theorem sort_asc {l a : List Int} (hn : l.Nodup) (h : ∀ y, y ∈ l ↔ y ∈ a) : (l.mergeSort fun x y => decide (x ≤ y)) = asc a := by
  have hp := List.mergeSort_perm l (fun x y => decide (x ≤ y))
  refine rising_ext ?_ (asc_rising a) (fun y => by rw [hp.mem_iff, mem_asc]; exact h y)
  have h1 : (l.mergeSort fun x y => decide (x ≤ y)).Pairwise (fun x y => decide (x ≤ y) = true) := List.pairwise_mergeSort (fun a b c h1 h2 => by simp at *; omega) (fun a b => by simp; omega) l
  have h2 : (l.mergeSort fun x y => decide (x ≤ y)).Pairwise (· ≠ ·) := hp.nodup_iff.2 hn
  have h3 := h1.and h2
  exact h3.imp fun h => by have := h.1; have := h.2; simp at *; omega
theorem asc_length_of {l a : List Int} (hn : l.Nodup) (h : ∀ y, y ∈ l ↔ y ∈ a) : l.length = (asc a).length := by
  rw [← sort_asc hn h, List.length_mergeSort]
/-- The map of the numbers of a list, all true. -/
def marked (l : List Int) : DataW Unit := setOf (.lit (.bool true)) (l.map (Lit.int .i64))
theorem marked_snoc (l : List Int) (g : Int) : (marked l).put (.int .i64 g) (.lit (.bool true)) = marked (l ++ [g]) := by
  unfold marked
  rw [List.map_append, List.map_cons, List.map_nil, setOf_snoc]
theorem marked_has (l : List Int) (g : Int) : has (marked l) (.int .i64 g) = true ↔ g ∈ l := by
  unfold marked
  rw [has_setOf _ _ _ (fun x hx => by obtain ⟨y, _, rfl⟩ := List.mem_map.1 hx; trivial), List.any_eq_true]
  constructor
  · rintro ⟨x, hx, hs⟩
    obtain ⟨y, hy, rfl⟩ := List.mem_map.1 hx
    have := WideAt.sameKey_eq hs
    cases this
    exact hy
  · intro h
    exact ⟨.int .i64 g, List.mem_map.2 ⟨g, h, rfl⟩, WideAt.sameKey_self (show WideAt.IsKeyLit (.int .i64 g) from trivial)⟩
theorem int_same (x y : Int) : (Lit.int .i64 x).sameKey (.int .i64 y) = decide (x = y) := by
  by_cases h : x = y
  · subst h
    rw [WideAt.sameKey_self (show WideAt.IsKeyLit (.int .i64 x) from trivial)]
    simp
  · rw [sameKey_ne (fun e => h (by cases e; rfl))]
    simp [h]
/-- What is still to come, one less. -/
theorem left_step (left : Lit → Bool) (x y : Int) : (left (.int .i64 y) && !(Lit.int .i64 y).sameKey (.int .i64 x)) = false ↔ (left (.int .i64 y) = false ∨ y = x) := by
  rw [int_same]
  cases left (.int .i64 y) <;> simp
theorem mem_lt {l : List Int} (h : (l.all fun g => decide (0 ≤ g) && decide (g < 16777216)) = true) {g : Int} (hg : g ∈ l) : 0 ≤ g ∧ g < 16777216 := by
  have := List.all_eq_true.1 h g hg
  simpa using this
theorem wf_of (g : Int) (h : 0 ≤ g ∧ g < 16777216) : (Lit.int .i64 g).wf = true := by
  have e1 : IntKind.i64.min = -9223372036854775808 := by decide
  have e2 : IntKind.i64.max = 9223372036854775807 := by decide
  show (decide (IntKind.i64.min ≤ g) && decide (g ≤ IntKind.i64.max)) = true
  rw [e1, e2, Bool.and_eq_true, decide_eq_true_eq, decide_eq_true_eq]
  omega
end Go.Proofs.YtafigfhlpjnejaaH
