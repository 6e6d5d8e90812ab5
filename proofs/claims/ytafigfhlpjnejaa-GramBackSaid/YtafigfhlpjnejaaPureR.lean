/- Plain laws: the document's grams and filter: written by hand for this claim. -/
import Derived.Test.YtafigfhlpjnejaaPureC
import Derived.Test.YtafigfhlpjnejaaPgx7
namespace Go.Proofs.Ytafigfhlpjnejaa.Pure
open Go Go.RowKit Go.Proofs.YtafigfhlpjnejaaW.PrintWords Go.Proofs.YtafigfhlpjnejaaW.PrintLast Go.Proofs.YtafigfhlpjnejaaW.PrintMore
open Go.Proofs.Ytafigfhlpjnejaa.Pg Go.Proofs.YtafigfhlpjnejaaH
theorem insU_at (g : Int) : ∀ (l : List Int) (i : Nat), (∀ j, j < i → ∀ h : j < l.length, l[j] < g) → insU g l = l.take i ++ insU g (l.drop i)
  | [], i, _ => by simp
  | x :: t, 0, _ => by simp
  | x :: t, i + 1, h => by
    have h0 := h 0 (by omega) (by simp)
    have ih := insU_at g t i (fun j hj hjl => by have := h (j + 1) (by omega) (by simpa using hjl); simpa using this)
    simp only [List.getElem_cons_zero] at h0
    rw [List.take_succ_cons, List.drop_succ_cons, List.cons_append, ← ih]
    rw [insU, if_neg (by omega), if_neg (by omega)]
theorem put_loop (g : Int) (l : List Int) (hl : l.length ≤ 1000000) : ∀ m i, i + m = l.length → (∀ j, j < i → ∀ h : j < l.length, l[j] < g) → Ev (fun k => hopperref15_put.l0 k l g (i : Int)) (insU g l)
  | 0, i, h, hb => by
    refine Ev.succ (Ev.of_eq (G := fun _ => some (insU g l)) (fun k => ?_) (Ev.const _))
    rw [hopperref15_put.l0, if_neg (by omega)]
    have hi : i = l.length := by omega
    have e := insU_at g l i hb
    rw [hi, List.take_length, List.drop_length] at e
    simp only [Option.bind_some, Int.toNat_natCast, List.nil_append]
    rw [if_pos (by omega), if_pos (by omega), if_pos (by simp; omega), if_pos (by simp; omega), if_pos (by simp; omega), hi, List.take_length, List.drop_length, e]
    simp [insU]
  | m + 1, i, h, hb => by
    have hlt : i < l.length := by omega
    have hrd : rd l (i : Int) = l[i] := by
      unfold rd
      rw [Int.toNat_natCast, List.getD_eq_getElem?_getD, List.getElem?_eq_getElem hlt]
      rfl
    have hdr : l.drop i = l[i] :: l.drop (i + 1) := List.drop_eq_getElem_cons hlt
    have e := insU_at g l i hb
    by_cases h1 : l[i] < g
    · refine Ev.succ (Ev.of_eq (fun k => ?_) (put_loop g l hl m (i + 1) (by omega) (fun j hj hjl => by
        by_cases hji : j = i
        · subst hji; exact h1
        · exact hb j (by omega) hjl)))
      rw [hopperref15_put.l0, if_pos (by omega), if_pos (by omega), hrd, if_pos h1, w64 _ (by omega)]
      rfl
    · by_cases h2 : l[i] = g
      · refine Ev.succ (Ev.of_eq (G := fun _ => some (insU g l)) (fun k => ?_) (Ev.const _))
        rw [hopperref15_put.l0, if_pos (by omega), if_pos (by omega), hrd, if_neg h1, if_pos h2, e, hdr, insU, if_neg (by omega), if_pos h2.symm, ← hdr, List.take_append_drop]
      · refine Ev.succ (Ev.of_eq (G := fun _ => some (insU g l)) (fun k => ?_) (Ev.const _))
        rw [hopperref15_put.l0, if_pos (by omega), if_pos (by omega), hrd, if_neg h1, if_neg h2]
        simp only [Option.bind_some, Int.toNat_natCast, List.nil_append]
        rw [if_pos (by omega), if_pos (by simp; omega), if_pos (by simp; omega), if_pos (by simp; omega), e, hdr, insU, if_pos (by omega)]
        simp
theorem put_ev (g : Int) (l : List Int) (hl : l.length ≤ 1000000) : Ev (fun k => hopperref15_put.f k l g) (insU g l) := by
  have := put_loop g l hl l.length 0 (by omega) (fun j hj => by omega)
  simpa [hopperref15_put.f] using this
theorem all_loop1 (l : List ByteArray) (hl : l.length ≤ 1000000) (i : Nat) (hi : i < l.length) (hs : l[i].size ≤ 1000000) (r : List Int) : ∀ m j out, j + m = (gr l[i]).length → out.length + m ≤ 1000000 →
    Ev (fun k => hopperref15_All.l0 k l (puts out ((gr l[i]).drop j)) ((i + 1 : Nat) : Int)) r → Ev (fun k => hopperref15_All.l1 k l out (i : Int) (j : Int)) r
  | 0, j, out, h, _, he => by
    have hlen := gr_length l[i]
    rw [List.drop_of_length_le (by omega)] at he
    refine Ev.succ (Ev.of_eq (fun k => ?_) he)
    rw [hopperref15_All.l1, if_pos (by omega), if_pos (by omega), rdOf_at _ _ _ hi, if_neg (by rw [w64 _ (by omega)]; omega), w64 _ (by omega)]
    rfl
  | m + 1, j, out, h, hb, he => by
    have hlen := gr_length l[i]
    have e1 : wrap64 ((j : Int) + 1) = (j : Int) + 1 := w64 _ (by omega)
    have e2 : wrap64 ((j : Int) + 2) = (j : Int) + 2 := w64 _ (by omega)
    have hdr : (gr l[i]).drop j = (65536 * bt l[i] (j : Int) + 256 * bt l[i] ((j : Int) + 1) + bt l[i] ((j : Int) + 2)) :: (gr l[i]).drop (j + 1) := by
      rw [List.drop_eq_getElem_cons (by omega)]
      simp [gr]
    generalize hg : 65536 * bt l[i] (j : Int) + 256 * bt l[i] ((j : Int) + 1) + bt l[i] ((j : Int) + 2) = g at hdr
    rw [hdr] at he
    have he2 : Ev (fun k => hopperref15_All.l0 k l (puts (insU g out) ((gr l[i]).drop (j + 1))) ((i + 1 : Nat) : Int)) r := he
    have ih := all_loop1 l hl i hi hs r m (j + 1) (insU g out) (by omega) (by have := insU_length g out; omega) he2
    refine Ev.succ (Ev.via (put_ev g out (by omega)) ih (fun k hk => ?_))
    rw [hopperref15_All.l1, if_pos (by omega), if_pos (by omega), rdOf_at _ _ _ hi, e1, e2, if_pos (by omega), if_pos (by omega), if_pos (by omega), if_pos (by omega), if_pos (by omega), if_pos (by omega)]
    have b1 := bt_range l[i] (j : Int)
    have b2 := bt_range l[i] ((j : Int) + 1)
    have b3 := bt_range l[i] ((j : Int) + 2)
    rw [w64 (bt l[i] (j : Int)) (by omega), w64 (bt l[i] ((j : Int) + 1)) (by omega), w64 (bt l[i] ((j : Int) + 2)) (by omega), w64 (65536 * bt l[i] (j : Int)) (by omega), w64 (256 * bt l[i] ((j : Int) + 1)) (by omega), w64 (65536 * bt l[i] (j : Int) + 256 * bt l[i] ((j : Int) + 1)) (by omega), w64 (65536 * bt l[i] (j : Int) + 256 * bt l[i] ((j : Int) + 1) + bt l[i] ((j : Int) + 2)) (by omega), hg, hk]
    rfl
theorem all_loop0 (l : List ByteArray) (hl : l.length ≤ 1000000) (hs : ∀ s ∈ l, s.size ≤ 1000000) : ∀ m i out, i + m = l.length → out.length + ((l.drop i).flatMap gr).length ≤ 1000000 →
    Ev (fun k => hopperref15_All.l0 k l out (i : Int)) (puts out ((l.drop i).flatMap gr))
  | 0, i, out, h, _ => by
    refine Ev.succ (Ev.of_eq (G := fun _ => some (puts out ((l.drop i).flatMap gr))) (fun k => ?_) (Ev.const _))
    rw [hopperref15_All.l0, if_neg (by omega), List.drop_of_length_le (by omega)]
    rfl
  | m + 1, i, out, h, hb => by
    have hlt : i < l.length := by omega
    have hdr : l.drop i = l[i] :: l.drop (i + 1) := List.drop_eq_getElem_cons hlt
    rw [hdr, List.flatMap_cons, List.length_append] at hb
    have hp := puts_length (gr l[i]) out
    have ih := all_loop0 l hl hs m (i + 1) (puts out (gr l[i])) (by omega) (by omega)
    rw [hdr, List.flatMap_cons, puts_append]
    refine Ev.succ (Ev.of_eq (fun k => ?_) (all_loop1 l hl i hlt (hs _ (List.getElem_mem hlt)) _ (gr l[i]).length 0 out (by omega) (by omega) (by rw [List.drop_zero]; exact ih)))
    rw [hopperref15_All.l0, if_pos (by omega)]
    rfl
/-- The document's grams of strings. -/
theorem all_ev (l : List ByteArray) (hl : l.length ≤ 1000000) (hs : ∀ s ∈ l, s.size ≤ 1000000) (hb : (l.flatMap gr).length ≤ 1000000) : Ev (fun k => hopperref15_All.f k l) (asc (l.flatMap gr)) := by
  have := all_loop0 l hl hs l.length 0 [] (by omega) (by simpa using hb)
  simpa [hopperref15_All.f, asc, puts] using this
theorem set_more {S : List Bool} {gs : List Int} {n p : Nat} {x : Int} (hl : S.length = n) (hp : p < n) (ha : gram_Make.at_ x n = (p : Int))
    (h : ∀ p : Nat, S.getD p false = true ↔ (p < n ∧ ∃ g, g ∈ gs ∧ gram_Make.at_ g n = (p : Int))) (j : Nat) :
    (S.set p true).getD j false = true ↔ (j < n ∧ ∃ g, g ∈ gs ++ [x] ∧ gram_Make.at_ g n = (j : Int)) := by
  by_cases hj : j = p
  · subst hj
    rw [List.getD_eq_getElem?_getD, List.getElem?_set_self (by omega)]
    simp only [Option.getD_some, true_iff]
    exact ⟨hp, x, by simp, ha⟩
  · rw [List.getD_eq_getElem?_getD, List.getElem?_set_ne (fun e => hj e.symm), ← List.getD_eq_getElem?_getD, h j]
    constructor
    · rintro ⟨h1, g, h2, h3⟩
      exact ⟨h1, g, by simp [h2], h3⟩
    · rintro ⟨h1, g, h2, h3⟩
      rcases List.mem_append.1 h2 with h4 | h4
      · exact ⟨h1, g, h4, h3⟩
      · obtain rfl : g = x := by simpa using h4
        rw [ha] at h3
        omega
theorem make_loop (n : Nat) (hn : 0 < n) (hn2 : n ≤ 65536) (gs : List Int) (hg : ∀ g ∈ gs, 0 ≤ g ∧ g < 16777216) (hl : gs.length ≤ 1000000) : ∀ m i S, i + m = gs.length → S.length = n →
    (∀ p : Nat, S.getD p false = true ↔ (p < n ∧ ∃ g, g ∈ gs.take i ∧ gram_Make.at_ g n = (p : Int))) → Ev (fun k => hopperref15_Make.l0 k (n : Int) gs (i : Int) (n : Int) S) ((n : Int), [], gram_Make.marks gs n)
  | 0, i, S, h, hS, hp => by
    rw [List.take_of_length_le (by omega)] at hp
    have e := gram_Make.marks_of hS hp
    refine Ev.succ (Ev.of_eq (G := fun _ => some ((n : Int), [], gram_Make.marks gs n)) (fun k => ?_) (Ev.const _))
    rw [hopperref15_Make.l0, if_neg (by omega), e]
  | m + 1, i, S, h, hS, hp => by
    have hlt : i < gs.length := by omega
    have hrd : rd gs (i : Int) = gs[i] := rdOf_at (0 : Int) gs i hlt
    have hr := hg _ (List.getElem_mem hlt)
    have htk : gs.take (i + 1) = gs.take i ++ [gs[i]] := List.take_succ_eq_append_getElem hlt
    obtain ⟨h0, h1⟩ := gram_Make.at_range gs[i] n hr (by omega)
    obtain ⟨p, hpe⟩ : ∃ p : Nat, gram_Make.at_ gs[i] n = p := ⟨(gram_Make.at_ gs[i] n).toNat, by omega⟩
    rw [hpe] at h0 h1
    have ih := make_loop n hn hn2 gs hg hl m (i + 1) (S.set p true) (by omega) (by simpa using hS) (by rw [htk]; exact set_more hS (by omega) hpe hp)
    have hat : Int.tmod (Int.tmod (wrap64 (gs[i] * 40503)) 65521) (n : Int) = (p : Int) := hpe
    refine Ev.succ (Ev.of_eq (fun k => ?_) ih)
    rw [hopperref15_Make.l0, if_pos (by omega), if_pos (by omega), if_neg (by omega), hrd, hat, if_pos (by omega), if_pos (by omega), w64 _ (by omega), Int.toNat_natCast]
    rfl
theorem at_nothing (n p : Nat) : (List.replicate n false).getD p false = true ↔ (p < n ∧ ∃ g : Int, g ∈ ([] : List Int).take 0 ∧ gram_Make.at_ g n = (p : Int)) := by
  constructor
  · intro e
    rw [List.getD_eq_getElem?_getD, List.getElem?_replicate] at e
    split at e <;> cases e
  · rintro ⟨_, g, hg, _⟩
    simp at hg
theorem refmake_ev (l : List ByteArray) (b : Int) (hb : 0 ≤ b ∧ b ≤ 65536) (hl : l.length ≤ 1000000) (ht : total l ≤ 1000000) : Ev (fun k => hopperref15_Make.f k l b) (want l b) := by
  have hfl := flat_le l
  have ha := all_ev l hl (fun s hs => Nat.le_trans (size_le_total hs) ht) (by omega)
  unfold want
  by_cases h0 : b = 0
  · rw [if_pos h0]
    refine Ev.via ha (Ev.const _) (fun k hk => ?_)
    unfold hopperref15_Make.f
    rw [hk, Option.bind_some, if_pos h0]
  · rw [if_neg h0]
    obtain ⟨n, rfl⟩ : ∃ n : Nat, b = n := ⟨b.toNat, by omega⟩
    have hal := asc_length_le (l.flatMap gr)
    have hml := make_loop n (by omega) (by omega) (asc (l.flatMap gr)) (fun g hg => flat_range l g ((mem_asc _ g).1 hg)) (by omega) (asc (l.flatMap gr)).length 0 (List.replicate n false) (by omega) (by simp) (fun p => by rw [at_nothing n p]; simp)
    rw [marks_congr n (fun y => mem_asc (l.flatMap gr) y)] at hml
    rw [Int.toNat_natCast]
    refine Ev.via ha hml (fun k hk => ?_)
    unfold hopperref15_Make.f
    rw [hk, Option.bind_some, if_neg h0, if_pos (by omega), if_pos (by omega), Int.toNat_natCast]
    rfl
end Go.Proofs.Ytafigfhlpjnejaa.Pure
