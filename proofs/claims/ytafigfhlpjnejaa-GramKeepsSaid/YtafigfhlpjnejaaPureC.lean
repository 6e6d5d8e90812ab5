/- Plain laws: the document's filter; how few strings are: written by hand for this claim. -/
import Derived.Test.YtafigfhlpjnejaaPureB
namespace Go.Proofs.Ytafigfhlpjnejaa.Pure
open Go Go.RowKit Go.Proofs.YtafigfhlpjnejaaW.PrintWords Go.Proofs.YtafigfhlpjnejaaW.PrintLast Go.Proofs.YtafigfhlpjnejaaW.PrintMore
open Go.Proofs.Ytafigfhlpjnejaa.Pg Go.Proofs.YtafigfhlpjnejaaH

theorem rdOf_at {α : Type} (d : α) (l : List α) (i : Nat) (h : i < l.length) : rdOf d l (i : Int) = l[i] := by
  unfold rdOf
  rw [Int.toNat_natCast, List.getD_eq_getElem?_getD, List.getElem?_eq_getElem h]
  rfl
theorem all_loop1 (l : List ByteArray) (hl : l.length ≤ 1000000) (i : Nat) (hi : i < l.length) (hs : l[i].size ≤ 1000000) (r : List Int) : ∀ m j out, j + m = (gr l[i]).length → out.length + m ≤ 1000000 →
    Ev (fun k => hopperref15_All.l0 k l (puts out ((gr l[i]).drop j)) ((i + 1 : Nat) : Int)) r → Ev (fun k => hopperref15_All.l1 k l out (i : Int) (j : Int)) r
  | 0, j, out, h, _, he => by
    have hlen := gr_length l[i]
    rw [List.drop_of_length_le (by omega)] at he
    refine Ev.succ (Ev.of_eq (fun k => ?_) he)
    rw [hopperref15_All.l1, if_pos (by omega), if_pos (by omega), rdOf_at _ _ _ hi, if_neg (by rw [w64 _ (by omega)]; omega), w64 _ (by omega)]
    rfl
  | m + 1, j, out, h, hb, he => by
    have hlen := gr_length l[i]
    have e1 : wrap64 ((j : Int) + 1) = (j : Int) + 1 := w64 _ (by omega)
    have e2 : wrap64 ((j : Int) + 2) = (j : Int) + 2 := w64 _ (by omega)
    have hdr : (gr l[i]).drop j = (65536 * bt l[i] (j : Int) + 256 * bt l[i] ((j : Int) + 1) + bt l[i] ((j : Int) + 2)) :: (gr l[i]).drop (j + 1) := by
      rw [List.drop_eq_getElem_cons (by omega)]
      simp [gr]
    generalize hg : 65536 * bt l[i] (j : Int) + 256 * bt l[i] ((j : Int) + 1) + bt l[i] ((j : Int) + 2) = g at hdr
    rw [hdr] at he
    have he2 : Ev (fun k => hopperref15_All.l0 k l (puts (insU g out) ((gr l[i]).drop (j + 1))) ((i + 1 : Nat) : Int)) r := he
    have ih := all_loop1 l hl i hi hs r m (j + 1) (insU g out) (by omega) (by have := insU_length g out; omega) he2
    refine Ev.succ (Ev.via (put_ev g out (by omega)) ih (fun k hk => ?_))
    rw [hopperref15_All.l1, if_pos (by omega), if_pos (by omega), rdOf_at _ _ _ hi, e1, e2, if_pos (by omega), if_pos (by omega), if_pos (by omega), if_pos (by omega), if_pos (by omega), if_pos (by omega)]
    have b1 := bt_range l[i] (j : Int)
    have b2 := bt_range l[i] ((j : Int) + 1)
    have b3 := bt_range l[i] ((j : Int) + 2)
    rw [w64 (bt l[i] (j : Int)) (by omega), w64 (bt l[i] ((j : Int) + 1)) (by omega), w64 (bt l[i] ((j : Int) + 2)) (by omega), w64 (65536 * bt l[i] (j : Int)) (by omega), w64 (256 * bt l[i] ((j : Int) + 1)) (by omega), w64 (65536 * bt l[i] (j : Int) + 256 * bt l[i] ((j : Int) + 1)) (by omega), w64 (65536 * bt l[i] (j : Int) + 256 * bt l[i] ((j : Int) + 1) + bt l[i] ((j : Int) + 2)) (by omega), hg, hk]
    rfl
theorem all_loop0 (l : List ByteArray) (hl : l.length ≤ 1000000) (hs : ∀ s ∈ l, s.size ≤ 1000000) : ∀ m i out, i + m = l.length → out.length + ((l.drop i).flatMap gr).length ≤ 1000000 →
    Ev (fun k => hopperref15_All.l0 k l out (i : Int)) (puts out ((l.drop i).flatMap gr))
  | 0, i, out, h, _ => by
    refine Ev.succ (Ev.of_eq (G := fun _ => some (puts out ((l.drop i).flatMap gr))) (fun k => ?_) (Ev.const _))
    rw [hopperref15_All.l0, if_neg (by omega), List.drop_of_length_le (by omega)]
    rfl
  | m + 1, i, out, h, hb => by
    have hlt : i < l.length := by omega
    have hdr : l.drop i = l[i] :: l.drop (i + 1) := List.drop_eq_getElem_cons hlt
    rw [hdr, List.flatMap_cons, List.length_append] at hb
    have hp := puts_length (gr l[i]) out
    have ih := all_loop0 l hl hs m (i + 1) (puts out (gr l[i])) (by omega) (by omega)
    rw [hdr, List.flatMap_cons, puts_append]
    refine Ev.succ (Ev.of_eq (fun k => ?_) (all_loop1 l hl i hlt (hs _ (List.getElem_mem hlt)) _ (gr l[i]).length 0 out (by omega) (by omega) (by rw [List.drop_zero]; exact ih)))
    rw [hopperref15_All.l0, if_pos (by omega)]
    rfl
/-- The document's grams of strings. -/
theorem all_ev (l : List ByteArray) (hl : l.length ≤ 1000000) (hs : ∀ s ∈ l, s.size ≤ 1000000) (hb : (l.flatMap gr).length ≤ 1000000) : Ev (fun k => hopperref15_All.f k l) (asc (l.flatMap gr)) := by
  have := all_loop0 l hl hs l.length 0 [] (by omega) (by simpa using hb)
  simpa [hopperref15_All.f, asc, puts] using this

/-! ### The document's filter -/
theorem set_more {S : List Bool} {gs : List Int} {n p : Nat} {x : Int} (hl : S.length = n) (hp : p < n) (ha : gram_Make.at_ x n = (p : Int))
    (h : ∀ p : Nat, S.getD p false = true ↔ (p < n ∧ ∃ g, g ∈ gs ∧ gram_Make.at_ g n = (p : Int))) (j : Nat) :
    (S.set p true).getD j false = true ↔ (j < n ∧ ∃ g, g ∈ gs ++ [x] ∧ gram_Make.at_ g n = (j : Int)) := by
  by_cases hj : j = p
  · subst hj
    rw [List.getD_eq_getElem?_getD, List.getElem?_set_self (by omega)]
    simp only [Option.getD_some, true_iff]
    exact ⟨hp, x, by simp, ha⟩
  · rw [List.getD_eq_getElem?_getD, List.getElem?_set_ne (fun e => hj e.symm), ← List.getD_eq_getElem?_getD, h j]
    constructor
    · rintro ⟨h1, g, h2, h3⟩
      exact ⟨h1, g, by simp [h2], h3⟩
    · rintro ⟨h1, g, h2, h3⟩
      rcases List.mem_append.1 h2 with h4 | h4
      · exact ⟨h1, g, h4, h3⟩
      · obtain rfl : g = x := by simpa using h4
        rw [ha] at h3
        omega
theorem make_loop (n : Nat) (hn : 0 < n) (hn2 : n ≤ 65536) (gs : List Int) (hg : ∀ g ∈ gs, 0 ≤ g ∧ g < 16777216) (hl : gs.length ≤ 1000000) : ∀ m i S, i + m = gs.length → S.length = n →
    (∀ p : Nat, S.getD p false = true ↔ (p < n ∧ ∃ g, g ∈ gs.take i ∧ gram_Make.at_ g n = (p : Int))) → Ev (fun k => hopperref15_Make.l0 k (n : Int) gs (i : Int) (n : Int) S) ((n : Int), [], gram_Make.marks gs n)
  | 0, i, S, h, hS, hp => by
    rw [List.take_of_length_le (by omega)] at hp
    have e := gram_Make.marks_of hS hp
    refine Ev.succ (Ev.of_eq (G := fun _ => some ((n : Int), [], gram_Make.marks gs n)) (fun k => ?_) (Ev.const _))
    rw [hopperref15_Make.l0, if_neg (by omega), e]
  | m + 1, i, S, h, hS, hp => by
    have hlt : i < gs.length := by omega
    have hrd : rd gs (i : Int) = gs[i] := rdOf_at (0 : Int) gs i hlt
    have hr := hg _ (List.getElem_mem hlt)
    have htk : gs.take (i + 1) = gs.take i ++ [gs[i]] := List.take_succ_eq_append_getElem hlt
    obtain ⟨h0, h1⟩ := gram_Make.at_range gs[i] n hr (by omega)
    obtain ⟨p, hpe⟩ : ∃ p : Nat, gram_Make.at_ gs[i] n = p := ⟨(gram_Make.at_ gs[i] n).toNat, by omega⟩
    rw [hpe] at h0 h1
    have ih := make_loop n hn hn2 gs hg hl m (i + 1) (S.set p true) (by omega) (by simpa using hS) (by rw [htk]; exact set_more hS (by omega) hpe hp)
    have hat : Int.tmod (Int.tmod (wrap64 (gs[i] * 40503)) 65521) (n : Int) = (p : Int) := hpe
    refine Ev.succ (Ev.of_eq (fun k => ?_) ih)
    rw [hopperref15_Make.l0, if_pos (by omega), if_pos (by omega), if_neg (by omega), hrd, hat, if_pos (by omega), if_pos (by omega), w64 _ (by omega), Int.toNat_natCast]
    rfl
theorem at_nothing (n p : Nat) : (List.replicate n false).getD p false = true ↔ (p < n ∧ ∃ g : Int, g ∈ ([] : List Int).take 0 ∧ gram_Make.at_ g n = (p : Int)) := by
  constructor
  · intro e
    rw [List.getD_eq_getElem?_getD, List.getElem?_replicate] at e
    split at e <;> cases e
  · rintro ⟨_, g, hg, _⟩
    simp at hg
theorem marks_congr {a b : List Int} (n : Nat) (h : ∀ y, y ∈ a ↔ y ∈ b) : gram_Make.marks a n = gram_Make.marks b n := by
  unfold gram_Make.marks
  refine List.map_congr_left fun p _ => ?_
  rw [Bool.eq_iff_iff, List.any_eq_true, List.any_eq_true]
  constructor
  · rintro ⟨g, h1, h2⟩
    exact ⟨g, (h g).1 h1, h2⟩
  · rintro ⟨g, h1, h2⟩
    exact ⟨g, (h g).2 h1, h2⟩
theorem flat_range (l : List ByteArray) : ∀ g ∈ l.flatMap gr, 0 ≤ g ∧ g < 16777216 := fun g hg => by
  obtain ⟨s, _, h⟩ := List.mem_flatMap.1 hg
  exact gr_range s g h
/-- How many bytes there are in strings. -/
def total (l : List ByteArray) : Nat := (l.map ByteArray.size).sum
theorem flat_le : ∀ l : List ByteArray, (l.flatMap gr).length ≤ total l
  | [] => by simp
  | s :: t => by
    have := flat_le t
    have := gr_length s
    simp only [List.flatMap_cons, List.length_append, total, List.map_cons, List.sum_cons] at *
    omega
theorem size_le_total : ∀ {l : List ByteArray} {s : ByteArray}, s ∈ l → s.size ≤ total l
  | x :: t, s, h => by
    simp only [total, List.map_cons, List.sum_cons]
    rcases List.mem_cons.1 h with rfl | h
    · omega
    · have := size_le_total h
      simp only [total] at this
      omega
theorem asc_length_le (l : List Int) : (asc l).length ≤ l.length := by
  have := puts_length l []
  simpa [puts, asc] using this
/-- What the filter of strings is. -/
def want (l : List ByteArray) (b : Int) : Int × List Int × List Bool := if b = 0 then (0, asc (l.flatMap gr), []) else (b, [], gram_Make.marks (l.flatMap gr) b.toNat)
theorem refmake_ev (l : List ByteArray) (b : Int) (hb : 0 ≤ b ∧ b ≤ 65536) (hl : l.length ≤ 1000000) (ht : total l ≤ 1000000) : Ev (fun k => hopperref15_Make.f k l b) (want l b) := by
  have hfl := flat_le l
  have ha := all_ev l hl (fun s hs => Nat.le_trans (size_le_total hs) ht) (by omega)
  unfold want
  by_cases h0 : b = 0
  · rw [if_pos h0]
    refine Ev.via ha (Ev.const _) (fun k hk => ?_)
    unfold hopperref15_Make.f
    rw [hk, Option.bind_some, if_pos h0]
  · rw [if_neg h0]
    obtain ⟨n, rfl⟩ : ∃ n : Nat, b = n := ⟨b.toNat, by omega⟩
    have hal := asc_length_le (l.flatMap gr)
    have hml := make_loop n (by omega) (by omega) (asc (l.flatMap gr)) (fun g hg => flat_range l g ((mem_asc _ g).1 hg)) (by omega) (asc (l.flatMap gr)).length 0 (List.replicate n false) (by omega) (by simp) (fun p => by rw [at_nothing n p]; simp)
    rw [marks_congr n (fun y => mem_asc (l.flatMap gr) y)] at hml
    rw [Int.toNat_natCast]
    refine Ev.via ha hml (fun k hk => ?_)
    unfold hopperref15_Make.f
    rw [hk, Option.bind_some, if_neg h0, if_pos (by omega), if_pos (by omega), Int.toNat_natCast]
    rfl

/-! ### Few -/
theorem total_take (l : List ByteArray) (i : Nat) (h : i < l.length) : total (l.take (i + 1)) = total (l.take i) + l[i].size := by
  unfold total
  rw [List.take_succ_eq_append_getElem h, List.map_append, List.sum_append]
  simp
theorem few_loop (l : List ByteArray) (hl : l.length ≤ 9000000000000000000) (hs : ∀ s ∈ l, s.size ≤ 9000000000000000000) : ∀ m i, i + m = l.length → total (l.take i) ≤ 2000 →
    ∃ b, Ev (fun k => hopperref15_Few.l0 k l (total (l.take i) : Int) (i : Int)) b ∧ (b = true → l.length ≤ 150 ∧ total l ≤ 2000)
  | 0, i, h, hn => by
    refine ⟨decide ((l.length : Int) ≤ 150), Ev.succ (Ev.succ (Ev.of_eq (G := fun _ => some (decide ((l.length : Int) ≤ 150))) (fun k => ?_) (Ev.const _))), fun e => ?_⟩
    · rw [hopperref15_Few.l0, if_neg (by omega), hopperref15_Few.j1, if_neg (by simp)]
    · rw [List.take_of_length_le (by omega)] at hn
      exact ⟨by have := of_decide_eq_true e; omega, hn⟩
  | m + 1, i, h, hn => by
    have hlt : i < l.length := by omega
    have hsz := hs _ (List.getElem_mem hlt)
    by_cases h2 : i < 200
    · by_cases h3 : total (l.take i) + l[i].size ≤ 2000
      · obtain ⟨b, hb, hb2⟩ := few_loop l hl hs m (i + 1) (by omega) (by rw [total_take l i hlt]; exact h3)
        rw [total_take l i hlt] at hb
        refine ⟨b, Ev.succ (Ev.succ (Ev.of_eq (fun k => ?_) hb)), hb2⟩
        rw [hopperref15_Few.l0, if_pos (by omega), hopperref15_Few.j1, if_pos (by simp; omega), if_pos (by omega), if_pos (by omega), rdOf_at _ _ _ hlt, w64 ((total (l.take i) : Int) + (l[i].size : Int)) (by omega), if_neg (by omega), w64 _ (by omega)]
        rfl
      · refine ⟨false, Ev.succ (Ev.succ (Ev.of_eq (G := fun _ => some false) (fun k => ?_) (Ev.const _))), fun e => by cases e⟩
        rw [hopperref15_Few.l0, if_pos (by omega), hopperref15_Few.j1, if_pos (by simp; omega), if_pos (by omega), if_pos (by omega), rdOf_at _ _ _ hlt, w64 ((total (l.take i) : Int) + (l[i].size : Int)) (by omega), if_pos (by omega)]
    · refine ⟨decide ((l.length : Int) ≤ 150), Ev.succ (Ev.succ (Ev.of_eq (G := fun _ => some (decide ((l.length : Int) ≤ 150))) (fun k => ?_) (Ev.const _))), fun e => by have := of_decide_eq_true e; omega⟩
      rw [hopperref15_Few.l0, if_pos (by omega), hopperref15_Few.j1, if_neg (by simp; omega)]
theorem few_ev (l : List ByteArray) (hl : l.length ≤ 9000000000000000000) (hs : ∀ s ∈ l, s.size ≤ 9000000000000000000) : ∃ b, Ev (fun k => hopperref15_Few.f k l) b ∧ (b = true → l.length ≤ 150 ∧ total l ≤ 2000) := by
  have := few_loop l hl hs l.length 0 (by omega) (by simp [total])
  simpa [hopperref15_Few.f, total] using this

/-! ### gram.Make -/
theorem gmall_ev : ∀ (l : List ByteArray), (∀ s ∈ l, s.size ≤ 1000000) → Ev (fun k => gram_Make.all k l) (l.flatMap fun s => asc (gr s))
  | [], _ => Ev.const _
  | s :: t, h => by
    have h2 : Ev (fun k => (gram_Make.all k t).bind fun r => some (asc (gr s) ++ r)) ((s :: t).flatMap fun s => asc (gr s)) :=
      Ev.via (gmall_ev t fun x hx => h x (List.mem_cons_of_mem _ hx)) (Ev.const _) (fun k hk => by rw [hk, Option.bind_some]; rfl)
    exact Ev.via (grams_ev s (h s List.mem_cons_self)) h2 (fun k hk => by rw [gram_Make.all, hk, Option.bind_some])
theorem mem_flat (l : List ByteArray) (y : Int) : y ∈ (l.flatMap fun s => asc (gr s)) ↔ y ∈ l.flatMap gr := by
  simp only [List.mem_flatMap, mem_asc]
theorem flat_asc_le : ∀ l : List ByteArray, (l.flatMap fun s => asc (gr s)).length ≤ total l
  | [] => by simp
  | s :: t => by
    have := flat_asc_le t
    have := gr_length s
    have := asc_length_le (gr s)
    simp only [List.flatMap_cons, List.length_append, total, List.map_cons, List.sum_cons] at *
    omega
theorem asc_congr {a b : List Int} (h : ∀ y, y ∈ a ↔ y ∈ b) : asc a = asc b := rising_ext (asc_rising a) (asc_rising b) fun y => by rw [mem_asc, mem_asc, h]
theorem make_ev (l : List ByteArray) (b : Int) (hb : 0 ≤ b ∧ b ≤ 65536) (ht : total l ≤ 65536) : Ev (fun k => gram_Make.f k l b) ((want l b).1, (want l b).2.1, (want l b).2.2, 0) := by
  have hf := flat_asc_le l
  have hal := asc_length_le (l.flatMap gr)
  have hfl := flat_le l
  have hok : gram_Make.ok (l.flatMap fun s => asc (gr s)) = true := by
    unfold gram_Make.ok
    rw [Bool.and_eq_true, List.all_eq_true]
    refine ⟨fun g hg => ?_, decide_eq_true (by omega)⟩
    have := flat_range l g ((mem_flat l g).1 hg)
    simp [this]
  refine Ev.via (gmall_ev l fun s hs => Nat.le_trans (size_le_total hs) (by omega)) (Ev.const _) (fun k hk => ?_)
  unfold gram_Make.f want
  rw [if_neg (by omega), hk, Option.bind_some, if_pos hok]
  have he : asc (l.flatMap fun s => asc (gr s)) = asc (l.flatMap gr) := asc_congr (mem_flat l)
  have hm := marks_congr b.toNat (mem_flat l)
  by_cases h0 : b = 0
  · rw [if_neg (by omega), he, if_neg (by omega), if_pos h0, h0]
  · rw [if_pos (by omega), hm, if_neg h0]
end Go.Proofs.Ytafigfhlpjnejaa.Pure
