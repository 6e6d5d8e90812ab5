/- Plain laws: the document's filter; how few strings are: written by hand for this claim. -/
import Derived.Test.YtafigfhlpjnejaaPureB
namespace Go.Proofs.Ytafigfhlpjnejaa.Pure
open Go Go.RowKit Go.Proofs.YtafigfhlpjnejaaW.PrintWords Go.Proofs.YtafigfhlpjnejaaW.PrintLast Go.Proofs.YtafigfhlpjnejaaW.PrintMore
open Go.Proofs.Ytafigfhlpjnejaa.Pg Go.Proofs.YtafigfhlpjnejaaH
theorem rdOf_at {α : Type} (d : α) (l : List α) (i : Nat) (h : i < l.length) : rdOf d l (i : Int) = l[i] := by
  unfold rdOf
  rw [Int.toNat_natCast, List.getD_eq_getElem?_getD, List.getElem?_eq_getElem h]
  rfl
theorem marks_congr {a b : List Int} (n : Nat) (h : ∀ y, y ∈ a ↔ y ∈ b) : gram_Make.marks a n = gram_Make.marks b n := by
  unfold gram_Make.marks
  refine List.map_congr_left fun p _ => ?_
  rw [Bool.eq_iff_iff, List.any_eq_true, List.any_eq_true]
  constructor
  · rintro ⟨g, h1, h2⟩
    exact ⟨g, (h g).1 h1, h2⟩
  · rintro ⟨g, h1, h2⟩
    exact ⟨g, (h g).2 h1, h2⟩
theorem flat_range (l : List ByteArray) : ∀ g ∈ l.flatMap gr, 0 ≤ g ∧ g < 16777216 := fun g hg => by
  obtain ⟨s, _, h⟩ := List.mem_flatMap.1 hg
  exact gr_range s g h
/-- How many bytes there are in strings. -/
def total (l : List ByteArray) : Nat := (l.map ByteArray.size).sum
theorem flat_le : ∀ l : List ByteArray, (l.flatMap gr).length ≤ total l
  | [] => by simp
  | s :: t => by
    have := flat_le t
    have := gr_length s
    simp only [List.flatMap_cons, List.length_append, total, List.map_cons, List.sum_cons] at *
    omega
theorem size_le_total : ∀ {l : List ByteArray} {s : ByteArray}, s ∈ l → s.size ≤ total l
  | x :: t, s, h => by
    simp only [total, List.map_cons, List.sum_cons]
    rcases List.mem_cons.1 h with rfl | h
    · omega
    · have := size_le_total h
      simp only [total] at this
      omega
theorem asc_length_le (l : List Int) : (asc l).length ≤ l.length := by
  have := puts_length l []
  simpa [puts, asc] using this
/-- What the filter of strings is. -/
def want (l : List ByteArray) (b : Int) : Int × List Int × List Bool := if b = 0 then (0, asc (l.flatMap gr), []) else (b, [], gram_Make.marks (l.flatMap gr) b.toNat)
theorem total_take (l : List ByteArray) (i : Nat) (h : i < l.length) : total (l.take (i + 1)) = total (l.take i) + l[i].size := by
  unfold total
  rw [List.take_succ_eq_append_getElem h, List.map_append, List.sum_append]
  simp
theorem few_loop (l : List ByteArray) (hl : l.length ≤ 9000000000000000000) (hs : ∀ s ∈ l, s.size ≤ 9000000000000000000) : ∀ m i, i + m = l.length → total (l.take i) ≤ 2000 →
    ∃ b, Ev (fun k => hopperref15_Few.l0 k l (total (l.take i) : Int) (i : Int)) b ∧ (b = true → l.length ≤ 150 ∧ total l ≤ 2000)
  | 0, i, h, hn => by
    refine ⟨decide ((l.length : Int) ≤ 150), Ev.succ (Ev.succ (Ev.of_eq (G := fun _ => some (decide ((l.length : Int) ≤ 150))) (fun k => ?_) (Ev.const _))), fun e => ?_⟩
    · rw [hopperref15_Few.l0, if_neg (by omega), hopperref15_Few.j1, if_neg (by simp)]
    · rw [List.take_of_length_le (by omega)] at hn
      exact ⟨by have := of_decide_eq_true e; omega, hn⟩
  | m + 1, i, h, hn => by
    have hlt : i < l.length := by omega
    have hsz := hs _ (List.getElem_mem hlt)
    by_cases h2 : i < 200
    · by_cases h3 : total (l.take i) + l[i].size ≤ 2000
      · obtain ⟨b, hb, hb2⟩ := few_loop l hl hs m (i + 1) (by omega) (by rw [total_take l i hlt]; exact h3)
        rw [total_take l i hlt] at hb
        refine ⟨b, Ev.succ (Ev.succ (Ev.of_eq (fun k => ?_) hb)), hb2⟩
        rw [hopperref15_Few.l0, if_pos (by omega), hopperref15_Few.j1, if_pos (by simp; omega), if_pos (by omega), if_pos (by omega), rdOf_at _ _ _ hlt, w64 ((total (l.take i) : Int) + (l[i].size : Int)) (by omega), if_neg (by omega), w64 _ (by omega)]
        rfl
      · refine ⟨false, Ev.succ (Ev.succ (Ev.of_eq (G := fun _ => some false) (fun k => ?_) (Ev.const _))), fun e => by cases e⟩
        rw [hopperref15_Few.l0, if_pos (by omega), hopperref15_Few.j1, if_pos (by simp; omega), if_pos (by omega), if_pos (by omega), rdOf_at _ _ _ hlt, w64 ((total (l.take i) : Int) + (l[i].size : Int)) (by omega), if_pos (by omega)]
    · refine ⟨decide ((l.length : Int) ≤ 150), Ev.succ (Ev.succ (Ev.of_eq (G := fun _ => some (decide ((l.length : Int) ≤ 150))) (fun k => ?_) (Ev.const _))), fun e => by have := of_decide_eq_true e; omega⟩
      rw [hopperref15_Few.l0, if_pos (by omega), hopperref15_Few.j1, if_neg (by simp; omega)]
theorem few_ev (l : List ByteArray) (hl : l.length ≤ 9000000000000000000) (hs : ∀ s ∈ l, s.size ≤ 9000000000000000000) : ∃ b, Ev (fun k => hopperref15_Few.f k l) b ∧ (b = true → l.length ≤ 150 ∧ total l ≤ 2000) := by
  have := few_loop l hl hs l.length 0 (by omega) (by simp [total])
  simpa [hopperref15_Few.f, total] using this
theorem gmall_ev : ∀ (l : List ByteArray), (∀ s ∈ l, s.size ≤ 1000000) → Ev (fun k => gram_Make.all k l) (l.flatMap fun s => asc (gr s))
  | [], _ => Ev.const _
  | s :: t, h => by
    have h2 : Ev (fun k => (gram_Make.all k t).bind fun r => some (asc (gr s) ++ r)) ((s :: t).flatMap fun s => asc (gr s)) :=
      Ev.via (gmall_ev t fun x hx => h x (List.mem_cons_of_mem _ hx)) (Ev.const _) (fun k hk => by rw [hk, Option.bind_some]; rfl)
    exact Ev.via (grams_ev s (h s List.mem_cons_self)) h2 (fun k hk => by rw [gram_Make.all, hk, Option.bind_some])
theorem mem_flat (l : List ByteArray) (y : Int) : y ∈ (l.flatMap fun s => asc (gr s)) ↔ y ∈ l.flatMap gr := by
  simp only [List.mem_flatMap, mem_asc]
theorem flat_asc_le : ∀ l : List ByteArray, (l.flatMap fun s => asc (gr s)).length ≤ total l
  | [] => by simp
  | s :: t => by
    have := flat_asc_le t
    have := gr_length s
    have := asc_length_le (gr s)
    simp only [List.flatMap_cons, List.length_append, total, List.map_cons, List.sum_cons] at *
    omega
theorem asc_congr {a b : List Int} (h : ∀ y, y ∈ a ↔ y ∈ b) : asc a = asc b := rising_ext (asc_rising a) (asc_rising b) fun y => by rw [mem_asc, mem_asc, h]
theorem make_ev (l : List ByteArray) (b : Int) (hb : 0 ≤ b ∧ b ≤ 65536) (ht : total l ≤ 65536) : Ev (fun k => gram_Make.f k l b) ((want l b).1, (want l b).2.1, (want l b).2.2, 0) := by
  have hf := flat_asc_le l
  have hal := asc_length_le (l.flatMap gr)
  have hfl := flat_le l
  have hok : gram_Make.ok (l.flatMap fun s => asc (gr s)) = true := by
    unfold gram_Make.ok
    rw [Bool.and_eq_true, List.all_eq_true]
    refine ⟨fun g hg => ?_, decide_eq_true (by omega)⟩
    have := flat_range l g ((mem_flat l g).1 hg)
    simp [this]
  refine Ev.via (gmall_ev l fun s hs => Nat.le_trans (size_le_total hs) (by omega)) (Ev.const _) (fun k hk => ?_)
  unfold gram_Make.f want
  rw [if_neg (by omega), hk, Option.bind_some, if_pos hok]
  have he : asc (l.flatMap fun s => asc (gr s)) = asc (l.flatMap gr) := asc_congr (mem_flat l)
  have hm := marks_congr b.toNat (mem_flat l)
  by_cases h0 : b = 0
  · rw [if_neg (by omega), he, if_neg (by omega), if_pos h0, h0]
  · rw [if_pos (by omega), hm, if_neg h0]
end Go.Proofs.Ytafigfhlpjnejaa.Pure
