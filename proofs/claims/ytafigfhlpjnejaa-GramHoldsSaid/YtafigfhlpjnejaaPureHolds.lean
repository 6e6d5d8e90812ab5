/- The plain law of GramHolds: written by hand for this claim. -/
import Derived.Test.YtafigfhlpjnejaaPureE
import Derived.Test.YtafigfhlpjnejaaPgx6
import Derived.Lib.IndexMore
namespace Go.Proofs.Ytafigfhlpjnejaa.Pure
open Go Go.RowKit Go.Proofs.YtafigfhlpjnejaaW.PrintWords Go.Proofs.YtafigfhlpjnejaaW.PrintLast Go.Proofs.YtafigfhlpjnejaaW.PrintMore
open Go.Proofs.Ytafigfhlpjnejaa.Pg Go.Proofs.YtafigfhlpjnejaaH

theorem bt_get (s : ByteArray) (i : Nat) (h : i < s.size) : bt s (i : Int) = ((s.data.toList[i]'(by rw [Array.length_toList]; exact h)).toNat : Int) := by
  unfold bt
  rw [dif_pos (by rw [Int.toNat_natCast]; exact h)]
  simp only [Int.toNat_natCast]
  rfl
theorem bt_extract (s : ByteArray) (a i : Nat) (h : a + i < s.size) : bt (s.extract a s.size) (i : Int) = bt s ((a + i : Nat) : Int) := by
  have hsz : (s.extract a s.size).size = s.size - a := by simp [ByteArray.size_extract]
  rw [bt_get _ _ (by omega), bt_get _ _ h]
  simp [ByteArray.data_extract]
/-- A part's grams are grams of the whole. -/
theorem gr_extract (s : ByteArray) (a : Nat) (y : Int) (h : y ∈ gr (s.extract a s.size)) : y ∈ gr s := by
  have hsz : (s.extract a s.size).size = s.size - a := by simp [ByteArray.size_extract]
  obtain ⟨i, hi, rfl⟩ := List.mem_map.1 h
  rw [List.mem_range, hsz] at hi
  refine List.mem_map.2 ⟨a + i, List.mem_range.2 (by omega), ?_⟩
  have e1 := bt_extract s a i (by omega)
  have e2 := bt_extract s a (i + 1) (by omega)
  have e3 := bt_extract s a (i + 2) (by omega)
  rw [show ((i : Int) + 1) = ((i + 1 : Nat) : Int) by omega, show ((i : Int) + 2) = ((i + 2 : Nat) : Int) by omega, e1, e2, e3]
  rw [show (((a + i : Nat) : Int) + 1) = ((a + (i + 1) : Nat) : Int) by omega, show (((a + i : Nat) : Int) + 2) = ((a + (i + 2) : Nat) : Int) by omega]
/-- Three bytes stand in a string just if their gram is one of its. -/
theorem contains_gram (s t : ByteArray) (ht : t.size = 3) : Go.Lib.contains s.data.toList t.data.toList = decide (65536 * bt t 0 + 256 * bt t 1 + bt t 2 ∈ gr s) := by
  have hlen : t.data.toList.length = 3 := by rw [Array.length_toList]; exact ht
  have b0 := bt_get t 0 (by omega)
  have b1 := bt_get t 1 (by omega)
  have b2 := bt_get t 2 (by omega)
  have htl : t.data.toList = [t.data.toList[0], t.data.toList[1], t.data.toList[2]] := by
    apply List.ext_getElem
    · simpa using hlen
    · intro i h1 h2
      match i with
      | 0 => rfl
      | 1 => rfl
      | 2 => rfl
      | n + 3 => exact absurd h2 (by simp)
  generalize t.data.toList[0] = x at htl b0
  generalize t.data.toList[1] = y at htl b1
  generalize t.data.toList[2] = z at htl b2
  have hocc : ∀ i, Go.Lib.occAt s.data.toList t.data.toList i = true ↔ (i < s.size - 2 ∧ 65536 * bt s (i : Int) + 256 * bt s ((i : Int) + 1) + bt s ((i : Int) + 2) = 65536 * bt t 0 + 256 * bt t 1 + bt t 2) := fun i => by
    have e0 : bt t 0 = (x.toNat : Int) := b0
    have e1 : bt t 1 = (y.toNat : Int) := b1
    have e2 : bt t 2 = (z.toNat : Int) := b2
    have hx := x.toNat_lt
    have hy := y.toNat_lt
    have hz := z.toNat_lt
    unfold Go.Lib.occAt
    rw [htl, e0, e1, e2]
    by_cases hi : i < s.size - 2
    · have hl : s.data.toList.length = s.size := Array.length_toList
      have d0 : s.data.toList.drop i = s.data.toList[i]'(by omega) :: s.data.toList[i + 1]'(by omega) :: s.data.toList[i + 2]'(by omega) :: s.data.toList.drop (i + 3) := by
        rw [List.drop_eq_getElem_cons (by omega), List.drop_eq_getElem_cons (by omega), List.drop_eq_getElem_cons (by omega)]
      have s0 := bt_get s i (by omega)
      have s1 := bt_get s (i + 1) (by omega)
      have s2 := bt_get s (i + 2) (by omega)
      rw [d0, show ((i : Int) + 1) = ((i + 1 : Nat) : Int) by omega, show ((i : Int) + 2) = ((i + 2 : Nat) : Int) by omega, s0, s1, s2]
      generalize s.data.toList[i]'(by omega) = p
      generalize s.data.toList[i + 1]'(by omega) = q
      generalize s.data.toList[i + 2]'(by omega) = r
      have hp := p.toNat_lt
      have hq := q.toNat_lt
      have hr := r.toNat_lt
      simp only [List.isPrefixOf, Bool.and_true, Bool.and_eq_true, beq_iff_eq]
      constructor
      · rintro ⟨rfl, rfl, rfl⟩
        exact ⟨hi, rfl⟩
      · rintro ⟨_, e⟩
        exact ⟨UInt8.toNat_inj.1 (by omega), UInt8.toNat_inj.1 (by omega), UInt8.toNat_inj.1 (by omega)⟩
    · have hl : (s.data.toList.drop i).length ≤ 2 := by rw [List.length_drop, Array.length_toList]; show s.size - i ≤ 2; omega
      constructor
      · intro h
        exfalso
        have := List.IsPrefix.length_le (List.isPrefixOf_iff_prefix.1 h)
        simp at this hl
        omega
      · rintro ⟨h, _⟩
        exact absurd h hi
  unfold Go.Lib.contains
  rw [Bool.eq_iff_iff, decide_eq_true_eq, decide_eq_true_eq]
  rcases Go.Lib.index_spec s.data.toList t.data.toList with ⟨h1, h2⟩ | ⟨i, h1, h2, h3, _⟩
  · rw [h1]
    constructor
    · intro h; omega
    · intro h
      obtain ⟨i, hi, e⟩ := List.mem_map.1 h
      have hi2 := List.mem_range.1 hi
      have := (hocc i).2 ⟨hi2, e⟩
      rw [h2 i (by rw [Array.length_toList]; show i ≤ s.size; omega)] at this
      cases this
  · rw [h1]
    have h4 := (hocc i).1 h3
    exact ⟨fun _ => List.mem_map.2 ⟨i, List.mem_range.2 h4.1, h4.2⟩, fun _ => by omega⟩
theorem gr_three (t : ByteArray) (ht : t.size = 3) : gr t = [65536 * bt t 0 + 256 * bt t 1 + bt t 2] := by
  unfold gr
  rw [ht]
  rfl
theorem want_may (l : List ByteArray) (b : Int) (hb : 0 ≤ b ∧ b ≤ 65536) (ht : total l ≤ 65536) (s : ByteArray) (hs : s.size ≤ 1000000) (hsub : ∀ y, y ∈ gr s → y ∈ l.flatMap gr) : Ev (fun k => gram_May.f k (want l b).1 (want l b).2.1 (want l b).2.2 s) true := by
  have hW := want_bits l b
  have hm := may_ev (want l b).1 (want l b).2.1 (want l b).2.2 (by rw [hW]; omega) (want_set l b) (want_list l b) (by have := want_len l b ht; omega) s hs
  have hv : (asc (gr s)).all (hasv (want l b).1 (want l b).2.1 (want l b).2.2) = true := List.all_eq_true.2 fun y hy => want_has l b (by omega) y (hsub y ((mem_asc _ y).1 hy))
  rw [hv] at hm
  exact hm
theorem stands_gram (l : List ByteArray) (s : ByteArray) (hs : s.size = 3) : l.any (fun x => Go.Lib.contains x.data.toList s.data.toList) = decide (65536 * bt s 0 + 256 * bt s 1 + bt s 2 ∈ l.flatMap gr) := by
  rw [Bool.eq_iff_iff, List.any_eq_true, decide_eq_true_eq, List.mem_flatMap]
  constructor
  · rintro ⟨x, hx, hc⟩
    rw [contains_gram x s hs] at hc
    exact ⟨x, hx, of_decide_eq_true hc⟩
  · rintro ⟨x, hx, hc⟩
    exact ⟨x, hx, by rw [contains_gram x s hs]; exact decide_eq_true hc⟩
theorem exact_may (l : List ByteArray) (ht : total l ≤ 65536) (s : ByteArray) (hs : s.size = 3) : Ev (fun k => gram_May.f k (want l 0).1 (want l 0).2.1 (want l 0).2.2 s) (l.any fun x => Go.Lib.contains x.data.toList s.data.toList) := by
  have hW := want_bits l 0
  have hm := may_ev (want l 0).1 (want l 0).2.1 (want l 0).2.2 (by rw [hW]; omega) (want_set l 0) (want_list l 0) (by have := want_len l 0 ht; omega) s (by omega)
  have hv : (asc (gr s)).all (hasv (want l 0).1 (want l 0).2.1 (want l 0).2.2) = (l.any fun x => Go.Lib.contains x.data.toList s.data.toList) := by
    rw [stands_gram l s hs, gr_three s hs, show asc [65536 * bt s 0 + 256 * bt s 1 + bt s 2] = [65536 * bt s 0 + 256 * bt s 1 + bt s 2] from rfl, List.all_cons, List.all_nil, Bool.and_true]
    unfold hasv want
    rw [if_pos rfl]
    simp only
    rw [if_neg (by omega)]
    simp only [mem_asc]
  rw [hv] at hm
  exact hm
theorem holds_l1 (l : List ByteArray) (s : ByteArray) (b : Int) (hb : 0 ≤ b ∧ b ≤ 65536) (ht : total l ≤ 65536) (hl : l.length ≤ 1000000) (hs : s.size = 3) : ∀ (m i : Nat) (st : Bool), i + m = l.length → (st || (l.drop i).any fun x => Go.Lib.contains x.data.toList s.data.toList) = (l.any fun x => Go.Lib.contains x.data.toList s.data.toList) →
    Ev (fun k => hopperlaw15_GramHolds.l1 k l s st (i : Int) (want l b).1 (want l b).2.1 (want l b).2.2 (want l 0).1 (want l 0).2.1 (want l 0).2.2) true
  | 0, i, st, h, hst => by
    rw [List.drop_of_length_le (by omega), List.any_nil, Bool.or_false] at hst
    have hx := exact_may l ht s hs
    rw [← hst] at hx
    cases st with
    | true =>
      have hg : 65536 * bt s 0 + 256 * bt s 1 + bt s 2 ∈ l.flatMap gr := by
        have := stands_gram l s hs
        rw [← hst] at this
        exact of_decide_eq_true this.symm
      have hf := want_may l b hb ht s (by omega) (fun y hy => by rw [gr_three s hs, List.mem_singleton] at hy; rw [hy]; exact hg)
      refine Ev.succ (Ev.via hx (Ev.via hf (Ev.const _) (H := fun k => (gram_May.f k (want l b).1 (want l b).2.1 (want l b).2.2 s).bind fun t => some t) (fun k hk => by rw [hk, Option.bind_some])) (fun k hk => ?_))
      rw [hopperlaw15_GramHolds.l1, if_neg (by omega), hk, Option.bind_some, if_pos (by simp), if_pos rfl]
    | false =>
      refine Ev.succ (Ev.via hx (Ev.const _) (fun k hk => ?_))
      rw [hopperlaw15_GramHolds.l1, if_neg (by omega), hk, Option.bind_some, if_pos (by simp), if_neg (by simp)]
  | m + 1, i, st, h, hst => by
    have hlt : i < l.length := by omega
    have hdr : l.drop i = l[i] :: l.drop (i + 1) := List.drop_eq_getElem_cons hlt
    rw [hdr, List.any_cons] at hst
    cases st with
    | true =>
      refine Ev.succ (Ev.of_eq (fun k => ?_) (holds_l1 l s b hb ht hl hs m (i + 1) true (by omega) (by rw [Bool.true_or] at hst ⊢; exact hst)))
      rw [hopperlaw15_GramHolds.l1, if_pos (by omega), if_pos rfl, w64 _ (by omega)]
      rfl
    | false =>
      have hsz : l[i].size ≤ total l := size_le_total (List.getElem_mem hlt)
      refine Ev.succ (Ev.of_eq (fun k => ?_) (holds_l1 l s b hb ht hl hs m (i + 1) (Go.Lib.contains l[i].data.toList s.data.toList) (by omega) (by rw [Bool.false_or] at hst; exact hst)))
      rw [hopperlaw15_GramHolds.l1, if_pos (by omega), if_neg (by simp), if_pos (by omega), rdOf_at _ _ _ hlt]
      unfold strings_Contains.f
      rw [if_pos (by omega), Option.bind_some, w64 _ (by omega)]
      rfl
theorem holds_l0 (l : List ByteArray) (s : ByteArray) (b : Int) (hb : 0 ≤ b ∧ b ≤ 65536) (ht : total l ≤ 65536) (hl : l.length ≤ 1000000) : ∀ (m i : Nat), i + m = l.length →
    Ev (fun k => hopperlaw15_GramHolds.l0 k l s (i : Int) (want l b).1 (want l b).2.1 (want l b).2.2 (want l 0).1 (want l 0).2.1 (want l 0).2.2) true
  | 0, i, h => by
    by_cases hs : (s.size : Int) = 3
    · refine Ev.succ (Ev.of_eq (fun k => ?_) (holds_l1 l s b hb ht hl (by omega) l.length 0 false (by omega) (by simp)))
      rw [hopperlaw15_GramHolds.l0, if_neg (by omega), if_pos hs]
      rfl
    · refine Ev.succ (Ev.of_eq (G := fun _ => some true) (fun k => ?_) (Ev.const _))
      rw [hopperlaw15_GramHolds.l0, if_neg (by omega), if_neg hs]
  | m + 1, i, h => by
    have hlt : i < l.length := by omega
    have hsz : l[i].size ≤ total l := size_le_total (List.getElem_mem hlt)
    have h1 := want_may l b hb ht l[i] (by omega) (fun y hy => List.mem_flatMap.2 ⟨_, List.getElem_mem hlt, hy⟩)
    have hes : (l[i].extract (l[i].size / 3) l[i].size).size ≤ 1000000 := by
      have : (l[i].extract (l[i].size / 3) l[i].size).size = l[i].size - l[i].size / 3 := by simp [ByteArray.size_extract]
      omega
    have h2 := want_may l 0 (by omega) ht (l[i].extract (l[i].size / 3) l[i].size) hes (fun y hy => List.mem_flatMap.2 ⟨_, List.getElem_mem hlt, gr_extract _ _ y hy⟩)
    have ih := holds_l0 l s b hb ht hl m (i + 1) (by omega)
    have e3 : wrap64 ((l[i].size : Int) / 3) = ((l[i].size / 3 : Nat) : Int) := by rw [w64 _ (by omega)]; omega
    obtain ⟨K1, h1⟩ := h1
    obtain ⟨K2, h2⟩ := h2
    obtain ⟨K3, h3⟩ := ih
    refine Ev.succ ⟨K1 + K2 + K3, fun k hk => ?_⟩
    have h1 := h1 k (by omega)
    have h2 := h2 k (by omega)
    have h3 := h3 k (by omega)
    simp only at h1 h2 h3
    show hopperlaw15_GramHolds.l0 (k + 1) l s (i : Int) _ _ _ _ _ _ = some true
    rw [hopperlaw15_GramHolds.l0, if_pos (by omega), if_pos (by omega), rdOf_at _ _ _ hlt, h1, Option.bind_some, if_pos rfl, e3, if_pos (by omega), if_pos (by omega), Int.toNat_natCast, h2, Option.bind_some, if_pos rfl, w64 _ (by omega)]
    exact h3
/-- GramHolds, in the walk's words. -/
theorem gramHolds (l : List ByteArray) (b : Int) (s : ByteArray) (hl : l.length ≤ 9000000000000000000) (hs : ∀ s ∈ l, s.size ≤ 9000000000000000000) (hb : (Lit.int .u16 b).wf = true) (_hs2 : s.size ≤ 140737488351232) : ∃ k, hopperlaw15_GramHolds.f k l b s = some true := by
  have hb2 : 0 ≤ b ∧ b ≤ 65535 := by
    have h : (decide (IntKind.u16.min ≤ b) && decide (b ≤ IntKind.u16.max)) = true := hb
    rw [show IntKind.u16.min = 0 by decide, show IntKind.u16.max = 65535 by decide] at h
    simpa using h
  have hskip : Ev (fun k => hopperlaw15_GramHolds.j0 k l b s true) true := Ev.succ (Ev.via awake_ev (Ev.const _) (fun k hk => by rw [hopperlaw15_GramHolds.j0, if_pos rfl, hk, Option.bind_some]))
  obtain ⟨few, hf, hf2⟩ := few_ev l hl hs
  refine Ev.get (F := fun k => hopperlaw15_GramHolds.f k l b s) (Ev.via awake_ev (Ev.via hf (G := fun k => if few = true then hopperlaw15_GramHolds.j0 k l b s (decide ((s.size : Int) > 500)) else hopperlaw15_GramHolds.j0 k l b s true) (H := fun k => (hopperref15_Few.f k l).bind fun t => if t = true then hopperlaw15_GramHolds.j0 k l b s (decide ((s.size : Int) > 500)) else hopperlaw15_GramHolds.j0 k l b s true) ?_ (fun k hk => by rw [hk, Option.bind_some])) (fun k hk => by unfold hopperlaw15_GramHolds.f; rw [hk, Option.bind_some, if_pos rfl]))
  cases few with
  | false => exact Ev.of_eq (fun k => if_neg (by simp)) hskip
  | true =>
    refine Ev.of_eq (G := fun k => hopperlaw15_GramHolds.j0 k l b s (decide ((s.size : Int) > 500))) (fun k => if_pos rfl) ?_
    obtain ⟨hn, ht⟩ := hf2 rfl
    by_cases h5 : (s.size : Int) > 500
    · rw [decide_eq_true h5]
      exact hskip
    · rw [decide_eq_false h5]
      have m1 := make_ev l b (by omega) (by omega)
      have m2 := make_ev l 0 (by omega) (by omega)
      have h0 := holds_l0 l s b (by omega) (by omega) (by omega) l.length 0 (by omega)
      have hj : Ev (fun k => hopperlaw15_GramHolds.j1 k l s false (want l b).1 (want l b).2.1 (want l b).2.2 (want l 0).1 (want l 0).2.1 (want l 0).2.2) true := Ev.succ (Ev.of_eq (fun k => by rw [hopperlaw15_GramHolds.j1, if_neg (by simp)]; rfl) h0)
      obtain ⟨K1, h1⟩ := m1
      obtain ⟨K2, h2⟩ := m2
      obtain ⟨K3, h3⟩ := hj
      refine Ev.succ ⟨K1 + K2 + K3, fun k hk => ?_⟩
      have h1 := h1 k (by omega)
      have h2 := h2 k (by omega)
      have h3 := h3 k (by omega)
      simp only at h1 h2 h3
      show hopperlaw15_GramHolds.j0 (k + 1) l b s false = some true
      rw [hopperlaw15_GramHolds.j0, if_neg (by simp), w64 _ (by omega), h1, Option.bind_some, h2, Option.bind_some, if_pos rfl]
      exact h3
end Go.Proofs.Ytafigfhlpjnejaa.Pure
