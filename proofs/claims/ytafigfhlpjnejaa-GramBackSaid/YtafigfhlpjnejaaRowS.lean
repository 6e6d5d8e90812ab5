/- A row's slice of strings, in the print's words: written by hand for this claim. -/
import Derived.SliceStrings
import Derived.SizedLaws
import Derived.Test.YtafigfhlpjnejaaKW
namespace Go.Proofs.YtafigfhlpjnejaaH
open Go Go.ChangeShapes Go.WideShapes Go.Proofs.YtafigfhlpjnejaaW.PrintWords
theorem weights_mem {H : Type} {P : Program} {e : TypeId} {n : Nat} {d : DataW H} : ∀ {l : List (DataW H)}, d ∈ l → n ∈ d.weights P e → n ∈ DataW.weightsAll P e l
  | x :: t, hd, hn => by
    rw [DataW.weightsAll, List.mem_append]
    rcases List.mem_cons.1 hd with rfl | h
    · exact .inl hn
    · exact .inr (weights_mem h hn)
theorem strings_row {H : Type} {enc : TypeId × Value → H} {P : Program} {W : World} {base : Nat} {spare : Nat → Bool} {held : Bool} {t e : TypeId} {a : Option Addr} {len cap : Nat} {d : DataW H} {ps : List MemPlace} {ts : List TypeId} {ds : List (DataW H)} {j : Nat}
    (hsz : (DataW.weightsEach P ts ds).all (· ≤ reachBytes) = true) (ht : ts[j]? = some t) (hd : ds[j]? = some d) (hu : P.underlying t = some (.slice e)) (he : P.underlying e = some .string) (hc : P.cellsOf e = 1) (hB : P.bytesOf e = 16)
    (h : DataW.Trod enc P W base spare held t (.slice a len cap) d ps) : ∃ zs : List ByteArray, Kd.C Kd.string W a len zs ∧ zs.length = len ∧ len ≤ cap ∧ len ≤ 9000000000000000000 ∧ ∀ s ∈ zs, s.size ≤ 9000000000000000000 := by
  obtain ⟨fuel, hf⟩ := h
  rcases open_strings hu he hc hf with ⟨hcs, _⟩ | ⟨x, l, c, zs, hcs, _, hl, hm, hz, hx, hcell, _⟩
  · simp [Value.cells] at hcs
    obtain ⟨rfl, rfl, rfl⟩ := hcs
    exact ⟨[], ⟨rfl, by simp, fun h => by simp at h⟩, rfl, Nat.le_refl _, by omega, by simp⟩
  · simp [Value.cells] at hcs
    obtain ⟨rfl, rfl, rfl⟩ := hcs
    obtain ⟨hx, _⟩ := Prod.mk.inj hx
    subst hx
    have hl2 : len ≤ zs.length := by
      rw [hz]
      split
      · exact hl
      · exact Nat.le_refl _
    have hlt : (zs.take len).length = len := by rw [List.length_take]; omega
    have hsum : (strs (H := H) (zs.take len)).length + (strs (H := H) (zs.drop len)).length = zs.length := by
      simp [strs]
      omega
    have z := sized_slice hsz ht hd hu
    rw [hsum] at z
    rw [hB] at z
    have hw := DataW.weights_mem_each (P := P) ht hd
    have hrb : reachBytes = 140737488351232 := rfl
    have hel : ∀ s ∈ zs.take len, s.size ≤ reachBytes := fun s hs => by
      have hm2 : (DataW.lit (.string s.data.toList) : DataW H) ∈ strs (zs.take len) := List.mem_map.2 ⟨s, hs, rfl⟩
      have hn : s.data.toList.length ∈ (DataW.lit (.string s.data.toList) : DataW H).weights P e := by simp [DataW.weights]
      have hmem := weights_mem hm2 hn
      have := List.all_eq_true.1 hsz _ (hw s.data.toList.length (by
        rw [DataW.weights, hu]
        simp only [List.mem_cons, List.mem_append]
        exact .inr (.inl hmem)))
      have h2 := of_decide_eq_true this
      rw [Array.length_toList] at h2
      exact h2
    refine ⟨zs.take len, ⟨hlt, ?_, fun _ => ⟨x, rfl, fun j p hj => ?_⟩⟩, hlt, hl, ?_, fun s hs => Nat.le_trans (hel s hs) (by decide)⟩
    · unfold maxLen at hm; omega
    · obtain ⟨hjl, rfl⟩ := List.getElem?_eq_some_iff.1 hj
      rw [hlt] at hjl
      refine ⟨[.string (zs.take len)[j]], rfl, rfl, fun i u hu2 => ?_⟩
      have hi : i = 0 := by
        rcases Nat.eq_zero_or_pos i with h0 | h0
        · exact h0
        · rw [List.getElem?_eq_none (by simp; omega)] at hu2; cases hu2
      subst hi
      obtain rfl : Value.string (zs.take len)[j] = u := by simpa using hu2
      rw [show Kd.string.sz = 1 from rfl, Nat.mul_one, Nat.add_zero, hcell j (by omega), List.getElem_take]
      simp [List.getD_eq_getElem?_getD, List.getElem?_eq_getElem (show j < zs.length by omega)]
    · omega
end Go.Proofs.YtafigfhlpjnejaaH
