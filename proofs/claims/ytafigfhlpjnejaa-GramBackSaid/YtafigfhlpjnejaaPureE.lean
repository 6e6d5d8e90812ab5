/- Plain laws: 'awake': written by hand for this claim. -/
import Derived.Test.YtafigfhlpjnejaaPureD
namespace Go.Proofs.Ytafigfhlpjnejaa.Pure
open Go Go.RowKit Go.Proofs.YtafigfhlpjnejaaW.PrintWords Go.Proofs.YtafigfhlpjnejaaW.PrintLast Go.Proofs.YtafigfhlpjnejaaW.PrintMore
open Go.Proofs.Ytafigfhlpjnejaa.Pg Go.Proofs.YtafigfhlpjnejaaH
theorem total_abcd : total [(⟨#[97, 98, 99, 100]⟩ : ByteArray)] = 4 := by decide
theorem awake_ev : Ev (fun k => hopperlaw15_awake.f k) true := by
  have m0 := make_ev [(⟨#[97, 98, 99, 100]⟩ : ByteArray)] 0 (by omega) (by rw [total_abcd]; omega)
  have m8 := make_ev [(⟨#[97, 98, 99, 100]⟩ : ByteArray)] 8 (by omega) (by rw [total_abcd]; omega)
  rw [want0] at m0
  have g := grams_ev (⟨#[97, 98, 99, 100]⟩ : ByteArray) (by decide)
  rw [gr_abcd] at g
  have i := ints_ev [6382179, 6447972] (by decide)
  have hr : [(6382179 : Int), 6447972].Pairwise (· < ·) := by decide
  have a1 := may_ev 0 [6382179, 6447972] [] (by omega) (by omega) hr (by decide) (⟨#[97, 98, 99]⟩ : ByteArray) (by decide)
  have a2 := may_ev 0 [6382179, 6447972] [] (by omega) (by omega) hr (by decide) (⟨#[97, 99, 100]⟩ : ByteArray) (by decide)
  rw [gr_abc] at a1
  rw [gr_acd] at a2
  have v1 : [(6382179 : Int)].all (hasv 0 [6382179, 6447972] []) = true := by simp [hasv]
  have v2 : [(6382436 : Int)].all (hasv 0 [6382179, 6447972] []) = false := by simp [hasv]
  rw [v1] at a1
  rw [v2] at a2
  have hb := want_bits [(⟨#[97, 98, 99, 100]⟩ : ByteArray)] 8
  have a3 := may_ev (want [(⟨#[97, 98, 99, 100]⟩ : ByteArray)] 8).1 (want [(⟨#[97, 98, 99, 100]⟩ : ByteArray)] 8).2.1 (want [(⟨#[97, 98, 99, 100]⟩ : ByteArray)] 8).2.2 (by rw [hb]; omega) (want_set _ _) (want_list _ _) (by have := want_len [(⟨#[97, 98, 99, 100]⟩ : ByteArray)] 8 (by rw [total_abcd]; omega); omega) (⟨#[98, 99, 100]⟩ : ByteArray) (by decide)
  have v3 : (asc (gr (⟨#[98, 99, 100]⟩ : ByteArray))).all (hasv (want [(⟨#[97, 98, 99, 100]⟩ : ByteArray)] 8).1 (want [(⟨#[97, 98, 99, 100]⟩ : ByteArray)] 8).2.1 (want [(⟨#[97, 98, 99, 100]⟩ : ByteArray)] 8).2.2) = true := by
    rw [gr_bcd, List.all_cons, List.all_nil, Bool.and_true]
    refine want_has _ _ (by omega) _ ?_
    have : (6447972 : Int) ∈ asc (gr (⟨#[97, 98, 99, 100]⟩ : ByteArray)) := by rw [gr_abcd]; decide
    rw [mem_asc] at this
    simpa using this
  rw [v3] at a3
  obtain ⟨K1, h1⟩ := m0
  obtain ⟨K2, h2⟩ := m8
  obtain ⟨K3, h3⟩ := g
  obtain ⟨K4, h4⟩ := i
  obtain ⟨K5, h5⟩ := a1
  obtain ⟨K6, h6⟩ := a2
  obtain ⟨K7, h7⟩ := a3
  obtain ⟨K8, h8⟩ := write_ev
  refine ⟨K1 + K2 + K3 + K4 + K5 + K6 + K7 + K8, fun k hk => ?_⟩
  have h1 := h1 k (by omega)
  have h2 := h2 k (by omega)
  have h3 := h3 k (by omega)
  have h4 := h4 k (by omega)
  have h5 := h5 k (by omega)
  have h6 := h6 k (by omega)
  have h7 := h7 k (by omega)
  have h8 := h8 k (by omega)
  simp only at h1 h2 h3 h4 h5 h6 h7 h8
  show hopperlaw15_awake.f k = some true
  unfold hopperlaw15_awake.f
  rw [h1, Option.bind_some, h2, Option.bind_some]
  simp only [if_true, h3, Option.bind_some, h4, h5, h6, h7, h8]
  decide
end Go.Proofs.Ytafigfhlpjnejaa.Pure
