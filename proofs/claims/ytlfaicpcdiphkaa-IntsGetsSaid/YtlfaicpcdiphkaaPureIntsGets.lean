/- IntsGets: for every slice of bytes (of at most 1,000) and every number: what ints.Get reads is what the reference reads, and the bytes are as they were: the law answers true. No condition. -/
import Derived.Test.YtlfaicpcdiphkaaIr
import Derived.Test.YtlfaicpcdiphkaaM26
namespace Go.Proofs.Ytlfaicpcdiphkaa.Pure
open Go.RowKit Go.Proofs.Ytlfaicpcdiphkaa.M Go.Proofs.YtlfaicpcdiphkaaW.PrintWords Go.Proofs.YtlfaicpcdiphkaaW.PrintLast
open Go.Proofs.Ytlfaicpcdiphkaa.Vi

theorem dgot_len (b : List Int) (n : Int) (hb : ∀ x ∈ b, 0 ≤ x ∧ x < 256) : (dgot b n).1.length ≤ 65536 := by
  by_cases h : (dgot b n).2 = 0
  · obtain ⟨g1, g2, g3⟩ := dgot_ok b n hb h
    omega
  · rw [dgot_err b n h]
    simp

theorem IntsGets : tidelinelaw05_IntsGets.Pure := by
  intro l0 a1 _ _ hb ha
  have hb := byte_of hb
  by_cases hl0 : (l0.length : Int) > 1000
  · exact ⟨0, by unfold tidelinelaw05_IntsGets.f; rw [if_pos hl0]⟩
  have hdl := dgot_len l0 a1 hb
  obtain ⟨K0, h0⟩ := dgot_ev l0 a1 hb
  obtain ⟨K1, h1⟩ := refdgot_ev l0 a1 hb (by omega)
  obtain ⟨K2, h2⟩ := same_ev (dgot l0 a1).1 (by omega)
  obtain ⟨K3, h3⟩ := puts5_ev
  obtain ⟨K, hK⟩ : ∃ K, K = K0 + K1 + K2 + K3 := ⟨_, rfl⟩
  have e0 : ints_Get.f K l0 a1 = some (dgot l0 a1) := h0 K (by omega)
  have e1 : tidelineref05_Get.f K l0 a1 = some (dgot l0 a1) := h1 K (by omega)
  have e2 : tidelineref05_Same.f K (dgot l0 a1).1 (dgot l0 a1).1 = some true := h2 K (by omega)
  have e3 : tidelinelaw05_puts.f K = some true := h3 K (by omega)
  refine ⟨K, ?_⟩
  unfold tidelinelaw05_IntsGets.f
  rw [if_neg hl0, Option.bind_some, if_pos (by simp; omega), Option.bind_some, List.nil_append, e0, Option.bind_some, e1, Option.bind_some, e2, Option.bind_some, if_pos rfl, if_pos rfl, if_pos rfl, e3]
  rfl

end Go.Proofs.Ytlfaicpcdiphkaa.Pure
