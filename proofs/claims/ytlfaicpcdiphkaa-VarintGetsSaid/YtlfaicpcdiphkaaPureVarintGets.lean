/- VarintGets: for every slice of bytes (of at most 1,000 bytes it is looked at), what varint.Get reads is what the reference reads, and the example is put and got: the law answers true. No condition. -/
import Derived.Test.YtlfaicpcdiphkaaVr
import Derived.Test.YtlfaicpcdiphkaaM9
namespace Go.Proofs.Ytlfaicpcdiphkaa.Pure
open Go.RowKit Go.Proofs.Ytlfaicpcdiphkaa.M Go.Proofs.YtlfaicpcdiphkaaW.PrintWords Go.Proofs.YtlfaicpcdiphkaaW.PrintLast
open Go.Proofs.Ytlfaicpcdiphkaa.Vi

theorem VarintGets : tidelinelaw02_VarintGets.Pure := by
  intro l0 _ _ hb
  have hb := byte_of hb
  by_cases hlong : (l0.length : Int) > 1000
  · exact ⟨0, by unfold tidelinelaw02_VarintGets.f; rw [if_pos hlong]⟩
  obtain ⟨K1, h1⟩ := get_ev l0 hb
  obtain ⟨K2, h2⟩ := refget_ev l0 hb
  obtain ⟨K3, h3⟩ := puts_ev
  obtain ⟨K, hK⟩ : ∃ K, K = K1 + K2 + K3 := ⟨_, rfl⟩
  have e1 : varint_Get.f K l0 = some (dec 0 l0) := h1 K (by omega)
  have e2 : tidelineref02_Get.f K l0 = some (dec 0 l0) := h2 K (by omega)
  have e3 : tidelinelaw02_puts.f K = some true := h3 K (by omega)
  refine ⟨K, ?_⟩
  unfold tidelinelaw02_VarintGets.f
  rw [if_neg hlong, e1, e2, e3]
  simp

end Go.Proofs.Ytlfaicpcdiphkaa.Pure
