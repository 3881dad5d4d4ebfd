/- IntsPuts: for every row of whole numbers (of at most 5,000): what ints.Put lays is what the reference lays, and the row is as it was: the law answers true. No condition. -/
import Derived.Test.YtlfaicpcdiphkaaIr
import Derived.Test.YtlfaicpcdiphkaaM24
namespace Go.Proofs.Ytlfaicpcdiphkaa.Pure
open Go.RowKit Go.Proofs.Ytlfaicpcdiphkaa.M Go.Proofs.YtlfaicpcdiphkaaW.PrintWords Go.Proofs.YtlfaicpcdiphkaaW.PrintLast
open Go.Proofs.Ytlfaicpcdiphkaa.Vi

theorem IntsPuts : tidelinelaw05_IntsPuts.Pure := by
  intro l0 _ _ hz
  by_cases hl0 : (l0.length : Int) > 5000
  · exact ⟨0, by unfold tidelinelaw05_IntsPuts.f; rw [if_pos hl0]⟩
  obtain ⟨K1, h1⟩ := refputs_ev l0 (by omega)
  obtain ⟨K2, h2⟩ := same_ev l0 (by omega)
  obtain ⟨K3, h3⟩ := puts5_ev
  obtain ⟨K, hK⟩ : ∃ K, K = K1 + K2 + K3 := ⟨_, rfl⟩
  have e1 : tidelineref05_Put.f K l0 = some (putB l0) := h1 K (by omega)
  have e2 : tidelineref05_Same.f K l0 l0 = some true := h2 K (by omega)
  have e3 : tidelinelaw05_puts.f K = some true := h3 K (by omega)
  have e0 : ints_Put.f l0 = some (putB l0) := by
    unfold ints_Put.f putB
    rw [if_pos (by omega)]
  refine ⟨K, ?_⟩
  unfold tidelinelaw05_IntsPuts.f
  rw [if_neg hl0, Option.bind_some, if_pos (by simp; omega), Option.bind_some, List.nil_append, e0, Option.bind_some, e1, Option.bind_some, if_pos rfl, e2, Option.bind_some, if_pos rfl, e3]
  rfl

end Go.Proofs.Ytlfaicpcdiphkaa.Pure
