/- IntsBack: for every row of whole numbers (of at most 5,000), every number and every slice of bytes (of at most 1,000): what is put is got under the row's length and under no other number; what is got is put as the same bytes; what is not got is told by an empty row: the law answers true. No condition. -/
import Derived.Test.YtlfaicpcdiphkaaIg
import Derived.Test.YtlfaicpcdiphkaaM27
namespace Go.Proofs.Ytlfaicpcdiphkaa.Pure
open Go.RowKit Go.Proofs.Ytlfaicpcdiphkaa.M Go.Proofs.YtlfaicpcdiphkaaW.PrintWords Go.Proofs.YtlfaicpcdiphkaaW.PrintLast
open Go.Proofs.Ytlfaicpcdiphkaa.Vi

theorem put_f (zs : List Int) (h : zs.length ≤ 65536) : ints_Put.f zs = some (putB zs) := by
  unfold ints_Put.f putB
  rw [if_pos (by omega)]

theorem IntsBack : tidelinelaw05_IntsBack.Pure := by
  intro l0 a1 l2 _ _ hz ha _ _ hb
  have hz : ∀ x ∈ l0, I64 x := fun x hx => i64_of (hz x hx)
  have hb := byte_of hb
  by_cases hl0 : (l0.length : Int) > 5000
  · refine ⟨1, ?_⟩
    unfold tidelinelaw05_IntsBack.f
    rw [if_pos hl0]
    simp only [tidelinelaw05_IntsBack.j0]
    rw [if_pos (by simp)]
  by_cases hl2 : (l2.length : Int) > 1000
  · refine ⟨1, ?_⟩
    unfold tidelinelaw05_IntsBack.f
    rw [if_neg hl0, decide_eq_true hl2]
    simp only [tidelinelaw05_IntsBack.j0]
    rw [if_pos (by simp)]
  obtain ⟨K1, h1⟩ := dgot_ev (putB l0) (l0.length : Int) (runBytes_byte _)
  obtain ⟨K2, h2⟩ := same_ev l0 (by omega)
  obtain ⟨K3, h3⟩ := dgot_ev (putB l0) a1 (runBytes_byte _)
  obtain ⟨K4, h4⟩ := dgot_ev l2 a1 hb
  obtain ⟨K5, h5⟩ := puts5_ev
  rw [dgot_put l0 hz (by omega)] at h1
  obtain ⟨K, hK⟩ : ∃ K, K = K1 + K2 + K3 + K4 + K5 := ⟨_, rfl⟩
  have e1 : ints_Get.f (K + 1) (putB l0) (l0.length : Int) = some (l0, 0) := h1 _ (by omega)
  have e2 : tidelineref05_Same.f (K + 1) l0 l0 = some true := h2 _ (by omega)
  have e3 : ints_Get.f K (putB l0) a1 = some (dgot (putB l0) a1) := h3 _ (by omega)
  have e4 : ints_Get.f K l2 a1 = some (dgot l2 a1) := h4 _ (by omega)
  have e5 : tidelinelaw05_puts.f K = some true := h5 _ (by omega)
  have hlast : tidelinelaw05_IntsBack.j1 (K + 1) l0 a1 l2 (putB l0) false = some true := by
    have hc : (((dgot (putB l0) a1).2 == 0) != (a1 == (l0.length : Int))) = false := by
      by_cases h : a1 = (l0.length : Int)
      · rw [h, dgot_put l0 hz (by omega)]
        simp
      · have := dgot_other l0 a1 (by omega) h
        rw [beq_eq_false_iff_ne.2 this, beq_eq_false_iff_ne.2 h]
        rfl
    simp only [tidelinelaw05_IntsBack.j1]
    rw [if_neg (by decide), e3, Option.bind_some]
    rw [hc, if_neg (by decide), e4, Option.bind_some]
    by_cases he : (dgot l2 a1).2 = 0
    · obtain ⟨g1, g2, g3⟩ := dgot_ok l2 a1 hb he
      rw [if_pos he, if_pos g1, put_f _ (by omega), Option.bind_some, g3, if_pos rfl, e5]
      rfl
    · rw [if_neg he, dgot_err l2 a1 he, if_pos (by simp), e5]
      rfl
  refine ⟨K + 2, ?_⟩
  unfold tidelinelaw05_IntsBack.f
  rw [if_neg hl0, decide_eq_false hl2]
  simp only [tidelinelaw05_IntsBack.j0]
  rw [if_neg (by decide), put_f l0 (by omega), Option.bind_some, e1, Option.bind_some]
  dsimp only
  rw [if_pos rfl, e2, Option.bind_some]
  exact hlast

end Go.Proofs.Ytlfaicpcdiphkaa.Pure
