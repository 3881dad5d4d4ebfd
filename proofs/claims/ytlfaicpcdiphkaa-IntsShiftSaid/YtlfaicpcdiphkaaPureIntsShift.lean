/- IntsShift: for every row of whole numbers (of at most 2,000) and every number: the row with the number added to each is put and got, and less the number it is the row: the law answers true. No condition. -/
import Derived.Test.YtlfaicpcdiphkaaIg
import Derived.Test.YtlfaicpcdiphkaaM29
namespace Go.Proofs.Ytlfaicpcdiphkaa.Pure
open Go.RowKit Go.Proofs.Ytlfaicpcdiphkaa.M Go.Proofs.YtlfaicpcdiphkaaW.PrintWords Go.Proofs.YtlfaicpcdiphkaaW.PrintLast
open Go.Proofs.Ytlfaicpcdiphkaa.Vi

theorem wrap64_back {a b : Int} (h : I64 a) : wrap64 (wrap64 (a + b) - b) = a := by
  obtain ⟨h0, h1⟩ := h
  unfold wrap64
  omega
theorem rd_at (l : List Int) (i : Nat) (h : i < l.length) : rd l (i : Int) = l[i] := by
  unfold rd
  simp [List.getD_eq_getElem?_getD, h]
theorem shift_l1 (l0 : List Int) (a : Int) (hz : ∀ x ∈ l0, I64 x) (hl : l0.length ≤ 65536) (m : Nat) : ∀ i, i + m = l0.length → Ev (fun k => tidelinelaw05_IntsShift.l1 k l0 a (l0.map fun v => wrap64 (v + a)) (i : Int)) true := by
  induction m with
  | zero =>
    intro i hi
    obtain ⟨K, h⟩ := puts5_ev
    refine ⟨K + 1, fun k hk => ?_⟩
    obtain ⟨k, rfl⟩ : ∃ m, k = m + 1 := ⟨k - 1, by omega⟩
    have e : tidelinelaw05_puts.f k = some true := h k (by omega)
    simp only [tidelinelaw05_IntsShift.l1]
    rw [if_neg (by rw [List.length_map]; omega), e]
    rfl
  | succ m ih =>
    intro i hi
    refine Ev.step (fun k => ?_) (ih (i + 1) (by omega))
    simp only [tidelinelaw05_IntsShift.l1]
    have hi2 : i < (l0.map fun v => wrap64 (v + a)).length := by rw [List.length_map]; omega
    have e : wrap64 (rd (l0.map fun v => wrap64 (v + a)) (i : Int) - a) = rd l0 (i : Int) := by
      rw [rd_at _ i hi2, rd_at l0 i (by omega), List.getElem_map]
      exact wrap64_back (hz _ (List.getElem_mem _))
    rw [if_pos (by omega), if_pos (by omega), if_pos (by omega), if_pos e, wrap64_id (by omega) (by omega)]
    rfl
theorem shift_l0 (l0 : List Int) (a : Int) (hz : ∀ x ∈ l0, I64 x) (hl : l0.length ≤ 65536) (m : Nat) : ∀ i, i + m = l0.length → Ev (fun k => tidelinelaw05_IntsShift.l0 k l0 a ((l0.take i).map fun v => wrap64 (v + a)) (i : Int)) true := by
  induction m with
  | zero =>
    intro i hi
    obtain rfl : i = l0.length := by omega
    rw [List.take_length]
    obtain ⟨row, hrow⟩ : ∃ row, row = l0.map fun v => wrap64 (v + a) := ⟨_, rfl⟩
    have hrl : row.length = l0.length := by rw [hrow, List.length_map]
    have hr : ∀ x ∈ row, I64 x := fun x hx => by
      rw [hrow] at hx
      obtain ⟨v, _, rfl⟩ := List.mem_map.1 hx
      exact i64_w _
    obtain ⟨K1, h1⟩ := dgot_ev (putB row) (row.length : Int) (runBytes_byte _)
    obtain ⟨K2, h2⟩ := shift_l1 l0 a hz hl l0.length 0 (by omega)
    rw [dgot_put row hr (by omega)] at h1
    rw [← hrow] at h2 ⊢
    refine ⟨K1 + K2 + 2, fun k hk => ?_⟩
    obtain ⟨k, rfl⟩ : ∃ m, k = m + 2 := ⟨k - 2, by omega⟩
    have e1 : ints_Get.f (k + 1) (putB row) (row.length : Int) = some (row, 0) := h1 _ (by omega)
    have e2 : tidelinelaw05_IntsShift.l1 k l0 a row 0 = some true := h2 k (by omega)
    have e0 : ints_Put.f row = some (putB row) := by
      unfold ints_Put.f putB
      rw [if_pos (by omega)]
    simp only [tidelinelaw05_IntsShift.l0]
    rw [if_neg (by omega), e0, Option.bind_some, e1, Option.bind_some]
    dsimp only
    rw [if_pos rfl, hrl, bne_eq_false_iff_eq.2 rfl]
    simp only [tidelinelaw05_IntsShift.j1]
    rw [if_neg (by decide)]
    exact e2
  | succ m ih =>
    intro i hi
    refine Ev.step (fun k => ?_) (ih (i + 1) (by omega))
    simp only [tidelinelaw05_IntsShift.l0]
    rw [if_pos (by omega), if_pos (by omega), if_pos (by rw [List.length_map, List.length_take]; omega), wrap64_id (n := (i : Int) + 1) (by omega) (by omega), rd_at l0 i (by omega)]
    have e : (l0.take (i + 1)).map (fun v => wrap64 (v + a)) = (l0.take i).map (fun v => wrap64 (v + a)) ++ [wrap64 (l0[i]'(by omega) + a)] := by
      rw [List.take_succ_eq_append_getElem (by omega), List.map_append]
      rfl
    rw [e]
    rfl

theorem IntsShift : tidelinelaw05_IntsShift.Pure := by
  intro l0 a1 _ _ hz ha
  have hz : ∀ x ∈ l0, I64 x := fun x hx => i64_of (hz x hx)
  by_cases hl0 : (l0.length : Int) > 2000
  · exact ⟨0, by unfold tidelinelaw05_IntsShift.f; rw [if_pos hl0]⟩
  obtain ⟨K, h⟩ := shift_l0 l0 a1 hz (by omega) l0.length 0 (by omega)
  refine ⟨K, ?_⟩
  unfold tidelinelaw05_IntsShift.f
  rw [if_neg hl0]
  exact h K (Nat.le_refl _)

end Go.Proofs.Ytlfaicpcdiphkaa.Pure
