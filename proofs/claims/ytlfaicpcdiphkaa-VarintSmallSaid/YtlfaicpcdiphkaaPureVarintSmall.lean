/- VarintSmall: for every number: Zig is twice it, or, below 0, one less than twice its size; the next one in the row is next; and the example is put and got: the law answers true. No condition. -/
import Derived.Test.YtlfaicpcdiphkaaVi
import Derived.Test.YtlfaicpcdiphkaaM15
namespace Go.Proofs.Ytlfaicpcdiphkaa.Pure
open Go.RowKit Go.Proofs.Ytlfaicpcdiphkaa.M Go.Proofs.YtlfaicpcdiphkaaW.PrintWords Go.Proofs.YtlfaicpcdiphkaaW.PrintLast
open Go.Proofs.Ytlfaicpcdiphkaa.Vi

theorem small_rest (a : Int) (h0 : -9223372036854775808 ≤ a) (h1 : a < 9223372036854775808) : Ev (fun k => tidelinelaw02_VarintSmall.j0 k a ((zig a : Nat) : Int) false) true := by
  obtain ⟨K, h3⟩ := puts_ev
  refine ⟨K + 1, fun k hk => ?_⟩
  obtain ⟨k, rfl⟩ : ∃ m, k = m + 1 := ⟨k - 1, by omega⟩
  have e3 : tidelinelaw02_puts.f k = some true := h3 k (by omega)
  simp only [tidelinelaw02_VarintSmall.j0]
  rw [if_neg (by simp), e3]
  simp only [Option.bind_some]
  by_cases hp : a ≥ 0
  · rw [if_pos hp]
    by_cases hs : a < 4611686018427387904
    · have e : zig (-a - 1) = zig a + 1 := by unfold zig; rw [if_neg (by omega), if_pos (by omega)]; omega
      have hl := zig_lt (a := -a - 1) (by omega) (by omega)
      rw [if_pos hs, wrap64_id (n := -a) (by omega) (by omega), wrap64_id (n := -a - 1) (by omega) (by omega), zig_f _ (by omega) (by omega), e]
      simp only [Option.bind_some]
      rw [if_pos (by rw [wrap_u64_id (by omega) (by omega)]; omega)]
    · rw [if_neg hs]
  · rw [if_neg hp]

theorem VarintSmall : tidelinelaw02_VarintSmall.Pure := by
  intro a ha
  have ha := i64_of ha
  obtain ⟨K, h⟩ := small_rest a ha.1 ha.2
  have e : tidelinelaw02_VarintSmall.j0 K a ((zig a : Nat) : Int) false = some true := h K (by omega)
  have hl := zig_lt ha.1 ha.2
  refine ⟨K, ?_⟩
  unfold tidelinelaw02_VarintSmall.f
  rw [zig_f a ha.1 ha.2]
  simp only [Option.bind_some]
  by_cases hp : a ≥ 0
  · rw [if_pos hp, if_pos (by
      rw [wrap_u64_id (n := a) (by omega) (by omega), wrap_u64_id (by omega) (by omega)]
      unfold zig
      rw [if_pos hp]
      omega), if_neg (by omega)]
    exact e
  · have hz : ((zig a : Nat) : Int) = -2 * a - 1 := by unfold zig; rw [if_neg hp]; omega
    have e2 : (IntKind.u64.wrap (Int.tdiv ((zig a : Nat) : Int) 2) != IntKind.u64.wrap (wrap64 (-1 - a))) = false := by
      rw [Int.tdiv_eq_ediv_of_nonneg (by omega), wrap_u64_id (by omega) (by omega), wrap64_id (by omega) (by omega), wrap_u64_id (by omega) (by omega), bne_eq_false_iff_eq]
      omega
    rw [if_neg hp, if_pos (by omega), e2]
    exact e

end Go.Proofs.Ytlfaicpcdiphkaa.Pure
