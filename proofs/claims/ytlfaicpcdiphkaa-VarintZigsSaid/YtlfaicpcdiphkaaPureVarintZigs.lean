/- VarintZigs: for every v and every u, Zig and Zag are the reference's, and the example is put and got: the law answers true. No condition. -/
import Derived.Test.YtlfaicpcdiphkaaVr
import Derived.Test.YtlfaicpcdiphkaaM10
import Derived.Test.YtlfaicpcdiphkaaM11
import Derived.Test.YtlfaicpcdiphkaaM12
namespace Go.Proofs.Ytlfaicpcdiphkaa.Vi
open Go.RowKit Go.Proofs.Ytlfaicpcdiphkaa.M Go.Proofs.YtlfaicpcdiphkaaW.PrintWords Go.Proofs.YtlfaicpcdiphkaaW.PrintLast
theorem refzig_f (a : Int) (h0 : -9223372036854775808 ≤ a) (h1 : a < 9223372036854775808) : tidelineref02_Zig.f a = some ((zig a : Nat) : Int) := by
  unfold tidelineref02_Zig.f zig
  by_cases h : 0 ≤ a
  · rw [if_pos h, if_pos h, wrap_u64_id (n := a) (by omega) (by omega), wrap_u64_id (by omega) (by omega)]
    congr 1
    omega
  · rw [if_neg h, if_neg h, wrap64_id (n := a + 1) (by omega) (by omega), wrap64_id (n := -(a + 1)) (by omega) (by omega), wrap_u64_id (n := -(a + 1)) (by omega) (by omega), wrap_u64_id (n := 2 * -(a + 1)) (by omega) (by omega), wrap_u64_id (by omega) (by omega)]
    congr 1
    omega
theorem refzag_f (u : Nat) (h : u < 18446744073709551616) : tidelineref02_Zag.f (u : Int) = some (zag u) := by
  unfold tidelineref02_Zag.f zag
  have e1 : Int.tmod (u : Int) 2 = ((u % 2 : Nat) : Int) := tmod_nat u 2
  have e2 : Int.tdiv (u : Int) 2 = ((u / 2 : Nat) : Int) := tdiv_nat u 2
  rw [e1, e2, wrap_u64_id (by omega) (by omega), wrap64_id (n := ((u / 2 : Nat) : Int)) (by omega) (by omega)]
  rcases Nat.mod_two_eq_zero_or_one u with e | e
  · rw [e, if_pos (by rfl), if_pos rfl]
  · rw [e, if_neg (by decide), if_neg (by decide), wrap64_id (n := -((u / 2 : Nat) : Int)) (by omega) (by omega), wrap64_id (by omega) (by omega)]
end Go.Proofs.Ytlfaicpcdiphkaa.Vi
namespace Go.Proofs.Ytlfaicpcdiphkaa.Pure
open Go.RowKit Go.Proofs.Ytlfaicpcdiphkaa.M Go.Proofs.YtlfaicpcdiphkaaW.PrintWords Go.Proofs.YtlfaicpcdiphkaaW.PrintLast
open Go.Proofs.Ytlfaicpcdiphkaa.Vi

theorem VarintZigs : tidelinelaw02_VarintZigs.Pure := by
  intro a0 a1 h0 h1
  have h0 := i64_of h0
  have h1 := u64_of h1
  obtain ⟨u, rfl⟩ := Int.eq_ofNat_of_zero_le h1.1
  obtain ⟨K, h3⟩ := puts_ev
  have e3 : tidelinelaw02_puts.f K = some true := h3 K (by omega)
  refine ⟨K, ?_⟩
  unfold tidelinelaw02_VarintZigs.f
  rw [zig_f a0 h0.1 h0.2, refzig_f a0 h0.1 h0.2, zag_f u (by omega), refzag_f u (by omega), e3]
  simp

end Go.Proofs.Ytlfaicpcdiphkaa.Pure
