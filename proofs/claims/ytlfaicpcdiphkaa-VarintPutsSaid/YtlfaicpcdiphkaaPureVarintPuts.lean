/- VarintPuts: for every slice of bytes (of at most 1,000 bytes it is looked at) and every number, varint.Put lays behind the bytes what the reference lays, the room behind what was handed in stays, and the example is put and got: the law answers true. No condition. -/
import Derived.Test.YtlfaicpcdiphkaaVr
import Derived.Test.YtlfaicpcdiphkaaM7
namespace Go.Proofs.Ytlfaicpcdiphkaa.Pure
open Go.RowKit Go.Proofs.Ytlfaicpcdiphkaa.M Go.Proofs.YtlfaicpcdiphkaaW.PrintWords Go.Proofs.YtlfaicpcdiphkaaW.PrintLast
open Go.Proofs.Ytlfaicpcdiphkaa.Vi

theorem strOfNums_append (a b : List Int) : strOfNums a ++ strOfNums b = strOfNums (a ++ b) := by
  apply ByteArray.ext
  simp [strOfNums, ByteArray.data_append]

theorem VarintPuts : tidelinelaw02_VarintPuts.Pure := by
  intro l0 a1 _ _ hb ha
  have hb := byte_of hb
  have ha := u64_of ha
  obtain ⟨v, rfl⟩ := Int.eq_ofNat_of_zero_le ha.1
  by_cases hlong : (l0.length : Int) > 1000
  · exact ⟨0, by unfold tidelinelaw02_VarintPuts.f; rw [if_pos hlong]⟩
  have hv : v < 18446744073709551616 := by omega
  have h10 := enc_ten hv
  obtain ⟨K1, h1⟩ := put_ev v l0 hv (by omega)
  obtain ⟨K2, h2⟩ := refput_ev v hv
  obtain ⟨K3, h3⟩ := puts_ev
  obtain ⟨K, hK⟩ : ∃ K, K = K1 + K2 + K3 := ⟨_, rfl⟩
  have e1 : varint_Put.f K l0 (v : Int) = some (l0 ++ enc v) := h1 K (by omega)
  have e2 : tidelineref02_Put.f K (v : Int) = some (enc v) := h2 K (by omega)
  have e3 : tidelinelaw02_puts.f K = some true := h3 K (by omega)
  have e4 : ([] ++ l0 ++ [7] : List Int).take ((l0.length : Int)).toNat = l0 := by simp
  have e5 : rd ([] ++ l0 ++ [7] : List Int) (l0.length : Int) = 7 := rd_mid l0 [] 7
  refine ⟨K, ?_⟩
  unfold tidelinelaw02_VarintPuts.f
  rw [if_neg hlong]
  simp only [Option.bind_some]
  rw [if_pos (by simp; omega), if_pos (by simp; omega), if_pos (by omega), if_pos (by simp; omega), e4, e1]
  simp only [Option.bind_some]
  rw [e2]
  simp only [Option.bind_some]
  rw [if_pos (by rw [strOfNums_size, strOfNums_size]; omega), if_pos (by rw [strOfNums_append]), if_pos (by simp; omega), if_pos e5, e3]
  rfl

end Go.Proofs.Ytlfaicpcdiphkaa.Pure
