/- VarintBack: for every number and every slice of bytes (of at most 1,000 bytes it is looked at): what is put is got, whatever stands behind it, in 1 to 10 bytes; what is got is put as the same bytes, what is not got is told by zeros and one of two errors; Zig and Zag are each other's; and the example is put and got: the law answers true. No condition. -/
import Derived.Test.YtlfaicpcdiphkaaVi
import Derived.Test.YtlfaicpcdiphkaaM13
namespace Go.Proofs.Ytlfaicpcdiphkaa.Pure
open Go.RowKit Go.Proofs.Ytlfaicpcdiphkaa.M Go.Proofs.YtlfaicpcdiphkaaW.PrintWords Go.Proofs.YtlfaicpcdiphkaaW.PrintLast
open Go.Proofs.Ytlfaicpcdiphkaa.Vi

theorem wrap64_u (u : Nat) : -9223372036854775808 ≤ wrap64 (u : Int) ∧ wrap64 (u : Int) < 9223372036854775808 := by unfold wrap64; omega

theorem back_rest (v : Nat) (l1 : List Int) (hv : v < 18446744073709551616) (hb : ∀ x ∈ l1, 0 ≤ x ∧ x < 256) : Ev (fun k => tidelinelaw02_VarintBack.j0 k (v : Int) l1 false) true := by
  obtain ⟨K1, h1⟩ := get_ev l1 hb
  obtain ⟨K3, h3⟩ := puts_ev
  by_cases he : (dec 0 l1).2.2 = 0
  · obtain ⟨x, n, e, hx, hn, hl, hE, _⟩ := dec_ok l1 0 (by omega) hb he
    replace hx : x < 18446744073709551616 := by simpa using hx
    obtain ⟨K2, h2⟩ := put_ev x [] hx (by decide)
    refine ⟨K1 + K2 + K3 + 1, fun k hk => ?_⟩
    obtain ⟨k, rfl⟩ : ∃ m, k = m + 1 := ⟨k - 1, by omega⟩
    have e1 : varint_Get.f k l1 = some (dec 0 l1) := h1 k (by omega)
    have e2 : varint_Put.f k [] (x : Int) = some ([] ++ enc x) := h2 k (by omega)
    have e3 : tidelinelaw02_puts.f k = some true := h3 k (by omega)
    obtain ⟨z, hz⟩ : ∃ z, varint_Zag.f (v : Int) = some z ∧ varint_Zig.f z = some (v : Int) := ⟨zag v, zag_f v hv, by have hz := zag_lt hv; rw [zig_f _ hz.1 hz.2, zig_zag]⟩
    obtain ⟨y, hy⟩ : ∃ y, varint_Zig.f (wrap64 (v : Int)) = some y ∧ varint_Zag.f y = some (wrap64 (v : Int)) := by
      have hw := wrap64_u v
      exact ⟨_, zig_f _ hw.1 hw.2, by rw [zag_f _ (zig_lt hw.1 hw.2), zag_zig]⟩
    simp only [tidelinelaw02_VarintBack.j0]
    rw [if_neg (by simp), e1, e, Option.bind_some]
    dsimp only
    rw [if_pos (by simp), if_pos (by omega), if_pos (by omega), e2, Option.bind_some]
    rw [if_pos (by omega), if_pos (by rw [hE]; simp), hz.1, Option.bind_some]
    rw [hz.2, Option.bind_some]
    rw [if_pos rfl, hy.1, Option.bind_some]
    rw [hy.2, Option.bind_some]
    rw [if_pos rfl, e3]
    rfl
  · refine ⟨K1 + K3 + 1, fun k hk => ?_⟩
    obtain ⟨k, rfl⟩ : ∃ m, k = m + 1 := ⟨k - 1, by omega⟩
    have e1 : varint_Get.f k l1 = some (dec 0 l1) := h1 k (by omega)
    have e3 : tidelinelaw02_puts.f k = some true := h3 k (by omega)
    simp only [tidelinelaw02_VarintBack.j0]
    rw [if_neg (by simp), e1, Option.bind_some]
    rcases dec_err l1 0 he with e | e
    · rw [e]
      simp only
      rw [if_neg (by decide), if_pos (by simp), if_pos (by simp), if_pos (by simp), e3]
      rfl
    · rw [e]
      simp only
      rw [if_neg (by decide), if_pos (by simp), if_pos (by simp), if_neg (by decide), if_pos (by simp), e3]
      rfl

theorem VarintBack : tidelinelaw02_VarintBack.Pure := by
  intro a0 l1 ha _ _ hb
  have hb := byte_of hb
  have ha := u64_of ha
  obtain ⟨v, rfl⟩ := Int.eq_ofNat_of_zero_le ha.1
  by_cases hlong : (l1.length : Int) > 1000
  · exact ⟨0, by unfold tidelinelaw02_VarintBack.f; rw [if_pos hlong]⟩
  have hv : v < 18446744073709551616 := by omega
  have h10 := enc_ten hv
  have hp := enc_pos v
  obtain ⟨K1, h1⟩ := put_ev v [] hv (by decide)
  obtain ⟨K2, h2⟩ := get_ev (enc v ++ l1) (fun x hx => by
    rcases List.mem_append.1 hx with hx | hx
    · exact enc_byte v x hx
    · exact hb x hx)
  rw [dec_enc v 0 l1 (by omega) (by simpa using hv) (by omega)] at h2
  obtain ⟨K3, h3⟩ := back_rest v l1 hv hb
  obtain ⟨K, hK⟩ : ∃ K, K = K1 + K2 + K3 := ⟨_, rfl⟩
  have e1 : varint_Put.f K [] (v : Int) = some ([] ++ enc v) := h1 K (by omega)
  have e2 : varint_Get.f K ([] ++ ([] ++ enc v) ++ l1) = some ((v : Int), ((0 + (enc v).length : Nat) : Int), 0) := h2 K (by omega)
  have e3 : tidelinelaw02_VarintBack.j0 K (v : Int) l1 false = some true := h3 K (by omega)
  refine ⟨K, ?_⟩
  unfold tidelinelaw02_VarintBack.f
  rw [if_neg hlong, e1]
  simp only [Option.bind_some]
  rw [if_pos (by simp; omega), if_pos (by simp; omega), e2]
  simp only [Option.bind_some]
  rw [if_pos (by simp), if_pos (by simp), if_pos (by simp), if_neg (by omega), decide_eq_false (by omega)]
  exact e3

end Go.Proofs.Ytlfaicpcdiphkaa.Pure
