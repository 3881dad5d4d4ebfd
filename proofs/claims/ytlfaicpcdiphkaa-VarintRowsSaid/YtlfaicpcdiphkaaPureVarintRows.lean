/- VarintRows: for every row of numbers (of at most 200 numbers it is looked at): put one behind the other they are got one by one; a part of one's bytes is too short; a greater one has no fewer bytes; and the example is put and got: the law answers true. No condition. -/
import Derived.Test.YtlfaicpcdiphkaaVi
import Derived.Test.YtlfaicpcdiphkaaM14
namespace Go.Proofs.Ytlfaicpcdiphkaa.Pure
open Go.RowKit Go.Proofs.Ytlfaicpcdiphkaa.M Go.Proofs.YtlfaicpcdiphkaaW.PrintWords Go.Proofs.YtlfaicpcdiphkaaW.PrintLast
open Go.Proofs.Ytlfaicpcdiphkaa.Vi

/-- The bytes of a row of numbers. -/
def encs : List Int → List Int
  | [] => []
  | v :: l => enc v.toNat ++ encs l
theorem encs_append (a b : List Int) : encs (a ++ b) = encs a ++ encs b := by
  induction a with
  | nil => rfl
  | cons v a ih => simp only [List.cons_append, encs, ih, List.append_assoc]
theorem encs_byte (l : List Int) : ∀ x ∈ encs l, 0 ≤ x ∧ x < 256 := by
  induction l with
  | nil => intro x hx; cases hx
  | cons v l ih =>
    intro x hx
    rcases List.mem_append.1 hx with hx | hx
    · exact enc_byte _ x hx
    · exact ih x hx
theorem encs_len (l : List Int) (h : ∀ x ∈ l, 0 ≤ x ∧ x < 18446744073709551616) : (encs l).length ≤ 10 * l.length := by
  induction l with
  | nil => simp [encs]
  | cons v l ih =>
    have := ih fun x hx => h x (by simp [hx])
    have hv := h v (by simp)
    have := enc_ten (v := v.toNat) (by omega)
    simp only [encs, List.length_append, List.length_cons]
    omega

theorem rows_l1 (t : List Int) : ∀ (p : List Int), (∀ x ∈ t, 0 ≤ x ∧ x < 18446744073709551616) → p.length + t.length ≤ 200 →
    Ev (fun k => tidelinelaw02_VarintRows.l1 k (p ++ t) (encs t) (p.length : Int)) true := by
  induction t with
  | nil =>
    intro p _ hl
    obtain ⟨K, h3⟩ := puts_ev
    refine ⟨K + 1, fun k hk => ?_⟩
    obtain ⟨k, rfl⟩ : ∃ m, k = m + 1 := ⟨k - 1, by omega⟩
    have e3 : tidelinelaw02_puts.f k = some true := h3 k (by omega)
    simp only [tidelinelaw02_VarintRows.l1]
    rw [if_neg (by simp), if_pos (by simp [encs]), e3]
    rfl
  | cons v t ih =>
    intro p h hl
    have hv := h v (by simp)
    obtain ⟨n, rfl⟩ := Int.eq_ofNat_of_zero_le hv.1
    have hn : n < 18446744073709551616 := by omega
    have ht := fun x hx => h x (List.mem_cons_of_mem _ hx)
    rw [List.length_cons] at hl
    obtain ⟨K1, h1⟩ := get_ev (encs ((n : Int) :: t)) (encs_byte _)
    have hd : dec 0 (encs ((n : Int) :: t)) = ((n : Int), ((0 + (enc n).length : Nat) : Int), 0) := by
      simp only [encs, Int.toNat_natCast]
      exact dec_enc n 0 (encs t) (by omega) (by simpa using hn) (by omega)
    rw [hd] at h1
    obtain ⟨K2, h2⟩ := ih (p ++ [(n : Int)]) ht (by simp; omega)
    refine ⟨K1 + K2 + 1, fun k hk => ?_⟩
    obtain ⟨k, rfl⟩ : ∃ m, k = m + 1 := ⟨k - 1, by omega⟩
    have e1 : varint_Get.f k (encs ((n : Int) :: t)) = some ((n : Int), ((0 + (enc n).length : Nat) : Int), 0) := h1 k (by omega)
    have e2 : tidelinelaw02_VarintRows.l1 k (p ++ [(n : Int)] ++ t) (encs t) ((p ++ [(n : Int)]).length : Int) = some true := h2 k (by omega)
    simp only [tidelinelaw02_VarintRows.l1]
    rw [if_pos (by simp; omega), e1, Option.bind_some]
    dsimp only
    rw [if_pos (by simp), if_pos (by omega), rd_mid, if_pos (by simp), if_pos (by omega), if_pos (by simp [encs]; omega), wrap64_id (by omega) (by omega)]
    rw [List.append_assoc] at e2
    have e4 : (encs ((n : Int) :: t)).drop (((0 + (enc n).length : Nat) : Int)).toNat = encs t := by simp [encs]
    rw [e4]
    simpa using e2

theorem rows_l0 (t : List Int) : ∀ (p : List Int), (∀ x ∈ p ++ t, 0 ≤ x ∧ x < 18446744073709551616) → p.length + t.length ≤ 200 →
    Ev (fun k => tidelinelaw02_VarintRows.l0 k (p ++ t) (encs p) (p.length : Int)) true := by
  induction t with
  | nil =>
    intro p h hl
    obtain ⟨K, h1⟩ := rows_l1 p [] (fun x hx => h x (by simp [hx])) (by simpa using hl)
    refine ⟨K + 1, fun k hk => ?_⟩
    obtain ⟨k, rfl⟩ : ∃ m, k = m + 1 := ⟨k - 1, by omega⟩
    have e1 : tidelinelaw02_VarintRows.l1 k ([] ++ p) (encs p) (([] : List Int).length : Int) = some true := h1 k (by omega)
    simp only [tidelinelaw02_VarintRows.l0]
    rw [if_neg (by simp)]
    simpa using e1
  | cons v t ih =>
    intro p h hl
    have hv := h v (by simp)
    obtain ⟨n, rfl⟩ := Int.eq_ofNat_of_zero_le hv.1
    have hn : n < 18446744073709551616 := by omega
    have h10 := enc_ten hn
    have hp1 := enc_pos n
    have hpl := encs_len p fun x hx => h x (by simp [hx])
    rw [List.length_cons] at hl
    obtain ⟨K1, h1⟩ := put_ev n (encs p) hn (by omega)
    obtain ⟨K2, h2⟩ := get_ev ((enc n).take ((enc n).length - 1)) (fun x hx => enc_byte n x (List.mem_of_mem_take hx))
    rw [dec_part n 0 _ (by omega) (by omega)] at h2
    obtain ⟨K4, h4⟩ := ih (p ++ [(n : Int)]) (fun x hx => h x (by simpa using hx)) (by simp; omega)
    have e4' : encs (p ++ [(n : Int)]) = encs p ++ enc n := by rw [encs_append]; simp [encs]
    have hrest : ∃ K, ∀ k, K ≤ k → tidelinelaw02_VarintRows.l0 k (p ++ (n : Int) :: t) (encs p ++ enc n) ((p.length : Int) + 1) = some true := by
      refine ⟨K4, fun k hk => ?_⟩
      have e4 : tidelinelaw02_VarintRows.l0 k (p ++ [(n : Int)] ++ t) (encs (p ++ [(n : Int)])) ((p ++ [(n : Int)]).length : Int) = some true := h4 k hk
      rw [e4', List.append_assoc] at e4
      simpa using e4
    obtain ⟨K5, h5⟩ := hrest
    have e6 : (((encs p ++ enc n).take ((((encs p ++ enc n).length : Int) - 1)).toNat).drop (((encs p).length : Int)).toNat) = (enc n).take ((enc n).length - 1) := by
      rw [show ((((encs p ++ enc n).length : Int) - 1)).toNat = (encs p).length + ((enc n).length - 1) by rw [List.length_append]; omega, Int.toNat_natCast, List.take_length_add_append, List.drop_left]
    have hlen : ((encs p ++ enc n).length : Int) = (encs p).length + (enc n).length := by simp
    have hbig : ((encs p ++ enc n).length : Int) ≤ 2010 := by rw [hlen]; omega
    by_cases hp : p = []
    · subst hp
      refine ⟨K1 + K2 + K5 + 1, fun k hk => ?_⟩
      obtain ⟨k, rfl⟩ : ∃ m, k = m + 1 := ⟨k - 1, by omega⟩
      have e1 : varint_Put.f k (encs []) (n : Int) = some (encs [] ++ enc n) := h1 k (by omega)
      have e2 : varint_Get.f k ((enc n).take ((enc n).length - 1)) = some (0, 0, 20) := h2 k (by omega)
      have e5 := h5 k (by omega)
      have c1 : ¬ ((encs [] ++ enc n).length : Int) ≤ ((encs []).length : Int) := by omega
      have c2 : (0 : Int) ≤ ((encs []).length : Int) := by omega
      have c3 : ((encs []).length : Int) ≤ ((encs [] ++ enc n).length : Int) - 1 := by omega
      have c4 : ((encs [] ++ enc n).length : Int) - 1 ≤ ((encs [] ++ enc n).length : Int) := by omega
      have hw : wrap64 (((encs [] ++ enc n).length : Int) - 1) = ((encs [] ++ enc n).length : Int) - 1 := wrap64_id (by omega) (by omega)
      have hw0 : wrap64 ((([] : List Int).length : Int) + 1) = (([] : List Int).length : Int) + 1 := wrap64_id (by simp) (by simp)
      simp only [tidelinelaw02_VarintRows.l0]
      rw [if_pos (by simp), if_pos (by simp), rd_mid, e1, Option.bind_some, hw, if_neg c1, if_pos c2, if_pos c3, if_pos c4, e6, e2, Option.bind_some, if_pos rfl, if_neg (by simp), hw0]
      exact e5
    · obtain ⟨q, z, rfl⟩ : ∃ q z, p = q ++ [z] := ⟨p.dropLast, p.getLast hp, (List.dropLast_concat_getLast hp).symm⟩
      have hz := h z (by simp)
      obtain ⟨m, rfl⟩ := Int.eq_ofNat_of_zero_le hz.1
      have hm : m < 18446744073709551616 := by omega
      obtain ⟨K6, h6⟩ := put_ev n [] hn (by decide)
      obtain ⟨K7, h7⟩ := put_ev m [] hm (by decide)
      refine ⟨K1 + K2 + K5 + K6 + K7 + 1, fun k hk => ?_⟩
      obtain ⟨k, rfl⟩ : ∃ m, k = m + 1 := ⟨k - 1, by omega⟩
      have e1 : varint_Put.f k (encs (q ++ [(m : Int)])) (n : Int) = some (encs (q ++ [(m : Int)]) ++ enc n) := h1 k (by omega)
      have e2 : varint_Get.f k ((enc n).take ((enc n).length - 1)) = some (0, 0, 20) := h2 k (by omega)
      have e5 := h5 k (by omega)
      have e7 : varint_Put.f k [] (n : Int) = some ([] ++ enc n) := h6 k (by omega)
      have e8 : varint_Put.f k [] (m : Int) = some ([] ++ enc m) := h7 k (by omega)
      have hq : ((q ++ [(m : Int)]).length : Int) = q.length + 1 := by simp
      have hall : ((q ++ [(m : Int)] ++ (n : Int) :: t).length : Int) = q.length + 1 + (t.length + 1) := by simp; omega
      have hql : q.length + 1 ≤ 200 := by omega
      have c1 : ¬ ((encs (q ++ [(m : Int)]) ++ enc n).length : Int) ≤ ((encs (q ++ [(m : Int)])).length : Int) := by omega
      have c2 : (0 : Int) ≤ ((encs (q ++ [(m : Int)])).length : Int) := by omega
      have c3 : ((encs (q ++ [(m : Int)])).length : Int) ≤ ((encs (q ++ [(m : Int)]) ++ enc n).length : Int) - 1 := by omega
      have c4 : ((encs (q ++ [(m : Int)]) ++ enc n).length : Int) - 1 ≤ ((encs (q ++ [(m : Int)]) ++ enc n).length : Int) := by omega
      have c5 : (q.length : Int) + 1 < ((q ++ [(m : Int)] ++ (n : Int) :: t).length : Int) := by omega
      have c6 : (0 : Int) ≤ (q.length : Int) + 1 := by omega
      have c7 : (q.length : Int) + 1 > 0 := by omega
      have c8 : (0 : Int) ≤ (q.length : Int) := by omega
      have c9 : (q.length : Int) < ((q ++ [(m : Int)] ++ (n : Int) :: t).length : Int) := by omega
      have er : rd (q ++ [(m : Int)] ++ (n : Int) :: t) ((q.length : Int) + 1) = n := by rw [← hq]; exact rd_mid _ t n
      have er2 : rd (q ++ [(m : Int)] ++ (n : Int) :: t) (q.length : Int) = m := by
        rw [List.append_assoc]
        exact rd_mid q _ m
      have hw : wrap64 (((encs (q ++ [(m : Int)]) ++ enc n).length : Int) - 1) = ((encs (q ++ [(m : Int)]) ++ enc n).length : Int) - 1 := wrap64_id (by omega) (by omega)
      have hmono : (n : Int) ≥ (m : Int) → ¬ (([] ++ enc n).length : Int) < (([] ++ enc m).length : Int) := fun hge => by
        have := enc_mono n m n (by omega) (Nat.le_refl _)
        simp only [List.nil_append]
        omega
      have hwi : wrap64 ((q.length : Int) + 1 - 1) = q.length := by
        rw [show (q.length : Int) + 1 - 1 = q.length by omega]
        exact wrap64_id (by omega) (by omega)
      have hwi2 : wrap64 ((q.length : Int) + 1 + 1) = (q.length : Int) + 1 + 1 := wrap64_id (by omega) (by omega)
      rw [hq] at e5 ⊢
      simp only [tidelinelaw02_VarintRows.l0]
      rw [if_pos c5, if_pos c6, er, e1, Option.bind_some, hw, if_neg c1, if_pos c2, if_pos c3, if_pos c4, e6, e2, Option.bind_some, if_pos rfl, if_pos c7, hwi, hwi2, if_pos c8, if_pos c9, er2]
      by_cases hge : (n : Int) ≥ (m : Int)
      · rw [if_pos hge, e7, Option.bind_some, e8, Option.bind_some, if_neg (hmono hge)]
        exact e5
      · rw [if_neg hge]
        exact e5

theorem VarintRows : tidelinelaw02_VarintRows.Pure := by
  intro l0 _ _ hb
  have hb : ∀ x ∈ l0, 0 ≤ x ∧ x < 18446744073709551616 := fun x hx => u64_of (hb x hx)
  by_cases hlong : (l0.length : Int) > 200
  · exact ⟨0, by unfold tidelinelaw02_VarintRows.f; rw [if_pos hlong]⟩
  obtain ⟨K, h⟩ := rows_l0 l0 [] (by simpa using hb) (by simp; omega)
  have e : tidelinelaw02_VarintRows.l0 K ([] ++ l0) (encs []) (([] : List Int).length : Int) = some true := h K (by omega)
  refine ⟨K, ?_⟩
  unfold tidelinelaw02_VarintRows.f
  rw [if_neg hlong]
  exact e

end Go.Proofs.Ytlfaicpcdiphkaa.Pure
