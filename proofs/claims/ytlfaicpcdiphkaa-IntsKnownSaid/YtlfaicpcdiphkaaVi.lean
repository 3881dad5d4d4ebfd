/- Plain theory of the varint: what varint.Put, varint.Get, Zig and Zag compute, as functions of numbers and lists. Conditions: bytes are from 0 to 255, numbers lie in their kinds' ranges. -/
import Derived.Test.YtlfaicpcdiphkaaM1
import Derived.Test.YtlfaicpcdiphkaaM3
import Derived.Test.YtlfaicpcdiphkaaM4
import Derived.Test.YtlfaicpcdiphkaaM5
import Derived.Test.YtlfaicpcdiphkaaM6
namespace Go.Proofs.Ytlfaicpcdiphkaa.Vi
open Go.RowKit Go.Proofs.Ytlfaicpcdiphkaa.M Go.Proofs.YtlfaicpcdiphkaaW.PrintWords Go.Proofs.YtlfaicpcdiphkaaW.PrintLast Go.Proofs.YtlfaicpcdiphkaaW.PrintMore

theorem wrap_u64 (n : Int) : IntKind.u64.wrap n = n % 18446744073709551616 := by simp [IntKind.wrap, IntKind.bits, IntKind.signed]
theorem wrap_u64_id {n : Int} (h0 : 0 ≤ n) (h1 : n < 18446744073709551616) : IntKind.u64.wrap n = n := by rw [wrap_u64]; omega
theorem wrap64_id {n : Int} (h0 : -9223372036854775808 ≤ n) (h1 : n < 9223372036854775808) : wrap64 n = n := by unfold wrap64; omega
theorem wraps_u64 (n : Int) (h0 : 0 ≤ n) (h1 : n < 2 ^ 64) : IntKind.u64.wrap n = n := wrap_u64_id h0 (by simpa using h1)

/-! ### bits -/
theorem or128 (a : Nat) (ha : a < 256) : Go.bits .or .u8 (a : Int) 128 = ((a % 128 + 128 : Nat) : Int) := by
  have h := (bits_nat .u8 8 (by decide) wraps_u8 a 128 ha (by decide)).2
  have e : a ||| 128 = a % 128 + 128 := (by decide +kernel : ∀ a : Fin 256, (a : Nat) ||| 128 = (a : Nat) % 128 + 128) ⟨a, ha⟩
  rw [e] at h
  exact h
theorem and127 (a : Nat) (ha : a < 256) : Go.bits .and .u8 (a : Int) 127 = ((a % 128 : Nat) : Int) := by
  have h := (bits_nat .u8 8 (by decide) wraps_u8 a 127 ha (by decide)).1
  have e : a &&& 127 = a % 128 := (by decide +kernel : ∀ a : Fin 256, (a : Nat) &&& 127 = (a : Nat) % 128) ⟨a, ha⟩
  rw [e] at h
  exact h
theorem or_high (a c i : Nat) (ha : a < 2 ^ i) (h : 2 ^ i * c + a < 18446744073709551616) : Go.bits .or .u64 (a : Int) ((2 ^ i * c : Nat) : Int) = ((2 ^ i * c + a : Nat) : Int) := by
  have hx : 2 ^ i * c < 2 ^ 64 := Nat.lt_of_le_of_lt (Nat.le_add_right _ a) h
  have hy : a < 2 ^ 64 := Nat.lt_of_le_of_lt (Nat.le_add_left a (2 ^ i * c)) h
  have hb := (bits_nat .u64 64 (by decide) wraps_u64 a (2 ^ i * c) hy hx).2
  rw [hb, Nat.or_comm, ← Nat.two_pow_add_eq_or_of_lt ha c]

/-! ### a number's bytes -/
def enc (v : Nat) : List Int := if v < 128 then [(v : Int)] else ((v % 128 + 128 : Nat) : Int) :: enc (v / 128)
termination_by v
decreasing_by omega
theorem enc_small {v : Nat} (h : v < 128) : enc v = [(v : Int)] := by rw [enc, if_pos h]
theorem enc_big {v : Nat} (h : ¬ v < 128) : enc v = ((v % 128 + 128 : Nat) : Int) :: enc (v / 128) := by rw [enc, if_neg h]
theorem enc_pos (v : Nat) : 1 ≤ (enc v).length := by
  by_cases h : v < 128
  · rw [enc_small h]; simp
  · rw [enc_big h]; simp
theorem enc_len (n : Nat) : ∀ v : Nat, v < 128 ^ (n + 1) → (enc v).length ≤ n + 1 := by
  induction n with
  | zero => intro v hv; rw [enc_small (by simpa using hv)]; simp
  | succ n ih =>
    intro v hv
    by_cases h : v < 128
    · rw [enc_small h]; simp
    · rw [enc_big h, List.length_cons]
      have : v / 128 < 128 ^ (n + 1) := Nat.div_lt_of_lt_mul (by rw [Nat.mul_comm]; simpa [Nat.pow_succ] using hv)
      have := ih _ this
      omega
theorem enc_ten {v : Nat} (h : v < 18446744073709551616) : (enc v).length ≤ 10 := enc_len 9 v (Nat.lt_of_lt_of_le h (by decide))
theorem enc_byte (v : Nat) : ∀ x ∈ enc v, 0 ≤ x ∧ x < 256 := by
  induction v using Nat.strongRecOn with
  | _ v ih =>
    by_cases h : v < 128
    · rw [enc_small h]; intro x hx; simp at hx; omega
    · rw [enc_big h]
      intro x hx
      rcases List.mem_cons.1 hx with rfl | hx
      · omega
      · exact ih (v / 128) (by omega) x hx
theorem enc_mono (n : Nat) : ∀ v w : Nat, v ≤ w → w ≤ n → (enc v).length ≤ (enc w).length := by
  induction n using Nat.strongRecOn with
  | _ n ih =>
    intro v w hvw hw
    by_cases h : v < 128
    · rw [enc_small h]; have := enc_pos w; simpa using this
    · have h' : ¬ w < 128 := by omega
      rw [enc_big h, enc_big h', List.length_cons, List.length_cons]
      have := ih (w / 128) (by omega) (v / 128) (w / 128) (by omega) (by omega)
      omega

theorem put_l0 (v : Nat) : ∀ l : List Int, l.length + (enc v).length ≤ 140737488355328 → Ev (fun k => varint_Put.l0 k (v : Int) l) (l ++ enc v) := by
  induction v using Nat.strongRecOn with
  | _ v ih =>
    intro l hl
    by_cases h : v < 128
    · rw [enc_small h] at hl ⊢
      simp only [List.length_cons, List.length_nil] at hl
      refine Ev.step (f := fun _ => some (l ++ [(v : Int)])) (fun k => ?_) (Ev.now _)
      simp only [varint_Put.l0]
      rw [if_neg (by omega), if_pos (by omega), show (v : Int) % 256 = v by omega]
    · rw [enc_big h] at hl ⊢
      simp only [List.length_cons] at hl
      refine Ev.step (f := fun k => varint_Put.l0 k ((v / 128 : Nat) : Int) (l ++ [((v % 128 + 128 : Nat) : Int)])) (fun k => ?_) ?_
      · simp only [varint_Put.l0]
        rw [if_pos (by omega), if_pos (by omega)]
        have e : (v : Int) % 256 = ((v % 256 : Nat) : Int) := by omega
        rw [e, or128 (v % 256) (by omega), show v % 256 % 128 = v % 128 by omega]
        rfl
      · have := ih (v / 128) (by omega) (l ++ [((v % 128 + 128 : Nat) : Int)]) (by simp only [List.length_append, List.length_cons, List.length_nil]; omega)
        simpa using this
theorem put_ev (v : Nat) (l : List Int) (hv : v < 18446744073709551616) (hl : l.length + 10 < 140737488355328) : Ev (fun k => varint_Put.f k l (v : Int)) (l ++ enc v) := by
  have h10 := enc_ten hv
  refine Ev.congr (f := fun k => varint_Put.l0 k (v : Int) l) (fun k => ?_) (put_l0 v l (by omega))
  simp only [varint_Put.f]
  rw [if_pos (by simp; omega)]
  rfl

/-! ### reading -/
/-- What is read from place i on: the number without the places ahead, how many bytes, the error. -/
def dec : Nat → List Int → Int × Int × Int
  | i, [] => if i < 10 then (0, 0, 20) else (0, 0, 21)
  | i, c :: t =>
    if 10 ≤ i then (0, 0, 21) else if i = 9 ∧ c > 1 then (0, 0, 21)
    else if c < 128 then (if c = 0 ∧ 0 < i then (0, 0, 21) else (c, (i : Int) + 1, 0))
    else if (dec (i + 1) t).2.2 = 0 then (c - 128 + 128 * (dec (i + 1) t).1, (dec (i + 1) t).2.1, 0) else (0, 0, (dec (i + 1) t).2.2)

theorem dec_err (l : List Int) : ∀ i, (dec i l).2.2 ≠ 0 → dec i l = (0, 0, 20) ∨ dec i l = (0, 0, 21) := by
  induction l with
  | nil => intro i _; unfold dec; split <;> simp
  | cons c t ih =>
    intro i
    unfold dec
    split
    · intro _; exact .inr rfl
    split
    · intro _; exact .inr rfl
    split
    · split
      · intro _; exact .inr rfl
      · intro h; exact absurd rfl h
    split
    · intro h; exact absurd rfl h
    · rename_i h5
      intro _
      rcases ih (i + 1) h5 with h | h <;> simp [h]

theorem pow_step (i : Nat) (h : i ≤ 8) : (2 : Nat) ^ (64 - 7 * i) = 128 * 2 ^ (64 - 7 * (i + 1)) := by
  rw [show 64 - 7 * i = 7 + (64 - 7 * (i + 1)) by omega, Nat.pow_add]

/-- What is right: the number fits what is left of 64 bits; its bytes are those that were read. -/
theorem dec_ok (l : List Int) : ∀ i, i ≤ 9 → (∀ x ∈ l, 0 ≤ x ∧ x < 256) → (dec i l).2.2 = 0 →
    ∃ v n : Nat, dec i l = ((v : Int), (n : Int), 0) ∧ v < 2 ^ (64 - 7 * i) ∧ i < n ∧ n - i ≤ l.length ∧ enc v = l.take (n - i) ∧ (0 < i → 0 < v) := by
  induction l with
  | nil => intro i hi _ h; unfold dec at h; rw [if_pos (by omega)] at h; simp at h
  | cons c t ih =>
    intro i hi hb
    have hc := hb c (by simp)
    have ht : ∀ x ∈ t, 0 ≤ x ∧ x < 256 := fun x hx => hb x (by simp [hx])
    unfold dec
    rw [if_neg (by omega)]
    split
    · intro h; simp at h
    rename_i h9
    split
    · rename_i hlt
      split
      · intro h; simp at h
      · rename_i h0
        intro _
        obtain ⟨v, rfl⟩ := Int.eq_ofNat_of_zero_le hc.1
        refine ⟨v, i + 1, by simp, ?_, by omega, by simp, ?_, by omega⟩
        · by_cases e : i = 9
          · subst e
            have : v ≤ 1 := by omega
            simp; omega
          · have : 2 ^ 8 ≤ 2 ^ (64 - 7 * i) := Nat.pow_le_pow_right (by decide) (by omega)
            omega
        · rw [enc_small (by omega)]
          simp
    rename_i hge
    split
    · rename_i hr
      intro _
      have h8 : i ≤ 8 := by omega
      obtain ⟨v, n, e, hv, hn, hl, he, hp⟩ := ih (i + 1) (by omega) ht hr
      obtain ⟨d, hd⟩ := Int.eq_ofNat_of_zero_le hc.1
      have hps := pow_step i h8
      have hvp := hp (by omega)
      refine ⟨d - 128 + 128 * v, n, ?_, by omega, by omega, ?_, ?_, fun _ => by omega⟩
      · rw [e]
        simp only [Prod.mk.injEq, and_true]
        omega
      · rw [List.length_cons]; omega
      · rw [enc_big (by omega), show n - i = (n - (i + 1)) + 1 by omega, List.take_succ_cons, ← he, show (d - 128 + 128 * v) / 128 = v by omega]
        congr 1
        omega
    · intro h
      rename_i h'
      exact absurd h h'

/-- What was put is read. -/
theorem dec_enc (v : Nat) : ∀ (i : Nat) (b : List Int), i ≤ 9 → v < 2 ^ (64 - 7 * i) → (0 < i → 0 < v) → dec i (enc v ++ b) = ((v : Int), ((i + (enc v).length : Nat) : Int), 0) := by
  induction v using Nat.strongRecOn with
  | _ v ih =>
    intro i b hi hv hp
    by_cases h : v < 128
    · rw [enc_small h]
      simp only [List.cons_append, List.nil_append, dec]
      rw [if_neg (by omega), if_neg (by
        intro h9
        obtain ⟨rfl, h9⟩ := h9
        simp at hv
        omega), if_pos (by omega), if_neg (by omega)]
      simp
    · rw [enc_big h]
      have h8 : i ≤ 8 := by
        rcases Nat.lt_or_ge i 9 with h9 | h9
        · omega
        · obtain rfl : i = 9 := by omega
          simp at hv
          omega
      have hps := pow_step i h8
      have hr := ih (v / 128) (by omega) (i + 1) b (by omega) (by omega) (fun _ => by omega)
      simp only [List.cons_append, dec]
      rw [if_neg (by omega), if_neg (by omega), if_neg (by omega), hr, if_pos rfl]
      simp only [List.length_cons, Prod.mk.injEq, and_true]
      omega

/-- A part of a number's bytes is too short. -/
theorem dec_part (v : Nat) : ∀ (i n : Nat), i + (enc v).length ≤ 10 → n < (enc v).length → dec i ((enc v).take n) = (0, 0, 20) := by
  induction v using Nat.strongRecOn with
  | _ v ih =>
    intro i n hi hn
    by_cases h : v < 128
    · rw [enc_small h] at hn hi ⊢
      simp only [List.length_cons, List.length_nil] at hn hi
      obtain rfl : n = 0 := by omega
      simp only [List.take_zero, dec]
      rw [if_pos (by omega)]
    · rw [enc_big h] at hn hi ⊢
      simp only [List.length_cons] at hn hi
      have := enc_pos (v / 128)
      cases n with
      | zero => simp only [List.take_zero, dec]; rw [if_pos (by omega)]
      | succ n =>
        have hr := ih (v / 128) (by omega) (i + 1) n (by omega) (by omega)
        simp only [List.take_succ_cons, dec]
        rw [if_neg (by omega), if_neg (by omega), if_neg (by omega), hr]
        rfl

/-! ### the printed Get -/
def fin (acc : Nat) (i : Nat) (r : Int × Int × Int) : Int × Int × Int := if r.2.2 = 0 then (((acc : Nat) : Int) + ((2 ^ (7 * i) : Nat) : Int) * r.1, r.2.1, 0) else (0, 0, r.2.2)
theorem fin_err {acc i : Nat} {e : Int} (h : e ≠ 0) : fin acc i (0, 0, e) = (0, 0, e) := by unfold fin; rw [if_neg h]
theorem pow_seven (i : Nat) : (2 : Nat) ^ (7 * (i + 1)) = 2 ^ (7 * i) * 128 := by rw [show 7 * (i + 1) = 7 * i + 7 by omega, Nat.pow_add]
theorem fin_step (acc i d : Nat) (r : Int × Int × Int) : fin (2 ^ (7 * i) * d + acc) (i + 1) r = fin acc i (if r.2.2 = 0 then ((d : Int) + 128 * r.1, r.2.1, 0) else (0, 0, r.2.2)) := by
  unfold fin
  by_cases h : r.2.2 = 0
  · rw [if_pos h, if_pos h, if_pos rfl, pow_seven]
    simp only [Prod.mk.injEq, and_true]
    generalize (2 : Nat) ^ (7 * i) = P
    rw [Int.mul_add, Int.natCast_add, Int.natCast_mul, Int.natCast_mul, Int.mul_assoc, show ((128 : Nat) : Int) = 128 from rfl]
    omega
  · rw [if_neg h, if_neg h, if_neg h]

/-- One byte taken in. -/
theorem take_in (acc i c : Nat) (hi : i ≤ 9) (hc : c < 256) (h9 : i = 9 → c ≤ 1) (ha : acc < 2 ^ (7 * i)) :
    Go.bits .or .u64 (acc : Int) (shl .u64 (IntKind.u64.wrap (Go.bits .and .u8 (c : Int) 127)) (wrap64 (7 * (i : Int)))) = ((2 ^ (7 * i) * (c % 128) + acc : Nat) : Int) := by
  have hw : wrap64 (7 * (i : Int)) = ((7 * i : Nat) : Int) := by unfold wrap64; omega
  have hlt : 2 ^ (7 * i) * (c % 128) + acc < 18446744073709551616 := by
    by_cases e : i = 9
    · subst e
      have := h9 rfl
      have e1 : c % 128 ≤ 1 := by omega
      simp only [Nat.reduceMul, Nat.reducePow] at ha ⊢
      omega
    · have h1 : 2 ^ (7 * i) ≤ 2 ^ 56 := Nat.pow_le_pow_right (by decide) (by omega)
      have h2 : 2 ^ (7 * i) * (c % 128) ≤ 2 ^ 56 * 127 := Nat.mul_le_mul h1 (by omega)
      omega
  have hlt' : 2 ^ (7 * i) * (c % 128) < 18446744073709551616 := Nat.lt_of_le_of_lt (Nat.le_add_right _ acc) hlt
  rw [and127 c hc, hw, wrap_u64_id (by omega) (by omega)]
  unfold shl
  have hm : min ((7 * i : Nat) : Int).toNat IntKind.u64.bits = 7 * i := by
    rw [Int.toNat_natCast]
    exact Nat.min_eq_left (by simp only [IntKind.bits]; omega)
  rw [hm]
  have e : ((c % 128 : Nat) : Int) * 2 ^ (7 * i) = ((2 ^ (7 * i) * (c % 128) : Nat) : Int) := by
    rw [Int.natCast_mul, Int.mul_comm, Int.natCast_pow, show ((2 : Nat) : Int) = 2 from rfl]
  rw [e, wrap_u64_id (by omega) (by omega)]
  exact or_high acc (c % 128) (7 * i) ha hlt

theorem rd_mid (pre t : List Int) (c : Int) : rd (pre ++ c :: t) (pre.length : Int) = c := by
  unfold rd
  simp [List.getD_eq_getElem?_getD]

theorem dec_small {i : Nat} {d : Int} {t : List Int} (h : i < 10) (h9 : ¬ (i = 9 ∧ d > 1)) (hlt : d < 128) : dec i (d :: t) = if d = 0 ∧ 0 < i then (0, 0, 21) else (d, (i : Int) + 1, 0) := by
  simp only [dec]
  rw [if_neg (by omega), if_neg h9, if_pos hlt]

theorem get_l0 (t : List Int) : ∀ (pre : List Int) (acc : Nat), (∀ x ∈ t, 0 ≤ x ∧ x < 256) → pre.length ≤ 10 → acc < 2 ^ (7 * pre.length) →
    Ev (fun k => varint_Get.l0 k (pre ++ t) (acc : Int) (pre.length : Int)) (fin acc pre.length (dec pre.length t)) := by
  induction t with
  | nil =>
    intro pre acc _ hi ha
    refine Ev.step (f := fun _ => some (fin acc pre.length (dec pre.length []))) (fun k => ?_) (Ev.now _)
    simp only [varint_Get.l0, dec]
    by_cases h : pre.length < 10
    · rw [if_pos (by omega), if_pos (by simp), if_pos h, fin_err (by decide)]
    · rw [if_neg (by omega), if_neg h, fin_err (by decide)]
  | cons c t ih =>
    intro pre acc hb hi ha
    have hc := hb c (by simp)
    have ht : ∀ x ∈ t, 0 ≤ x ∧ x < 256 := fun x hx => hb x (by simp [hx])
    obtain ⟨d, rfl⟩ := Int.eq_ofNat_of_zero_le hc.1
    have hlen : ((pre ++ (d : Int) :: t).length : Int) = pre.length + (t.length + 1) := by simp
    by_cases h : pre.length < 10
    · by_cases h9 : pre.length = 9 ∧ (d : Int) > 1
      · refine Ev.step (f := fun k => varint_Get.j1 k (pre ++ (d : Int) :: t) (acc : Int) (pre.length : Int) (d : Int) (pre.length : Int) true) (fun k => ?_) ?_
        · simp only [varint_Get.l0]
          rw [if_pos (by omega), if_neg (by omega), if_pos (by omega), if_pos (by omega), if_pos (by omega), rd_mid, decide_eq_true h9.2]
        · refine Ev.step (f := fun _ => some (0, 0, 21)) (fun k => ?_) ?_
          · simp only [varint_Get.j1]
            rw [if_pos (by simp)]
          · simp only [dec]
            rw [if_neg (by omega), if_pos h9, fin_err (by decide)]
            exact Ev.now _
      · refine Ev.step (f := fun k => varint_Get.j1 k (pre ++ (d : Int) :: t) (acc : Int) (pre.length : Int) (d : Int) (pre.length : Int) false) (fun k => ?_) ?_
        · simp only [varint_Get.l0]
          rw [if_pos (by omega), if_neg (by omega), if_pos (by omega), if_pos (by omega), rd_mid]
          by_cases e : (pre.length : Int) = 9
          · rw [if_pos e, decide_eq_false (fun h' => h9 ⟨by omega, h'⟩)]
          · rw [if_neg e]
        · have hti := take_in acc pre.length d (by omega) (by omega) (by omega) ha
          have hw : wrap64 ((pre.length : Int) + 1) = (pre.length : Int) + 1 := wrap64_id (by omega) (by omega)
          have hw7 : 0 ≤ wrap64 (7 * (pre.length : Int)) := by rw [wrap64_id (by omega) (by omega)]; omega
          by_cases hlt : (d : Int) < 128
          · refine Ev.step (f := fun _ => some (fin acc pre.length (dec pre.length ((d : Int) :: t)))) (fun k => ?_) (Ev.now _)
            rw [dec_small h h9 hlt]
            simp only [varint_Get.j1]
            rw [if_neg (by decide), if_pos hw7, if_pos hlt, hti, hw]
            have e128 : d % 128 = d := by omega
            have efin : fin acc pre.length ((d : Int), (pre.length : Int) + 1, 0) = (((2 ^ (7 * pre.length) * (d % 128) + acc : Nat) : Int), (pre.length : Int) + 1, 0) := by
              unfold fin
              rw [if_pos rfl, e128]
              simp only [Prod.mk.injEq, and_true, Int.natCast_add, Int.natCast_mul]
              omega
            by_cases h0 : (d : Int) = 0
            · rw [if_pos h0]
              by_cases hp : (pre.length : Int) > 0
              · rw [if_pos hp, if_pos ⟨h0, by omega⟩, fin_err (by decide)]
              · rw [if_neg hp, if_neg (by omega), efin]
            · rw [if_neg h0, if_neg (by omega), efin]
          · have hp1 : (pre ++ [(d : Int)]).length = pre.length + 1 := by simp
            have hacc : 2 ^ (7 * pre.length) * (d % 128) + acc < 2 ^ (7 * (pre ++ [(d : Int)]).length) := by
              rw [hp1, pow_seven]
              have : 2 ^ (7 * pre.length) * (d % 128) ≤ 2 ^ (7 * pre.length) * 127 := Nat.mul_le_mul_left _ (by omega)
              omega
            have hr := ih (pre ++ [(d : Int)]) (2 ^ (7 * pre.length) * (d % 128) + acc) ht (by omega) hacc
            rw [hp1, fin_step] at hr
            refine Ev.step (f := fun k => varint_Get.l0 k (pre ++ (d : Int) :: t) ((2 ^ (7 * pre.length) * (d % 128) + acc : Nat) : Int) ((pre.length + 1 : Nat) : Int)) (fun k => ?_) ?_
            · simp only [varint_Get.j1]
              rw [if_neg (by decide), if_pos hw7, if_neg hlt, hti, hw]
              rfl
            · simp only [dec]
              rw [if_neg (by omega), if_neg h9, if_neg hlt]
              have e : (d : Int) - 128 = ((d % 128 : Nat) : Int) := by omega
              rw [e]
              simpa using hr
    · refine Ev.step (f := fun _ => some (0, 0, 21)) (fun k => ?_) ?_
      · simp only [varint_Get.l0]
        rw [if_neg (by omega)]
      · simp only [dec]
        rw [if_pos (by omega), fin_err (by decide)]
        exact Ev.now _
theorem fin_zero (r : Int × Int × Int) (h : r.2.2 ≠ 0 → r = (0, 0, r.2.2)) : fin 0 0 r = r := by
  unfold fin
  by_cases e : r.2.2 = 0
  · rw [if_pos e]
    obtain ⟨a, b, c⟩ := r
    simp only at e
    subst e
    simp
  · rw [if_neg e]
    exact (h e).symm
theorem get_ev (l : List Int) (hb : ∀ x ∈ l, 0 ≤ x ∧ x < 256) : Ev (fun k => varint_Get.f k l) (dec 0 l) := by
  have h := get_l0 l [] 0 hb (by simp) (by simp)
  simp only [List.nil_append, List.length_nil] at h
  rw [fin_zero] at h
  · exact h
  · intro e
    rcases dec_err l 0 e with h | h <;> simp [h]

/-! ### Zig and Zag -/
theorem ofNat64 (a : Nat) (h : a < 18446744073709551616) : (BitVec.ofInt 64 (a : Int)).toNat = a := by
  rw [BitVec.ofInt_natCast, BitVec.toNat_ofNat]
  exact Nat.mod_eq_of_lt h
theorem xor_ones (a : Nat) (h : a < 18446744073709551616) : Go.bits .xor .u64 (a : Int) 18446744073709551615 = ((18446744073709551615 - a : Nat) : Int) := by
  have e1 : BitVec.ofInt 64 18446744073709551615 = BitVec.allOnes 64 := by decide
  have e2 : (BitVec.ofInt 64 (a : Int) ^^^ BitVec.allOnes 64).toNat = 18446744073709551615 - a := by
    rw [BitVec.xor_allOnes, BitVec.toNat_not, ofNat64 a h]
  show IntKind.u64.wrap ((BitVec.ofInt 64 (a : Int) ^^^ BitVec.ofInt 64 18446744073709551615).toNat : Int) = _
  rw [e1, e2]
  exact wrap_u64_id (by omega) (by omega)
theorem xor_zero_u (a : Nat) (h : a < 18446744073709551616) : Go.bits .xor .u64 (a : Int) 0 = (a : Int) := by
  have e1 : BitVec.ofInt 64 0 = 0#64 := by decide
  show IntKind.u64.wrap ((BitVec.ofInt 64 (a : Int) ^^^ BitVec.ofInt 64 0).toNat : Int) = _
  rw [e1, BitVec.xor_zero, ofNat64 a h]
  exact wrap_u64_id (by omega) (by omega)
theorem xor_zero_i (a : Nat) (h : a < 9223372036854775808) : Go.bits .xor .i64 (a : Int) 0 = (a : Int) := by
  have e1 : BitVec.ofInt 64 0 = 0#64 := by decide
  show IntKind.i64.wrap ((BitVec.ofInt 64 (a : Int) ^^^ BitVec.ofInt 64 0).toNat : Int) = _
  rw [e1, BitVec.xor_zero, ofNat64 a (by omega), IntKind.wrap_i64]
  omega
theorem xor_ones_i (a : Nat) (h : a < 9223372036854775808) : Go.bits .xor .i64 (a : Int) (-1) = -(a : Int) - 1 := by
  have e1 : BitVec.ofInt 64 (-1) = BitVec.allOnes 64 := by decide
  have e2 : (BitVec.ofInt 64 (a : Int) ^^^ BitVec.allOnes 64).toNat = 18446744073709551615 - a := by
    rw [BitVec.xor_allOnes, BitVec.toNat_not, ofNat64 a (by omega)]
  show IntKind.i64.wrap ((BitVec.ofInt 64 (a : Int) ^^^ BitVec.ofInt 64 (-1)).toNat : Int) = _
  rw [e1, e2, IntKind.wrap_i64]
  omega
theorem and_one (a : Nat) (h : a < 18446744073709551616) : Go.bits .and .u64 (a : Int) 1 = ((a % 2 : Nat) : Int) := by
  have hb := (bits_nat .u64 64 (by decide) wraps_u64 a 1 h (by decide)).1
  rw [Nat.and_one_is_mod] at hb
  exact hb
def zig (a : Int) : Nat := if 0 ≤ a then (2 * a).toNat else (-2 * a - 1).toNat
def zag (u : Nat) : Int := if u % 2 = 0 then ((u / 2 : Nat) : Int) else -((u / 2 : Nat) : Int) - 1
theorem zig_lt {a : Int} (h0 : -9223372036854775808 ≤ a) (h1 : a < 9223372036854775808) : zig a < 18446744073709551616 := by unfold zig; split <;> omega
theorem zag_lt {u : Nat} (h : u < 18446744073709551616) : -9223372036854775808 ≤ zag u ∧ zag u < 9223372036854775808 := by unfold zag; split <;> omega
theorem zag_zig (a : Int) : zag (zig a) = a := by unfold zag zig; split <;> split <;> omega
theorem zig_zag (u : Nat) : zig (zag u) = u := by unfold zag zig; split <;> split <;> omega
theorem zig_f (a : Int) (h0 : -9223372036854775808 ≤ a) (h1 : a < 9223372036854775808) : varint_Zig.f a = some ((zig a : Nat) : Int) := by
  unfold varint_Zig.f
  congr 1
  by_cases h : 0 ≤ a
  · obtain ⟨n, rfl⟩ := Int.eq_ofNat_of_zero_le h
    have e1 : IntKind.u64.wrap (IntKind.u64.wrap (n : Int) * 2) = ((2 * n : Nat) : Int) := by rw [wrap_u64, wrap_u64]; omega
    have e2 : IntKind.u64.wrap ((n : Int) / 9223372036854775808) = 0 := by rw [wrap_u64]; omega
    rw [e1, e2, xor_zero_u _ (by omega)]
    unfold zig
    rw [if_pos h]
    try omega
  · have e1 : IntKind.u64.wrap (IntKind.u64.wrap a * 2) = ((18446744073709551616 - (-2 * a).toNat : Nat) : Int) := by rw [wrap_u64, wrap_u64]; omega
    have e2 : IntKind.u64.wrap (a / 9223372036854775808) = 18446744073709551615 := by rw [wrap_u64]; omega
    rw [e1, e2, xor_ones _ (by omega)]
    unfold zig
    rw [if_neg h]
    omega
theorem zag_f (u : Nat) (h : u < 18446744073709551616) : varint_Zag.f (u : Int) = some (zag u) := by
  unfold varint_Zag.f
  congr 1
  have e1 : wrap64 ((u : Int) / 2) = ((u / 2 : Nat) : Int) := by unfold wrap64; omega
  rw [e1, and_one u h]
  unfold zag
  rcases Nat.mod_two_eq_zero_or_one u with e | e
  · rw [e, if_pos rfl]
    have e2 : wrap64 (-wrap64 ((0 : Nat) : Int)) = 0 := by unfold wrap64; omega
    rw [e2, xor_zero_i _ (by omega)]
  · rw [e, if_neg (by decide)]
    have e2 : wrap64 (-wrap64 ((1 : Nat) : Int)) = -1 := by unfold wrap64; omega
    rw [e2, xor_ones_i _ (by omega)]

theorem puts_ev : Ev (fun k => tidelinelaw02_puts.f k) true := by
  refine Ev.of (k := 30) (fun k => ?_) (by decide +kernel)
  exact tidelinelaw02_puts.mono k

/-! ### bytes as strings -/
theorem byte_of {l : List Int} (h : ∀ x ∈ l, (Lit.int .u8 x).wf = true) : ∀ x ∈ l, 0 ≤ x ∧ x < 256 := fun x hx => by
  have := h x hx
  simp [Lit.wf, IntKind.min, IntKind.max, IntKind.signed, IntKind.bits] at this
  omega
theorem u64_of {n : Int} (h : (Lit.int .u64 n).wf = true) : 0 ≤ n ∧ n < 18446744073709551616 := by
  simp [Lit.wf, IntKind.min, IntKind.max, IntKind.signed, IntKind.bits] at h
  omega
theorem i64_of {n : Int} (h : (Lit.int .i64 n).wf = true) : -9223372036854775808 ≤ n ∧ n < 9223372036854775808 := by
  simp [Lit.wf, IntKind.min, IntKind.max, IntKind.signed, IntKind.bits] at h
  omega
end Go.Proofs.Ytlfaicpcdiphkaa.Vi
