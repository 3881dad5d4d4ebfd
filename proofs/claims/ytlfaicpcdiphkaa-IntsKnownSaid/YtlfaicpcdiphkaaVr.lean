/- Plain theory of the reference's varint: its Put and Get compute what the program's do. Conditions: bytes are from 0 to 255, numbers lie in their kinds' ranges. -/
import Derived.Test.YtlfaicpcdiphkaaVi
import Derived.Test.YtlfaicpcdiphkaaM2
import Derived.Test.YtlfaicpcdiphkaaM8
namespace Go.Proofs.Ytlfaicpcdiphkaa.Vi
open Go.RowKit Go.Proofs.Ytlfaicpcdiphkaa.M Go.Proofs.YtlfaicpcdiphkaaW.PrintWords Go.Proofs.YtlfaicpcdiphkaaW.PrintLast Go.Proofs.YtlfaicpcdiphkaaW.PrintMore

theorem tdiv_nat (v m : Nat) : Int.tdiv (v : Int) (m : Int) = ((v / m : Nat) : Int) := by
  rw [Int.tdiv_eq_ediv_of_nonneg (by omega)]
  omega
theorem tmod_nat (v m : Nat) : Int.tmod (v : Int) (m : Int) = ((v % m : Nat) : Int) := by
  rw [Int.tmod_eq_emod_of_nonneg (by omega)]
  omega

theorem refput_l0 (v : Nat) : ∀ l : List Int, v < 18446744073709551616 → l.length + (enc v).length ≤ 140737488355328 → Ev (fun k => tidelineref02_Put.l0 k (v : Int) l) (l ++ enc v) := by
  induction v using Nat.strongRecOn with
  | _ v ih =>
    intro l hv hl
    have e1 : IntKind.u64.wrap (Int.tdiv (v : Int) 128) = ((v / 128 : Nat) : Int) := by
      have := tdiv_nat v 128
      rw [show ((128 : Nat) : Int) = 128 from rfl] at this
      rw [this, wrap_u64_id (by omega) (by omega)]
    have e2 : Int.tmod (v : Int) 128 % 256 = ((v % 128 : Nat) : Int) := by
      have := tmod_nat v 128
      rw [show ((128 : Nat) : Int) = 128 from rfl] at this
      rw [this]; omega
    by_cases h : v < 128
    · rw [enc_small h] at hl ⊢
      simp only [List.length_cons, List.length_nil] at hl
      refine Ev.step (f := fun _ => some (l ++ [(v : Int)])) (fun k => ?_) (Ev.now _)
      simp only [tidelineref02_Put.l0]
      rw [e1, if_pos (by omega), if_pos (by omega), e2, Nat.mod_eq_of_lt h]
    · rw [enc_big h] at hl ⊢
      simp only [List.length_cons] at hl
      have hp := enc_pos (v / 128)
      refine Ev.step (f := fun k => tidelineref02_Put.l0 k ((v / 128 : Nat) : Int) (l ++ [((v % 128 + 128 : Nat) : Int)])) (fun k => ?_) ?_
      · simp only [tidelineref02_Put.l0]
        have e3 : (Int.tmod (v : Int) 128 + 128) % 256 = ((v % 128 + 128 : Nat) : Int) := by
          have := tmod_nat v 128
          rw [show ((128 : Nat) : Int) = 128 from rfl] at this
          rw [this]; omega
        rw [e1, if_neg (by omega), if_pos (by omega), e3]
      · have := ih (v / 128) (by omega) (l ++ [((v % 128 + 128 : Nat) : Int)]) (by omega) (by simp only [List.length_append, List.length_cons, List.length_nil]; omega)
        simpa using this
theorem refput_ev (v : Nat) (hv : v < 18446744073709551616) : Ev (fun k => tidelineref02_Put.f k (v : Int)) (enc v) := by
  have h10 := enc_ten hv
  have := refput_l0 v [] hv (by simp; omega)
  exact Ev.congr (fun k => rfl) this

/-! ### Get -/
def up : List Int → Int → Int
  | [], v => v
  | c :: p, v => c - 128 + 128 * up p v
theorem up_snoc (q : List Int) (c v : Int) : up (q ++ [c]) v = up q (c - 128 + 128 * v) := by
  induction q with
  | nil => rfl
  | cons a q ih => simp only [List.cons_append, up, ih]
def fold (p : List Int) (r : Int × Int × Int) : Int × Int × Int := if r.2.2 = 0 then (up p r.1, r.2.1, 0) else (0, 0, r.2.2)
theorem fold_err {p : List Int} {e : Int} (h : e ≠ 0) : fold p (0, 0, e) = (0, 0, e) := by unfold fold; rw [if_neg h]
theorem fold_snoc (q : List Int) (c : Int) (r : Int × Int × Int) : fold (q ++ [c]) r = fold q (if r.2.2 = 0 then (c - 128 + 128 * r.1, r.2.1, 0) else (0, 0, r.2.2)) := by
  unfold fold
  by_cases h : r.2.2 = 0
  · rw [if_pos h, if_pos h, if_pos rfl, up_snoc]
  · rw [if_neg h, if_neg h, if_neg h]
theorem dec_ten (t : List Int) : dec 10 t = (0, 0, 21) := by
  cases t with
  | nil => rfl
  | cons c t => simp only [dec]; rw [if_pos (by decide)]

theorem ref_l1 (m : Nat) : ∀ (pre rest : List Int) (n v : Nat), pre.length = m → m ≤ 9 → n ≤ 9 → (∀ x ∈ pre, 128 ≤ x ∧ x < 256) → v < 2 ^ (64 - 7 * m) →
    Ev (fun k => tidelineref02_Get.l1 k (pre ++ rest) (n : Int) (v : Int) ((m : Int) - 1)) (up pre (v : Int), (n : Int) + 1, 0) := by
  induction m with
  | zero =>
    intro pre rest n v hp _ hn _ _
    obtain rfl := List.eq_nil_of_length_eq_zero hp
    refine Ev.step (f := fun _ => some ((v : Int), (n : Int) + 1, 0)) (fun k => ?_) (Ev.now _)
    simp only [tidelineref02_Get.l1]
    rw [if_neg (by omega), wrap64_id (by omega) (by omega)]
  | succ m ih =>
    intro pre rest n v hp hm hn hb hv
    obtain ⟨q, c, rfl⟩ : ∃ q c, pre = q ++ [c] := ⟨pre.dropLast, pre.getLast (by intro h; rw [h] at hp; simp at hp), (List.dropLast_concat_getLast _).symm⟩
    have hq : q.length = m := by simpa using hp
    have hc := hb c (by simp)
    obtain ⟨d, rfl⟩ := Int.eq_ofNat_of_zero_le (show 0 ≤ c by omega)
    have hps := pow_step m (by omega)
    have hle : 2 ^ (64 - 7 * m) ≤ 2 ^ 64 := Nat.pow_le_pow_right (by decide) (by omega)
    have hrd : rd (q ++ [(d : Int)] ++ rest) (((m + 1 : Nat) : Int) - 1) = d := by
      rw [show ((m + 1 : Nat) : Int) - 1 = (q.length : Int) by omega, List.append_assoc]
      exact rd_mid q rest d
    have hr := ih q ((d : Int) :: rest) n (d - 128 + 128 * v) hq (by omega) hn (fun x hx => hb x (by simp [hx])) (by omega)
    rw [show ((d - 128 + 128 * v : Nat) : Int) = (d : Int) - 128 + 128 * (v : Int) by omega] at hr
    rw [up_snoc]
    refine Ev.step (f := fun k => tidelineref02_Get.l1 k (q ++ (d : Int) :: rest) (n : Int) ((d : Int) - 128 + 128 * (v : Int)) ((m : Int) - 1)) (fun k => ?_) hr
    simp only [tidelineref02_Get.l1]
    rw [if_pos (by omega), if_pos (by omega), if_pos (by simp; omega), hrd]
    have e1 : Int.tmod (d : Int) 128 = ((d - 128 : Nat) : Int) := by
      have := tmod_nat d 128
      rw [show ((128 : Nat) : Int) = 128 from rfl] at this
      rw [this]; omega
    have e2 : IntKind.u64.wrap (IntKind.u64.wrap ((v : Int) * 128) + IntKind.u64.wrap (Int.tmod (d : Int) 128)) = (d : Int) - 128 + 128 * (v : Int) := by
      rw [e1, wrap_u64_id (n := (v : Int) * 128) (by omega) (by omega), wrap_u64_id (n := ((d - 128 : Nat) : Int)) (by omega) (by omega), wrap_u64_id (by omega) (by omega)]
      omega
    rw [e2, wrap64_id (by omega) (by omega), show ((m + 1 : Nat) : Int) - 1 - 1 = (m : Int) - 1 by omega, List.append_assoc]
    rfl

theorem ref_l0 (t : List Int) : ∀ (pre : List Int), (∀ x ∈ t, 0 ≤ x ∧ x < 256) → (∀ x ∈ pre, 128 ≤ x ∧ x < 256) → pre.length ≤ 10 →
    Ev (fun k => tidelineref02_Get.l0 k (pre ++ t) (pre.length : Int)) (fold pre (dec pre.length t)) := by
  induction t with
  | nil =>
    intro pre _ hp hi
    refine Ev.step (f := fun k => tidelineref02_Get.j1 k (pre ++ []) (pre.length : Int)) (fun k => ?_) ?_
    · simp only [tidelineref02_Get.l0]
      rw [if_neg (by simp)]
    refine Ev.step (f := fun k => tidelineref02_Get.j2 k (pre ++ []) (pre.length : Int) (decide ((pre.length : Int) < 10))) (fun k => ?_) ?_
    · simp only [tidelineref02_Get.j1]
      rw [if_pos (by simp)]
    by_cases h : pre.length < 10
    · refine Ev.step (f := fun _ => some (0, 0, 20)) (fun k => ?_) ?_
      · simp only [tidelineref02_Get.j2]
        rw [decide_eq_true (by omega), if_pos (by simp)]
      · simp only [dec]
        rw [if_pos h, fold_err (by decide)]
        exact Ev.now _
    · refine Ev.step (f := fun k => tidelineref02_Get.j3 k (pre ++ []) (pre.length : Int) true) (fun k => ?_) ?_
      · simp only [tidelineref02_Get.j2]
        rw [decide_eq_false (by omega), if_neg (by decide), if_pos (by omega)]
      · refine Ev.step (f := fun _ => some (0, 0, 21)) (fun k => ?_) ?_
        · simp only [tidelineref02_Get.j3]
          rw [if_pos (by simp)]
        · simp only [dec]
          rw [if_neg h, fold_err (by decide)]
          exact Ev.now _
  | cons c t ih =>
    intro pre hb hp hi
    have hc := hb c (by simp)
    have ht : ∀ x ∈ t, 0 ≤ x ∧ x < 256 := fun x hx => hb x (by simp [hx])
    have hlen : ((pre ++ c :: t).length : Int) = pre.length + (t.length + 1) := by simp
    by_cases h : pre.length < 10
    · by_cases hge : c ≥ 128
      · have hr := ih (pre ++ [c]) ht (fun x hx => by
          rcases List.mem_append.1 hx with hx | hx
          · exact hp x hx
          · simp at hx; omega) (by simp; omega)
        rw [show (pre ++ [c]).length = pre.length + 1 by simp, fold_snoc] at hr
        refine Ev.step (f := fun k => tidelineref02_Get.l0 k (pre ++ [c] ++ t) ((pre.length + 1 : Nat) : Int)) (fun k => ?_) ?_
        · simp only [tidelineref02_Get.l0]
          rw [if_pos (by omega), if_pos (by omega), if_pos (by omega), rd_mid, if_pos hge, wrap64_id (by omega) (by omega)]
          simp
        · by_cases h9 : pre.length = 9 ∧ c > 1
          · have e : dec pre.length (c :: t) = (0, 0, 21) := by
              simp only [dec]
              rw [if_neg (by omega), if_pos h9]
            rw [e, fold_err (by decide)]
            rw [h9.1, dec_ten, if_neg (by decide), fold_err (by decide)] at hr
            rw [h9.1]
            exact hr
          · have e : dec pre.length (c :: t) = if (dec (pre.length + 1) t).2.2 = 0 then (c - 128 + 128 * (dec (pre.length + 1) t).1, (dec (pre.length + 1) t).2.1, 0) else (0, 0, (dec (pre.length + 1) t).2.2) := by
              simp only [dec]
              rw [if_neg (by omega), if_neg h9, if_neg (by omega)]
            rw [e]
            exact hr
      · obtain ⟨d, rfl⟩ := Int.eq_ofNat_of_zero_le hc.1
        refine Ev.step (f := fun k => tidelineref02_Get.j1 k (pre ++ (d : Int) :: t) (pre.length : Int)) (fun k => ?_) ?_
        · simp only [tidelineref02_Get.l0]
          rw [if_pos (by omega), if_pos (by omega), if_pos (by omega), rd_mid, if_neg hge]
        refine Ev.step (f := fun k => tidelineref02_Get.j2 k (pre ++ (d : Int) :: t) (pre.length : Int) false) (fun k => ?_) ?_
        · simp only [tidelineref02_Get.j1]
          rw [if_neg (by omega)]
        have hbad : Ev (fun k => tidelineref02_Get.j3 k (pre ++ (d : Int) :: t) (pre.length : Int) true) (0, 0, 21) := by
          refine Ev.step (f := fun _ => some (0, 0, 21)) (fun k => ?_) (Ev.now _)
          simp only [tidelineref02_Get.j3]
          rw [if_pos (by simp)]
        have hgood : ¬ (pre.length = 9 ∧ (d : Int) > 1) → Ev (fun k => tidelineref02_Get.j3 k (pre ++ (d : Int) :: t) (pre.length : Int) false) (up pre (d : Int), (pre.length : Int) + 1, 0) := by
          intro h9
          have hv : d < 2 ^ (64 - 7 * pre.length) := by
            by_cases e : pre.length = 9
            · rw [e]
              have : d ≤ 1 := by omega
              simp; omega
            · have : 2 ^ 8 ≤ 2 ^ (64 - 7 * pre.length) := Nat.pow_le_pow_right (by decide) (by omega)
              omega
          have hr := ref_l1 pre.length pre ((d : Int) :: t) pre.length d rfl (by omega) (by omega) hp hv
          refine Ev.step (f := fun k => tidelineref02_Get.l1 k (pre ++ (d : Int) :: t) (pre.length : Int) 0 (pre.length : Int)) (fun k => ?_) ?_
          · simp only [tidelineref02_Get.j3]
            rw [if_neg (by decide)]
          refine Ev.step (f := fun k => tidelineref02_Get.l1 k (pre ++ (d : Int) :: t) (pre.length : Int) (d : Int) ((pre.length : Int) - 1)) (fun k => ?_) hr
          simp only [tidelineref02_Get.l1]
          rw [if_pos (by omega), if_pos (by omega), if_pos (by omega), rd_mid]
          have e1 : Int.tmod (d : Int) 128 = (d : Int) := by
            have := tmod_nat d 128
            rw [show ((128 : Nat) : Int) = 128 from rfl] at this
            rw [this]; omega
          rw [e1, wrap64_id (by omega) (by omega)]
          congr 1
          rw [wrap_u64_id (n := 0 * 128) (by omega) (by omega), wrap_u64_id (n := (d : Int)) (by omega) (by omega), wrap_u64_id (by omega) (by omega)]
          omega
        have hdec : dec pre.length ((d : Int) :: t) = if pre.length = 9 ∧ (d : Int) > 1 then (0, 0, 21) else if (d : Int) = 0 ∧ 0 < pre.length then (0, 0, 21) else ((d : Int), (pre.length : Int) + 1, 0) := by
          simp only [dec]
          rw [if_neg (by omega)]
          split
          · rfl
          · rw [if_pos (by omega)]
        rw [hdec]
        by_cases h9 : pre.length = 9 ∧ (d : Int) > 1
        · rw [if_pos h9, fold_err (by decide)]
          refine Ev.step (f := fun k => tidelineref02_Get.j3 k (pre ++ (d : Int) :: t) (pre.length : Int) true) (fun k => ?_) hbad
          simp only [tidelineref02_Get.j2]
          have e9 : rd (pre ++ (d : Int) :: t) 9 = d := by
            have := rd_mid pre t d
            rwa [show (pre.length : Int) = 9 by omega] at this
          rw [if_neg (by decide), if_neg (by omega), if_pos (by omega), if_pos (by omega), e9, if_pos h9.2]
        · rw [if_neg h9]
          by_cases h0 : 0 < pre.length
          · have hstep : ∀ k, tidelineref02_Get.j2 (k + 1) (pre ++ (d : Int) :: t) (pre.length : Int) false = tidelineref02_Get.j3 k (pre ++ (d : Int) :: t) (pre.length : Int) ((d : Int) == 0) := by
              intro k
              simp only [tidelineref02_Get.j2]
              rw [if_neg (by decide), if_neg (by omega)]
              by_cases e : (pre.length : Int) = 9
              · have e9 : rd (pre ++ (d : Int) :: t) 9 = d := by
                  have := rd_mid pre t d
                  rwa [e] at this
                rw [if_pos e, if_pos (by omega), e9, if_neg (by omega), if_pos (by omega), if_pos (by omega), if_pos (by omega), rd_mid]
              · rw [if_neg e, if_pos (by omega), if_pos (by omega), if_pos (by omega), rd_mid]
            refine Ev.step hstep ?_
            by_cases hd : (d : Int) = 0
            · rw [if_pos ⟨hd, h0⟩, fold_err (by decide), beq_iff_eq.2 hd]
              exact hbad
            · rw [if_neg (by omega), beq_eq_false_iff_ne.2 hd]
              unfold fold
              rw [if_pos rfl]
              exact hgood h9
          · refine Ev.step (f := fun k => tidelineref02_Get.j3 k (pre ++ (d : Int) :: t) (pre.length : Int) false) (fun k => ?_) ?_
            · simp only [tidelineref02_Get.j2]
              rw [if_neg (by decide), if_neg (by omega), if_neg (by omega), if_neg (by omega)]
            · rw [if_neg (by omega)]
              unfold fold
              rw [if_pos rfl]
              exact hgood h9
    · have e10 : pre.length = 10 := by omega
      refine Ev.step (f := fun k => tidelineref02_Get.j1 k (pre ++ c :: t) (pre.length : Int)) (fun k => ?_) ?_
      · simp only [tidelineref02_Get.l0]
        rw [if_pos (by omega), if_neg (by omega)]
      refine Ev.step (f := fun k => tidelineref02_Get.j2 k (pre ++ c :: t) (pre.length : Int) false) (fun k => ?_) ?_
      · simp only [tidelineref02_Get.j1]
        rw [if_neg (by omega)]
      refine Ev.step (f := fun k => tidelineref02_Get.j3 k (pre ++ c :: t) (pre.length : Int) true) (fun k => ?_) ?_
      · simp only [tidelineref02_Get.j2]
        rw [if_neg (by decide), if_pos (by omega)]
      refine Ev.step (f := fun _ => some (0, 0, 21)) (fun k => ?_) ?_
      · simp only [tidelineref02_Get.j3]
        rw [if_pos (by simp)]
      · rw [e10, dec_ten, fold_err (by decide)]
        exact Ev.now _
theorem refget_ev (l : List Int) (hb : ∀ x ∈ l, 0 ≤ x ∧ x < 256) : Ev (fun k => tidelineref02_Get.f k l) (dec 0 l) := by
  have h := ref_l0 l [] hb (by simp) (by simp)
  simp only [List.nil_append, List.length_nil] at h
  have e : fold [] (dec 0 l) = dec 0 l := by
    unfold fold
    by_cases e : (dec 0 l).2.2 = 0
    · rw [if_pos e]
      generalize dec 0 l = r at e ⊢
      obtain ⟨a, b, c⟩ := r
      simp only at e
      subst e
      rfl
    · rw [if_neg e]
      rcases dec_err l 0 e with h | h <;> simp [h]
  rw [e] at h
  exact h
end Go.Proofs.Ytlfaicpcdiphkaa.Vi
