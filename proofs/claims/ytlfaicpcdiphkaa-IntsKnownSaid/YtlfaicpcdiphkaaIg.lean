/- What ints.Get and the reference's Get compute; what the reference's Put computes; when two rows are the same. Conditions: bytes are from 0 to 255, and the bounds that each statement names. -/
import Derived.Test.YtlfaicpcdiphkaaIv
import Derived.Test.YtlfaicpcdiphkaaVr
import Derived.Test.YtlfaicpcdiphkaaM10
import Derived.Test.YtlfaicpcdiphkaaM11
import Derived.Test.YtlfaicpcdiphkaaM25
import Derived.Test.YtlfaicpcdiphkaaM20
import Derived.Test.YtlfaicpcdiphkaaM21
import Derived.Test.YtlfaicpcdiphkaaM23
namespace Go.Proofs.Ytlfaicpcdiphkaa.Vi
open Go.RowKit Go.Proofs.Ytlfaicpcdiphkaa.M Go.Proofs.YtlfaicpcdiphkaaW.PrintWords Go.Proofs.YtlfaicpcdiphkaaW.PrintLast Go.Proofs.YtlfaicpcdiphkaaW.PrintMore

theorem rzig_f (a : Int) (h0 : -9223372036854775808 ≤ a) (h1 : a < 9223372036854775808) : tidelineref02_Zig.f a = some ((zig a : Nat) : Int) := by
  unfold tidelineref02_Zig.f zig
  by_cases h : 0 ≤ a
  · rw [if_pos h, if_pos h, wrap_u64_id (n := a) (by omega) (by omega), wrap_u64_id (by omega) (by omega)]
    congr 1
    omega
  · rw [if_neg h, if_neg h, wrap64_id (n := a + 1) (by omega) (by omega), wrap64_id (n := -(a + 1)) (by omega) (by omega), wrap_u64_id (n := -(a + 1)) (by omega) (by omega), wrap_u64_id (n := 2 * -(a + 1)) (by omega) (by omega), wrap_u64_id (by omega) (by omega)]
    congr 1
    omega
theorem rzag_f (u : Nat) (h : u < 18446744073709551616) : tidelineref02_Zag.f (u : Int) = some (zag u) := by
  unfold tidelineref02_Zag.f zag
  have e1 : Int.tmod (u : Int) 2 = ((u % 2 : Nat) : Int) := tmod_nat u 2
  have e2 : Int.tdiv (u : Int) 2 = ((u / 2 : Nat) : Int) := tdiv_nat u 2
  rw [e1, e2, wrap_u64_id (by omega) (by omega), wrap64_id (n := ((u / 2 : Nat) : Int)) (by omega) (by omega)]
  rcases Nat.mod_two_eq_zero_or_one u with e | e
  · rw [e, if_pos (by rfl), if_pos rfl]
  · rw [e, if_neg (by decide), if_neg (by decide), wrap64_id (n := -((u / 2 : Nat) : Int)) (by omega) (by omega), wrap64_id (by omega) (by omega)]
/-- The answer of a reading, behind what is there already. -/
def outc (acc : List Int) (last step : Int) (q : List (Nat × Int) × Int) : List Int × Int := if q.2 = 0 then (acc ++ intg (flat q.1) last step, 0) else ([], q.2)
theorem outc_err (acc : List Int) (last step e : Int) (h : e ≠ 0) : outc acc last step ([], e) = ([], e) := by unfold outc; rw [if_neg h]

theorem get_l1 (b : List Int) (n ch : Int) (r : List Int × Int) (m : Nat) : ∀ (acc : List Int) (last step : Int) (v j : Nat), j + m = v → v ≤ 65536 → acc.length + m ≤ 65536 →
    Ev (fun k => ints_Get.l0 k b n (acc ++ intg (List.replicate m ch) last step) (ends (List.replicate m ch) last step).1 (ends (List.replicate m ch) last step).2 ch) r →
    Ev (fun k => ints_Get.l1 k b n acc last step ch (v : Int) (j : Int)) r := by
  induction m with
  | zero =>
    intro acc last step v j hj hv hl h
    refine Ev.step (fun k => ?_) h
    simp only [ints_Get.l1]
    rw [if_neg (by omega)]
    simp [intg, ends]
  | succ m ih =>
    intro acc last step v j hj hv hl h
    refine Ev.step (f := fun k => ints_Get.l1 k b n (acc ++ [wrap64 (last + wrap64 (step + ch))]) (wrap64 (last + wrap64 (step + ch))) (wrap64 (step + ch)) ch (v : Int) ((j + 1 : Nat) : Int)) (fun k => ?_) ?_
    · simp only [ints_Get.l1]
      rw [if_pos (by omega), if_pos (by omega), wrap_u64_id (by omega) (by omega)]
      rfl
    · refine ih _ _ _ v (j + 1) (by omega) hv (by simp; omega) ?_
      simp only [List.replicate_succ, intg, ends] at h
      simpa using h

theorem get_j2 (b : List Int) (n : Int) (acc : List Int) (last step : Int) (v n1 z m1 : Nat) (r : List Int × Int) (hv : v ≤ 65536) (hl : acc.length + v ≤ 65536) (hz : z < 18446744073709551616) (hb : n1 + m1 ≤ b.length) (hb2 : n1 + m1 ≤ 65536)
    (h : Ev (fun k => ints_Get.l0 k (b.drop (n1 + m1)) n (acc ++ intg (List.replicate v (zag z)) last step) (ends (List.replicate v (zag z)) last step).1 (ends (List.replicate v (zag z)) last step).2 (zag z)) r) :
    Ev (fun k => ints_Get.j2 k b n acc last step (v : Int) (n1 : Int) (z : Int) (m1 : Int)) r := by
  have h1 := get_l1 (b.drop (n1 + m1)) n (zag z) r v acc last step v 0 (by omega) hv hl h
  refine Ev.step (fun k => ?_) h1
  simp only [ints_Get.j2]
  rw [← Int.natCast_add, wrap64_id (by omega) (by omega), if_pos (by omega), if_pos (by omega), zag_f z hz, Int.toNat_natCast]
  rfl

theorem dec_ten_le (b : List Int) (hb : ∀ x ∈ b, 0 ≤ x ∧ x < 256) (v n : Nat) (hd : dec 0 b = ((v : Int), (n : Int), 0)) : n ≤ 10 := by
  obtain ⟨v', n', hd', hv, h0, hl, hE, _⟩ := dec_ok b 0 (by omega) hb (by rw [hd])
  rw [hd] at hd'
  simp only [Prod.mk.injEq, and_true] at hd'
  have e := congrArg List.length hE
  rw [List.length_take] at e
  have := enc_ten (v := v') (by simpa using hv)
  omega

theorem gets_l0 (n : Nat) (hn : n ≤ 65536) (f : Nat) : ∀ (b : List Int) (need : Nat) (prev : Option Int) (acc : List Int) (last step ch : Int), (∀ x ∈ b, 0 ≤ x ∧ x < 256) → b.length < f → need + acc.length = n →
    (acc.length = 0 → prev = none) → (0 < acc.length → prev = some ch) →
    Ev (fun k => ints_Get.l0 k b (n : Int) acc last step ch) (outc acc last step (decR f b need prev)) := by
  induction f with
  | zero => intro b _ _ _ _ _ _ _ h; omega
  | succ f ih =>
    intro b need prev acc last step ch hb hf hacc hp0 hp1
    obtain ⟨K1, h1⟩ := get_ev b hb
    rcases rd_some b need hb with ⟨rfl, rfl⟩ | ⟨hne, rfl⟩ | ⟨rfl, h⟩ | ⟨h, hne, e, h2, hd⟩ | ⟨h, hne, v, n1, hd, hvl, hv⟩ | ⟨h, hne, v, n1, hd, h0, hv, hn0, hnl, e, h2, hd2⟩ | ⟨h, hne, v, n1, z, m, hd, h0, hv, hn0, hl, hd2, hz, hE, hE2⟩
    · rw [decR_end]
      refine Ev.step (f := fun _ => some (acc, 0)) (fun k => ?_) ?_
      · simp only [ints_Get.l0]
        rw [if_neg (by omega), if_neg (by simp)]
      · have : outc acc last step ([], 0) = (acc, 0) := by simp [outc, flat, intg]
        rw [this]
        exact Ev.now _
    · have hpos := List.length_pos_iff.2 hne
      rw [decR_left f b prev hne, outc_err _ _ _ _ (by decide)]
      refine Ev.step (f := fun _ => some ([], 21)) (fun k => ?_) (Ev.now _)
      simp only [ints_Get.l0]
      rw [if_neg (by omega), if_pos (by omega)]
    · rw [decR_short f need prev h, outc_err _ _ _ _ (by decide)]
      refine Ev.step (f := fun _ => some ([], 20)) (fun k => ?_) (Ev.now _)
      simp only [ints_Get.l0]
      rw [if_pos (by omega), if_pos (by simp)]
    · have hpos := List.length_pos_iff.2 hne
      rw [decR_bad f b need prev h hne e h2 hd, outc_err _ _ _ _ (by rcases h2 with rfl | rfl <;> decide)]
      rw [hd] at h1
      refine ⟨K1 + 1, fun k hk => ?_⟩
      obtain ⟨k, rfl⟩ : ∃ m, k = m + 1 := ⟨k - 1, by omega⟩
      have e1 : varint_Get.f k b = some (0, 0, e) := h1 k (by omega)
      simp only [ints_Get.l0]
      rw [if_pos (by omega), if_neg (by omega), e1, Option.bind_some]
      dsimp only
      rw [if_neg (by rcases h2 with rfl | rfl <;> decide)]
    · have hpos := List.length_pos_iff.2 hne
      rw [decR_many f b need prev h hne v n1 hd hv, outc_err _ _ _ _ (by decide)]
      rw [hd] at h1
      refine ⟨K1 + 1, fun k hk => ?_⟩
      obtain ⟨k, rfl⟩ : ∃ m, k = m + 1 := ⟨k - 1, by omega⟩
      have e1 : varint_Get.f k b = some ((v : Int), (n1 : Int), 0) := h1 k (by omega)
      simp only [ints_Get.l0]
      rw [if_pos (by omega), if_neg (by omega), e1, Option.bind_some]
      dsimp only
      rw [if_pos rfl, wrap64_id (by omega) (by omega), wrap_u64_id (by omega) (by omega)]
      by_cases hv0 : v = 0
      · rw [if_pos (by omega)]
      · rw [if_neg (by omega), if_pos (by omega)]
    · have hpos := List.length_pos_iff.2 hne
      rw [decR_bad2 f b need prev h hne v n1 hd h0 hv e h2 hd2, outc_err _ _ _ _ (by rcases h2 with rfl | rfl <;> decide)]
      rw [hd] at h1
      obtain ⟨K2, h2'⟩ := get_ev (b.drop n1) (fun x hx => hb x (List.mem_of_mem_drop hx))
      rw [hd2] at h2'
      refine ⟨K1 + K2 + 1, fun k hk => ?_⟩
      obtain ⟨k, rfl⟩ : ∃ m, k = m + 1 := ⟨k - 1, by omega⟩
      have e1 : varint_Get.f k b = some ((v : Int), (n1 : Int), 0) := h1 k (by omega)
      have e2 : varint_Get.f k (b.drop n1) = some (0, 0, e) := h2' k (by omega)
      simp only [ints_Get.l0]
      rw [if_pos (by omega), if_neg (by omega), e1, Option.bind_some]
      dsimp only
      rw [if_pos rfl, wrap64_id (by omega) (by omega), wrap_u64_id (by omega) (by omega), if_neg (by omega), if_neg (by omega), if_pos (by omega), if_pos (by omega), Int.toNat_natCast, e2, Option.bind_some]
      dsimp only
      rw [if_neg (by rcases h2 with rfl | rfl <;> decide)]
    · have hpos := List.length_pos_iff.2 hne
      rw [decR_go f b need prev h hne v n1 z m hd h0 hv hd2]
      have hb2 : ∀ x ∈ b.drop n1, 0 ≤ x ∧ x < 256 := fun x hx => hb x (List.mem_of_mem_drop hx)
      have hb3 : ∀ x ∈ b.drop (n1 + m), 0 ≤ x ∧ x < 256 := fun x hx => hb x (List.mem_of_mem_drop hx)
      have t1 := dec_ten_le b hb v n1 hd
      have t2 := dec_ten_le _ hb2 z m hd2
      obtain ⟨K2, h2'⟩ := get_ev (b.drop n1) hb2
      rw [hd] at h1
      rw [hd2] at h2'
      have hacl : (acc ++ intg (List.replicate v (zag z)) last step).length = acc.length + v := by rw [List.length_append, intg_len, List.length_replicate]
      have hih := ih (b.drop (n1 + m)) (need - v) (some (zag z)) (acc ++ intg (List.replicate v (zag z)) last step) (ends (List.replicate v (zag z)) last step).1 (ends (List.replicate v (zag z)) last step).2 (zag z) hb3 (by rw [List.length_drop]; omega)
        (by rw [hacl]; omega) (by rw [hacl]; omega) (fun _ => rfl)
      have hj := get_j2 b (n : Int) acc last step v n1 z m _ (by omega) (by omega) hz (by omega) (by omega) hih
      have hout : outc (acc ++ intg (List.replicate v (zag z)) last step) (ends (List.replicate v (zag z)) last step).1 (ends (List.replicate v (zag z)) last step).2 (decR f (b.drop (n1 + m)) (need - v) (some (zag z))) =
          outc acc last step (if (decR f (b.drop (n1 + m)) (need - v) (some (zag z))).2 = 0 then ((v, zag z) :: (decR f (b.drop (n1 + m)) (need - v) (some (zag z))).1, 0) else ([], (decR f (b.drop (n1 + m)) (need - v) (some (zag z))).2)) := by
        by_cases hq : (decR f (b.drop (n1 + m)) (need - v) (some (zag z))).2 = 0
        · rw [if_pos hq]
          unfold outc
          rw [if_pos hq, if_pos rfl]
          simp only [flat]
          rw [intg_append, List.append_assoc]
        · rw [if_neg hq]
          unfold outc
          rw [if_neg hq, if_neg hq]
      rw [hout] at hj
      have hK : ∀ k, K1 + K2 ≤ k → ints_Get.l0 (k + 1) b (n : Int) acc last step ch = if (acc.length : Int) > 0 then (if zag z = ch then some ([], 21) else ints_Get.j2 k b (n : Int) acc last step (v : Int) (n1 : Int) (z : Int) (m : Int)) else ints_Get.j2 k b (n : Int) acc last step (v : Int) (n1 : Int) (z : Int) (m : Int) := by
        intro k hk
        have e1 : varint_Get.f k b = some ((v : Int), (n1 : Int), 0) := h1 k (by omega)
        have e2 : varint_Get.f k (b.drop n1) = some ((z : Int), (m : Int), 0) := h2' k (by omega)
        simp only [ints_Get.l0]
        rw [if_pos (by omega), if_neg (by omega), e1, Option.bind_some]
        dsimp only
        rw [if_pos rfl, wrap64_id (by omega) (by omega), wrap_u64_id (by omega) (by omega), if_neg (by omega), if_neg (by omega), if_pos (by omega), if_pos (by omega), Int.toNat_natCast, e2, Option.bind_some]
        dsimp only
        rw [if_pos rfl, zag_f z hz, Option.bind_some]
      obtain ⟨K3, h3⟩ := hj
      by_cases hpv : prev = some (zag z)
      · rw [if_pos hpv, outc_err _ _ _ _ (by decide)]
        have ha : 0 < acc.length := Nat.pos_of_ne_zero fun e => by rw [hp0 e] at hpv; cases hpv
        have hc : zag z = ch := by
          rw [hp1 ha] at hpv
          exact (Option.some.inj hpv).symm
        refine ⟨K1 + K2 + 1, fun k hk => ?_⟩
        obtain ⟨k, rfl⟩ : ∃ m, k = m + 1 := ⟨k - 1, by omega⟩
        show ints_Get.l0 (k + 1) b (n : Int) acc last step ch = _
        rw [hK k (by omega), if_pos (by omega), if_pos hc]
      · rw [if_neg hpv]
        refine ⟨K1 + K2 + K3 + 1, fun k hk => ?_⟩
        obtain ⟨k, rfl⟩ : ∃ m, k = m + 1 := ⟨k - 1, by omega⟩
        show ints_Get.l0 (k + 1) b (n : Int) acc last step ch = _
        rw [hK k (by omega)]
        have h3' := h3 k (by omega)
        by_cases ha : (acc.length : Int) > 0
        · rw [if_pos ha, if_neg (fun e => hpv (by rw [hp1 (by omega), e]))]
          exact h3'
        · rw [if_neg ha]
          exact h3'
theorem dgot_ev (b : List Int) (n : Int) (hb : ∀ x ∈ b, 0 ≤ x ∧ x < 256) : Ev (fun k => ints_Get.f k b n) (dgot b n) := by
  have hj : Ev (fun k => ints_Get.j0 k b n (decide (n < 0 ∨ 65536 < n))) (dgot b n) := by
    unfold dgot
    by_cases h : n < 0 ∨ 65536 < n
    · rw [if_pos h, decide_eq_true h]
      refine Ev.step (f := fun _ => some ([], 1)) (fun k => ?_) (Ev.now _)
      simp only [ints_Get.j0]
      rw [if_pos (by simp)]
    · rw [if_neg h, decide_eq_false h]
      obtain ⟨m, rfl⟩ := Int.eq_ofNat_of_zero_le (show 0 ≤ n by omega)
      have := gets_l0 m (by omega) (b.length + 1) b m none [] 0 0 0 hb (by omega) (by simp) (fun _ => rfl) (by simp)
      refine Ev.step (f := fun k => ints_Get.l0 k b (m : Int) [] 0 0 0) (fun k => ?_) ?_
      · simp only [ints_Get.j0]
        rw [if_neg (by decide)]
      · simpa only [outc, List.nil_append, Int.toNat_natCast] using this
  refine Ev.congr (fun k => ?_) hj
  unfold ints_Get.f
  by_cases h0 : n < 0
  · rw [if_pos h0, decide_eq_true (.inl h0)]
  · rw [if_neg h0]
    congr 1
    simp [h0]
theorem puts5_ev : Ev (fun k => tidelinelaw05_puts.f k) true := by
  refine Ev.of (k := 60) (fun k => ?_) (by decide +kernel)
  exact tidelinelaw05_puts.mono k

/-! ### Same -/
theorem same_l0 (a b : List Int) (hl : a.length = b.length) (hlen : a.length ≤ 1099511627776) (m : Nat) : ∀ i, i + m = a.length → (∀ j, i ≤ j → j < a.length → rd a (j : Int) = rd b (j : Int)) → Ev (fun k => tidelineref05_Same.l0 k a b (i : Int)) true := by
  induction m with
  | zero =>
    intro i hi _
    refine Ev.step (f := fun _ => some true) (fun k => ?_) (Ev.now _)
    simp only [tidelineref05_Same.l0]
    rw [if_neg (by omega)]
  | succ m ih =>
    intro i hi h
    refine Ev.step (fun k => ?_) (ih (i + 1) (by omega) fun j hj hj2 => h j (by omega) hj2)
    simp only [tidelineref05_Same.l0]
    rw [if_pos (by omega), if_pos (by omega), if_pos (by omega), if_pos (h i (by omega) (by omega)), wrap64_id (by omega) (by omega)]
    rfl
theorem same_ev (a : List Int) (hlen : a.length ≤ 1099511627776) : Ev (fun k => tidelineref05_Same.f k a a) true := by
  refine Ev.congr (fun k => ?_) (same_l0 a a rfl hlen a.length 0 (by omega) fun _ _ _ => rfl)
  unfold tidelineref05_Same.f
  rw [if_pos rfl]
  rfl
end Go.Proofs.Ytlfaicpcdiphkaa.Vi
