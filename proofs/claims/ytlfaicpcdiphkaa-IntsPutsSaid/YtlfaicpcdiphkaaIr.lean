/- What the reference's Put and Get of ints compute: the bytes that ints.Put lays, and what ints.Get reads. Conditions: bytes are from 0 to 255, and the bounds that each statement names. -/
import Derived.Test.YtlfaicpcdiphkaaIg
namespace Go.Proofs.Ytlfaicpcdiphkaa.Vi
open Go.RowKit Go.Proofs.Ytlfaicpcdiphkaa.M Go.Proofs.YtlfaicpcdiphkaaW.PrintWords Go.Proofs.YtlfaicpcdiphkaaW.PrintLast Go.Proofs.YtlfaicpcdiphkaaW.PrintMore

abbrev uw (n : Int) : Int := IntKind.u64.wrap n
theorem uw_range (n : Int) : 0 ≤ uw n ∧ uw n < 18446744073709551616 := by rw [uw, wrap_u64]; omega
theorem uw_uw (n : Int) : uw (uw n) = uw n := by rw [uw, uw, wrap_u64, wrap_u64]; omega
theorem uw_wrap (n : Int) : uw (wrap64 n) = uw n := by rw [uw, uw, wrap_u64, wrap_u64]; unfold wrap64; omega
theorem wrap_uw (n : Int) : wrap64 (uw n) = wrap64 n := by rw [uw, wrap_u64]; unfold wrap64; omega
theorem uw_sub (a b : Int) : uw (uw a - uw b) = uw (a - b) := by simp only [uw, wrap_u64]; omega
theorem uw_add (a b : Int) : uw (uw a + uw b) = uw (a + b) := by simp only [uw, wrap_u64]; omega
theorem uw_inj {a b : Int} (ha : I64 a) (hb : I64 b) (h : uw a = uw b) : a = b := by
  obtain ⟨a0, a1⟩ := ha
  obtain ⟨b0, b1⟩ := hb
  simp only [uw, wrap_u64] at h
  omega
theorem uw_sub_w (a b : Int) : uw (wrap64 (wrap64 a - wrap64 b)) = uw (uw a - uw b) := by
  rw [uw_wrap, ← uw_sub (wrap64 a) (wrap64 b), uw_wrap, uw_wrap]
theorem rd_nat (l : List Int) (i : Nat) (h : i < l.length) : rd l (i : Int) = l[i] := by
  unfold rd
  simp [List.getD_eq_getElem?_getD, h]
theorem rd_map (cs : List Int) (i : Nat) (h : i < cs.length) : rd (cs.map uw) (i : Int) = uw cs[i] := by
  rw [rd_nat _ i (by rw [List.length_map]; exact h), List.getElem_map]

/-! ### the changes -/
def lastOf (x : List Int) (i : Nat) : Int := if i = 0 then 0 else rd x ((i - 1 : Nat) : Int)
def stepOf (x : List Int) (i : Nat) : Int := if i = 0 then 0 else wrap64 (lastOf x i - lastOf x (i - 1))
theorem changes_l0 (x : List Int) (hl : x.length ≤ 65536) (m : Nat) : ∀ (acc : List Int) (i : Nat), i + m = x.length → acc.length = i →
    Ev (fun k => tidelineref05_Changes.l0 k x acc (i : Int)) (acc ++ (chs (x.drop i) (lastOf x i) (stepOf x i)).map uw) := by
  induction m with
  | zero =>
    intro acc i hi _
    obtain rfl : i = x.length := by omega
    refine Ev.step (f := fun _ => some acc) (fun k => ?_) ?_
    · simp only [tidelineref05_Changes.l0]
      rw [if_neg (by omega)]
    · rw [List.drop_length]
      simp only [chs, List.map_nil, List.append_nil]
      exact Ev.now _
  | succ m ih =>
    intro acc i hi hacc
    have hlt : i < x.length := by omega
    have hdrop : x.drop i = rd x (i : Int) :: x.drop (i + 1) := by rw [List.drop_eq_getElem_cons hlt, rd_nat x i hlt]
    have hlast := Lib.hid (show lastOf x (i + 1) = rd x (i : Int) by unfold lastOf; rw [if_neg (by omega)]; rfl)
    have hstep := Lib.hid (show stepOf x (i + 1) = wrap64 (rd x (i : Int) - lastOf x i) by unfold stepOf; rw [if_neg (by omega), hlast.out]; rfl)
    obtain ⟨c, hc0_⟩ : ∃ c, c = uw (wrap64 (wrap64 (rd x (i : Int) - lastOf x i) - stepOf x i)) := ⟨_, rfl⟩
    have hc := Lib.hid hc0_
    clear hc0_
    have hrow : acc ++ (chs (x.drop i) (lastOf x i) (stepOf x i)).map uw = (acc ++ [c]) ++ (chs (x.drop (i + 1)) (lastOf x (i + 1)) (stepOf x (i + 1))).map uw := by
      rw [hdrop]
      simp only [chs, List.map_cons]
      rw [hlast.out, hstep.out, hc.out]
      simp
    rw [hrow]
    refine Ev.step (fun k => ?_) (ih (acc ++ [c]) (i + 1) (by omega) (by simp; omega))
    simp only [tidelineref05_Changes.l0]
    have hw1 := Lib.hid (show wrap64 ((i : Int) + 1) = ((i + 1 : Nat) : Int) by rw [wrap64_id (by omega) (by omega)]; rfl)
    rw [if_pos (by omega)]
    by_cases h0 : i = 0
    · subst h0
      have hc' := Lib.hid (show c = uw (uw (rd x ((0 : Nat) : Int))) by
        rw [hc.out]
        simp only [lastOf, stepOf, if_true, Int.sub_zero]
        rw [uw_wrap, uw_wrap, uw_uw])
      rw [hw1.out, if_neg (by omega), if_neg (by omega), if_pos (by omega), if_pos (by omega), hc'.out]
      rw [← uw_uw]
    · have e1 := Lib.hid (show wrap64 ((i : Int) - 1) = ((i - 1 : Nat) : Int) by rw [wrap64_id (by omega) (by omega)]; omega)
      have hl1 := Lib.hid (show lastOf x i = rd x ((i - 1 : Nat) : Int) by unfold lastOf; rw [if_neg h0])
      rw [hw1.out, e1.out, if_pos (by omega), if_pos (by omega), if_pos (by omega)]
      by_cases h1 : i = 1
      · subst h1
        have hc' := Lib.hid (show c = uw (uw (uw (rd x ((1 : Nat) : Int)) - uw (rd x ((1 - 1 : Nat) : Int))) - uw (rd x ((1 - 1 : Nat) : Int))) by
          rw [hc.out, hl1.out]
          have : stepOf x 1 = wrap64 (rd x ((1 - 1 : Nat) : Int)) := by
            unfold stepOf
            rw [if_neg (by omega), hl1.out]
            simp [lastOf]
          rw [this, uw_sub_w]
          simp only [uw_sub])
        rw [if_neg (by omega), if_pos (by omega), if_pos (by omega), hc'.out]
      · have e2 := Lib.hid (show wrap64 ((i : Int) - 2) = ((i - 2 : Nat) : Int) by rw [wrap64_id (by omega) (by omega)]; omega)
        have hl2 := Lib.hid (show lastOf x (i - 1) = rd x ((i - 2 : Nat) : Int) by unfold lastOf; rw [if_neg (by omega)]; rfl)
        have hc' := Lib.hid (show c = uw (uw (uw (rd x (i : Int)) - uw (rd x ((i - 1 : Nat) : Int))) - uw (uw (rd x ((i - 1 : Nat) : Int)) - uw (rd x ((i - 2 : Nat) : Int)))) by
          rw [hc.out, hl1.out]
          have : stepOf x i = wrap64 (rd x ((i - 1 : Nat) : Int) - rd x ((i - 2 : Nat) : Int)) := by
            unfold stepOf
            rw [if_neg (by omega), hl1.out, hl2.out]
          rw [this, uw_sub_w]
          simp only [uw_sub])
        rw [e2.out, if_pos (by omega), if_pos (by omega), if_pos (by omega), if_pos (by omega), if_pos (by omega), hc'.out]

/-! ### runs, looking ahead -/
def rla : List Int → Nat → List (Nat × Int)
  | [], _ => []
  | c :: t, n => if t.head? = some c then rla t (n + 1) else (n + 1, c) :: rla t 0
theorem rla_rle (t : List Int) : ∀ (c : Int) (n : Nat), rla (c :: t) n = rle t (n + 1) c := by
  induction t with
  | nil =>
    intro c n
    simp [rla, rle]
  | cons d t ih =>
    intro c n
    rw [rla]
    simp only [List.head?_cons, Option.some.injEq]
    by_cases h : d = c
    · subst h
      rw [if_pos rfl, ih]
      simp only [rle]
      rw [if_neg (by simp)]
    · rw [if_neg h, ih]
      simp only [rle]
      rw [if_pos ⟨by omega, h⟩]
theorem rla_rle0 (cs : List Int) : rla cs 0 = rle cs 0 0 := by
  cases cs with
  | nil => rfl
  | cons c t =>
    rw [rla_rle]
    simp only [rle]
    rw [if_neg (by simp)]

theorem refputs_l0 (cs : List Int) (hl : cs.length ≤ 65536) (hz : ∀ x ∈ cs, I64 x) (m : Nat) : ∀ (out : List Int) (run i : Nat), i + m = cs.length → run ≤ i → out.length ≤ 20 * i →
    Ev (fun k => tidelineref05_Put.l0 k (cs.map uw) out (run : Int) (i : Int)) (out ++ runBytes (rla (cs.drop i) run)) := by
  induction m with
  | zero =>
    intro out run i hi _ _
    obtain rfl : i = cs.length := by omega
    refine Ev.step (f := fun _ => some out) (fun k => ?_) ?_
    · simp only [tidelineref05_Put.l0]
      rw [if_neg (by rw [List.length_map]; omega)]
    · rw [List.drop_length]
      simp only [rla, runBytes, List.append_nil]
      exact Ev.now _
  | succ m ih =>
    intro out run i hi hrun hout
    have hlt : i < cs.length := by omega
    have hdrop : cs.drop i = cs[i] :: cs.drop (i + 1) := List.drop_eq_getElem_cons hlt
    have hci := hz _ (List.getElem_mem hlt)
    have hw1 := Lib.hid (show wrap64 ((i : Int) + 1) = ((i + 1 : Nat) : Int) by rw [wrap64_id (by omega) (by omega)]; rfl)
    have hw2 := Lib.hid (show IntKind.u64.wrap ((run : Int) + 1) = ((run + 1 : Nat) : Int) by rw [wrap_u64_id (by omega) (by omega)]; rfl)
    obtain ⟨q, hq⟩ : ∃ q : Bool, q = decide ((cs.drop (i + 1)).head? = some cs[i]) := ⟨_, rfl⟩
    have hl0 : ∀ k, tidelineref05_Put.l0 (k + 1) (cs.map uw) out (run : Int) (i : Int) = tidelineref05_Put.j1 k (cs.map uw) out ((run + 1 : Nat) : Int) (i : Int) q := by
      intro k
      simp only [tidelineref05_Put.l0]
      rw [if_pos (by rw [List.length_map]; omega), hw1, hw2]
      by_cases hn : i + 1 < cs.length
      · rw [if_pos (by rw [List.length_map]; omega), if_pos (by omega), if_pos (by omega), rd_map cs (i + 1) hn, rd_map cs i hlt]
        congr 1
        rw [hq, List.drop_eq_getElem_cons hn, List.head?_cons]
        by_cases he : cs[i + 1] = cs[i]
        · rw [he]
          simp
        · rw [beq_eq_false_iff_ne.2 fun h => he (uw_inj (hz _ (List.getElem_mem _)) hci h), decide_eq_false]
          simpa using he
      · rw [if_neg (by rw [List.length_map]; omega)]
        congr 1
        rw [hq, List.drop_eq_nil_of_le (by omega)]
        simp
    refine Ev.step hl0 ?_
    rw [hdrop, rla]
    by_cases he : (cs.drop (i + 1)).head? = some cs[i]
    · rw [hq, decide_eq_true he, if_pos he]
      refine Ev.step (fun k => ?_) (ih out (run + 1) (i + 1) (by omega) (by omega) (by omega))
      simp only [tidelineref05_Put.j1]
      rw [if_pos (by simp), hw1.out]
    · rw [hq, decide_eq_false he, if_neg he]
      have hr10 := enc_ten (v := run + 1) (by omega)
      have hz10 := enc_ten (zig_lt hci.1 hci.2)
      obtain ⟨K1, h1⟩ := refput_ev (run + 1) (by omega)
      obtain ⟨K2, h2⟩ := refput_ev (zig cs[i]) (zig_lt hci.1 hci.2)
      obtain ⟨K3, h3⟩ := ih (out ++ enc (run + 1) ++ enc (zig cs[i])) 0 (i + 1) (by omega) (by omega) (by simp only [List.length_append]; omega)
      refine ⟨K1 + K2 + K3 + 1, fun k hk => ?_⟩
      obtain ⟨k, rfl⟩ : ∃ m, k = m + 1 := ⟨k - 1, by omega⟩
      have e1 : tidelineref02_Put.f k ((run + 1 : Nat) : Int) = some (enc (run + 1)) := h1 k (by omega)
      have e2 : tidelineref02_Put.f k ((zig cs[i] : Nat) : Int) = some (enc (zig cs[i])) := h2 k (by omega)
      have e3 : tidelineref05_Put.l0 k (cs.map uw) (out ++ enc (run + 1) ++ enc (zig cs[i])) 0 ((i + 1 : Nat) : Int) = some (out ++ enc (run + 1) ++ enc (zig cs[i]) ++ runBytes (rla (cs.drop (i + 1)) 0)) := h3 k (by omega)
      have ec := Lib.hid (show wrap64 (rd (cs.map uw) (i : Int)) = cs[i] by rw [rd_map cs i hlt, wrap_uw, wrap64_id hci.1 hci.2])
      simp only [tidelineref05_Put.j1]
      rw [if_neg (by decide), e1, Option.bind_some, if_pos (by omega), Option.bind_some, if_pos (by omega), if_pos (by rw [List.length_map]; omega), ec, rzig_f _ hci.1 hci.2, Option.bind_some, e2, Option.bind_some, if_pos (by simp only [List.length_append]; omega), hw1, e3]
      simp only [runBytes, List.append_assoc]
theorem refputs_ev (zs : List Int) (hl : zs.length ≤ 65536) : Ev (fun k => tidelineref05_Put.f k zs) (putB zs) := by
  obtain ⟨K1, h1⟩ := changes_l0 zs hl zs.length [] 0 (by omega) rfl
  have hcl := chs_len zs 0 0
  obtain ⟨K2, h2⟩ := refputs_l0 (chs zs 0 0) (by omega) (chs_i64 zs 0 0) (chs zs 0 0).length [] 0 0 (by omega) (by omega) (by simp)
  refine ⟨K1 + K2, fun k hk => ?_⟩
  have e1 : tidelineref05_Changes.l0 k zs [] 0 = some ((chs zs 0 0).map uw) := h1 k (by omega)
  have e2 : tidelineref05_Put.l0 k ((chs zs 0 0).map uw) [] 0 0 = some (runBytes (rla (chs zs 0 0) 0)) := h2 k (by omega)
  show tidelineref05_Put.f k zs = some (putB zs)
  unfold tidelineref05_Put.f tidelineref05_Changes.f
  rw [e1, Option.bind_some, e2]
  unfold putB
  rw [rst_rle, rla_rle0]

/-! ### Get -/
def outr (cs : List Int) (q : List (Nat × Int) × Int) : List Int × Int := if q.2 = 0 then (intg (cs ++ flat q.1) 0 0, 0) else ([], q.2)
theorem outr_err (cs : List Int) (e : Int) (h : e ≠ 0) : outr cs ([], e) = ([], e) := by unfold outr; rw [if_neg h]
theorem refget_l2 (cs : List Int) (hl : cs.length ≤ 65536) (m : Nat) : ∀ (acc : List Int) (step last : Int) (i : Nat), i + m = cs.length → acc.length = i →
    Ev (fun k => tidelineref05_Get.l2 k (cs.map uw) acc (uw step) (uw last) (i : Int)) (acc ++ intg (cs.drop i) last step, 0) := by
  induction m with
  | zero =>
    intro acc step last i hi _
    obtain rfl : i = cs.length := by omega
    refine Ev.step (f := fun _ => some (acc, 0)) (fun k => ?_) ?_
    · simp only [tidelineref05_Get.l2]
      rw [if_neg (by rw [List.length_map]; omega)]
    · rw [List.drop_length]
      simp only [intg, List.append_nil]
      exact Ev.now _
  | succ m ih =>
    intro acc step last i hi hacc
    have hlt : i < cs.length := by omega
    have hih := ih (acc ++ [wrap64 (last + wrap64 (step + cs[i]))]) (wrap64 (step + cs[i])) (wrap64 (last + wrap64 (step + cs[i]))) (i + 1) (by omega) (by simp; omega)
    rw [List.drop_eq_getElem_cons hlt]
    simp only [intg]
    rw [List.append_assoc] at hih
    refine Ev.step (fun k => ?_) hih
    have e1 := Lib.hid (show IntKind.u64.wrap (uw step + rd (cs.map uw) (i : Int)) = uw (wrap64 (step + cs[i])) by rw [show IntKind.u64.wrap (uw step + rd (cs.map uw) (i : Int)) = uw (uw step + rd (cs.map uw) (i : Int)) from rfl, rd_map cs i hlt, uw_add, uw_wrap])
    have e2 := Lib.hid (show IntKind.u64.wrap (uw last + uw (wrap64 (step + cs[i]))) = uw (wrap64 (last + wrap64 (step + cs[i]))) by rw [show IntKind.u64.wrap (uw last + uw (wrap64 (step + cs[i]))) = uw (uw last + uw (wrap64 (step + cs[i]))) from rfl, uw_add, uw_wrap])
    have e3 := Lib.hid (show wrap64 (uw (wrap64 (last + wrap64 (step + cs[i])))) = wrap64 (last + wrap64 (step + cs[i])) by
      rw [wrap_uw]
      exact wrap64_id (i64_w _).1 (i64_w _).2)
    simp only [tidelineref05_Get.l2]
    rw [if_pos (by rw [List.length_map]; omega), if_pos (by omega), if_pos (by omega), e1, e2, e3, wrap64_id (n := (i : Int) + 1) (by omega) (by omega)]
    rfl
theorem refget_l1 (x0 : List Int) (n : Int) (c : Int) (p : Int) (r : List Int × Int) (m : Nat) : ∀ (acc : List Int) (v j : Nat), j + m = v → v ≤ 65536 → acc.length + m ≤ 65536 →
    Ev (fun k => tidelineref05_Get.l0 k x0 n (acc ++ List.replicate m c) p) r → Ev (fun k => tidelineref05_Get.l1 k x0 n acc p (v : Int) c (j : Int)) r := by
  induction m with
  | zero =>
    intro acc v j hj _ _ h
    refine Ev.step (fun k => ?_) h
    simp only [tidelineref05_Get.l1]
    rw [if_neg (by omega)]
    simp
  | succ m ih =>
    intro acc v j hj hv hl h
    refine Ev.step (f := fun k => tidelineref05_Get.l1 k x0 n (acc ++ [c]) p (v : Int) c ((j + 1 : Nat) : Int)) (fun k => ?_) (ih _ v (j + 1) (by omega) hv (by simp; omega) ?_)
    · simp only [tidelineref05_Get.l1]
      rw [if_pos (by omega), if_pos (by omega), wrap_u64_id (by omega) (by omega)]
      rfl
    · rw [List.replicate_succ] at h
      simpa using h
theorem refgets_l0 (x0 : List Int) (hx : ∀ x ∈ x0, 0 ≤ x ∧ x < 256) (hxl : x0.length ≤ 65536) (n : Nat) (hn : n ≤ 65536) (f : Nat) : ∀ (pos need : Nat) (cs : List Int), pos ≤ x0.length → x0.length - pos < f → need + cs.length = n → (∀ x ∈ cs, I64 x) →
    Ev (fun k => tidelineref05_Get.l0 k x0 (n : Int) (cs.map uw) (pos : Int)) (outr cs (decR f (x0.drop pos) need cs.getLast?)) := by
  induction f with
  | zero => intro pos _ _ _ h; omega
  | succ f ih =>
    intro pos need cs hpos hf hneed hcs
    have hcl : (cs.map uw).length = cs.length := List.length_map ..
    have hb : ∀ x ∈ x0.drop pos, 0 ≤ x ∧ x < 256 := fun x h => hx x (List.mem_of_mem_drop h)
    have hdl : (x0.drop pos).length = x0.length - pos := List.length_drop ..
    obtain ⟨K1, h1⟩ := refget_ev (x0.drop pos) hb
    have hnil : x0.drop pos = [] → pos = x0.length := fun h => by rw [h, List.length_nil] at hdl; omega
    have hcons : x0.drop pos ≠ [] → pos < x0.length := fun h => by have := List.length_pos_iff.2 h; omega
    obtain ⟨b, hB⟩ : ∃ b, b = x0.drop pos := ⟨_, rfl⟩
    rw [← hB] at hb hdl h1 hnil hcons ⊢
    obtain ⟨prev, hprev⟩ : ∃ p, p = cs.getLast? := ⟨_, rfl⟩
    rw [← hprev]
    rcases rd_some b need hb with ⟨he, hz⟩ | ⟨hne, hz⟩ | ⟨he, h⟩ | ⟨h, hne, e, h2, hd⟩ | ⟨h, hne, v, n1, hd, hvl, hv⟩ | ⟨h, hne, v, n1, hd, h0, hv, hn0, hnl, e, h2, hd2⟩ | ⟨h, hne, v, n1, z, m, hd, h0, hv, hn0, hl, hd2, hz, hE, hE2⟩
    · have hp := hnil he
      have hl2 := refget_l2 cs (by omega) cs.length [] 0 0 0 (by omega) rfl
      subst hz
      rw [he, decR_end]
      have : outr cs ([], 0) = ([] ++ intg (cs.drop 0) 0 0, 0) := by simp [outr, flat]
      rw [this]
      refine Ev.step (fun k => ?_) hl2
      simp only [tidelineref05_Get.l0]
      rw [if_neg (by omega), if_pos (by omega)]
      rfl
    · have hp := hcons hne
      subst hz
      rw [decR_left f b prev hne, outr_err _ _ (by decide)]
      refine Ev.step (f := fun _ => some ([], 21)) (fun k => ?_) (Ev.now _)
      simp only [tidelineref05_Get.l0]
      rw [if_neg (by omega), if_neg (by omega)]
    · have hp := hnil he
      rw [he, decR_short f need prev h, outr_err _ _ (by decide)]
      refine Ev.step (f := fun _ => some ([], 20)) (fun k => ?_) (Ev.now _)
      simp only [tidelineref05_Get.l0]
      rw [if_pos (by omega), if_pos (by omega)]
    · have hp := hcons hne
      rw [decR_bad f b need prev h hne e h2 hd, outr_err _ _ (by rcases h2 with rfl | rfl <;> decide)]
      rw [hd] at h1
      refine ⟨K1 + 1, fun k hk => ?_⟩
      obtain ⟨k, rfl⟩ : ∃ m, k = m + 1 := ⟨k - 1, by omega⟩
      have e1 : tidelineref02_Get.f k b = some (0, 0, e) := h1 k (by omega)
      simp only [tidelineref05_Get.l0]
      rw [if_pos (by omega), if_neg (by omega), if_pos (by omega), if_pos (by omega), Int.toNat_natCast, ← hB, e1, Option.bind_some]
      dsimp only
      rw [if_neg (by rcases h2 with rfl | rfl <;> decide)]
    · have hp := hcons hne
      rw [decR_many f b need prev h hne v n1 hd hv, outr_err _ _ (by decide)]
      rw [hd] at h1
      refine ⟨K1 + 2, fun k hk => ?_⟩
      obtain ⟨k, rfl⟩ : ∃ m, k = m + 2 := ⟨k - 2, by omega⟩
      have e1 : tidelineref02_Get.f (k + 1) b = some ((v : Int), (n1 : Int), 0) := h1 _ (by omega)
      simp only [tidelineref05_Get.l0]
      rw [if_pos (by omega), if_neg (by omega), if_pos (by omega), if_pos (by omega), Int.toNat_natCast, ← hB, e1, Option.bind_some]
      dsimp only
      rw [if_pos rfl, hcl, wrap64_id (n := (n : Int) - (cs.length : Int)) (by omega) (by omega), wrap_u64_id (n := (n : Int) - (cs.length : Int)) (by omega) (by omega)]
      by_cases hv0 : v = 0
      · rw [if_pos (by omega)]
        simp only [tidelineref05_Get.j2]
        rw [if_pos (by simp)]
      · rw [if_neg (by omega), decide_eq_true (by omega)]
        simp only [tidelineref05_Get.j2]
        rw [if_pos (by simp)]
    all_goals have hp := hcons hne
    all_goals have t1 := dec_ten_le b hb v n1 hd
    all_goals rw [hd] at h1
    all_goals have hw1 := Lib.hid (show wrap64 ((pos : Int) + (n1 : Int)) = ((pos + n1 : Nat) : Int) by rw [wrap64_id (by omega) (by omega)]; rfl)
    all_goals have hdr : x0.drop (pos + n1) = b.drop n1 := by rw [hB, List.drop_drop]
    all_goals have hb2 : ∀ x ∈ b.drop n1, 0 ≤ x ∧ x < 256 := fun x hx => hb x (List.mem_of_mem_drop hx)
    all_goals obtain ⟨K2, h2'⟩ := refget_ev (b.drop n1) hb2
    all_goals rw [hd2] at h2'
    · rw [decR_bad2 f b need prev h hne v n1 hd h0 hv e h2 hd2, outr_err _ _ (by rcases h2 with rfl | rfl <;> decide)]
      refine ⟨K1 + K2 + 2, fun k hk => ?_⟩
      obtain ⟨k, rfl⟩ : ∃ m, k = m + 2 := ⟨k - 2, by omega⟩
      have e1 : tidelineref02_Get.f (k + 1) b = some ((v : Int), (n1 : Int), 0) := h1 _ (by omega)
      have e2 : tidelineref02_Get.f k (b.drop n1) = some (0, 0, e) := h2' k (by omega)
      simp only [tidelineref05_Get.l0]
      rw [if_pos (by omega), if_neg (by omega), if_pos (by omega), if_pos (by omega), Int.toNat_natCast, ← hB, e1, Option.bind_some]
      dsimp only
      rw [if_pos rfl, hcl, wrap64_id (n := (n : Int) - (cs.length : Int)) (by omega) (by omega), wrap_u64_id (n := (n : Int) - (cs.length : Int)) (by omega) (by omega), if_neg (by omega), decide_eq_false (by omega)]
      simp only [tidelineref05_Get.j2]
      rw [if_neg (by decide), hw1.out, if_pos (by omega), if_pos (by omega), Int.toNat_natCast, hdr, e2, Option.bind_some]
      dsimp only
      rw [if_neg (by rcases h2 with rfl | rfl <;> decide)]
    · rw [decR_go f b need prev h hne v n1 z m hd h0 hv hd2]
      have hzz := zag_lt hz
      have t2 := dec_ten_le _ hb2 z m hd2
      have hw2 := Lib.hid (show wrap64 (((pos + n1 : Nat) : Int) + (m : Int)) = ((pos + n1 + m : Nat) : Int) by rw [wrap64_id (by omega) (by omega)]; rfl)
      obtain ⟨c, hc0_⟩ : ∃ c, c = zag z := ⟨_, rfl⟩
      have hc := Lib.hid hc0_
      clear hc0_
      have hcs2 : ∀ x ∈ cs ++ List.replicate v c, I64 x := fun x hx => by
        rcases List.mem_append.1 hx with hx | hx
        · exact hcs x hx
        · rw [(List.mem_replicate.1 hx).2, hc.out]; exact hzz
      have hlast : (cs ++ List.replicate v c).getLast? = some c := by
        rw [List.getLast?_append]
        obtain ⟨v', rfl⟩ : ∃ v', v = v' + 1 := ⟨v - 1, by omega⟩
        simp [List.getLast?_replicate]
      have hih := ih (pos + n1 + m) (need - v) (cs ++ List.replicate v c) (by omega) (by omega) (by simp only [List.length_append, List.length_replicate]; omega) hcs2
      rw [hlast, show x0.drop (pos + n1 + m) = b.drop (n1 + m) by rw [hB, List.drop_drop]; congr 1; omega, List.map_append, List.map_replicate] at hih
      have hj := refget_l1 x0 (n : Int) (uw c) ((pos + n1 + m : Nat) : Int) _ v (cs.map uw) v 0 (by omega) (by omega) (by omega) hih
      have hout : outr (cs ++ List.replicate v c) (decR f (b.drop (n1 + m)) (need - v) (some c)) =
          outr cs (if (decR f (b.drop (n1 + m)) (need - v) (some c)).2 = 0 then ((v, c) :: (decR f (b.drop (n1 + m)) (need - v) (some c)).1, 0) else ([], (decR f (b.drop (n1 + m)) (need - v) (some c)).2)) := by
        by_cases hq : (decR f (b.drop (n1 + m)) (need - v) (some c)).2 = 0
        · rw [if_pos hq]
          unfold outr
          rw [if_pos hq, if_pos rfl]
          simp only [flat]
          rw [List.append_assoc]
        · rw [if_neg hq]
          unfold outr
          rw [if_neg hq, if_neg hq]
      rw [hout] at hj
      rw [← hc.out]
      obtain ⟨K3, h3⟩ := hj
      obtain ⟨q, hq⟩ : ∃ q : Bool, q = decide (prev = some c) := ⟨_, rfl⟩
      have hK : ∀ k, K1 + K2 ≤ k → tidelineref05_Get.l0 (k + 3) x0 (n : Int) (cs.map uw) (pos : Int) = if q = true then some ([], 21) else tidelineref05_Get.l1 k x0 (n : Int) (cs.map uw) ((pos + n1 + m : Nat) : Int) (v : Int) (uw c) 0 := by
        intro k hk
        have e1 : tidelineref02_Get.f (k + 2) b = some ((v : Int), (n1 : Int), 0) := h1 _ (by omega)
        have e2 : tidelineref02_Get.f (k + 1) (b.drop n1) = some ((z : Int), (m : Int), 0) := h2' _ (by omega)
        simp only [tidelineref05_Get.l0]
        rw [if_pos (by omega), if_neg (by omega), if_pos (by omega), if_pos (by omega), Int.toNat_natCast, ← hB, e1, Option.bind_some]
        dsimp only
        rw [if_pos rfl, hcl, wrap64_id (n := (n : Int) - (cs.length : Int)) (by omega) (by omega), wrap_u64_id (n := (n : Int) - (cs.length : Int)) (by omega) (by omega), if_neg (by omega), decide_eq_false (by omega)]
        simp only [tidelineref05_Get.j2]
        rw [if_neg (by decide), hw1.out, if_pos (by omega), if_pos (by omega), Int.toNat_natCast, hdr, e2, Option.bind_some]
        dsimp only
        rw [if_pos rfl, rzag_f z hz, Option.bind_some, ← hc.out, hcl]
        have hj3 : tidelineref05_Get.j3 (k + 1) x0 (n : Int) (cs.map uw) ((pos + n1 : Nat) : Int) (v : Int) (m : Int) (uw c) q = if q = true then some ([], 21) else tidelineref05_Get.l1 k x0 (n : Int) (cs.map uw) ((pos + n1 + m : Nat) : Int) (v : Int) (uw c) 0 := by
          simp only [tidelineref05_Get.j3]
          rw [hw2.out]
        rw [← hj3]
        by_cases ha : 0 < cs.length
        · have e3 := Lib.hid (show wrap64 ((cs.length : Int) - 1) = ((cs.length - 1 : Nat) : Int) by rw [wrap64_id (by omega) (by omega)]; omega)
          rw [if_pos (by omega), e3.out, if_pos (by omega), if_pos (by omega), rd_map cs (cs.length - 1) (by omega)]
          congr 1
          have hpl : prev = some (cs[cs.length - 1]'(by omega)) := by
            rw [hprev, List.getLast?_eq_getElem?]
            simp
          rw [hq, hpl]
          by_cases he : cs[cs.length - 1]'(by omega) = c
          · rw [he]; simp
          · rw [beq_eq_false_iff_ne.2 fun h => he (uw_inj (hcs _ (List.getElem_mem _)) (by rw [hc.out]; exact hzz) h), decide_eq_false]
            simpa using he
        · rw [if_neg (by omega)]
          congr 1
          have : prev = none := by
            rw [hprev, List.eq_nil_of_length_eq_zero (l := cs) (by omega)]
            rfl
          rw [hq, this]
          simp
      by_cases hpv : prev = some c
      · rw [if_pos hpv, outr_err _ _ (by decide)]
        refine ⟨K1 + K2 + 3, fun k hk => ?_⟩
        obtain ⟨k, rfl⟩ : ∃ m, k = m + 3 := ⟨k - 3, by omega⟩
        show tidelineref05_Get.l0 (k + 3) x0 (n : Int) (cs.map uw) (pos : Int) = _
        rw [hK k (by omega), hq, decide_eq_true hpv, if_pos rfl]
      · rw [if_neg hpv]
        refine ⟨K1 + K2 + K3 + 3, fun k hk => ?_⟩
        obtain ⟨k, rfl⟩ : ∃ m, k = m + 3 := ⟨k - 3, by omega⟩
        show tidelineref05_Get.l0 (k + 3) x0 (n : Int) (cs.map uw) (pos : Int) = _
        rw [hK k (by omega), hq, decide_eq_false hpv, if_neg (by decide)]
        exact h3 k (by omega)
theorem refdgot_ev (b : List Int) (n : Int) (hb : ∀ x ∈ b, 0 ≤ x ∧ x < 256) (hl : b.length ≤ 65536) : Ev (fun k => tidelineref05_Get.f k b n) (dgot b n) := by
  have hj : Ev (fun k => tidelineref05_Get.j0 k b n (decide (n < 0 ∨ 65536 < n))) (dgot b n) := by
    unfold dgot
    by_cases h : n < 0 ∨ 65536 < n
    · rw [if_pos h, decide_eq_true h]
      refine Ev.step (f := fun _ => some ([], 1)) (fun k => ?_) (Ev.now _)
      simp only [tidelineref05_Get.j0]
      rw [if_pos (by simp)]
    · rw [if_neg h, decide_eq_false h]
      obtain ⟨m, rfl⟩ := Int.eq_ofNat_of_zero_le (show 0 ≤ n by omega)
      have := refgets_l0 b hb hl m (by omega) (b.length + 1) 0 m [] (by omega) (by omega) (by simp) (by simp)
      refine Ev.step (f := fun k => tidelineref05_Get.l0 k b (m : Int) [] 0) (fun k => ?_) ?_
      · simp only [tidelineref05_Get.j0]
        rw [if_neg (by decide)]
      · simp only [outr, List.nil_append, List.drop_zero] at this
        rw [Int.toNat_natCast]
        exact this
  refine Ev.congr (fun k => ?_) hj
  unfold tidelineref05_Get.f
  by_cases h0 : n < 0
  · rw [if_pos h0, decide_eq_true (.inl h0)]
  · rw [if_neg h0]
    congr 1
    simp [h0]
end Go.Proofs.Ytlfaicpcdiphkaa.Vi
