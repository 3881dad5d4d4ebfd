/- Plain theory of ints: rows of whole numbers, their changes, runs and bytes; what ints.Get computes; that rows and their bytes are each other's. Conditions: numbers and bytes lie in their kinds' ranges, and the bounds that each statement names. -/
import Derived.Test.YtlfaicpcdiphkaaPut
import Derived.Test.YtlfaicpcdiphkaaM22
namespace Go.Proofs.Ytlfaicpcdiphkaa.Vi
open Go.RowKit Go.Proofs.Ytlfaicpcdiphkaa.M Go.Proofs.YtlfaicpcdiphkaaW.PrintWords Go.Proofs.YtlfaicpcdiphkaaW.PrintLast Go.Proofs.YtlfaicpcdiphkaaW.PrintMore

abbrev I64 (n : Int) : Prop := -9223372036854775808 ≤ n ∧ n < 9223372036854775808
theorem i64_w (n : Int) : I64 (wrap64 n) := w64_range n
theorem wrap64_sub_add {a b : Int} (h : I64 a) : wrap64 (b + wrap64 (a - b)) = a := by
  obtain ⟨h0, h1⟩ := h
  unfold wrap64
  omega
theorem wrap64_add_sub {a b : Int} (h : I64 a) : wrap64 (wrap64 (b + a) - b) = a := by
  obtain ⟨h0, h1⟩ := h
  unfold wrap64
  omega

/-! ### changes and sums -/
def chs : List Int → Int → Int → List Int
  | [], _, _ => []
  | v :: t, last, step => wrap64 (wrap64 (v - last) - step) :: chs t v (wrap64 (v - last))
def intg : List Int → Int → Int → List Int
  | [], _, _ => []
  | c :: t, last, step => wrap64 (last + wrap64 (step + c)) :: intg t (wrap64 (last + wrap64 (step + c))) (wrap64 (step + c))
def ends : List Int → Int → Int → Int × Int
  | [], last, step => (last, step)
  | c :: t, last, step => ends t (wrap64 (last + wrap64 (step + c))) (wrap64 (step + c))
theorem chs_len (zs : List Int) : ∀ last step, (chs zs last step).length = zs.length := by
  induction zs with
  | nil => intro _ _; rfl
  | cons v t ih => intro last step; simp only [chs, List.length_cons, ih]
theorem intg_len (cs : List Int) : ∀ last step, (intg cs last step).length = cs.length := by
  induction cs with
  | nil => intro _ _; rfl
  | cons v t ih => intro last step; simp only [intg, List.length_cons, ih]
theorem intg_append (a b : List Int) : ∀ last step, intg (a ++ b) last step = intg a last step ++ intg b (ends a last step).1 (ends a last step).2 := by
  induction a with
  | nil => intro _ _; rfl
  | cons c t ih => intro last step; simp only [List.cons_append, intg, ends, ih]
theorem intg_chs (zs : List Int) : ∀ last step, (∀ x ∈ zs, I64 x) → intg (chs zs last step) last step = zs := by
  induction zs with
  | nil => intro _ _ _; rfl
  | cons v t ih =>
    intro last step h
    have hv := h v (by simp)
    have e1 : wrap64 (step + wrap64 (wrap64 (v - last) - step)) = wrap64 (v - last) := wrap64_sub_add (i64_w _)
    have e2 : wrap64 (last + wrap64 (v - last)) = v := wrap64_sub_add hv
    simp only [chs, intg]
    rw [e1, e2, ih v _ fun x hx => h x (by simp [hx])]
theorem chs_intg (cs : List Int) : ∀ last step, (∀ x ∈ cs, I64 x) → chs (intg cs last step) last step = cs := by
  induction cs with
  | nil => intro _ _ _; rfl
  | cons c t ih =>
    intro last step h
    have hc := h c (by simp)
    have e1 : wrap64 (wrap64 (last + wrap64 (step + c)) - last) = wrap64 (step + c) := wrap64_add_sub (i64_w _)
    have e2 : wrap64 (wrap64 (step + c) - step) = c := wrap64_add_sub hc
    simp only [intg, chs]
    rw [e1, e2, ih _ _ fun x hx => h x (by simp [hx])]
theorem chs_i64 (zs : List Int) : ∀ last step, ∀ x ∈ chs zs last step, I64 x := by
  induction zs with
  | nil => intro _ _ x hx; cases hx
  | cons v t ih =>
    intro last step x hx
    rcases List.mem_cons.1 hx with rfl | hx
    · exact i64_w _
    · exact ih _ _ x hx

/-! ### runs -/
def rle : List Int → Nat → Int → List (Nat × Int)
  | [], n, ch => if 0 < n then [(n, ch)] else []
  | c :: t, n, ch => if 0 < n ∧ c ≠ ch then (n, ch) :: rle t 1 c else rle t (n + 1) c
theorem rst_rle (zs : List Int) : ∀ n last step ch, rst zs n last step ch = rle (chs zs last step) n ch := by
  induction zs with
  | nil => intro n last step ch; rfl
  | cons v t ih =>
    intro n last step ch
    simp only [rst, chs, rle, ih]
def flat : List (Nat × Int) → List Int
  | [] => []
  | p :: t => List.replicate p.1 p.2 ++ flat t
/-- Runs that are as long as can be, so many numbers in all, behind a run of another change. -/
def Good : List (Nat × Int) → Nat → Option Int → Prop
  | [], need, _ => need = 0
  | p :: t, need, prev => 0 < p.1 ∧ p.1 ≤ need ∧ I64 p.2 ∧ prev ≠ some p.2 ∧ Good t (need - p.1) (some p.2)
theorem flat_rle (cs : List Int) : ∀ n ch, flat (rle cs n ch) = List.replicate n ch ++ cs := by
  induction cs with
  | nil =>
    intro n ch
    simp only [rle]
    split
    · simp [flat]
    · obtain rfl : n = 0 := by omega
      rfl
  | cons c t ih =>
    intro n ch
    simp only [rle]
    split
    · simp only [flat, ih]
      rfl
    · rename_i h
      rw [ih]
      by_cases hn : 0 < n
      · have : c = ch := Classical.byContradiction fun hc => h ⟨hn, hc⟩
        subst this
        rw [List.replicate_succ', List.append_assoc]
        rfl
      · obtain rfl : n = 0 := by omega
        rfl
theorem good_rle (cs : List Int) : ∀ (n : Nat) (ch : Int) (prev : Option Int), (∀ x ∈ cs, I64 x) → (0 < n → I64 ch ∧ prev ≠ some ch) → (n = 0 → prev = none) → Good (rle cs n ch) (n + cs.length) prev := by
  induction cs with
  | nil =>
    intro n ch prev _ hn _
    simp only [rle]
    split
    · rename_i h
      exact ⟨h, by simp, (hn h).1, (hn h).2, by simp [Good]⟩
    · simp only [Good, List.length_nil]; omega
  | cons c t ih =>
    intro n ch prev hc hn h0
    have hc' := hc c (by simp)
    have ht : ∀ x ∈ t, I64 x := fun x hx => hc x (by simp [hx])
    simp only [rle]
    split
    · rename_i h
      refine ⟨h.1, by simp, (hn h.1).1, (hn h.1).2, ?_⟩
      have := ih 1 c (some ch) ht (fun _ => ⟨hc', fun e => h.2 (Option.some.inj e).symm⟩) (fun e => by omega)
      rw [show n + (c :: t).length - n = 1 + t.length by rw [List.length_cons]; omega]
      exact this
    · rename_i h
      have := ih (n + 1) c prev ht (fun _ => ⟨hc', by
        by_cases hp : 0 < n
        · have : c = ch := Classical.byContradiction fun hc => h ⟨hp, hc⟩
          rw [this]
          exact (hn hp).2
        · rw [h0 (by omega)]
          intro e
          cases e⟩) (fun e => by omega)
      rw [show n + (c :: t).length = n + 1 + t.length by rw [List.length_cons]; omega]
      exact this
theorem rle_replicate (m : Nat) (c : Int) (t : List Int) : ∀ n, rle (List.replicate m c ++ t) (n + 1) c = rle t (n + 1 + m) c := by
  induction m with
  | zero => intro n; rfl
  | succ m ih =>
    intro n
    rw [List.replicate_succ, List.cons_append]
    simp only [rle]
    rw [if_neg (by simp), ih (n + 1)]
    congr 1
    omega
theorem rle_flat (rs : List (Nat × Int)) : ∀ (need : Nat) (n : Nat) (ch : Int), 0 < n → Good rs need (some ch) → rle (flat rs) n ch = (n, ch) :: rs := by
  induction rs with
  | nil => intro need n ch hn _; simp only [flat, rle]; rw [if_pos hn]
  | cons p t ih =>
    intro need n ch hn hg
    obtain ⟨h1, h2, h3, h4, h5⟩ := hg
    obtain ⟨m, hm⟩ : ∃ m, p.1 = m + 1 := ⟨p.1 - 1, by omega⟩
    simp only [flat]
    rw [hm, List.replicate_succ, List.cons_append]
    simp only [rle]
    rw [if_pos ⟨hn, fun e => h4 (by rw [e])⟩]
    have := rle_replicate m p.2 (flat t) 0
    rw [show 0 + 1 + m = p.1 by omega] at this
    rw [this, ih _ p.1 p.2 h1 h5]
theorem rle_flat0 (rs : List (Nat × Int)) (need : Nat) (ch : Int) (hg : Good rs need none) : rle (flat rs) 0 ch = rs := by
  cases rs with
  | nil => rfl
  | cons p t =>
    obtain ⟨h1, h2, h3, h4, h5⟩ := hg
    obtain ⟨m, hm⟩ : ∃ m, p.1 = m + 1 := ⟨p.1 - 1, by omega⟩
    simp only [flat]
    rw [hm, List.replicate_succ, List.cons_append]
    simp only [rle]
    rw [if_neg (by simp)]
    have := rle_replicate m p.2 (flat t) 0
    rw [show 0 + 1 + m = p.1 by omega] at this
    rw [this, rle_flat t _ p.1 p.2 h1 h5]
theorem flat_len (rs : List (Nat × Int)) : ∀ need prev, Good rs need prev → (flat rs).length = need := by
  induction rs with
  | nil => intro need prev h; simp only [Good] at h; subst h; rfl
  | cons p t ih =>
    intro need prev h
    obtain ⟨h1, h2, h3, h4, h5⟩ := h
    have := ih _ _ h5
    simp only [flat, List.length_append, List.length_replicate]
    omega
theorem flat_i64 (rs : List (Nat × Int)) : ∀ need prev, Good rs need prev → ∀ x ∈ flat rs, I64 x := by
  induction rs with
  | nil => intro _ _ _ x hx; cases hx
  | cons p t ih =>
    intro need prev h x hx
    obtain ⟨h1, h2, h3, h4, h5⟩ := h
    simp only [flat] at hx
    rcases List.mem_append.1 hx with hx | hx
    · rw [(List.mem_replicate.1 hx).2]; exact h3
    · exact ih _ _ h5 x hx

/-! ### bytes of runs -/
theorem runBytes_byte (l : List (Nat × Int)) : ∀ x ∈ runBytes l, 0 ≤ x ∧ x < 256 := by
  induction l with
  | nil => intro x hx; cases hx
  | cons p l ih =>
    intro x hx
    simp only [runBytes] at hx
    rcases List.mem_append.1 hx with hx | hx
    · rcases List.mem_append.1 hx with hx | hx
      · exact enc_byte _ x hx
      · exact enc_byte _ x hx
    · exact ih x hx
theorem dec_head (v : Nat) (hv : v < 18446744073709551616) (b : List Int) : dec 0 (enc v ++ b) = ((v : Int), ((enc v).length : Int), 0) := by
  have := dec_enc v 0 b (by omega) (by simpa using hv) (by omega)
  rwa [Nat.zero_add] at this
theorem enc_inj {v w : Nat} {b c : List Int} (hv : v < 18446744073709551616) (hw : w < 18446744073709551616) (h : enc v ++ b = enc w ++ c) : v = w ∧ b = c := by
  have h1 := dec_head v hv b
  have h2 := dec_head w hw c
  rw [h, h2] at h1
  simp only [Prod.mk.injEq, and_true] at h1
  obtain rfl : v = w := by omega
  exact ⟨rfl, List.append_cancel_left h⟩
theorem runBytes_inj (rs : List (Nat × Int)) : ∀ (rs' : List (Nat × Int)) (m m' : Nat) (p p' : Option Int), m < 18446744073709551616 → m' < 18446744073709551616 → Good rs m p → Good rs' m' p' → runBytes rs = runBytes rs' → rs = rs' := by
  induction rs with
  | nil =>
    intro rs' m m' p p' _ _ _ hg h
    cases rs' with
    | nil => rfl
    | cons q t =>
      have := enc_pos q.1
      have e := congrArg List.length h
      simp only [runBytes, List.length_nil, List.length_append] at e
      omega
  | cons q t ih =>
    intro rs' m m' p p' hm hm' hg hg' h
    cases rs' with
    | nil =>
      have := enc_pos q.1
      have e := congrArg List.length h
      simp only [runBytes, List.length_nil, List.length_append] at e
      omega
    | cons q' t' =>
      obtain ⟨h1, h2, h3, h4, h5⟩ := hg
      obtain ⟨g1, g2, g3, g4, g5⟩ := hg'
      simp only [runBytes, List.append_assoc] at h
      obtain ⟨e1, h⟩ := enc_inj (by omega) (by omega) h
      obtain ⟨e2, h⟩ := enc_inj (zig_lt h3.1 h3.2) (zig_lt g3.1 g3.2) h
      have e3 : q.2 = q'.2 := by
        have := congrArg zag e2
        rwa [zag_zig, zag_zig] at this
      rw [ih t' _ _ _ _ (by omega) (by omega) h5 g5 h]
      congr 1
      exact Prod.ext e1 e3

/-! ### what Get reads -/
/-- The runs, and the error. -/
def decR : Nat → List Int → Nat → Option Int → List (Nat × Int) × Int
  | 0, _, _, _ => ([], 99)
  | f + 1, b, need, prev =>
    if need = 0 then (if b = [] then ([], 0) else ([], 21))
    else if b = [] then ([], 20)
    else if (dec 0 b).2.2 ≠ 0 then ([], (dec 0 b).2.2)
    else if (dec 0 b).1 = 0 ∨ (dec 0 b).1 > (need : Int) then ([], 21)
    else if (dec 0 (b.drop (dec 0 b).2.1.toNat)).2.2 ≠ 0 then ([], (dec 0 (b.drop (dec 0 b).2.1.toNat)).2.2)
    else if prev = some (zag (dec 0 (b.drop (dec 0 b).2.1.toNat)).1.toNat) then ([], 21)
    else if (decR f (b.drop ((dec 0 b).2.1 + (dec 0 (b.drop (dec 0 b).2.1.toNat)).2.1).toNat) (need - (dec 0 b).1.toNat) (some (zag (dec 0 (b.drop (dec 0 b).2.1.toNat)).1.toNat))).2 = 0 then
      (((dec 0 b).1.toNat, zag (dec 0 (b.drop (dec 0 b).2.1.toNat)).1.toNat) :: (decR f (b.drop ((dec 0 b).2.1 + (dec 0 (b.drop (dec 0 b).2.1.toNat)).2.1).toNat) (need - (dec 0 b).1.toNat) (some (zag (dec 0 (b.drop (dec 0 b).2.1.toNat)).1.toNat))).1, 0)
    else ([], (decR f (b.drop ((dec 0 b).2.1 + (dec 0 (b.drop (dec 0 b).2.1.toNat)).2.1).toNat) (need - (dec 0 b).1.toNat) (some (zag (dec 0 (b.drop (dec 0 b).2.1.toNat)).1.toNat))).2)

/-- One round, by its outcome. -/
theorem rd_some (b : List Int) (need : Nat) (hb : ∀ x ∈ b, 0 ≤ x ∧ x < 256) :
    (b = [] ∧ need = 0) ∨ (b ≠ [] ∧ need = 0) ∨ (b = [] ∧ need ≠ 0) ∨
    (need ≠ 0 ∧ b ≠ [] ∧ ∃ e : Int, (e = 20 ∨ e = 21) ∧ dec 0 b = (0, 0, e)) ∨
    (need ≠ 0 ∧ b ≠ [] ∧ ∃ v n : Nat, dec 0 b = ((v : Int), (n : Int), 0) ∧ v < 18446744073709551616 ∧ (v = 0 ∨ need < v)) ∨
    (need ≠ 0 ∧ b ≠ [] ∧ ∃ v n : Nat, dec 0 b = ((v : Int), (n : Int), 0) ∧ 0 < v ∧ v ≤ need ∧ 0 < n ∧ n ≤ b.length ∧ ∃ e : Int, (e = 20 ∨ e = 21) ∧ dec 0 (b.drop n) = (0, 0, e)) ∨
    (need ≠ 0 ∧ b ≠ [] ∧ ∃ v n z m : Nat, dec 0 b = ((v : Int), (n : Int), 0) ∧ 0 < v ∧ v ≤ need ∧ 0 < n ∧ n + m ≤ b.length ∧ dec 0 (b.drop n) = ((z : Int), (m : Int), 0) ∧ z < 18446744073709551616 ∧
      enc v = b.take n ∧ enc z = (b.drop n).take m) := by
  by_cases h : need = 0
  · by_cases hn : b = []
    · exact .inl ⟨hn, h⟩
    · exact .inr (.inl ⟨hn, h⟩)
  by_cases hn : b = []
  · exact .inr (.inr (.inl ⟨hn, h⟩))
  refine .inr (.inr (.inr ?_))
  by_cases he : (dec 0 b).2.2 = 0
  · obtain ⟨v, n, hd, hv, h0, hl, hE, _⟩ := dec_ok b 0 (by omega) hb he
    rw [Nat.sub_zero] at hl hE
    have hv' : v < 18446744073709551616 := by simpa using hv
    by_cases hm : v = 0 ∨ need < v
    · exact .inr (.inl ⟨h, hn, v, n, hd, hv', hm⟩)
    have hb2 : ∀ x ∈ b.drop n, 0 ≤ x ∧ x < 256 := fun x hx => hb x (List.mem_of_mem_drop hx)
    by_cases he2 : (dec 0 (b.drop n)).2.2 = 0
    · obtain ⟨z, m, hd2, hz, h02, hl2, hE2, _⟩ := dec_ok (b.drop n) 0 (by omega) hb2 he2
      rw [Nat.sub_zero] at hl2 hE2
      rw [List.length_drop] at hl2
      exact .inr (.inr (.inr ⟨h, hn, v, n, z, m, hd, by omega, by omega, h0, by omega, hd2, by simpa using hz, hE, hE2⟩))
    · rcases dec_err _ 0 he2 with e | e
      · exact .inr (.inr (.inl ⟨h, hn, v, n, hd, by omega, by omega, h0, hl, 20, .inl rfl, e⟩))
      · exact .inr (.inr (.inl ⟨h, hn, v, n, hd, by omega, by omega, h0, hl, 21, .inr rfl, e⟩))
  · rcases dec_err _ 0 he with e | e
    · exact .inl ⟨h, hn, 20, .inl rfl, e⟩
    · exact .inl ⟨h, hn, 21, .inr rfl, e⟩

section steps
variable (f : Nat) (b : List Int) (need : Nat) (prev : Option Int)
theorem decR_end : decR (f + 1) [] 0 prev = ([], 0) := by simp only [decR]; rw [if_pos (by simp), if_pos (by simp)]
theorem decR_left (h : b ≠ []) : decR (f + 1) b 0 prev = ([], 21) := by simp only [decR]; rw [if_pos (by simp), if_neg h]
theorem decR_short (h : need ≠ 0) : decR (f + 1) [] need prev = ([], 20) := by simp only [decR]; rw [if_neg h, if_pos (by simp)]
theorem decR_bad (h : need ≠ 0) (hb : b ≠ []) (e : Int) (he : e = 20 ∨ e = 21) (hd : dec 0 b = (0, 0, e)) : decR (f + 1) b need prev = ([], e) := by
  simp only [decR]
  rw [if_neg h, if_neg hb, hd, if_pos (by rcases he with rfl | rfl <;> decide)]
theorem decR_many (h : need ≠ 0) (hb : b ≠ []) (v n : Nat) (hd : dec 0 b = ((v : Int), (n : Int), 0)) (hv : v = 0 ∨ need < v) : decR (f + 1) b need prev = ([], 21) := by
  simp only [decR]
  rw [if_neg h, if_neg hb, hd, if_neg (by simp), if_pos (by dsimp only; omega)]
theorem decR_bad2 (h : need ≠ 0) (hb : b ≠ []) (v n : Nat) (hd : dec 0 b = ((v : Int), (n : Int), 0)) (h0 : 0 < v) (hv : v ≤ need) (e : Int) (he : e = 20 ∨ e = 21) (hd2 : dec 0 (b.drop n) = (0, 0, e)) :
    decR (f + 1) b need prev = ([], e) := by
  simp only [decR]
  rw [if_neg h, if_neg hb, hd, if_neg (by simp), if_neg (by dsimp only; omega)]
  dsimp only
  rw [Int.toNat_natCast, hd2, if_pos (by rcases he with rfl | rfl <;> decide)]
theorem decR_go (h : need ≠ 0) (hb : b ≠ []) (v n z m : Nat) (hd : dec 0 b = ((v : Int), (n : Int), 0)) (h0 : 0 < v) (hv : v ≤ need) (hd2 : dec 0 (b.drop n) = ((z : Int), (m : Int), 0)) :
    decR (f + 1) b need prev = if prev = some (zag z) then ([], 21) else if (decR f (b.drop (n + m)) (need - v) (some (zag z))).2 = 0 then ((v, zag z) :: (decR f (b.drop (n + m)) (need - v) (some (zag z))).1, 0) else ([], (decR f (b.drop (n + m)) (need - v) (some (zag z))).2) := by
  simp only [decR]
  rw [if_neg h, if_neg hb, hd, if_neg (by simp), if_neg (by dsimp only; omega)]
  dsimp only
  rw [Int.toNat_natCast, hd2, if_neg (by simp)]
  dsimp only
  rw [← Int.natCast_add]
  simp only [Int.toNat_natCast]
end steps

/-- What is read without an error are runs as long as can be, and their bytes are what was read. -/
theorem decR_ok (f : Nat) : ∀ (b : List Int) (need : Nat) (prev : Option Int), (∀ x ∈ b, 0 ≤ x ∧ x < 256) → b.length < f → (decR f b need prev).2 = 0 →
    Good (decR f b need prev).1 need prev ∧ runBytes (decR f b need prev).1 = b := by
  induction f with
  | zero => intro b _ _ _ h; omega
  | succ f ih =>
    intro b need prev hb hf he
    rcases rd_some b need hb with ⟨rfl, rfl⟩ | ⟨hn, rfl⟩ | ⟨rfl, h⟩ | ⟨h, hn, e, h2, hd⟩ | ⟨h, hn, v, n, hd, _, hv⟩ | ⟨h, hn, v, n, hd, h0, hv, hn0, hnl, e, h2, hd2⟩ | ⟨h, hn, v, n, z, m, hd, h0, hv, hn0, hl, hd2, hz, hE, hE2⟩
    · rw [decR_end]; exact ⟨rfl, rfl⟩
    · rw [decR_left f b prev hn] at he; exact absurd he (by decide)
    · rw [decR_short f need prev h] at he; exact absurd he (by decide)
    · rw [decR_bad f b need prev h hn e h2 hd] at he
      exact absurd he (by rcases h2 with rfl | rfl <;> decide)
    · rw [decR_many f b need prev h hn v n hd hv] at he; exact absurd he (by decide)
    · rw [decR_bad2 f b need prev h hn v n hd h0 hv e h2 hd2] at he
      exact absurd he (by rcases h2 with rfl | rfl <;> decide)
    · rw [decR_go f b need prev h hn v n z m hd h0 hv hd2] at he ⊢
      by_cases hp : prev = some (zag z)
      · rw [if_pos hp] at he; exact absurd he (by decide)
      · rw [if_neg hp] at he ⊢
        by_cases hr : (decR f (b.drop (n + m)) (need - v) (some (zag z))).2 = 0
        · rw [if_pos hr]
          obtain ⟨g1, g2⟩ := ih (b.drop (n + m)) (need - v) (some (zag z)) (fun x hx => hb x (List.mem_of_mem_drop hx)) (by rw [List.length_drop]; omega) hr
          refine ⟨⟨h0, hv, zag_lt hz, hp, g1⟩, ?_⟩
          simp only [runBytes]
          rw [g2, zig_zag, hE, hE2]
          rw [← List.drop_drop, List.append_assoc, List.take_append_drop, List.take_append_drop]
        · rw [if_neg hr] at he; exact absurd he hr
theorem decR_err (f : Nat) : ∀ (b : List Int) (need : Nat) (prev : Option Int), (decR f b need prev).2 ≠ 0 → (decR f b need prev).1 = [] := by
  cases f with
  | zero => intro b need prev _; rfl
  | succ f =>
    intro b need prev
    simp only [decR]
    repeat' split
    all_goals first | (intro _; rfl) | (intro h; exact absurd rfl h)
/-- The bytes of such runs are read as these runs. -/
theorem decR_put (rs : List (Nat × Int)) : ∀ (f need : Nat) (prev : Option Int), need < 18446744073709551616 → Good rs need prev → (runBytes rs).length < f → decR f (runBytes rs) need prev = (rs, 0) := by
  induction rs with
  | nil =>
    intro f need prev _ hg hf
    obtain ⟨f, rfl⟩ : ∃ m, f = m + 1 := ⟨f - 1, by omega⟩
    simp only [Good] at hg
    subst hg
    exact decR_end f prev
  | cons p t ih =>
    intro f need prev hneed hg hf
    obtain ⟨f, rfl⟩ : ∃ m, f = m + 1 := ⟨f - 1, by omega⟩
    obtain ⟨h1, h2, h3, h4, h5⟩ := hg
    have hz := zig_lt h3.1 h3.2
    have hp := enc_pos p.1
    have e0 : runBytes (p :: t) = enc p.1 ++ (enc (zig p.2) ++ runBytes t) := by simp only [runBytes, List.append_assoc]
    rw [e0] at hf ⊢
    have hd : dec 0 (enc p.1 ++ (enc (zig p.2) ++ runBytes t)) = ((p.1 : Int), ((enc p.1).length : Int), 0) := dec_head _ (by omega) _
    have hd2 : dec 0 ((enc p.1 ++ (enc (zig p.2) ++ runBytes t)).drop (enc p.1).length) = (((zig p.2 : Nat) : Int), ((enc (zig p.2)).length : Int), 0) := by
      rw [List.drop_left]
      exact dec_head _ hz _
    simp only [List.length_append] at hf
    have hr := ih f (need - p.1) (some p.2) (by omega) h5 (by omega)
    rw [decR_go f _ need prev (by omega) (by intro h; have := congrArg List.length h; simp only [List.length_append, List.length_nil] at this; omega) p.1 _ _ _ hd h1 h2 hd2, zag_zig, if_neg h4]
    have e1 : (enc p.1 ++ (enc (zig p.2) ++ runBytes t)).drop ((enc p.1).length + (enc (zig p.2)).length) = runBytes t := by
      rw [← List.drop_drop, List.drop_left, List.drop_left]
    rw [e1, hr, if_pos rfl]

/-! ### the whole way -/
def dgot (b : List Int) (n : Int) : List Int × Int :=
  if n < 0 ∨ 65536 < n then ([], 1) else if (decR (b.length + 1) b n.toNat none).2 = 0 then (intg (flat (decR (b.length + 1) b n.toNat none).1) 0 0, 0) else ([], (decR (b.length + 1) b n.toNat none).2)
def putB (zs : List Int) : List Int := runBytes (rst zs 0 0 0 0)
theorem good_put (zs : List Int) : Good (rst zs 0 0 0 0) zs.length none := by
  rw [rst_rle]
  have := good_rle (chs zs 0 0) 0 0 none (chs_i64 zs 0 0) (by omega) (fun _ => rfl)
  rwa [chs_len, Nat.zero_add] at this
theorem flat_put (zs : List Int) (h : ∀ x ∈ zs, I64 x) : intg (flat (rst zs 0 0 0 0)) 0 0 = zs := by
  rw [rst_rle, flat_rle]
  exact intg_chs zs 0 0 h
theorem dgot_put (zs : List Int) (h : ∀ x ∈ zs, I64 x) (hl : zs.length ≤ 65536) : dgot (putB zs) (zs.length : Int) = (zs, 0) := by
  unfold dgot putB
  have := decR_put (rst zs 0 0 0 0) ((runBytes (rst zs 0 0 0 0)).length + 1) zs.length none (by omega) (good_put zs) (by omega)
  rw [if_neg (by omega), Int.toNat_natCast, this, if_pos rfl, flat_put zs h]
theorem dgot_other (zs : List Int) (n : Int) (hl : zs.length ≤ 65536) (hn : n ≠ (zs.length : Int)) : (dgot (putB zs) n).2 ≠ 0 := by
  unfold dgot
  by_cases hr : n < 0 ∨ 65536 < n
  · rw [if_pos hr]; decide
  · rw [if_neg hr]
    by_cases he : (decR ((putB zs).length + 1) (putB zs) n.toNat none).2 = 0
    · obtain ⟨g1, g2⟩ := decR_ok _ (putB zs) n.toNat none (runBytes_byte _) (by omega) he
      have hg := good_put zs
      have e := runBytes_inj _ _ _ _ _ _ (by omega) (by omega) g1 hg g2
      have h1 := flat_len _ _ _ g1
      have h2 := flat_len _ _ _ hg
      rw [e] at h1
      omega
    · rw [if_neg he]; exact he
theorem dgot_ok (b : List Int) (n : Int) (hb : ∀ x ∈ b, 0 ≤ x ∧ x < 256) (h : (dgot b n).2 = 0) : ((dgot b n).1.length : Int) = n ∧ n ≤ 65536 ∧ putB (dgot b n).1 = b := by
  unfold dgot at h ⊢
  by_cases hr : n < 0 ∨ 65536 < n
  · rw [if_pos hr] at h; exact absurd h (by decide)
  · rw [if_neg hr] at h ⊢
    by_cases he : (decR (b.length + 1) b n.toNat none).2 = 0
    · rw [if_pos he]
      obtain ⟨g1, g2⟩ := decR_ok _ b n.toNat none hb (by omega) he
      have h1 := flat_len _ _ _ g1
      have h2 := flat_i64 _ _ _ g1
      dsimp only
      refine ⟨by rw [intg_len]; omega, by omega, ?_⟩
      unfold putB
      rw [rst_rle, chs_intg _ _ _ h2, rle_flat0 _ _ _ g1, g2]
    · rw [if_neg he] at h; exact absurd h he
theorem dgot_err (b : List Int) (n : Int) (h : (dgot b n).2 ≠ 0) : (dgot b n).1 = [] := by
  unfold dgot at h ⊢
  split
  · rfl
  · rename_i hr
    rw [if_neg hr] at h
    split
    · rename_i he; rw [if_pos he] at h; exact absurd rfl h
    · rfl
end Go.Proofs.Ytlfaicpcdiphkaa.Vi
