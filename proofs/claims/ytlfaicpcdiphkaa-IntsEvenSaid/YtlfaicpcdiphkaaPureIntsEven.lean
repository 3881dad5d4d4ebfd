/- IntsEven: for every start, step and number of entries (taken modulo 5,001): the even row is put in at most 36 bytes and got again: the law answers true. No condition. -/
import Derived.Test.YtlfaicpcdiphkaaIg
import Derived.Test.YtlfaicpcdiphkaaM28
namespace Go.Proofs.Ytlfaicpcdiphkaa.Pure
open Go.RowKit Go.Proofs.Ytlfaicpcdiphkaa.M Go.Proofs.YtlfaicpcdiphkaaW.PrintWords Go.Proofs.YtlfaicpcdiphkaaW.PrintLast
open Go.Proofs.Ytlfaicpcdiphkaa.Vi

def evens : Nat → Int → Int → List Int
  | 0, _, _ => []
  | m + 1, a, s => a :: evens m (wrap64 (a + s)) s
theorem evens_len (m : Nat) : ∀ a s, (evens m a s).length = m := by
  induction m with
  | zero => intro _ _; rfl
  | succ m ih => intro a s; simp only [evens, List.length_cons, ih]
theorem evens_i64 (m : Nat) : ∀ a s, I64 a → ∀ x ∈ evens m a s, I64 x := by
  induction m with
  | zero => intro _ _ _ x hx; cases hx
  | succ m ih =>
    intro a s ha x hx
    rcases List.mem_cons.1 hx with rfl | hx
    · exact ha
    · exact ih _ s (i64_w _) x hx
theorem chs_evens (m : Nat) : ∀ last s, I64 s → chs (evens m (wrap64 (last + s)) s) last s = List.replicate m 0 := by
  induction m with
  | zero => intro _ _ _; rfl
  | succ m ih =>
    intro last s hs
    have e1 : wrap64 (wrap64 (last + s) - last) = s := wrap64_add_sub hs
    simp only [evens, chs, List.replicate_succ]
    rw [e1, ih _ s hs, Int.sub_self, show wrap64 0 = 0 from wrap64_id (by omega) (by omega)]
theorem rle_zeros (m n : Nat) : (rle (List.replicate m 0) (n + 1) 0).length = 1 := by
  have := rle_replicate m 0 [] n
  rw [List.append_nil] at this
  rw [this]
  simp only [rle]
  rw [if_pos (by omega)]
  rfl
theorem rle_zeros2 (m n : Nat) (ch : Int) : (rle (List.replicate m 0) (n + 1) ch).length ≤ 2 := by
  cases m with
  | zero =>
    simp only [List.replicate_zero, rle]
    split <;> simp
  | succ m =>
    simp only [List.replicate_succ, rle]
    split
    · have := rle_zeros m 0
      rw [Nat.zero_add] at this
      simp only [List.length_cons]
      omega
    · have := rle_zeros m (n + 1)
      omega
theorem rle_three (m : Nat) (a d : Int) : (rle (a :: d :: List.replicate m 0) 0 0).length ≤ 3 := by
  simp only [rle]
  rw [if_neg (by simp)]
  split
  · have := rle_zeros2 m 0 d
    rw [Nat.zero_add] at this ⊢
    simp only [List.length_cons]
    omega
  · have := rle_zeros2 m 1 d
    rw [Nat.zero_add]
    omega
theorem rst_evens (m : Nat) (a s : Int) (ha : I64 a) (hs : I64 s) : (rst (evens m a s) 0 0 0 0).length ≤ 3 := by
  rw [rst_rle]
  cases m with
  | zero => simp [evens, chs, rle]
  | succ m =>
    have e1 : wrap64 (wrap64 (a - 0) - 0) = a := by
      rw [Int.sub_zero, Int.sub_zero, wrap64_id ha.1 ha.2, wrap64_id ha.1 ha.2]
    cases m with
    | zero =>
      simp only [evens, chs]
      simp only [rle]
      split
      · simp
      · split <;> simp
    | succ m =>
      have e2 : wrap64 (wrap64 (a + s) - a) = s := wrap64_add_sub hs
      simp only [evens, chs]
      rw [e1, e2, chs_evens m _ s hs]
      exact rle_three m a _
theorem runBytes_small (rs : List (Nat × Int)) : ∀ need prev, Vi.Good rs need prev → need < 16384 → (runBytes rs).length ≤ 12 * rs.length := by
  induction rs with
  | nil => intro _ _ _ _; simp [runBytes]
  | cons p t ih =>
    intro need prev hg hn
    obtain ⟨h1, h2, h3, h4, h5⟩ := hg
    have := ih _ _ h5 (by omega)
    have e1 := enc_len 1 p.1 (by simp; omega)
    have e2 := enc_ten (zig_lt h3.1 h3.2)
    simp only [runBytes, List.length_append, List.length_cons]
    omega

theorem even_l0 (s x2 : Int) (N : Nat) (hN : Int.tmod (wrap64 x2) 5001 = (N : Int)) (hN2 : N ≤ 5000) (a : Int) (ha : I64 a) (hs : I64 s) (m : Nat) : ∀ (acc : List Int) (cur : Int) (i : Nat), i + m = N → acc.length = i → acc ++ evens m cur s = evens N a s →
    Ev (fun k => tidelinelaw05_IntsEven.l0 k s x2 acc cur (i : Int)) true := by
  induction m with
  | zero =>
    intro acc cur i hi hacc hrow
    simp only [evens, List.append_nil] at hrow
    have hl := evens_len N a s
    have hr : ∀ x ∈ acc, I64 x := by rw [hrow]; exact evens_i64 N a s ha
    have h36 : (putB acc).length ≤ 36 := by
      have h1 := rst_evens N a s ha hs
      rw [← hrow] at h1
      have h2 := runBytes_small _ _ _ (good_put acc) (by omega)
      unfold putB
      omega
    obtain ⟨K1, h1⟩ := dgot_ev (putB acc) (acc.length : Int) (runBytes_byte _)
    obtain ⟨K2, h2⟩ := same_ev acc (by omega)
    obtain ⟨K3, h3⟩ := puts5_ev
    rw [dgot_put acc hr (by omega)] at h1
    refine ⟨K1 + K2 + K3 + 1, fun k hk => ?_⟩
    obtain ⟨k, rfl⟩ : ∃ m, k = m + 1 := ⟨k - 1, by omega⟩
    have e1 : ints_Get.f k (putB acc) (acc.length : Int) = some (acc, 0) := h1 _ (by omega)
    have e2 : tidelineref05_Same.f k acc acc = some true := h2 _ (by omega)
    have e3 : tidelinelaw05_puts.f k = some true := h3 _ (by omega)
    have e0 : ints_Put.f acc = some (putB acc) := by
      unfold ints_Put.f putB
      rw [if_pos (by omega)]
    simp only [tidelinelaw05_IntsEven.l0]
    rw [hN, if_neg (by omega), e0, Option.bind_some, e1, Option.bind_some]
    dsimp only
    rw [if_pos rfl, e2, Option.bind_some, if_pos rfl, if_pos (by omega), e3]
    rfl
  | succ m ih =>
    intro acc cur i hi hacc hrow
    refine Ev.step (fun k => ?_) (ih (acc ++ [cur]) (wrap64 (cur + s)) (i + 1) (by omega) (by simp; omega) (by rw [← hrow]; simp [evens]))
    simp only [tidelinelaw05_IntsEven.l0]
    rw [hN, if_pos (by omega), if_pos (by omega), wrap64_id (n := (i : Int) + 1) (by omega) (by omega)]
    rfl
theorem u16_of {n : Int} (h : (Lit.int .u16 n).wf = true) : 0 ≤ n ∧ n < 65536 := by
  simp [Lit.wf, IntKind.min, IntKind.max, IntKind.signed, IntKind.bits] at h
  omega

theorem IntsEven : tidelinelaw05_IntsEven.Pure := by
  intro a0 a1 a2 h0 h1 h2
  have h2 := u16_of h2
  obtain ⟨x, rfl⟩ := Int.eq_ofNat_of_zero_le h2.1
  have hN : Int.tmod (wrap64 (x : Int)) 5001 = ((x % 5001 : Nat) : Int) := by
    rw [wrap64_id (by omega) (by omega)]
    exact tmod_nat x 5001
  obtain ⟨K, h⟩ := even_l0 a1 (x : Int) (x % 5001) hN (by omega) a0 (i64_of h0) (i64_of h1) (x % 5001) [] a0 0 (by omega) rfl rfl
  exact ⟨K, h K (Nat.le_refl _)⟩

end Go.Proofs.Ytlfaicpcdiphkaa.Pure
