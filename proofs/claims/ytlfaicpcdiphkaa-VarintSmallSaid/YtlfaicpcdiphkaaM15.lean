/- Written for this claim by a program (a turned copy of the kit's print): plain Lean functions for the Go functions that the law reaches, and the proof that each call comes to what its function says; conditions: those named in each statement. Lean checks all of it. -/
import Derived.Test.YtlfaicpcdiphkaaM0
import Derived.Test.YtlfaicpcdiphkaaM4
import Derived.Test.YtlfaicpcdiphkaaM6
namespace Go.Proofs.Ytlfaicpcdiphkaa.M
open Go.RowKit Go.Proofs.YtlfaicpcdiphkaaW.PrintWords Go.Proofs.YtlfaicpcdiphkaaW.PrintLast Go.Proofs.YtlfaicpcdiphkaaW.PrintMore
attribute [local go_sem] max2_int min2_int max_two min_two max_three min_three max_four min_four   -- for this text's walks alone
set_option linter.unusedVariables false
set_option linter.unusedSimpArgs false

/-! ### tidelinelaw02_VarintSmall: function 8 -/
def tidelinelaw02_VarintSmall.j0 : Nat → Int → Int → Bool → Option (Bool)
  | 0, _, _, _ => none
  | k + 1, x0, x3, x26 => if x26 = true then (some false) else (if x0 ≥ 0 then (if x0 < 4611686018427387904 then ((varint_Zig.f (wrap64 ((wrap64 (-x0)) - 1))).bind fun t228 => (if t228 = (IntKind.u64.wrap (x3 + 1)) then ((tidelinelaw02_puts.f k).bind fun t229 => (some t229)) else (some false))) else ((tidelinelaw02_puts.f k).bind fun t230 => (some t230))) else ((tidelinelaw02_puts.f k).bind fun t231 => (some t231)))
def tidelinelaw02_VarintSmall.f (k : Nat) (a0 : Int) : Option (Bool) := (varint_Zig.f a0).bind fun t227 => (if a0 ≥ 0 then (if t227 = (IntKind.u64.wrap ((IntKind.u64.wrap (a0)) * 2)) then (if a0 < 0 then (tidelinelaw02_VarintSmall.j0 k a0 t227 ((IntKind.u64.wrap (Int.tdiv t227 2)) != (IntKind.u64.wrap (wrap64 ((-1) - a0))))) else (tidelinelaw02_VarintSmall.j0 k a0 t227 false)) else (tidelinelaw02_VarintSmall.j0 k a0 t227 true)) else (if a0 < 0 then (tidelinelaw02_VarintSmall.j0 k a0 t227 ((IntKind.u64.wrap (Int.tdiv t227 2)) != (IntKind.u64.wrap (wrap64 ((-1) - a0))))) else (tidelinelaw02_VarintSmall.j0 k a0 t227 false)))
theorem tidelinelaw02_VarintSmall.mono_l : ∀ k, (∀ y0 y1 y2, LeO (tidelinelaw02_VarintSmall.j0 k y0 y1 y2) (tidelinelaw02_VarintSmall.j0 (k + 1) y0 y1 y2))
  | 0 => fun _ _ _ r h => by simp [tidelinelaw02_VarintSmall.j0] at h
  | k + 1 => by
    have ih0 := tidelinelaw02_VarintSmall.mono_l k
    · intro y0 y1 y2
      unfold tidelinelaw02_VarintSmall.j0
      repeat' first
      | (with_reducible exact ih0 _ _ _)
      | (with_reducible exact tidelinelaw02_puts.mono _)
      | (with_reducible exact LeO.refl _)
      | (with_reducible exact LeO.none _)
      | (with_reducible refine LeO.ite ?_ ?_)
      | (with_reducible refine LeO.bind ?_ (fun _ => ?_))
      | exact ih0 _ _ _
      | exact tidelinelaw02_puts.mono _
      | exact LeO.none _
      | refine LeO.ite ?_ ?_
      | refine LeO.bind ?_ (fun _ => ?_)
theorem tidelinelaw02_VarintSmall.mono : ∀ a0 k, LeO (tidelinelaw02_VarintSmall.f k a0) (tidelinelaw02_VarintSmall.f (k + 1) a0) := by
  intro a0 k
  have ih0 := tidelinelaw02_VarintSmall.mono_l k
  unfold tidelinelaw02_VarintSmall.f
  repeat' first
      | (with_reducible exact ih0 _ _ _)
      | (with_reducible exact tidelinelaw02_puts.mono _)
      | (with_reducible exact LeO.refl _)
      | (with_reducible exact LeO.none _)
      | (with_reducible refine LeO.ite ?_ ?_)
      | (with_reducible refine LeO.bind ?_ (fun _ => ?_))
      | exact ih0 _ _ _
      | exact tidelinelaw02_puts.mono _
      | exact LeO.none _
      | refine LeO.ite ?_ ?_
      | refine LeO.bind ?_ (fun _ => ?_)
set_option maxHeartbeats 8000000 in
set_option maxRecDepth 100000 in
theorem tidelinelaw02_VarintSmall.calls (k : Nat) (a0 : Int) (r : Bool) (w : World) (hrt : r = true) (h : tidelinelaw02_VarintSmall.f k a0 = some r) :
    Calls Try.prog 8 #[.int .i64 a0] w fun e w' => e = .returned (.bool r) ∧ Below w.heap.size w w' := by
  have HRT := Aside0.mk hrt
  clear hrt
  have HB := Aside0.mk (Below.refl w.heap.size w)
  have H : ((varint_Zig.f a0).bind fun t227 => (if a0 ≥ 0 then (if t227 = (IntKind.u64.wrap ((IntKind.u64.wrap (a0)) * 2)) then (if a0 < 0 then (tidelinelaw02_VarintSmall.j0 k a0 t227 ((IntKind.u64.wrap (Int.tdiv t227 2)) != (IntKind.u64.wrap (wrap64 ((-1) - a0))))) else (tidelinelaw02_VarintSmall.j0 k a0 t227 false)) else (tidelinelaw02_VarintSmall.j0 k a0 t227 true)) else (if a0 < 0 then (tidelinelaw02_VarintSmall.j0 k a0 t227 ((IntKind.u64.wrap (Int.tdiv t227 2)) != (IntKind.u64.wrap (wrap64 ((-1) - a0))))) else (tidelinelaw02_VarintSmall.j0 k a0 t227 false)))) = some r := h
  clear h
  replace H := Option.bind_eq_some_iff.mp H
  obtain ⟨t227, A20, H⟩ := H
  replace H : (if a0 ≥ 0 then (if t227 = (IntKind.u64.wrap ((IntKind.u64.wrap (a0)) * 2)) then (if a0 < 0 then (tidelinelaw02_VarintSmall.j0 k a0 t227 ((IntKind.u64.wrap (Int.tdiv t227 2)) != (IntKind.u64.wrap (wrap64 ((-1) - a0))))) else (tidelinelaw02_VarintSmall.j0 k a0 t227 false)) else (tidelinelaw02_VarintSmall.j0 k a0 t227 true)) else (if a0 < 0 then (tidelinelaw02_VarintSmall.j0 k a0 t227 ((IntKind.u64.wrap (Int.tdiv t227 2)) != (IntKind.u64.wrap (wrap64 ((-1) - a0))))) else (tidelinelaw02_VarintSmall.j0 k a0 t227 false))) = some r := H
  have A2 := Aside0.mk A20
  clear A20
  have HC3 := Aside0.mk H
  clear H
  go_enter Try.func8, Try.ntmps8
  go_upto_region 2 with (first | ((with_reducible refine gate_callee (f := 21) rfl ?_); refine goesL_ (some 5) rfl rfl Try.func21 (by kernel_rfl) rfl #[.int .i64 a0] rfl (by (try simp only [List.map_toArray, List.map_cons, List.map_nil]); first | done | rfl | (simp only [List.length_drop, List.length_take]; rfl)) ?_; (with_reducible refine (varint_Zig.calls a0 t227 _ A2.out).mono ?_); rintro e w' ⟨rfl, ⟨nd, rfl⟩⟩; refine ⟨_, rfl, ?_⟩))
  (try simp only [Act.put, List.setIfInBounds_toArray, List.set_cons_zero, List.set_cons_succ])
  go_cut [26] (fun v26 wc => ∃ (kq : Nat) (x26_2 : Bool), v26 = .bool x26_2 ∧ Aside0 (tidelinelaw02_VarintSmall.j0 kq a0 t227 x26_2 = some r) ∧ Aside0 (kq ≤ k) ∧ Aside0 (Below w.heap.size w wc))
  case first =>
    have H := HC3.out
    clear HC3
    by_cases c4 : a0 ≥ 0
    · rw [if_pos c4] at H
      have c4b0 : decide (0 ≤ a0) = true := decide_eq_true c4
      clear c4
      (first | rw [c4b0] | (simp only [i64_w, i32_w]; rw [c4b0]) | skip)
      by_cases c5 : t227 = (IntKind.u64.wrap ((IntKind.u64.wrap (a0)) * 2))
      · rw [if_pos c5] at H
        have c5b0 : (t227 == (IntKind.u64.wrap ((IntKind.u64.wrap (a0)) * 2))) = true := beq_iff_eq.mpr c5
        have c5b1 : (t227 != (IntKind.u64.wrap ((IntKind.u64.wrap (a0)) * 2))) = false := bne_eq_false_iff_eq.mpr c5
        clear c5
        by_cases c6 : a0 < 0
        · rw [if_pos c6] at H
          have c6b0 : decide (a0 < 0) = true := decide_eq_true c6
          clear c6
          have H' := Aside0.mk H
          clear H
          go_wp2
          go_meet
          case rel => exact ⟨_, (((IntKind.u64.wrap (Int.tdiv t227 2)) != (IntKind.u64.wrap (wrap64 ((-1) - a0))))), (by first | rfl | (simp; done) | (simp [*]; done)), H', ⟨by first | omega | exact Nat.le_refl _⟩, ⟨by repeat (first | (with_reducible first | exact HB.out | apply below_alloc | apply pw_below_drewN | apply below_drew1) | exact HB.out)⟩⟩
        · rw [if_neg c6] at H
          have c6b0 : decide (a0 < 0) = false := decide_eq_false c6
          clear c6
          have H' := Aside0.mk H
          clear H
          go_wp2
          go_meet
          case rel => exact ⟨_, (false), (by first | rfl | (simp; done) | (simp [*]; done)), H', ⟨by first | omega | exact Nat.le_refl _⟩, ⟨by repeat (first | (with_reducible first | exact HB.out | apply below_alloc | apply pw_below_drewN | apply below_drew1) | exact HB.out)⟩⟩
      · rw [if_neg c5] at H
        have c5b0 : (t227 == (IntKind.u64.wrap ((IntKind.u64.wrap (a0)) * 2))) = false := beq_eq_false_iff_ne.mpr c5
        have c5b1 : (t227 != (IntKind.u64.wrap ((IntKind.u64.wrap (a0)) * 2))) = true := bne_iff_ne.mpr c5
        have H' := Aside0.mk H
        clear H
        go_wp2
        go_meet
        case rel => exact ⟨_, (true), (by first | rfl | (simp; done) | (simp [*]; done)), H', ⟨by first | omega | exact Nat.le_refl _⟩, ⟨by repeat (first | (with_reducible first | exact HB.out | apply below_alloc | apply pw_below_drewN | apply below_drew1) | exact HB.out)⟩⟩
    · rw [if_neg c4] at H
      have c4b0 : decide (0 ≤ a0) = false := decide_eq_false c4
      clear c4
      (first | rw [c4b0] | (simp only [i64_w, i32_w]; rw [c4b0]) | skip)
      by_cases c7 : a0 < 0
      · rw [if_pos c7] at H
        have c7b0 : decide (a0 < 0) = true := decide_eq_true c7
        clear c7
        have H' := Aside0.mk H
        clear H
        go_wp2
        go_meet
        case rel => exact ⟨_, (((IntKind.u64.wrap (Int.tdiv t227 2)) != (IntKind.u64.wrap (wrap64 ((-1) - a0))))), (by first | rfl | (simp; done) | (simp [*]; done)), H', ⟨by first | omega | exact Nat.le_refl _⟩, ⟨by repeat (first | (with_reducible first | exact HB.out | apply below_alloc | apply pw_below_drewN | apply below_drew1) | exact HB.out)⟩⟩
      · rw [if_neg c7] at H
        have c7b0 : decide (a0 < 0) = false := decide_eq_false c7
        clear c7
        have H' := Aside0.mk H
        clear H
        go_wp2
        go_meet
        case rel => exact ⟨_, (false), (by first | rfl | (simp; done) | (simp [*]; done)), H', ⟨by first | omega | exact Nat.le_refl _⟩, ⟨by repeat (first | (with_reducible first | exact HB.out | apply below_alloc | apply pw_below_drewN | apply below_drew1) | exact HB.out)⟩⟩
  case rest =>
    clear HC3
    try clear c2
    try clear p2
    try clear c4
    try clear c4b0
    try clear c5
    try clear c5b0
    try clear c5b1
    try clear c6
    try clear c6b0
    try clear p6
    try clear c7
    try clear c7b0
    obtain ⟨kq, x26_2, rfl, HA, HJ2, HB⟩ := hcut
    cases kq with
    | zero => exact absurd HA.out (by simp [tidelinelaw02_VarintSmall.j0])
    | succ kj2 =>
      have H := HA.out
      clear HA
      simp only [tidelinelaw02_VarintSmall.j0] at H
      by_cases c8 : x26_2 = true
      · subst c8
        have H1 : (some false) = some r := by rw [if_pos rfl] at H; exact H
        clear H
        have H := H1
        clear H1
        exact absurd ((Option.some.inj H).trans HRT.out) (by decide)
      · replace c8 := Bool.eq_false_iff.mpr c8
        subst c8
        have H1 : (if a0 ≥ 0 then (if a0 < 4611686018427387904 then ((varint_Zig.f (wrap64 ((wrap64 (-a0)) - 1))).bind fun t228 => (if t228 = (IntKind.u64.wrap (t227 + 1)) then ((tidelinelaw02_puts.f kj2).bind fun t229 => (some t229)) else (some false))) else ((tidelinelaw02_puts.f kj2).bind fun t230 => (some t230))) else ((tidelinelaw02_puts.f kj2).bind fun t231 => (some t231))) = some r := by rw [if_neg (show ¬ (false = true) by decide)] at H; exact H
        clear H
        have H := H1
        clear H1
        by_cases c9 : a0 ≥ 0
        · rw [if_pos c9] at H
          have c9b0 : decide (0 ≤ a0) = true := decide_eq_true c9
          clear c9
          by_cases c10 : a0 < 4611686018427387904
          · rw [if_pos c10] at H
            have c10b0 : decide (a0 < 4611686018427387904) = true := decide_eq_true c10
            clear c10
            replace H := Option.bind_eq_some_iff.mp H
            obtain ⟨t228, A110, H⟩ := H
            replace H : (if t228 = (IntKind.u64.wrap (t227 + 1)) then ((tidelinelaw02_puts.f kj2).bind fun t229 => (some t229)) else (some false)) = some r := H
            have A11 := Aside0.mk A110
            clear A110
            by_cases c12 : t228 = (IntKind.u64.wrap (t227 + 1))
            · rw [if_pos c12] at H
              have c12b0 : (t228 == (IntKind.u64.wrap (t227 + 1))) = true := beq_iff_eq.mpr c12
              have c12b1 : (t228 != (IntKind.u64.wrap (t227 + 1))) = false := bne_eq_false_iff_eq.mpr c12
              clear c12
              replace H := Option.bind_eq_some_iff.mp H
              obtain ⟨t229, A130, H⟩ := H
              replace H : (some t229) = some r := H
              have A13 := Aside0.mk A130
              clear A130
              obtain rfl := Option.some.inj H
              go_wp2_with (first | (go_at_call 21; (with_reducible refine (varint_Zig.calls (wrap64 ((wrap64 (-a0)) - 1)) t228 _ A11.out).mono ?_); rintro e w' ⟨rfl, ⟨nd, rfl⟩⟩) | ((with_reducible refine gate_callee (f := 18) rfl ?_); refine goesL_ (some 42) rfl rfl Try.func18 (by kernel_rfl) rfl #[] rfl (by (try simp only [List.map_toArray, List.map_cons, List.map_nil]); first | done | rfl | (simp only [List.length_drop, List.length_take]; rfl)) ?_; (with_reducible refine (tidelinelaw02_puts.calls kj2  t229 _ A13.out).mono ?_); rintro e w14 ⟨rfl, hb⟩; refine ⟨_, rfl, ?_⟩; have n0_ := Aside0.mk (below_step (by repeat (first | (with_reducible first | exact HB.out | apply below_alloc | apply pw_below_drewN | apply below_drew1) | exact HB.out)) hb); clear HB; have HB := n0_; clear n0_; (try clear hb); (try clear hb2); (try clear hk); (try clear hi)))
              go_ret
              exact ⟨by first | rfl | (simp [errW_none, errW_some] <;> rfl) | (simp [*, errW_none, errW_some] <;> rfl), by repeat (first | (with_reducible first | exact HB.out | apply below_alloc | apply pw_below_drewN | apply below_drew1) | exact HB.out)⟩
            · rw [if_neg c12] at H
              have c12b0 : (t228 == (IntKind.u64.wrap (t227 + 1))) = false := beq_eq_false_iff_ne.mpr c12
              have c12b1 : (t228 != (IntKind.u64.wrap (t227 + 1))) = true := bne_iff_ne.mpr c12
              exact absurd ((Option.some.inj H).trans HRT.out) (by decide)
          · rw [if_neg c10] at H
            have c10b0 : decide (a0 < 4611686018427387904) = false := decide_eq_false c10
            clear c10
            replace H := Option.bind_eq_some_iff.mp H
            obtain ⟨t230, A150, H⟩ := H
            replace H : (some t230) = some r := H
            have A15 := Aside0.mk A150
            clear A150
            obtain rfl := Option.some.inj H
            go_wp2_with (first | ((with_reducible refine gate_callee (f := 18) rfl ?_); refine goesL_ (some 42) rfl rfl Try.func18 (by kernel_rfl) rfl #[] rfl (by (try simp only [List.map_toArray, List.map_cons, List.map_nil]); first | done | rfl | (simp only [List.length_drop, List.length_take]; rfl)) ?_; (with_reducible refine (tidelinelaw02_puts.calls kj2  t230 _ A15.out).mono ?_); rintro e w16 ⟨rfl, hb⟩; refine ⟨_, rfl, ?_⟩; have n0_ := Aside0.mk (below_step (by repeat (first | (with_reducible first | exact HB.out | apply below_alloc | apply pw_below_drewN | apply below_drew1) | exact HB.out)) hb); clear HB; have HB := n0_; clear n0_; (try clear hb); (try clear hb2); (try clear hk); (try clear hi)))
            go_ret
            exact ⟨by first | rfl | (simp [errW_none, errW_some] <;> rfl) | (simp [*, errW_none, errW_some] <;> rfl), by repeat (first | (with_reducible first | exact HB.out | apply below_alloc | apply pw_below_drewN | apply below_drew1) | exact HB.out)⟩
        · rw [if_neg c9] at H
          have c9b0 : decide (0 ≤ a0) = false := decide_eq_false c9
          clear c9
          replace H := Option.bind_eq_some_iff.mp H
          obtain ⟨t231, A170, H⟩ := H
          replace H : (some t231) = some r := H
          have A17 := Aside0.mk A170
          clear A170
          obtain rfl := Option.some.inj H
          go_wp2_with (first | ((with_reducible refine gate_callee (f := 18) rfl ?_); refine goesL_ (some 42) rfl rfl Try.func18 (by kernel_rfl) rfl #[] rfl (by (try simp only [List.map_toArray, List.map_cons, List.map_nil]); first | done | rfl | (simp only [List.length_drop, List.length_take]; rfl)) ?_; (with_reducible refine (tidelinelaw02_puts.calls kj2  t231 _ A17.out).mono ?_); rintro e w18 ⟨rfl, hb⟩; refine ⟨_, rfl, ?_⟩; have n0_ := Aside0.mk (below_step (by repeat (first | (with_reducible first | exact HB.out | apply below_alloc | apply pw_below_drewN | apply below_drew1) | exact HB.out)) hb); clear HB; have HB := n0_; clear n0_; (try clear hb); (try clear hb2); (try clear hk); (try clear hi)))
          go_ret
          exact ⟨by first | rfl | (simp [errW_none, errW_some] <;> rfl) | (simp [*, errW_none, errW_some] <;> rfl), by repeat (first | (with_reducible first | exact HB.out | apply below_alloc | apply pw_below_drewN | apply below_drew1) | exact HB.out)⟩

/-- THE ONE PURE STATEMENT of tidelinelaw02_VarintSmall: yours. -/
def tidelinelaw02_VarintSmall.Pure : Prop := ∀ (a0 : Int), (Lit.int .i64 a0).wf = true → ∃ k, tidelinelaw02_VarintSmall.f k a0 = some true
theorem tidelinelaw02_VarintSmall.walk (P : tidelinelaw02_VarintSmall.Pure) (a0 : Int) (w : World) (w0 : (Lit.int .i64 a0).wf = true) :
    Calls Try.prog 8 #[.int .i64 a0] w fun e w' => e = .returned (.bool true) ∧ Below w.heap.size w w' := by
  obtain ⟨k, h⟩ := P a0 w0
  refine (tidelinelaw02_VarintSmall.calls k a0 true w rfl h).mono ?_
  rintro e w' ⟨rfl, hd⟩
  exact ⟨rfl, hd⟩

end Go.Proofs.Ytlfaicpcdiphkaa.M
