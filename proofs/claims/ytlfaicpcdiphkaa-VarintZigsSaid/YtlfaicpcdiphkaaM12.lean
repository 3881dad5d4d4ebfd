/- Written for this claim by a program (a turned copy of the kit's print): plain Lean functions for the Go functions that the law reaches, and the proof that each call comes to what its function says; conditions: those named in each statement. Lean checks all of it. -/
import Derived.Test.YtlfaicpcdiphkaaM0
import Derived.Test.YtlfaicpcdiphkaaM4
import Derived.Test.YtlfaicpcdiphkaaM5
import Derived.Test.YtlfaicpcdiphkaaM6
import Derived.Test.YtlfaicpcdiphkaaM10
import Derived.Test.YtlfaicpcdiphkaaM11
namespace Go.Proofs.Ytlfaicpcdiphkaa.M
open Go.RowKit Go.Proofs.YtlfaicpcdiphkaaW.PrintWords Go.Proofs.YtlfaicpcdiphkaaW.PrintLast Go.Proofs.YtlfaicpcdiphkaaW.PrintMore
attribute [local go_sem] max2_int min2_int max_two min_two max_three min_three max_four min_four   -- for this text's walks alone
set_option linter.unusedVariables false
set_option linter.unusedSimpArgs false

/-! ### tidelinelaw02_VarintZigs: function 5 -/
def tidelinelaw02_VarintZigs.f (k : Nat) (a0 : Int) (a1 : Int) : Option (Bool) := (varint_Zig.f a0).bind fun t164 => ((tidelineref02_Zig.f a0).bind fun t165 => (if t164 = t165 then ((varint_Zag.f a1).bind fun t166 => ((tidelineref02_Zag.f a1).bind fun t167 => (if t166 = t167 then ((tidelinelaw02_puts.f k).bind fun t168 => (some t168)) else (some false)))) else (some false)))
theorem tidelinelaw02_VarintZigs.mono : ∀ a0 a1 k, LeO (tidelinelaw02_VarintZigs.f k a0 a1) (tidelinelaw02_VarintZigs.f (k + 1) a0 a1) := by
  intro a0 a1 k
  unfold tidelinelaw02_VarintZigs.f
  repeat' first
      | (with_reducible exact tidelinelaw02_puts.mono _)
      | (with_reducible exact LeO.refl _)
      | (with_reducible exact LeO.none _)
      | (with_reducible refine LeO.ite ?_ ?_)
      | (with_reducible refine LeO.bind ?_ (fun _ => ?_))
      | exact tidelinelaw02_puts.mono _
      | exact LeO.none _
      | refine LeO.ite ?_ ?_
      | refine LeO.bind ?_ (fun _ => ?_)
set_option maxHeartbeats 8000000 in
set_option maxRecDepth 100000 in
theorem tidelinelaw02_VarintZigs.calls (k : Nat) (a0 : Int) (a1 : Int) (r : Bool) (w : World) (hrt : r = true) (h : tidelinelaw02_VarintZigs.f k a0 a1 = some r) :
    Calls Try.prog 5 #[.int .i64 a0, .int .u64 a1] w fun e w' => e = .returned (.bool r) ∧ Below w.heap.size w w' := by
  have HRT := Aside0.mk hrt
  clear hrt
  have HB := Aside0.mk (Below.refl w.heap.size w)
  have H : ((varint_Zig.f a0).bind fun t164 => ((tidelineref02_Zig.f a0).bind fun t165 => (if t164 = t165 then ((varint_Zag.f a1).bind fun t166 => ((tidelineref02_Zag.f a1).bind fun t167 => (if t166 = t167 then ((tidelinelaw02_puts.f k).bind fun t168 => (some t168)) else (some false)))) else (some false)))) = some r := h
  clear h
  replace H := Option.bind_eq_some_iff.mp H
  obtain ⟨t164, A30, H⟩ := H
  replace H : ((tidelineref02_Zig.f a0).bind fun t165 => (if t164 = t165 then ((varint_Zag.f a1).bind fun t166 => ((tidelineref02_Zag.f a1).bind fun t167 => (if t166 = t167 then ((tidelinelaw02_puts.f k).bind fun t168 => (some t168)) else (some false)))) else (some false))) = some r := H
  have A3 := Aside0.mk A30
  clear A30
  replace H := Option.bind_eq_some_iff.mp H
  obtain ⟨t165, A40, H⟩ := H
  replace H : (if t164 = t165 then ((varint_Zag.f a1).bind fun t166 => ((tidelineref02_Zag.f a1).bind fun t167 => (if t166 = t167 then ((tidelinelaw02_puts.f k).bind fun t168 => (some t168)) else (some false)))) else (some false)) = some r := H
  have A4 := Aside0.mk A40
  clear A40
  by_cases c5 : t164 = t165
  · rw [if_pos c5] at H
    have c5b0 : (t164 == t165) = true := beq_iff_eq.mpr c5
    have c5b1 : (t164 != t165) = false := bne_eq_false_iff_eq.mpr c5
    clear c5
    replace H := Option.bind_eq_some_iff.mp H
    obtain ⟨t166, A60, H⟩ := H
    replace H : ((tidelineref02_Zag.f a1).bind fun t167 => (if t166 = t167 then ((tidelinelaw02_puts.f k).bind fun t168 => (some t168)) else (some false))) = some r := H
    have A6 := Aside0.mk A60
    clear A60
    replace H := Option.bind_eq_some_iff.mp H
    obtain ⟨t167, A70, H⟩ := H
    replace H : (if t166 = t167 then ((tidelinelaw02_puts.f k).bind fun t168 => (some t168)) else (some false)) = some r := H
    have A7 := Aside0.mk A70
    clear A70
    by_cases c8 : t166 = t167
    · rw [if_pos c8] at H
      have c8b0 : (t166 == t167) = true := beq_iff_eq.mpr c8
      have c8b1 : (t166 != t167) = false := bne_eq_false_iff_eq.mpr c8
      clear c8
      replace H := Option.bind_eq_some_iff.mp H
      obtain ⟨t168, A90, H⟩ := H
      replace H : (some t168) = some r := H
      have A9 := Aside0.mk A90
      clear A90
      obtain rfl := Option.some.inj H
      go_enter Try.func5, Try.ntmps5
      go_wp2_with (first | ((with_reducible refine gate_callee (f := 21) rfl ?_); refine goesL_ (some 6) rfl rfl Try.func21 (by kernel_rfl) rfl #[.int .i64 a0] rfl (by (try simp only [List.map_toArray, List.map_cons, List.map_nil]); first | done | rfl | (simp only [List.length_drop, List.length_take]; rfl)) ?_; (with_reducible refine (varint_Zig.calls a0 t164 _ A3.out).mono ?_); rintro e w' ⟨rfl, ⟨nd, rfl⟩⟩; refine ⟨_, rfl, ?_⟩) | ((with_reducible refine gate_callee (f := 22) rfl ?_); refine goesL_ (some 8) rfl rfl Try.func22 (by kernel_rfl) rfl #[.int .i64 a0] rfl (by (try simp only [List.map_toArray, List.map_cons, List.map_nil]); first | done | rfl | (simp only [List.length_drop, List.length_take]; rfl)) ?_; (with_reducible refine (tidelineref02_Zig.calls a0 t165 _ A4.out).mono ?_); rintro e w' ⟨rfl, ⟨nd, rfl⟩⟩; refine ⟨_, rfl, ?_⟩) | (go_at_call 23; (with_reducible refine (varint_Zag.calls a1 t166 _ A6.out).mono ?_); rintro e w' ⟨rfl, ⟨nd, rfl⟩⟩) | (go_at_call 24; (with_reducible refine (tidelineref02_Zag.calls a1 t167 _ A7.out).mono ?_); rintro e w' ⟨rfl, ⟨nd, rfl⟩⟩) | (go_at_call 18; (with_reducible refine (tidelinelaw02_puts.calls k  t168 _ A9.out).mono ?_); rintro e w10 ⟨rfl, hb⟩; have n0_ := Aside0.mk (below_step (by repeat (first | (with_reducible first | exact HB.out | apply below_alloc | apply pw_below_drewN | apply below_drew1) | exact HB.out)) hb); clear HB; have HB := n0_; clear n0_; (try clear hb); (try clear hb2); (try clear hk); (try clear hi)))
      go_ret
      exact ⟨by first | rfl | (simp [errW_none, errW_some] <;> rfl) | (simp [*, errW_none, errW_some] <;> rfl), by repeat (first | (with_reducible first | exact HB.out | apply below_alloc | apply pw_below_drewN | apply below_drew1) | exact HB.out)⟩
    · rw [if_neg c8] at H
      have c8b0 : (t166 == t167) = false := beq_eq_false_iff_ne.mpr c8
      have c8b1 : (t166 != t167) = true := bne_iff_ne.mpr c8
      exact absurd ((Option.some.inj H).trans HRT.out) (by decide)
  · rw [if_neg c5] at H
    have c5b0 : (t164 == t165) = false := beq_eq_false_iff_ne.mpr c5
    have c5b1 : (t164 != t165) = true := bne_iff_ne.mpr c5
    exact absurd ((Option.some.inj H).trans HRT.out) (by decide)

/-- THE ONE PURE STATEMENT of tidelinelaw02_VarintZigs: yours. -/
def tidelinelaw02_VarintZigs.Pure : Prop := ∀ (a0 : Int) (a1 : Int), (Lit.int .i64 a0).wf = true → (Lit.int .u64 a1).wf = true → ∃ k, tidelinelaw02_VarintZigs.f k a0 a1 = some true
theorem tidelinelaw02_VarintZigs.walk (P : tidelinelaw02_VarintZigs.Pure) (a0 : Int) (a1 : Int) (w : World) (w0 : (Lit.int .i64 a0).wf = true) (w1 : (Lit.int .u64 a1).wf = true) :
    Calls Try.prog 5 #[.int .i64 a0, .int .u64 a1] w fun e w' => e = .returned (.bool true) ∧ Below w.heap.size w w' := by
  obtain ⟨k, h⟩ := P a0 a1 w0 w1
  refine (tidelinelaw02_VarintZigs.calls k a0 a1 true w rfl h).mono ?_
  rintro e w' ⟨rfl, hd⟩
  exact ⟨rfl, hd⟩

end Go.Proofs.Ytlfaicpcdiphkaa.M
