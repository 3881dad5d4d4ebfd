/- VarintKnown, by hand: each of the nine rows is got with the error that stands beside it, and the examples are put, zigged and zagged; the law answers true. No condition. -/
import Derived.LoopTactic
import Derived.Lib.Hide
import Derived.Test.YtlfaicpcdiphkaaM3
import Derived.Test.YtlfaicpcdiphkaaVi
namespace Go.Proofs.Ytlfaicpcdiphkaa.M
open Go.RowKit Go.Proofs.YtlfaicpcdiphkaaW.PrintWords Go.Proofs.YtlfaicpcdiphkaaW.PrintLast Go.Proofs.YtlfaicpcdiphkaaW.PrintMore
open Go.Proofs.Ytlfaicpcdiphkaa.Vi
set_option linter.unusedVariables false
set_option linter.unusedSimpArgs false

def vtab : Nat → ByteArray × Int
  | 0 => ({ data := #[128] }, 20)
  | 1 => ({ data := #[128, 0] }, 21)
  | 2 => ({ data := #[] }, 20)
  | 3 => ({ data := #[255, 255, 255, 255, 255, 255, 255, 255, 255, 1] }, 0)
  | 4 => ({ data := #[255, 255, 255, 255, 255, 255, 255, 255, 255, 2] }, 21)
  | 5 => ({ data := #[255, 255, 255, 255, 255, 255, 255, 255, 255, 255] }, 21)
  | 6 => ({ data := #[255, 255, 255, 255, 255, 255, 255, 255, 255] }, 20)
  | 7 => ({ data := #[128, 128, 128, 128, 128, 128, 128, 128, 128, 0] }, 21)
  | _ => ({ data := #[0, 0] }, 0)
theorem vget : ∀ i : Fin 9, ((varint_Get.f 30 (bytesOf (vtab i).1)).map fun r => r.2.2) = some (vtab i).2 := by decide +kernel
theorem vsize : ∀ i : Fin 9, (vtab i).1.size ≤ 10 := by decide +kernel
theorem put_nil (a : Int) (r : List Int) (W : World) (h : varint_Put.f 30 [] a = some r) : Calls Try.prog 16 #[.slice none 0 0, .int .u64 a] W fun e w' => ∃ v0_ : Value, e = .returned (v0_) ∧ Kd.R (Kd.int .u8) 5 w' W.heap.size (fun _ => True) v0_ r ∧ Below W.heap.size W w' :=
  varint_Put.calls 30 none 0 [] a r W ⟨rfl, by simp, fun h => absurd h (by simp)⟩ (Nat.zero_le _) h
set_option maxHeartbeats 8000000 in
set_option maxRecDepth 100000 in
theorem tidelinelaw02_VarintKnown.calls (w : World) : Calls Try.prog 9 #[] w fun e w' => e = .returned (.bool true) ∧ Below w.heap.size w w' := by
  go_enter Try.func9, Try.ntmps9
  go_wp2
  repeat (go_quiet (fail); try go_wp2)
  go_loopw [2] (fun v2 wr => ∃ i : Nat, v2 = .int .i64 (i : Int) ∧ i ≤ 9 ∧
      (∀ j : Fin 9, wr.cell? ⟨w.heap.size, j.1 * 2, none⟩ = some (.string (vtab j).1) ∧ wr.cell? ⟨w.heap.size, j.1 * 2 + 1, none⟩ = some (.int .i64 (vtab j).2)) ∧ Below w.heap.size w wr ∧ w.heap.size < wr.heap.size)
    (fun v2 _ => 9 - (intOf v2).toNat)
  case atStart =>
    refine ⟨0, rfl, by omega, ?_, (Below.refl _ w).alloc (Nat.le_refl _) _, by simp⟩
    intro j
    have : ∀ j : Fin 9, j = 0 ∨ j = 1 ∨ j = 2 ∨ j = 3 ∨ j = 4 ∨ j = 5 ∨ j = 6 ∨ j = 7 ∨ j = 8 := by decide
    rcases this j with rfl | rfl | rfl | rfl | rfl | rfl | rfl | rfl | rfl <;> simp [World.cell?, World.alloc, vtab, -World.alloc_eq] <;> exact ⟨rfl, rfl⟩
  case round =>
    obtain ⟨i, rfl, hi, hcells, hB, hsz⟩ := hrel
    by_cases hlt : i < 9
    · obtain ⟨hc0, hc1⟩ := hcells ⟨i, hlt⟩
      have hg := vget ⟨i, hlt⟩
      have hss := vsize ⟨i, hlt⟩
      dsimp only at hc0 hc1 hg hss
      generalize (vtab i).1 = s at hc0 hg hss
      generalize (vtab i).2 = en at hc1 hg
      obtain ⟨⟨r1, r2, r3⟩, hget, h3⟩ := Option.map_eq_some_iff.1 hg
      dsimp only at h3
      subst h3
      have HC := Lib.hid hcells
      clear hcells hg
      have t1 : decide ((i : Int) < 9) = true := decide_eq_true (by omega)
      have kb := fun W => print_bytes (P := Try.prog) 9 22 5 Try.underlying9 Try.underlying22 Try.underlying5 s W
      have hcall := varint_Get.calls 30 (some ⟨wr.heap.size, 0, none⟩) (grownCap wr s.size 0 5) (bytesOf s) r1 r2 r3 (Lib.bytesWorld wr 5 s)
        (by rw [bytesOf_length]; exact Kd.C_of_reads (d := (0 : Int)) (h1 := fun _ => rfl) (bytes_reads wr 5 s (by omega))) (by rw [bytesOf_length]; exact grownCap_ge _ _ _ _) hget
      rw [bytesOf_length] at hcall
      have HG := Lib.hid hcall
      clear hcall hget
      have hB2 : Below w.heap.size w (Lib.bytesWorld wr 5 s) := bytes_below hB (by omega) 5 s
      have hkeep : ∀ nd (a : Addr), a.block < wr.heap.size → ((Lib.bytesWorld wr 5 s).drewN nd).cell? a = wr.cell? a := fun nd a ha =>
        ((pw_below_drewN (Below.refl (Lib.bytesWorld wr 5 s).heap.size (Lib.bytesWorld wr 5 s)) nd).cell (p := a) (by rw [Lib.bytesWorld_size]; omega)).trans (Lib.bytesWorld_old wr 5 s a ha)
      have HK := Lib.hid hkeep
      clear hkeep
      have hd3 : (r3 != r3) = false := bne_self_eq_false r3
      go_wp2_with (go_at_call 19; refine HG.out.mono ?_; rintro e w' ⟨rfl, ⟨nd, rfl⟩⟩; have hc1n := (HK.out nd ⟨w.heap.size, i * 2 + 1, none⟩ hsz).trans hc1)
      refine ⟨⟨i + 1, rfl, by omega, fun j => ?_, pw_below_drewN hB2 nd, Nat.lt_of_lt_of_le hsz (Nat.le_trans (by rw [Lib.bytesWorld_size]; omega) (pw_below_drewN (Below.refl (Lib.bytesWorld wr 5 s).heap.size (Lib.bytesWorld wr 5 s)) nd).size)⟩, by simp only [intOf]; omega⟩
      obtain ⟨d0, d1⟩ := HC.out j
      exact ⟨(HK.out nd _ hsz).trans d0, (HK.out nd _ hsz).trans d1⟩
    · obtain rfl : i = 9 := by omega
      have HC := Lib.hid hcells
      clear hcells hlt
      have p0 := Lib.hid (show varint_Put.f 30 [] 0 = some [0] by decide +kernel)
      have p1 := Lib.hid (show varint_Put.f 30 [] 127 = some [127] by decide +kernel)
      have p2 := Lib.hid (show varint_Put.f 30 [] 128 = some [128, 1] by decide +kernel)
      have p3 := Lib.hid (show varint_Put.f 30 [] 18446744073709551615 = some [255, 255, 255, 255, 255, 255, 255, 255, 255, 1] by decide +kernel)
      have pp := Lib.hid (show tidelinelaw02_puts.f 30 = some true by decide +kernel)
      have z1 := Lib.hid (show varint_Zig.f (-9223372036854775808) = some 18446744073709551615 by decide +kernel)
      have z2 := Lib.hid (show varint_Zag.f 18446744073709551615 = some (-9223372036854775808) by decide +kernel)
      have z3 := Lib.hid (show varint_Zig.f 9223372036854775807 = some 18446744073709551614 by decide +kernel)
      have b0 : ((strOfNums [0]).toList == ([0] : List UInt8)) = true := by decide +kernel
      have b1 : ((strOfNums [127]).toList == ([127] : List UInt8)) = true := by decide +kernel
      have b2 : ((strOfNums [128, 1]).toList == ([128, 1] : List UInt8)) = true := by decide +kernel
      go_wp2_with (first
        | (go_at_call 16; (with_reducible refine (put_nil 0 [0] _ p0.out).mono ?_); rintro e w1 ⟨v1, rfl, hR1, hb1⟩; have HR1 := Lib.hid hR1; have HB1 := Lib.hid hb1; clear hR1 hb1; have hcv1 := own_string (P := Try.prog) Try.underlying22 Try.underlying5 Try.underlying9 (Kd.own_of_R HR1.out))
        | (go_at_call 16; (with_reducible refine (put_nil 127 [127] _ p1.out).mono ?_); rintro e w2 ⟨v2, rfl, hR2, hb2⟩; have HR2 := Lib.hid hR2; have HB2 := Lib.hid hb2; clear hR2 hb2; have hcv2 := own_string (P := Try.prog) Try.underlying22 Try.underlying5 Try.underlying9 (Kd.own_of_R HR2.out))
        | (go_at_call 16; (with_reducible refine (put_nil 128 [128, 1] _ p2.out).mono ?_); rintro e w3 ⟨v3, rfl, hR3, hb3⟩; have HR3 := Lib.hid hR3; have HB3 := Lib.hid hb3; clear hR3 hb3; have hcv3 := own_string (P := Try.prog) Try.underlying22 Try.underlying5 Try.underlying9 (Kd.own_of_R HR3.out))
        | (go_at_call 16; (with_reducible refine (put_nil 18446744073709551615 [255, 255, 255, 255, 255, 255, 255, 255, 255, 1] _ p3.out).mono ?_); rintro e w4 ⟨v4, rfl, hR4, hb4⟩; have HB4 := Lib.hid hb4; clear hb4; obtain ⟨A4, c4, rfl, _, _⟩ := Kd.R_reads hR4; clear hR4)
        | (go_at_call 21; (with_reducible refine (varint_Zig.calls (-9223372036854775808) 18446744073709551615 _ z1.out).mono ?_); rintro e w' ⟨rfl, ⟨nd1, rfl⟩⟩)
        | (go_at_call 23; (with_reducible refine (varint_Zag.calls 18446744073709551615 (-9223372036854775808) _ z2.out).mono ?_); rintro e w' ⟨rfl, ⟨nd2, rfl⟩⟩)
        | (go_at_call 21; (with_reducible refine (varint_Zig.calls 9223372036854775807 18446744073709551614 _ z3.out).mono ?_); rintro e w' ⟨rfl, ⟨nd3, rfl⟩⟩)
        | (go_at_call 18; (with_reducible refine (tidelinelaw02_puts.calls 30 true _ pp.out).mono ?_); rintro e w5 ⟨rfl, hb5⟩; have HB5 := Lib.hid hb5; clear hb5))
      go_ret
      exact ⟨rfl, below_step (pw_below_drewN (below_step (below_step (below_step (below_step hB HB1.out) HB2.out) HB3.out) HB4.out) _) HB5.out⟩

/-- The law as the row's text names it. -/
theorem tidelinelaw02_VarintKnown.walk (w : World) : Calls Try.prog 9 #[] w fun e w' => e = .returned (.bool true) ∧ Below w.heap.size w w' := tidelinelaw02_VarintKnown.calls w
end Go.Proofs.Ytlfaicpcdiphkaa.M
