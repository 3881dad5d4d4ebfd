/- IntsKnown, by hand: each of the fourteen rows is got with the error that stands beside it and with as many numbers as it ought, and the examples are put; the law answers true. No condition. -/
import Derived.LoopTactic
import Derived.Lib.Hide
import Derived.Deep.RegionWith
import Derived.Test.YtlfaicpcdiphkaaIg
namespace Go.Proofs.Ytlfaicpcdiphkaa.M
open Go.RowKit Go.Proofs.YtlfaicpcdiphkaaW.PrintWords Go.Proofs.YtlfaicpcdiphkaaW.PrintLast Go.Proofs.YtlfaicpcdiphkaaW.PrintMore
open Go.Proofs.Ytlfaicpcdiphkaa.Vi
set_option linter.unusedVariables false
set_option linter.unusedSimpArgs false

def itab : Nat → ByteArray × Int × Int
  | 0 => ({ data := #[1, 20, 3, 0] }, 5, 20)
  | 1 => ({ data := #[1, 20, 3, 0] }, 3, 21)
  | 2 => ({ data := #[0, 0] }, 1, 21)
  | 3 => ({ data := #[1, 20, 1, 0, 2, 0] }, 4, 21)
  | 4 => ({ data := #[] }, 0, 0)
  | 5 => ({ data := #[1] }, 0, 21)
  | 6 => ({ data := #[] }, 1, 20)
  | 7 => ({ data := #[1] }, 1, 20)
  | 8 => ({ data := #[128, 0, 0] }, 1, 21)
  | 9 => ({ data := #[1, 128] }, 1, 20)
  | 10 => ({ data := #[] }, -1, 1)
  | 11 => ({ data := #[] }, 65537, 1)
  | 12 => ({ data := #[128, 128, 4, 0] }, 65536, 0)
  | _ => ({ data := #[1, 0, 1] }, 1, 21)
theorem iget : ∀ i : Fin 14, (dgot (bytesOf (itab i).1) (itab i).2.1).2 = (itab i).2.2 := by decide +kernel
theorem isize : ∀ i : Fin 14, (itab i).1.size ≤ 10 := by decide +kernel
theorem ibyte : ∀ i : Fin 14, ∀ x ∈ bytesOf (itab i).1, 0 ≤ x ∧ x < 256 := by decide +kernel
/-- A row of bytes out of a string may be read by who reads nothing else. -/
theorem bytes_V (W : World) (s : ByteArray) (hs : s.size ≤ 10) : Kd.V (Kd.int .u8) 5 (Lib.bytesWorld W 5 s) (Lib.bytesWorld W 5 s).heap.size (fun k => k = W.heap.size) (.slice (some ⟨W.heap.size, 0, none⟩) s.size (grownCap W s.size 0 5)) (bytesOf s) := by
  refine ⟨_, _, by rw [bytesOf_length], by rw [bytesOf_length]; exact grownCap_ge _ _ _ _, ?_⟩
  intro W' hW
  rw [bytesOf_length]
  have hc : ∀ p : Addr, p.block = W.heap.size → W'.cell? p = (Lib.bytesWorld W 5 s).cell? p := by
    intro p hp
    simp only [World.cell?]
    rw [hW p.block hp (by rw [Lib.bytesWorld_size]; omega)]
  have hr := bytes_reads W 5 s (by omega)
  refine Kd.C_of_reads (d := (0 : Int)) (h1 := fun _ => rfl) (xs := bytesOf s) ⟨hr.1, hr.2.1, fun h0 => ?_⟩
  obtain ⟨ad, e, h⟩ := hr.2.2 h0
  cases e
  refine ⟨_, rfl, fun j hj => ?_⟩
  rw [hc _ (by rw [add_plain])]
  exact h j hj
theorem lit_C (W : World) (xs : List Int) (hx : xs.length ≤ 10) : Kd.C (Kd.int .i64) (W.alloc (.cells (xs.map (Value.int .i64)).toArray 2)) (some ⟨W.heap.size, 0, none⟩) xs.length xs := by
  refine Kd.C_of_reads (d := (0 : Int)) (h1 := fun _ => rfl) (xs := xs) ⟨rfl, by omega, fun h0 => ⟨_, rfl, fun j hj => ?_⟩⟩
  rw [add_plain]
  simp [World.cell?, World.alloc, -World.alloc_eq, hj, List.getD_eq_getElem?_getD]
theorem put_lit (W : World) (xs : List Int) (r : List Int) (c : Nat) (hx : xs.length ≤ 10) (hc : xs.length ≤ c) (h : ints_Put.f xs = some r) :
    Calls Try.prog 25 #[.slice (some ⟨W.heap.size, 0, none⟩) xs.length c] (W.alloc (.cells (xs.map (Value.int .i64)).toArray 2)) fun e w' => ∃ v0_ : Value, e = .returned (v0_) ∧ Kd.R (Kd.int .u8) 5 w' (W.heap.size + 1) (fun _ => True) v0_ r ∧ Below W.heap.size W w' := by
  refine (ints_Put.calls _ c xs r _ (lit_C W xs hx) hc h).mono ?_
  rintro e w' ⟨v, rfl, hR, hb⟩
  rw [World.size_alloc] at hR hb
  exact ⟨v, rfl, hR, ((Below.refl _ W).alloc (Nat.le_refl _) _).trans (hb.mono (by omega))⟩
set_option maxHeartbeats 8000000 in
set_option maxRecDepth 100000 in
theorem tidelinelaw05_IntsKnown.calls (w : World) : Calls Try.prog 15 #[] w fun e w' => e = .returned (.bool true) ∧ Below w.heap.size w w' := by
  go_enter Try.func15, Try.ntmps15
  go_wp2
  repeat (go_quiet (fail); try go_wp2)
  go_loopw [2] (fun v2 wr => ∃ i : Nat, v2 = .int .i64 (i : Int) ∧ i ≤ 14 ∧
      (∀ j : Fin 14, wr.cell? ⟨w.heap.size, j.1 * 3, none⟩ = some (.string (itab j).1) ∧ wr.cell? ⟨w.heap.size, j.1 * 3 + 1, none⟩ = some (.int .i64 (itab j).2.1) ∧ wr.cell? ⟨w.heap.size, j.1 * 3 + 2, none⟩ = some (.int .i64 (itab j).2.2)) ∧ Below w.heap.size w wr ∧ w.heap.size < wr.heap.size)
    (fun v2 _ => 14 - (intOf v2).toNat)
  case atStart =>
    refine ⟨0, rfl, by omega, ?_, (Below.refl _ w).alloc (Nat.le_refl _) _, by simp⟩
    intro j
    have : ∀ j : Fin 14, j = 0 ∨ j = 1 ∨ j = 2 ∨ j = 3 ∨ j = 4 ∨ j = 5 ∨ j = 6 ∨ j = 7 ∨ j = 8 ∨ j = 9 ∨ j = 10 ∨ j = 11 ∨ j = 12 ∨ j = 13 := by decide
    rcases this j with rfl | rfl | rfl | rfl | rfl | rfl | rfl | rfl | rfl | rfl | rfl | rfl | rfl | rfl <;> simp [World.cell?, World.alloc, itab, -World.alloc_eq] <;> exact ⟨rfl, rfl, rfl⟩
  case round =>
    obtain ⟨i, rfl, hi, hcells, hB, hsz⟩ := hrel
    by_cases hlt : i < 14
    · obtain ⟨hc0, hc1, hc2⟩ := hcells ⟨i, hlt⟩
      have hg := iget ⟨i, hlt⟩
      have hss := isize ⟨i, hlt⟩
      have hby := ibyte ⟨i, hlt⟩
      dsimp only at hc0 hc1 hc2 hg hss hby
      generalize (itab i).1 = s at hc0 hg hss hby
      generalize (itab i).2.1 = n at hc1 hg
      generalize (itab i).2.2 = en at hc2 hg
      have hlen : (en = 0 → ((dgot (bytesOf s) n).1.length : Int) = n) ∧ (en ≠ 0 → (dgot (bytesOf s) n).1 = []) :=
        ⟨fun h => (dgot_ok _ n hby (by rw [hg, h])).1, fun h => dgot_err _ n (by rw [hg]; exact h)⟩
      obtain ⟨K, hK⟩ := dgot_ev (bytesOf s) n hby
      have hget : ints_Get.f K (bytesOf s) n = some ((dgot (bytesOf s) n).1, en) := by rw [← hg]; exact hK K (Nat.le_refl _)
      generalize (dgot (bytesOf s) n).1 = x at hlen hget
      have HL := Lib.hid hlen
      have HC := Lib.hid hcells
      have HG := Lib.hid hget
      have HB := Lib.hid hB
      clear hcells hg hK hby hlen hget hB
      have t1 : decide ((i : Int) < 14) = true := decide_eq_true (by omega)
      have i0 : (0 : Int) ≤ (i : Int) := by omega
      have i1 : (i : Int) < 14 := by omega
      have kb := fun W => print_bytes (P := Try.prog) 9 22 5 Try.underlying9 Try.underlying22 Try.underlying5 s W
      have HCALL := Lib.hid (show ∀ W : World, Calls Try.prog 29 #[.slice (some ⟨W.heap.size, 0, none⟩) s.size (grownCap W s.size 0 5), .int .i64 n] (Lib.bytesWorld W 5 s) fun e w' => ∃ v0_ : Value, e = .returned (.tuple #[v0_, .int .i64 en]) ∧ Kd.R (Kd.int .i64) 2 w' (Lib.bytesWorld W 5 s).heap.size (fun k_ => ((Lib.bytesWorld W 5 s).heap.size ≤ k_)) v0_ x ∧ Below (Lib.bytesWorld W 5 s).heap.size (Lib.bytesWorld W 5 s) w' from fun W => by
        have := ints_Get.calls K (fun k => k = W.heap.size) (some ⟨W.heap.size, 0, none⟩) (grownCap W s.size 0 5) (bytesOf s) n x en (Lib.bytesWorld W 5 s) (by rw [bytesOf_length]; exact bytes_V W s hss) HG.out
        rw [bytesOf_length] at this
        exact this)
      have hcw : ∀ (W1 : World) (a : Addr), Below (Lib.bytesWorld wr.drew 5 s).heap.size (Lib.bytesWorld wr.drew 5 s) W1 → a.block < wr.heap.size → W1.cell? a = wr.cell? a := fun W1 a hb ha =>
        (hb.cell (p := a) (by rw [Lib.bytesWorld_size]; simp; omega)).trans ((Lib.bytesWorld_old wr.drew 5 s a (by simpa using ha)).trans rfl)
      have HCW := Lib.hid hcw
      clear hcw
      go_wp2
      have hkb : ∀ a : Addr, a.block < wr.heap.size → (Lib.bytesWorld wr.drew 5 s).cell? a = wr.cell? a := fun a ha => (Lib.bytesWorld_old wr.drew 5 s a (by simpa using ha)).trans rfl
      have HKB := Lib.hid hkb
      clear hkb
      have hk1 : (Lib.bytesWorld wr.drew 5 s).cell? ⟨w.heap.size, i * 3 + 1, none⟩ = some (.int .i64 n) := (HKB.out _ hsz).trans hc1
      have hk2 : wr.drew.cell? ⟨w.heap.size, i * 3 + 1, none⟩ = some (.int .i64 n) := hc1
      have hk3 : wr.drew.cell? ⟨w.heap.size, i * 3, none⟩ = some (.string s) := hc0
      go_region_with (first | (go_at_call 29; refine (HCALL.out wr.drew).mono ?_; rintro e w' ⟨v, rfl, hR, hb⟩; obtain ⟨A1, c1, rfl, hcl1, hC1⟩ := Kd.R_reads hR; clear hR hC1))
      all_goals
        have hc2n := (HCW.out _ _ hb hsz).trans hc2
        have hc1n := (HCW.out _ _ hb hsz).trans hc1
        have hb0 : Below w.heap.size w w' := (bytes_below (HB.out.trans (Below.mono (pw_below_drewN (Below.refl wr.heap.size wr) 1) (Nat.le_of_lt hsz))) (by simpa using Nat.le_of_lt hsz) 5 s).trans (hb.mono (by rw [Lib.bytesWorld_size]; simp; omega))
        have hs0 : w.heap.size < w'.heap.size := Nat.lt_of_lt_of_le (by rw [Lib.bytesWorld_size]; simp; omega) hb.size
        have hcs : ∀ j : Fin 14, w'.cell? ⟨w.heap.size, j.1 * 3, none⟩ = some (.string (itab j).1) ∧ w'.cell? ⟨w.heap.size, j.1 * 3 + 1, none⟩ = some (.int .i64 (itab j).2.1) ∧ w'.cell? ⟨w.heap.size, j.1 * 3 + 2, none⟩ = some (.int .i64 (itab j).2.2) := fun j =>
          ⟨(HCW.out _ _ hb hsz).trans (HC.out j).1, (HCW.out _ _ hb hsz).trans (HC.out j).2.1, (HCW.out _ _ hb hsz).trans (HC.out j).2.2⟩
        have HB1 := Lib.hid hb0
        have HCS := Lib.hid hcs
        clear hb hb0 hcs
        by_cases he : en = 0
        · subst he
          have hx := bne_eq_false_iff_eq.2 (HL.out.1 rfl)
          go_wp2
          exact ⟨⟨i + 1, rfl, by omega, HCS.out, HB1.out, hs0⟩, by simp only [intOf]; omega⟩
        · obtain rfl := HL.out.2 he
          have hx1 : (en != 0) = true := bne_iff_ne.2 he
          have hx2 : (en == 0) = false := beq_eq_false_iff_ne.2 he
          have hx3 : (en != en) = false := bne_self_eq_false en
          go_wp2
          exact ⟨⟨i + 1, rfl, by omega, HCS.out, HB1.out, hs0⟩, by simp only [intOf]; omega⟩
    · obtain rfl : i = 14 := by omega
      clear hcells hlt
      have p0 := Lib.hid (show ints_Put.f [5, 5, 5] = some [1, 10, 1, 9, 1, 0] by decide +kernel)
      have p1 := Lib.hid (show ints_Put.f [] = some [] by decide +kernel)
      have p2 := Lib.hid (show ints_Put.f [-9223372036854775808] = some [1, 255, 255, 255, 255, 255, 255, 255, 255, 255, 1] by decide +kernel)
      have pp := Lib.hid (show tidelinelaw05_puts.f 60 = some true by decide +kernel)
      have b0 : ((strOfNums [1, 10, 1, 9, 1, 0]).toList == ([1, 10, 1, 9, 1, 0] : List UInt8)) = true := by decide +kernel
      have b2 : ((strOfNums [1, 255, 255, 255, 255, 255, 255, 255, 255, 255, 1]).toList == ([1, 255, 255, 255, 255, 255, 255, 255, 255, 255, 1] : List UInt8)) = true := by decide +kernel
      have q0 := Lib.hid (show ∀ W : World, Calls Try.prog 25 #[.slice (some ⟨W.heap.size, 0, none⟩) 3 3] (W.alloc (.cells #[.int .i64 5, .int .i64 5, .int .i64 5] 2)) fun e w' => ∃ v0_ : Value, e = .returned (v0_) ∧ Kd.R (Kd.int .u8) 5 w' (W.heap.size + 1) (fun _ => True) v0_ [1, 10, 1, 9, 1, 0] ∧ Below W.heap.size W w' from fun W => put_lit W [5, 5, 5] _ 3 (by simp) (by simp) p0.out)
      have q1 := Lib.hid (show ∀ W : World, Calls Try.prog 25 #[.slice none 0 0] W fun e w' => ∃ v0_ : Value, e = .returned (v0_) ∧ Kd.R (Kd.int .u8) 5 w' W.heap.size (fun _ => True) v0_ [] ∧ Below W.heap.size W w' from fun W => ints_Put.calls none 0 [] [] W ⟨rfl, by simp, fun h => absurd h (by simp)⟩ (Nat.zero_le _) p1.out)
      have q2 := Lib.hid (show ∀ W : World, Calls Try.prog 25 #[.slice (some ⟨W.heap.size, 0, none⟩) 1 1] (W.alloc (.cells #[.int .i64 (-9223372036854775808)] 2)) fun e w' => ∃ v0_ : Value, e = .returned (v0_) ∧ Kd.R (Kd.int .u8) 5 w' (W.heap.size + 1) (fun _ => True) v0_ [1, 255, 255, 255, 255, 255, 255, 255, 255, 255, 1] ∧ Below W.heap.size W w' from fun W => put_lit W [-9223372036854775808] _ 1 (by simp) (by simp) p2.out)
      go_wp2_with (first
        | (go_at_call 25; (with_reducible refine (q0.out _).mono ?_); rintro e w1 ⟨v1, rfl, hR1, hb1⟩; have HR1 := Lib.hid hR1; have HB1 := Lib.hid hb1; clear hR1 hb1; have hcv1 := own_string (P := Try.prog) Try.underlying22 Try.underlying5 Try.underlying9 (Kd.own_of_R HR1.out))
        | (go_at_call 25; (with_reducible refine (q1.out _).mono ?_); rintro e w2 ⟨v2, rfl, hR2, hb2⟩; have HB2 := Lib.hid hb2; clear hb2; obtain ⟨A2, c2, rfl, _, _⟩ := Kd.R_reads hR2; clear hR2)
        | (go_at_call 25; (with_reducible refine (q2.out _).mono ?_); rintro e w3 ⟨v3, rfl, hR3, hb3⟩; have HR3 := Lib.hid hR3; have HB3 := Lib.hid hb3; clear hR3 hb3; have hcv3 := own_string (P := Try.prog) Try.underlying22 Try.underlying5 Try.underlying9 (Kd.own_of_R HR3.out))
        | (go_at_call 28; (with_reducible refine (tidelinelaw05_puts.calls 60 true _ pp.out).mono ?_); rintro e w4 ⟨rfl, hb4⟩; have HB4 := Lib.hid hb4; clear hb4))
      go_ret
      exact ⟨rfl, below_step (below_step (below_step (below_step hB HB1.out) HB2.out) HB3.out) HB4.out⟩

/-- The law as the row's text names it. -/
theorem tidelinelaw05_IntsKnown.walk (w : World) : Calls Try.prog 15 #[] w fun e w' => e = .returned (.bool true) ∧ Below w.heap.size w w' := tidelinelaw05_IntsKnown.calls w
end Go.Proofs.Ytlfaicpcdiphkaa.M
