/- ints.Put, by hand: its iterator hands out the runs of changes in order, and Put lays their bytes one behind the other in new memory; conditions: those named in each statement. -/
import Derived.RangeFuncBox
import Derived.RangeFuncNested
import Derived.RangeFuncBound
import Derived.RangeFuncCalls
import Derived.RangeFuncLeaves
import Derived.Shelf.Abstract
import Derived.WalkKit
import Derived.OwnWalkIn
import Derived.TacticsInMore
import Derived.LoopNIn
import Derived.LoopIn
import Derived.Maps.AppendAt
import Derived.Lib.Hide
import Derived.Test.YtlfaicpcdiphkaaVi
namespace Go.Proofs.Ytlfaicpcdiphkaa.M
open Go.RowKit Go.Shelf Go.Proofs.YtlfaicpcdiphkaaW.PrintWords Go.Proofs.YtlfaicpcdiphkaaW.PrintLast Go.Proofs.YtlfaicpcdiphkaaW.PrintMore
open Go.Proofs.Ytlfaicpcdiphkaa.Vi

attribute [local go_sem] Oper.semAt_some

/-- The runs of changes from here on: how many there are already, and the last number, step and change. -/
def rst : List Int → Nat → Int → Int → Int → List (Nat × Int)
  | [], n, _, _, ch => if 0 < n then [(n, ch)] else []
  | v :: t, n, last, step, ch =>
    if 0 < n ∧ wrap64 (wrap64 (v - last) - step) ≠ ch then (n, ch) :: rst t 1 v (wrap64 (v - last)) (wrap64 (wrap64 (v - last) - step))
    else rst t (n + 1) v (wrap64 (v - last)) (wrap64 (wrap64 (v - last) - step))
/-- The bytes of runs. -/
def runBytes : List (Nat × Int) → List Int
  | [] => []
  | p :: t => enc p.1 ++ enc (zig p.2) ++ runBytes t
theorem runBytes_snoc (l : List (Nat × Int)) (p : Nat × Int) : runBytes (l ++ [p]) = runBytes l ++ enc p.1 ++ enc (zig p.2) := by
  induction l with
  | nil => simp [runBytes]
  | cons a l ih => simp only [List.cons_append, runBytes, ih, List.append_assoc]
/-- A run: so many like changes. -/
abbrev Rn := { p : Nat × Int // p.1 < 4611686018427387904 ∧ -9223372036854775808 ≤ p.2 ∧ p.2 < 9223372036854775808 }
theorem w64_range (n : Int) : -9223372036854775808 ≤ wrap64 n ∧ wrap64 n < 9223372036854775808 := by unfold wrap64; omega
theorem rst_ok (l : List Int) : ∀ (n : Nat) (last step ch : Int), n + l.length < 4611686018427387904 → -9223372036854775808 ≤ ch ∧ ch < 9223372036854775808 →
    ∀ p ∈ rst l n last step ch, p.1 < 4611686018427387904 ∧ -9223372036854775808 ≤ p.2 ∧ p.2 < 9223372036854775808 := by
  induction l with
  | nil =>
    intro n last step ch hn hc p hp
    simp only [rst] at hp
    split at hp
    · simp only [List.mem_singleton] at hp
      subst hp
      simp only [List.length_nil] at hn
      exact ⟨by omega, hc⟩
    · cases hp
  | cons v t ih =>
    intro n last step ch hn hc p hp
    simp only [List.length_cons] at hn
    simp only [rst] at hp
    split at hp
    · rcases List.mem_cons.1 hp with rfl | hp
      · exact ⟨by simp only; omega, hc⟩
      · exact ih 1 _ _ _ (by omega) (w64_range _) p hp
    · exact ih (n + 1) _ _ _ (by omega) (w64_range _) p hp
theorem rst_len (l : List Int) : ∀ (n : Nat) (last step ch : Int), (rst l n last step ch).length ≤ l.length + 1 := by
  induction l with
  | nil => intro n last step ch; simp only [rst]; split <;> simp
  | cons v t ih =>
    intro n last step ch
    simp only [rst]
    split
    · have := ih 1 v (wrap64 (v - last)) (wrap64 (wrap64 (v - last) - step)); simp only [List.length_cons]; omega
    · have := ih (n + 1) v (wrap64 (v - last)) (wrap64 (wrap64 (v - last) - step)); simp only [List.length_cons]; omega

set_option maxHeartbeats 1000000 in
/-- runs(l): the row is boxed; the function value captures the box. -/
theorem runs_in (F : Fence) (n : Nat) (h31 : F.fn 31) (hro : F.round = none) (A : Option Addr) (len c : Nat) (w : World) :
    CallsIn F n Try.prog 31 #[.slice A len c] w fun e w' => e = .returned (.func (.func 33) #[] #[.pointer (some ⟨w.heap.size, 0, none⟩)]) ∧ w' = w.alloc (.cells #[.slice A len c] 42) := by
  refine callsIn_of_wp Try.func31 rfl h31 ?_ hro
  simp only [Try.ntmps31, List.size_toArray, List.length_cons, List.length_nil, Nat.reduceAdd, Nat.reduceSub, Array.replicate_succ, Array.replicate_zero, List.push_toArray, List.append_toArray, List.nil_append, List.cons_append]
  gi_wp2
  go_ret
  exact ⟨rfl, rfl⟩

set_option maxRecDepth 100000 in
set_option maxHeartbeats 2000000 in
/-- The iterator, for every loop body that keeps what lay below the call. -/
theorem runs1_in (F : Fence) (n : Nat) (h33 : F.fn 33) (hro : F.round = none) (hn : 1 ≤ n) (l Bn : Nat) (w0 : World) (A : Option Addr) (c : Nat) (zs : List Int)
    (hC : Kd.C (Kd.int .i64) w0 A zs.length zs) (hlen : zs.length < 4611686018427387904) (xs : List Rn) (hxs : xs.map Subtype.val = rst zs 0 0 0 0) (J Jx : List Rn → World → Prop)
    (hY : ∀ pre x W, J pre W → pre.length < xs.length → YieldAt F (n - 1) Try.prog l #[.int .i64 (x.1.1 : Int), .int .i64 x.1.2] W fun e W' =>
      (e = .returned (.bool true) ∧ J (pre ++ [x]) W' ∧ Below w0.heap.size W W') ∨ (e = .returned (.bool false) ∧ Jx (pre ++ [x]) W'))
    (W : World) (hW : Below w0.heap.size w0 W) (hBn : W.cell? ⟨Bn, 0, none⟩ = some (.slice A zs.length c)) (h0 : J [] W) :
    CallsIn F n Try.prog 33 #[.func (.yield l) #[] #[], .pointer (some ⟨Bn, 0, none⟩)] W fun e W' => (∃ v, e = .returned v) ∧
      ((∃ ys, ys = xs ∧ J ys W') ∨ (∃ pre, pre <+: xs ∧ Jx pre W')) := by
  refine callsIn_of_wp Try.func33 rfl h33 ?_ hro
  simp only [Try.ntmps33, List.size_toArray, List.length_cons, List.length_nil, Nat.reduceAdd, Nat.reduceSub, Array.replicate_succ, Array.replicate_zero, List.push_toArray, List.append_toArray, List.nil_append, List.cons_append]
  gi_wp2
  gi_loopw [3, 4, 5, 6, 13] (fun vn vl vs vc vi wr => ∃ (pre rest : List Rn) (m j : Nat) (last step ch : Int), vn = .int .i64 (m : Int) ∧ vl = .int .i64 last ∧ vs = .int .i64 step ∧ vc = .int .i64 ch ∧ vi = .int .i64 (j : Int) ∧
      j ≤ zs.length ∧ m ≤ j ∧ xs = pre ++ rest ∧ rest.map Subtype.val = rst (zs.drop j) m last step ch ∧ J pre wr ∧ Below w0.heap.size w0 wr)
    (fun _ _ _ _ vi _ => zs.length - (intOf vi).toNat)
  case atStart => exact ⟨[], xs, 0, 0, 0, 0, 0, rfl, rfl, rfl, rfl, rfl, by omega, by omega, rfl, by simpa using hxs, h0, hW⟩
  case round =>
    obtain ⟨pre, rest, m, j, last, step, ch, rfl, rfl, rfl, rfl, rfl, hj, hm, hx, hr, hJs, hB⟩ := hrel
    by_cases hlt : j < zs.length
    · obtain ⟨ad, e, hcell⟩ := Kd.at_int (Kd.C_below hC hB) (j : Int) (by omega) (by omega)
      subst e
      rw [Int.toNat_natCast] at hcell
      obtain ⟨v, hv⟩ : ∃ v, v = rd zs (j : Int) := ⟨_, rfl⟩
      rw [← hv] at hcell
      have hdrop : zs.drop j = v :: zs.drop (j + 1) := by
        rw [List.drop_eq_getElem_cons hlt, hv]
        congr 1
        unfold rd
        simp [List.getD_eq_getElem?_getD, hlt]
      clear hv
      rw [hdrop] at hr
      simp only [rst] at hr
      by_cases hc : 0 < m ∧ wrap64 (wrap64 (v - last) - step) ≠ ch
      · rw [if_pos hc] at hr
        cases rest with
        | nil => simp at hr
        | cons x rest =>
          simp only [List.map_cons, List.cons.injEq] at hr
          obtain ⟨hx1, hr⟩ := hr
          have hyy := hY pre x wr hJs (by rw [hx]; simp)
          rw [hx1] at hyy
          obtain ⟨fn, tmps, assign, body, hy, hR⟩ := hyy
          dsimp only at hy
          have t1 : decide ((0 : Int) < (m : Int)) = true := decide_eq_true (by omega)
          have t2 : (wrap64 (wrap64 (v - last) - step) != ch) = true := bne_iff_ne.2 hc.2
          have hm2 : (m : Int) ≤ 4611686018427387904 := by omega
          have hj2 : (j : Int) ≤ 4611686018427387904 := by omega
          have HX := Lib.hid hx
          have HX1 := Lib.hid hx1
          have HR := Lib.hid hr
          have HD := Lib.hid hdrop
          clear hx hx1 hr hdrop hxs
          gi_wp2
          refine hR.mono ?_
          rintro e W3 (⟨rfl, hJ3, hk3⟩ | ⟨rfl, hJx3⟩)
          · gi_wp2
            go_roundw
            case rel => exact ⟨pre ++ [x], rest, 1, j + 1, v, _, _, rfl, rfl, rfl, rfl, by go_num, by omega, by omega, by simp [HX.out], HR.out, hJ3, hB.trans hk3⟩
            case measure => simp [intOf]; omega
          · gi_wp2
            refine bodyPost_ret (results_none rfl _ _ _) rfl ?_
            exact ⟨⟨_, rfl⟩, .inr ⟨pre ++ [x], ⟨rest, by simp [HX.out]⟩, hJx3⟩⟩
      · rw [if_neg hc] at hr
        have hm2 : (m : Int) ≤ 4611686018427387904 := by omega
        have hj2 : (j : Int) ≤ 4611686018427387904 := by omega
        have HX := Lib.hid hx
        have HR := Lib.hid hr
        have HD := Lib.hid hdrop
        have HC := Lib.hid hc
        clear hx hr hdrop hxs hc
        by_cases hm0 : 0 < m
        · have t1 : decide ((0 : Int) < (m : Int)) = true := decide_eq_true (by omega)
          have t2 : (wrap64 (wrap64 (v - last) - step) != ch) = false := by
            rw [bne_eq_false_iff_eq]
            exact Classical.byContradiction fun h => HC.out ⟨hm0, h⟩
          gi_wp2
          go_roundw
          case rel => exact ⟨pre, rest, m + 1, j + 1, v, _, _, by go_num, rfl, rfl, rfl, by go_num, by omega, by omega, HX.out, HR.out, hJs, hB⟩
          case measure => simp [intOf]; omega
        · have t1 : decide ((0 : Int) < (m : Int)) = false := decide_eq_false (by omega)
          gi_wp2
          go_roundw
          case rel => exact ⟨pre, rest, m + 1, j + 1, v, _, _, by go_num, rfl, rfl, rfl, by go_num, by omega, by omega, HX.out, HR.out, hJs, hB⟩
          case measure => simp [intOf]; omega
    · obtain rfl : j = zs.length := by omega
      rw [List.drop_length] at hr
      simp only [rst] at hr
      by_cases hm0 : 0 < m
      · rw [if_pos hm0] at hr
        cases rest with
        | nil => simp at hr
        | cons x rest =>
          simp only [List.map_cons, List.cons.injEq, List.map_eq_nil_iff] at hr
          obtain ⟨hx1, rfl⟩ := hr
          have hyy := hY pre x wr hJs (by rw [hx]; simp)
          rw [hx1] at hyy
          obtain ⟨fn, tmps, assign, body, hy, hR⟩ := hyy
          dsimp only at hy
          have t1 : decide ((0 : Int) < (m : Int)) = true := decide_eq_true (by omega)
          have HX := Lib.hid hx
          have HX1 := Lib.hid hx1
          clear hx hx1 hxs
          gi_wp2
          refine hR.mono ?_
          rintro e W3 (⟨rfl, hJ3, hk3⟩ | ⟨rfl, hJx3⟩)
          · gi_wp2
            go_end0
            exact ⟨⟨_, rfl⟩, .inl ⟨pre ++ [x], by simp [HX.out], hJ3⟩⟩
          · gi_wp2
            go_end0
            exact ⟨⟨_, rfl⟩, .inr ⟨pre ++ [x], ⟨[], by simp [HX.out]⟩, hJx3⟩⟩
      · rw [if_neg hm0] at hr
        simp only [List.map_eq_nil_iff] at hr
        subst hr
        have t1 : decide ((0 : Int) < (m : Int)) = false := decide_eq_false (by omega)
        have HX := Lib.hid hx
        clear hx hxs
        gi_wp2
        go_end0
        exact ⟨⟨_, rfl⟩, .inl ⟨pre, by simp [HX.out], hJs⟩⟩
theorem runs_stops (F : Fence) (n : Nat) (h33 : F.fn 33) (hro : F.round = none) (hn : 1 ≤ n) (Bn : Nat) (w0 : World) (A : Option Addr) (c : Nat) (zs : List Int)
    (hC : Kd.C (Kd.int .i64) w0 A zs.length zs) (hlen : zs.length < 4611686018427387904) (xs : List Rn) (hxs : xs.map Subtype.val = rst zs 0 0 0 0)
    (w : World) (hBn : Bn < w.heap.size) (hn0 : w0.heap.size ≤ w.heap.size) (hb : Below w0.heap.size w0 w) (hc : w.cell? ⟨Bn, 0, none⟩ = some (.slice A zs.length c)) :
    SeqStopsK F n Try.prog 33 #[.pointer (some ⟨Bn, 0, none⟩)] (fun x : Rn => #[Value.int .i64 (x.1.1 : Int), .int .i64 x.1.2]) (Below w0.heap.size) (fun ys => ys = xs) (fun pre => pre <+: xs) xs.length w := fun l J Jx W hW _ _ hY h0 =>
  runs1_in F n h33 hro hn l Bn w0 A c zs hC hlen xs hxs J Jx hY W (hb.trans (hW.mono hn0)) ((hW.cell (p := ⟨Bn, 0, none⟩) hBn).trans hc) h0

theorem runBytes_len (l : List (Nat × Int)) (h : ∀ p ∈ l, p.1 < 18446744073709551616 ∧ -9223372036854775808 ≤ p.2 ∧ p.2 < 9223372036854775808) : (runBytes l).length ≤ 20 * l.length := by
  induction l with
  | nil => simp [runBytes]
  | cons p l ih =>
    have := ih fun q hq => h q (by simp [hq])
    have hp := h p (by simp)
    have h1 := enc_ten hp.1
    have h2 := enc_ten (zig_lt hp.2.1 hp.2.2)
    simp only [runBytes, List.length_append, List.length_cons]
    omega

theorem info5_ : (Try.prog.info? 5).map (fun i => (i.zero, i.size, i.bytes)) = some (some (.int .u8 0), 1, 1) := by kernel_rfl

set_option maxRecDepth 100000 in
set_option maxHeartbeats 4000000 in
theorem Put_calls (A : Option Addr) (c : Nat) (zs : List Int) (w : World) (hC : Kd.C (Kd.int .i64) w A zs.length zs) (hlen : zs.length ≤ 1099511627776) :
    Calls Try.prog 25 #[.slice A zs.length c] w fun e w' => ∃ v : Value, e = .returned v ∧ Kd.R (Kd.int .u8) 5 w' w.heap.size (fun _ => True) v (runBytes (rst zs 0 0 0 0)) ∧ Below w.heap.size w w' := by
  have hok := rst_ok zs 0 0 0 0 (by omega) (by omega)
  obtain ⟨xs, hxs⟩ : ∃ xs : List Rn, xs.map Subtype.val = rst zs 0 0 0 0 := ⟨(rst zs 0 0 0 0).attach.map fun p => ⟨p.1, hok p.1 p.2⟩, by simp only [List.map_map, Function.comp_def]; exact List.attach_map_subtype_val _⟩
  have hxl : xs.length ≤ zs.length + 1 := by
    have := rst_len zs 0 0 0 0
    rw [← hxs, List.length_map] at this
    exact this
  refine (callsIn_wide (n := 3)).1 ?_
  refine callsIn_of_wp_marks Try.func25 rfl trivial ?_ rfl
  simp only [Try.ntmps25, List.size_toArray, List.length_cons, List.length_nil, Nat.reduceAdd, Nat.reduceSub, Array.replicate_succ, Array.replicate_zero, List.push_toArray, List.append_toArray, List.nil_append, List.cons_append]
  have HXS := Lib.hid hxs
  clear hxs hok
  gi_wp2_with (refine ⟨trivial, ?_⟩; gi_at_call 31; refine (runs_in Fence.wide _ trivial rfl _ _ _ _).mono ?_; rintro e w' ⟨rfl, rfl⟩)
  have bO := Boxed.new w 22 (.slice none 0 0)
  have bN := Boxed.new (w.alloc (.cells #[.slice none 0 0] 22)) 42 (.slice A zs.length c)
  rw [World.size_alloc] at bN
  have hB0 : Below w.heap.size w ((w.alloc (.cells #[.slice none 0 0] 22)).alloc (.cells #[.slice A zs.length c] 42)) := ((Below.refl _ w).alloc (Nat.le_refl _) _).alloc (by simp) _
  refine wpIn_rangeFunc_ownG rfl (by omega) (gf := 33) (lb := #[.pointer (some ⟨w.heap.size + 1, 0, none⟩)]) rfl trivial (enters_of Try.func33 (by kernel_rfl) rfl)
    (runs_stops Fence.wide _ trivial rfl (by omega) (w.heap.size + 1) w A c zs hC (by omega) xs HXS.out _ (by simp) (by simp; omega) hB0 bN.cell) belowK_t (belowK_b (by simp; omega)) (Below.refl _ _) (fun _ => rfl)
    (fun pre W => (∃ v, Boxed W w.heap.size 22 v ∧ W.ownsRow w.heap.size 5 1 v (runBytes (pre.map Subtype.val)).length (nums .u8 (runBytes (pre.map Subtype.val))) ∧ True) ∧ Below w.heap.size w W)
    (fun _ _ _ => False)
    (OwnFrom.and (Own.from (holdsRow_own w.heap.size w.heap.size 22 5 1 (fun pre : List Rn => (runBytes (pre.map Subtype.val)).length) (fun pre => nums .u8 (runBytes (pre.map Subtype.val))) (fun _ _ => True)) _) (ownFrom_below (Nat.le_refl _) (by simp; omega)))
    (fun _ _ _ _ _ hs _ _ => hs)
    ⟨⟨_, bO.alloc _, own_nil _ _ _ _, trivial⟩, hB0⟩
    (fun x => { tmps := #[.slice A zs.length c, undef, .slice none 0 0, .pointer (some ⟨w.heap.size, 0, none⟩), .int .i64 (x.1.1 : Int), .int .i64 x.1.2, .slice A zs.length c, .func (.func 33) #[] #[.pointer (some ⟨w.heap.size + 1, 0, none⟩)], .int .i64 (x.1.1 : Int), .int .i64 x.1.2, undef, undef, undef, undef, undef, undef, undef, undef], defers := [] }) ?assign ?body ?done ?stop
  case assign =>
    intro l x W K hK
    gi_wp2
    exact hK
  case body =>
    rintro l pre x W ⟨⟨v, hv, hrow, _⟩, hB⟩ hlt
    have hc := hv.cell
    have hf := hv.frozen
    obtain ⟨bs, hbs⟩ : ∃ bs, bs = runBytes (pre.map Subtype.val) := ⟨_, rfl⟩
    have hbl : bs.length ≤ 20 * pre.length := by
      rw [hbs]
      have := runBytes_len (pre.map Subtype.val) (fun p hp => by
        obtain ⟨q, _, rfl⟩ := List.mem_map.1 hp
        exact ⟨by have := q.2.1; omega, q.2.2⟩)
      rwa [List.length_map] at this
    rw [← hbs] at hrow
    have HBS := Lib.hid hbs
    clear hbs
    obtain ⟨⟨m, ch⟩, hm, hc1, hc2⟩ := x
    simp only at hm hc1 hc2
    obtain ⟨K1, h1⟩ := put_ev m bs (by omega) (by omega)
    obtain ⟨bs1, hbs1⟩ : ∃ b, b = bs ++ enc m := ⟨_, rfl⟩
    have f1 : varint_Put.f K1 bs (m : Int) = some bs1 := by rw [hbs1]; exact h1 K1 (Nat.le_refl _)
    have hz := zig_lt hc1 hc2
    have hem := enc_ten (v := m) (by omega)
    have hb1l : bs1.length ≤ bs.length + 10 := by rw [hbs1, List.length_append]; omega
    obtain ⟨K2, h2⟩ := put_ev (zig ch) bs1 hz (by omega)
    obtain ⟨bs2, hbs2⟩ : ∃ b, b = bs1 ++ enc (zig ch) := ⟨_, rfl⟩
    have f2 : varint_Put.f K2 bs1 ((zig ch : Nat) : Int) = some bs2 := by rw [hbs2]; exact h2 K2 (Nat.le_refl _)
    have HE : Hid (bs2 = runBytes ((pre ++ [(⟨(m, ch), hm, hc1, hc2⟩ : Rn)]).map Subtype.val)) := Lib.hid (by
      rw [hbs2, hbs1, HBS.out, List.map_append, List.map_cons, List.map_nil, runBytes_snoc])
    have F1 := Lib.hid f1
    have F2 := Lib.hid f2
    have FZ := Lib.hid (zig_f ch hc1 hc2)
    clear h1 h2 f1 f2 hbs1 hbs2
    have hR0 : Kd.R (Kd.int .u8) 5 W w.heap.size (fun _ => True) v bs := Kd.R_of_own (h1 := fun _ => rfl) hrow (fun _ _ => trivial)
    obtain ⟨A0, c0, rfl, hcl0, hC0⟩ := Kd.R_reads hR0
    clear hR0
    have hcv : IntKind.u64.wrap (m : Int) = (m : Int) := wrap_u64_id (by omega) (by omega)
    gi_wp2_with (fail)
    refine ⟨trivial, ?_⟩
    refine (CallsIn.inRound l (callsIn_wide.2 (varint_Put.calls K1 A0 c0 bs (m : Int) _ W hC0 hcl0 F1.out))).mono ?_
    rintro e w1 ⟨v1, rfl, hR1, hb1⟩
    obtain ⟨A1, c1, rfl, hcl1, hC1⟩ := Kd.R_reads hR1
    gi_wp2_with (fail)
    refine ⟨trivial, ?_⟩
    refine (CallsIn.inRound l (callsIn_wide.2 (varint_Zig.calls ch _ w1 FZ.out))).mono ?_
    rintro e w2 ⟨rfl, hd⟩
    have hb2 := hd.below
    clear hd
    have hC2 := Kd.C_below hC1 hb2
    have hb12 : Below W.heap.size W w2 := hb1.trans (hb2.mono hb1.size)
    clear hC1 hb2 hR1
    gi_wp2_with (fail)
    refine ⟨trivial, ?_⟩
    refine (CallsIn.inRound l (callsIn_wide.2 (varint_Put.calls K2 A1 c1 bs1 ((zig ch : Nat) : Int) _ w2 hC2 hcl1 F2.out))).mono ?_
    rintro e w3 ⟨v3, rfl, hR3, hb3⟩
    have hb : Below W.heap.size W w3 := hb12.trans (hb3.mono hb12.size)
    have hv3 : Boxed w3 w.heap.size 22 (.slice A0 bs.length c0) := (hb.block _ hv.lt).trans hv
    have hc3 := hv3.cell
    have hf3 := hv3.frozen
    have hown := Kd.own_of_R (Kd.R_lower hR3 (Nat.le_trans hB.size hb12.size))
    obtain ⟨A3, c3, rfl, _, _⟩ := Kd.R_reads hR3
    clear hb12 hb1 hb3 hR3 hC2 hcl1 hC0 hcl0 hv3
    have hv3 : Boxed w3 w.heap.size 22 (.slice A0 bs.length c0) := (hb.block _ hv.lt).trans hv
    gi_wp2
    refine ⟨(KeepsFrom.of_grownBy (grown_of_below hb none) (by simp)).trans ((KeepsOthers.setCell _ _ _).from _), (hb.mono hB.size).setCell (p := ⟨w.heap.size, 0, none⟩) (Nat.le_refl _) _, ⟨_, hv3.set _, ?_, trivial⟩, (hB.trans (hb.mono hB.size)).setCell (p := ⟨w.heap.size, 0, none⟩) (Nat.le_refl _) _⟩
    rw [← HE.out]
    exact hown.kept (grownBy_setCell' _ _ _) (.inr (hv3.not_row (by decide) hown).symm)
  case done =>
    rintro D ys W hD rfl ⟨⟨v, hv, hrow, _⟩, hB⟩ hK
    have hc := hv.cell
    gi_wp2
    refine ⟨by simp, .inl ⟨_, _, rfl, run_takeDeferred hK, ?_⟩⟩
    refine ⟨_, results_tmp rfl _ _ _, v, rfl, ?_, hB.trans (belowK_b (w := w) (Nat.le_refl _) W D _ _ (by simp at hD; omega) hK rfl rfl)⟩
    rw [← HXS.out]
    exact Kd.R_of_own (h1 := fun _ => rfl) (ok := fun _ => True) (ownsRow_putObj hrow _ hK rfl) (fun _ _ => trivial)
  case stop =>
    rintro D c pre W _ _ h _
    exact h.elim

/-- ints.Put as the printed texts name it. -/
def ints_Put.f (l0 : List Int) : Option (List Int) := if l0.length ≤ 1099511627776 then some (runBytes (rst l0 0 0 0 0)) else none
theorem ints_Put.calls (A0 : Option Addr) (c0 : Nat) (l0 : List Int) (r : List Int) (w : World) (hr0 : Kd.C (Kd.int .i64) w A0 l0.length l0) (_hc0 : l0.length ≤ c0) (h : ints_Put.f l0 = some r) :
    Calls Try.prog 25 #[.slice A0 l0.length c0] w fun e w' => ∃ v0_ : Value, e = .returned (v0_) ∧ Kd.R (Kd.int .u8) 5 w' w.heap.size (fun _ => True) v0_ r ∧ Below w.heap.size w w' := by
  unfold ints_Put.f at h
  by_cases hl : l0.length ≤ 1099511627776
  · rw [if_pos hl] at h
    obtain rfl := Option.some.inj h
    exact Put_calls A0 c0 l0 w hr0 hl
  · rw [if_neg hl] at h
    cases h
end Go.Proofs.Ytlfaicpcdiphkaa.M
