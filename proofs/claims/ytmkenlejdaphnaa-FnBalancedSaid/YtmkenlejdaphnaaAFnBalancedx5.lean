-- this session's own text: written by wip/tools/ownprint.py over the kit's print
import Derived.Test.YtmkenlejdaphnaaAFnBalancedx0
import Derived.Test.YtmkenlejdaphnaaAFnBalancedx1
import Derived.Test.YtmkenlejdaphnaaAFnBalancedx2
import Derived.Test.YtmkenlejdaphnaaAFnBalancedx4
namespace Go.Proofs.Ytmkenlejdaphnaa.AFnBalanced
open Go.RowKit Go.Proofs.YtmkenlejdaphnaaW.PrintWords Go.Proofs.YtmkenlejdaphnaaW.PrintLast Go.Proofs.YtmkenlejdaphnaaW.PrintMore
attribute [local go_sem] max2_int min2_int max_two min_two max_three min_three max_four min_four   -- for this text's walks alone
set_option linter.unusedVariables false
set_option linter.unusedSimpArgs false

/-! ### spec_GoodRope: function 15 -/
def spec_GoodRope.f (k : Nat) (l0_0 : List (S58)) : Option (Bool) := if (l0_0.length : Int) = 0 then (some true) else (if (l0_0.length : Int) ≤ 200 then ((spec_l12First.f k l0_0 (wrap64 ((l0_0.length : Int) - 1))).bind fun gJ => (if gJ = 0 then (if 0 ≤ (wrap64 ((l0_0.length : Int) - 1)) then (if (wrap64 ((l0_0.length : Int) - 1)) < (l0_0.length : Int) then (some (decide (((rd_T58 l0_0 (wrap64 ((l0_0.length : Int) - 1))).f3) ≤ 300))) else (none)) else (none)) else (some false))) else (some false))
theorem spec_GoodRope.mono : ∀ a0 k, LeO (spec_GoodRope.f k a0) (spec_GoodRope.f (k + 1) a0) := by
 intro a0 k
 unfold spec_GoodRope.f
 repeat' first
   | (with_reducible exact spec_l12First.mono _ _ _)
   | (with_reducible exact LeO.refl _)
   | (with_reducible exact LeO.none _)
   | (with_reducible refine LeO.ite ?_ ?_)
   | (with_reducible refine LeO.bind ?_ (fun _ => ?_))
set_option maxHeartbeats 8000000 in
set_option maxRecDepth 100000 in
theorem spec_GoodRope.calls (k : Nat) (bB : Option Addr) (bo : Nat) (l0_0 : List (S58)) (r : Bool) (w : World) (hr0_0 : Kd.C k58 w bB l0_0.length l0_0) (hc0_0 : l0_0.length ≤ bo) (h : spec_GoodRope.f k l0_0 = some r) :
  Calls Try.prog 15 #[.agg #[.slice bB l0_0.length bo]] w fun e w' => e = .returned (.bool r) ∧ Below w.heap.size w w' := by
 have hu29 := Try.underlying29
 have dw := aM hr0_0
 have eb := aM hc0_0
 clear hr0_0 hc0_0
 have HB := aM (Below.refl w.heap.size w)
 have H : (if (l0_0.length : Int) = 0 then (some true) else (if (l0_0.length : Int) ≤ 200 then ((spec_l12First.f k l0_0 (wrap64 ((l0_0.length : Int) - 1))).bind fun gJ => (if gJ = 0 then (if 0 ≤ (wrap64 ((l0_0.length : Int) - 1)) then (if (wrap64 ((l0_0.length : Int) - 1)) < (l0_0.length : Int) then (some (decide (((rd_T58 l0_0 (wrap64 ((l0_0.length : Int) - 1))).f3) ≤ 300))) else (none)) else (none)) else (some false))) else (some false))) = some r := h
 clear h
 by_cases c2 : (l0_0.length : Int) = 0
 ·rw [if_pos c2] at H
  have c2b0 : ((l0_0.length : Int) == 0) = true := qT c2
  have c2b1 : ((l0_0.length : Int) != 0) = false := nF c2
  clear c2
  obtain rfl := sI H
  go_enter Try.func15, Try.ntmps15
  go_wp2_with (first | ((with_reducible refine aK (N := 1) rfl ?_); refine aN ?hg (N := 1) ?hd (cs := #[.slice bB l0_0.length bo]) (t := 29) ?hr ?_; (case hd => rfl); (case hg => rfl); (case hr => first | (go_simp; done) | (go_simp; rfl)); intro dp hg w3 hbox hb; have dj := aM (hbox); have mI := aM ((by rw [hg]; exact (aA z16) : w.heap.size ≤ dp)); have fJ := aM ((by rw [hg]; exact (aA z16) : w.heap.size ≤ dp)); replace HB := aM (az z16 hb); clear hb hbox hg; obtain ⟨hcz4_0, hfz4_0⟩ := cc1 dj.out))
  go_ret
  exact ⟨y4, by repeat (first | (with_reducible first | exact HB.out | apply bA | apply pD | apply bD | refine ay ?_ fJ.out) | exact HB.out)⟩
 ·rw [if_neg c2] at H
  have c2b0 : ((l0_0.length : Int) == 0) = false := qF c2
  have c2b1 : ((l0_0.length : Int) != 0) = true := nT c2
  have c2b2 : ¬ (l0_0 = []) := fun h_ => c2 (by rw [h_]; rfl)
  by_cases c5 : (l0_0.length : Int) ≤ 200
  ·rw [if_pos c5] at H
   have c5b0 : decide ((l0_0.length : Int) ≤ 200) = true := dT c5
   have c5b1 : decide (l0_0.length ≤ 200) = true := dT (by omega)
   clear c5
   obtain ⟨gJ, A6, H⟩ := oA_ H
   try dsimp only at H
   by_cases c7 : gJ = 0
   ·rw [if_pos c7] at H
    have c7b0 : (gJ == 0) = true := qT c7
    have c7b1 : (gJ != 0) = false := nF c7
    clear c7
    obtain ⟨lS, mm⟩ : ∃ j_ : Int, (wrap64 ((l0_0.length : Int) - 1)) = j_ := ⟨_, rfl⟩
    replace H : (if 0 ≤ (lS) then (if (lS) < (l0_0.length : Int) then (some (decide (((rd_T58 l0_0 (lS)).f3) ≤ 300))) else (none)) else (none)) = some r := by first | (rw [mm] at H; exact H) | (simp only [mm] at H ⊢; exact H)
    (try rw [mm] at A6)
    have hji8w : (IntKind.i64.wrap ((l0_0.length : Int) - 1)) = lS := (i64_w _).trans mm
    by_cases c9 : 0 ≤ (lS)
    ·rw [if_pos c9] at H
     have c9b0 : decide (0 ≤ (lS)) = true := dT c9
     clear c9
     by_cases cS : (lS) < (l0_0.length : Int)
     ·rw [if_pos cS] at H
      have c10b0 : decide ((lS) < (l0_0.length : Int)) = true := dT cS
      clear cS
      obtain rfl := sI H
      go_enter Try.func15, Try.ntmps15
      go_wp2_with (first | ((with_reducible refine aK (N := 1) rfl ?_); refine aN ?hg (N := 1) ?hd (cs := #[.slice bB l0_0.length bo]) (t := 29) ?hr ?_; (case hd => rfl); (case hg => rfl); (case hr => first | (go_simp; done) | (go_simp; rfl)); intro dp hg w11 hbox hb; have dj := aM (hbox); have mI := aM ((by rw [hg]; exact (aA z16) : w.heap.size ≤ dp)); have fJ := aM ((by rw [hg]; exact (aA z16) : w.heap.size ≤ dp)); replace HB := aM (az z16 hb); clear hb hbox hg; obtain ⟨fz, fv⟩ := cc1 dj.out) | (go_at_call 46; (with_reducible refine (spec_l12First.calls k _ _ l0_0 lS gJ _ ?side1 ?side2 A6.out).mono ?_); (case side1 => exact y38); (case side2 => exact eb.out); rintro e w13 ⟨rfl, hb⟩; replace dj := aM (af (g := dp) (o := .cells #[.slice bB l0_0.length bo] 29 (0, 0)) (kB_ dj.out) hb); replace HB := aM (az (by repeat (first | (with_reducible first | exact HB.out | apply bA | apply pD | apply bD | refine ay ?_ fJ.out) | exact HB.out)) hb); (try clear hb); obtain ⟨jh, i2⟩ := cc1 dj.out; have p121 : 0 ≤ ((lS) : Int) := oD z2; have q121 : (lS) < (l0_0.length : Int) := oD z2; obtain ⟨ad121, e121, hx121_0, hx121_1, hx121_2, hx121_3, hx121_4⟩ := at_T58 dw.out (lS) p121 q121; cases e121; replace hx121_0 := (HB.out.cell (World.block_lt_of_cell? w _ hx121_0)).trans hx121_0; replace hx121_1 := (HB.out.cell (World.block_lt_of_cell? w _ hx121_1)).trans hx121_1; replace hx121_2 := (HB.out.cell (World.block_lt_of_cell? w _ hx121_2)).trans hx121_2; replace hx121_3 := (HB.out.cell (World.block_lt_of_cell? w _ hx121_3)).trans hx121_3; replace hx121_4 := (HB.out.cell (World.block_lt_of_cell? w _ hx121_4)).trans hx121_4; replace p121 := eq_true p121; replace q121 := eq_true q121))
      go_ret
      exact ⟨by first | rfl | (simp [errW_none, errW_some] <;> rfl) | (simp only [← mm]; first | rfl | (simp [errW_none, errW_some] <;> rfl)) | (simp [*, errW_none, errW_some] <;> rfl), by repeat (first | (with_reducible first | exact HB.out | apply bA | apply pD | apply bD | refine ay ?_ fJ.out) | exact HB.out)⟩
     ·rw [if_neg cS] at H
      exact absurd H (by simp)
    ·rw [if_neg c9] at H
     exact absurd H (by simp)
   ·rw [if_neg c7] at H
    have c7b0 : (gJ == 0) = false := qF c7
    have c7b1 : (gJ != 0) = true := nT c7
    obtain rfl := sI H
    go_enter Try.func15, Try.ntmps15
    go_wp2_with (first | ((with_reducible refine aK (N := 1) rfl ?_); refine aN ?hg (N := 1) ?hd (cs := #[.slice bB l0_0.length bo]) (t := 29) ?hr ?_; (case hd => rfl); (case hg => rfl); (case hr => first | (go_simp; done) | (go_simp; rfl)); intro dp hg w15 hbox hb; have dj := aM (hbox); have mI := aM ((by rw [hg]; exact (aA z16) : w.heap.size ≤ dp)); have fJ := aM ((by rw [hg]; exact (aA z16) : w.heap.size ≤ dp)); replace HB := aM (az z16 hb); clear hb hbox hg; obtain ⟨hcz16_0, hfz16_0⟩ := cc1 dj.out) | (go_at_call 46; (with_reducible refine (spec_l12First.calls k _ _ l0_0 (wrap64 ((l0_0.length : Int) - 1)) gJ _ ?side1 ?side2 A6.out).mono ?_); (case side1 => exact y38); (case side2 => exact eb.out); rintro e w17 ⟨rfl, hb⟩; replace dj := aM (af (g := dp) (o := .cells #[.slice bB l0_0.length bo] 29 (0, 0)) (kB_ dj.out) hb); replace HB := aM (az (by repeat (first | (with_reducible first | exact HB.out | apply bA | apply pD | apply bD | refine ay ?_ fJ.out) | exact HB.out)) hb); (try clear hb)))
    go_ret
    exact ⟨y4, by repeat (first | (with_reducible first | exact HB.out | apply bA | apply pD | apply bD | refine ay ?_ fJ.out) | exact HB.out)⟩
  ·rw [if_neg c5] at H
   have c5b0 : decide ((l0_0.length : Int) ≤ 200) = false := dF c5
   have c5b1 : decide (l0_0.length ≤ 200) = false := dF (by omega)
   clear c5
   obtain rfl := sI H
   go_enter Try.func15, Try.ntmps15
   go_wp2_with (first | ((with_reducible refine aK (N := 1) rfl ?_); refine aN ?hg (N := 1) ?hd (cs := #[.slice bB l0_0.length bo]) (t := 29) ?hr ?_; (case hd => rfl); (case hg => rfl); (case hr => first | (go_simp; done) | (go_simp; rfl)); intro dp hg w18 hbox hb; have dj := aM (hbox); have mI := aM ((by rw [hg]; exact (aA z16) : w.heap.size ≤ dp)); have fJ := aM ((by rw [hg]; exact (aA z16) : w.heap.size ≤ dp)); replace HB := aM (az z16 hb); clear hb hbox hg; obtain ⟨em, ei⟩ := cc1 dj.out))
   go_ret
   exact ⟨y4, by repeat (first | (with_reducible first | exact HB.out | apply bA | apply pD | apply bD | refine ay ?_ fJ.out) | exact HB.out)⟩

/-! ### spec_l12Fibonacci: function 52 -/
def spec_l12Fibonacci.l0 : Nat → Int → Int → Int → Option (Int)
 | 0, _, _, _ => none
 | k + 1, x0, x3, x4 => if x0 > 1 then (spec_l12Fibonacci.l0 k (wrap64 (x0 - 1)) x4 (wrap64 (x3 + x4))) else (some x3)
def spec_l12Fibonacci.f (k : Nat) (a0 : Int) : Option (Int) := spec_l12Fibonacci.l0 k a0 1 1
theorem spec_l12Fibonacci.mono_l : ∀ k, (∀ y0 y1 y2, LeO (spec_l12Fibonacci.l0 k y0 y1 y2) (spec_l12Fibonacci.l0 (k + 1) y0 y1 y2))
 | 0 => fun _ _ _ r h => by simp [spec_l12Fibonacci.l0] at h
 | k + 1 => by
  have ih0 := spec_l12Fibonacci.mono_l k
  ·intro y0 y1 y2
   unfold spec_l12Fibonacci.l0
   repeat' first
   | (with_reducible exact ih0 _ _ _)
   | (with_reducible exact LeO.refl _)
   | (with_reducible exact LeO.none _)
   | (with_reducible refine LeO.ite ?_ ?_)
   | (with_reducible refine LeO.bind ?_ (fun _ => ?_))
theorem spec_l12Fibonacci.mono : ∀ a0 k, LeO (spec_l12Fibonacci.f k a0) (spec_l12Fibonacci.f (k + 1) a0) := by
 intro a0 k
 have ih0 := spec_l12Fibonacci.mono_l k
 unfold spec_l12Fibonacci.f
 repeat' first
   | (with_reducible exact ih0 _ _ _)
   | (with_reducible exact LeO.refl _)
   | (with_reducible exact LeO.none _)
   | (with_reducible refine LeO.ite ?_ ?_)
   | (with_reducible refine LeO.bind ?_ (fun _ => ?_))
set_option maxHeartbeats 8000000 in
set_option maxRecDepth 100000 in
theorem spec_l12Fibonacci.calls (k : Nat) (a0 : Int) (r : Int) (w : World) (h : spec_l12Fibonacci.f k a0 = some r) :
  Calls Try.prog 52 #[.int .i64 a0] w fun e w' => e = .returned (.int .i64 r) ∧ Drawn0 w w' := by
 have H : (spec_l12Fibonacci.l0 k a0 1 1) = some r := h
 clear h
 have H' := aM H
 clear H
 go_enter Try.func52, Try.ntmps52
 go_wp2
 go_loopg [0, 3, 4] k (fun kq v0 v3 v4 w' => ∃ (x0_1 : Int) (x3_1 : Int) (x4_1 : Int), v0 = .int .i64 x0_1 ∧ v3 = .int .i64 x3_1 ∧ v4 = .int .i64 x4_1 ∧ Aside0 (spec_l12Fibonacci.l0 kq x0_1 x3_1 x4_1 = some r) ∧ Aside0 (kq ≤ k) ∧ Drawn0 w w')
 case atStart => exact ⟨(a0), (1), (1), z1, z1, z1, H', ⟨Nat.le_refl _⟩, y3⟩
 case round =>
  clear H'
  obtain ⟨x0_1, x3_1, x4_1, rfl, rfl, rfl, HA, HK1, ⟨m1, rfl⟩⟩ := hrel
  cases gk with
  | zero => exact absurd HA.out (by simp [spec_l12Fibonacci.l0])
  | succ k1 =>
   have H := HA.out
   clear HA
   simp only [spec_l12Fibonacci.l0] at H
   by_cases c2 : x0_1 > 1
   ·rw [if_pos c2] at H
    have c2b0 : decide (1 < x0_1) = true := dT c2
    clear c2
    have H' := aM H
    clear H
    go_wp2
    go_roundg k1
    case measure => have := HK1.out; omega
    case rel => exact ⟨(wrap64 (x0_1 - 1)), (x4_1), (wrap64 (x3_1 + x4_1)), z1, z1, z1, H', ⟨y0⟩, y3⟩
   ·rw [if_neg c2] at H
    have c2b0 : decide (1 < x0_1) = false := dF c2
    clear c2
    obtain rfl := sI H
    go_wp2
    go_ret
    exact ⟨y1, y3⟩

/-! ### spec_IsBalanced: function 21 -/
def spec_IsBalanced.l0 : Nat → List (S58) → Int → Int → Option (Bool × Bool)
 | 0, _, _, _ => none
 | k + 1, x10, x11, x12 => if x12 < x11 then (if 0 ≤ x12 then (if x12 < (x10.length : Int) then (if ((rd_T58 x10 x12).f4) > 20 then (some (false, true)) else ((spec_l12Fibonacci.f k (wrap64 (((rd_T58 x10 x12).f4) + 2))).bind fun gI => (if ((rd_T58 x10 x12).f3) < gI then (some (false, true)) else (spec_IsBalanced.l0 k x10 x11 (wrap64 (x12 + 1)))))) else (none)) else (none)) else (some (true, true))
def spec_IsBalanced.f (k : Nat) (l0_0 : List (S58)) : Option (Bool × Bool) := (spec_GoodRope.f k l0_0).bind fun ma => (if ma = true then (spec_IsBalanced.l0 k l0_0 (l0_0.length : Int) 0) else (some (false, false)))
theorem spec_IsBalanced.mono_l : ∀ k, (∀ y0 y1 y2, LeO (spec_IsBalanced.l0 k y0 y1 y2) (spec_IsBalanced.l0 (k + 1) y0 y1 y2))
 | 0 => fun _ _ _ r h => by simp [spec_IsBalanced.l0] at h
 | k + 1 => by
  have ih0 := spec_IsBalanced.mono_l k
  ·intro y0 y1 y2
   unfold spec_IsBalanced.l0
   repeat' first
   | (with_reducible exact ih0 _ _ _)
   | (with_reducible exact spec_GoodRope.mono _ _)
   | (with_reducible exact spec_l12Fibonacci.mono _ _)
   | (with_reducible exact LeO.refl _)
   | (with_reducible exact LeO.none _)
   | (with_reducible refine LeO.ite ?_ ?_)
   | (with_reducible refine LeO.bind ?_ (fun _ => ?_))
theorem spec_IsBalanced.mono : ∀ a0 k, LeO (spec_IsBalanced.f k a0) (spec_IsBalanced.f (k + 1) a0) := by
 intro a0 k
 have ih0 := spec_IsBalanced.mono_l k
 unfold spec_IsBalanced.f
 repeat' first
   | (with_reducible exact ih0 _ _ _)
   | (with_reducible exact spec_GoodRope.mono _ _)
   | (with_reducible exact spec_l12Fibonacci.mono _ _)
   | (with_reducible exact LeO.refl _)
   | (with_reducible exact LeO.none _)
   | (with_reducible refine LeO.ite ?_ ?_)
   | (with_reducible refine LeO.bind ?_ (fun _ => ?_))
set_option maxHeartbeats 8000000 in
set_option maxRecDepth 100000 in
theorem spec_IsBalanced.calls (k : Nat) (bB : Option Addr) (bo : Nat) (l0_0 : List (S58)) (r1 : Bool) (r2 : Bool) (w : World) (hr0_0 : Kd.C k58 w bB l0_0.length l0_0) (hc0_0 : l0_0.length ≤ bo) (h : spec_IsBalanced.f k l0_0 = some (r1, r2)) :
  Calls Try.prog 21 #[.agg #[.slice bB l0_0.length bo]] w fun e w' => e = .returned (.tuple #[.bool r1, .bool r2]) ∧ Below w.heap.size w w' := by
 have hu29 := Try.underlying29
 have hu58 := Try.underlying58
 have dw := aM hr0_0
 have eb := aM hc0_0
 clear hr0_0 hc0_0
 have HB := aM (Below.refl w.heap.size w)
 have H : ((spec_GoodRope.f k l0_0).bind fun ma => (if ma = true then (spec_IsBalanced.l0 k l0_0 (l0_0.length : Int) 0) else (some (false, false)))) = some (r1, r2) := h
 clear h
 obtain ⟨ma, A2, H⟩ := oA_ H
 try dsimp only at H
 by_cases c3 : ma = true
 ·subst c3
  rw [if_pos rfl] at H
  have H' := aM H
  clear H
  go_enter Try.func21, Try.ntmps21
  go_wp2_with (first | ((with_reducible refine aK (N := 1) rfl ?_); refine aN ?hg (N := 1) ?hd (cs := #[.slice bB l0_0.length bo]) (t := 29) ?hr ?_; (case hd => rfl); (case hg => rfl); (case hr => first | (go_simp; done) | (go_simp; rfl)); intro bL hg w4 hbox hb; have bR := aM (hbox); have jJ := aM ((by rw [hg]; exact (aA z16) : w.heap.size ≤ bL)); have eI := aM ((by rw [hg]; exact (aA z16) : w.heap.size ≤ bL)); replace HB := aM (az z16 hb); clear hb hbox hg; obtain ⟨jb, jZ⟩ := cc1 bR.out) | (go_at_call 15; (with_reducible refine (spec_GoodRope.calls k _ _ l0_0 true _ ?side1 ?side2 A2.out).mono ?_); (case side1 => exact y38); (case side2 => exact eb.out); rintro e w6 ⟨rfl, hb⟩; replace bR := aM (bK_ bR.out hb); replace HB := aM (az z22 hb); (try clear hb); obtain ⟨ej, eg⟩ := cc1 bR.out))
  repeat (go_quiet (fail); try go_wp2_with (first | ((with_reducible refine aK (N := 1) rfl ?_); refine aN ?hg (N := 1) ?hd (cs := #[.slice bB l0_0.length bo]) (t := 29) ?hr ?_; (case hd => rfl); (case hg => rfl); (case hr => first | (go_simp; done) | (go_simp; rfl)); intro bL hg w4 hbox hb; have bR := aM (hbox); have jJ := aM ((by rw [hg]; exact (aA z16) : w.heap.size ≤ bL)); have eI := aM ((by rw [hg]; exact (aA z16) : w.heap.size ≤ bL)); replace HB := aM (az z16 hb); clear hb hbox hg; obtain ⟨jb, jZ⟩ := cc1 bR.out) | (go_at_call 15; (with_reducible refine (spec_GoodRope.calls k _ _ l0_0 true _ ?side1 ?side2 A2.out).mono ?_); (case side1 => exact y38); (case side2 => exact eb.out); rintro e w6 ⟨rfl, hb⟩; replace bR := aM (bK_ bR.out hb); replace HB := aM (az z22 hb); (try clear hb); obtain ⟨ej, eg⟩ := cc1 bR.out)))
  go_loopg [12] k (fun kq v12 w' => ∃ (x12_1 : Int), v12 = .int .i64 x12_1 ∧ Aside0 (spec_IsBalanced.l0 kq l0_0 (l0_0.length : Int) x12_1 = some (r1, r2)) ∧ Aside0 (kq ≤ k) ∧ Aside0 (w'.heap[bL]? = some (.cells #[(.slice bB l0_0.length bo)] 29 (0, 0))) ∧ Aside0 (Below w.heap.size w w'))
  case atStart => exact ⟨(0), z1, H', ⟨Nat.le_refl _⟩, ⟨kB_ bR.out⟩, ⟨by repeat (first | (with_reducible first | exact HB.out | apply bA | apply pD | apply bD | refine ay ?_ eI.out) | exact HB.out)⟩⟩
  case round =>
   clear H'
   try clear c3
   try clear jb
   try clear ej
   try clear jZ
   try clear eg
   obtain ⟨x12_1, rfl, HA, HK1, bR, HB⟩ := hrel
   cases gk with
   | zero => exact absurd HA.out (by simp [spec_IsBalanced.l0])
   | succ k1 =>
    have H := HA.out
    clear HA
    simp only [spec_IsBalanced.l0] at H
    by_cases c8 : x12_1 < (l0_0.length : Int)
    ·rw [if_pos c8] at H
     have c8b0 : decide (x12_1 < (l0_0.length : Int)) = true := dT c8
     clear c8
     by_cases c9 : 0 ≤ x12_1
     ·rw [if_pos c9] at H
      have c9b0 : decide (0 ≤ x12_1) = true := dT c9
      clear c9
      by_cases cS : x12_1 < (l0_0.length : Int)
      ·rw [if_pos cS] at H
       have c10b0 : decide (x12_1 < (l0_0.length : Int)) = true := dT cS
       clear cS
       by_cases dk : ((rd_T58 l0_0 x12_1).f4) > 20
       ·rw [if_pos dk] at H
        have c11b0 : decide (20 < ((rd_T58 l0_0 x12_1).f4)) = true := dT dk
        clear dk
        simp only [Option.some.injEq, Prod.mk.injEq] at H
        obtain ⟨rfl, rfl⟩ := H
        have p124 : 0 ≤ (x12_1 : Int) := oD z2
        have q124 : x12_1 < (l0_0.length : Int) := oD z2
        obtain ⟨ad124, e124, hx124_0, hx124_1, hx124_2, hx124_3, hx124_4⟩ := at_T58 dw.out x12_1 p124 q124
        cases e124
        replace hx124_0 := (HB.out.cell (World.block_lt_of_cell? w _ hx124_0)).trans hx124_0
        replace hx124_1 := (HB.out.cell (World.block_lt_of_cell? w _ hx124_1)).trans hx124_1
        replace hx124_2 := (HB.out.cell (World.block_lt_of_cell? w _ hx124_2)).trans hx124_2
        replace hx124_3 := (HB.out.cell (World.block_lt_of_cell? w _ hx124_3)).trans hx124_3
        replace hx124_4 := (HB.out.cell (World.block_lt_of_cell? w _ hx124_4)).trans hx124_4
        replace p124 := eq_true p124
        replace q124 := eq_true q124
        go_wp2_with (first | ((with_reducible refine aK (N := 5) rfl ?_); refine aN ?hg (N := 5) ?hd (cs := #[.int .i64 0, .int .i64 0, .string ⟨#[]⟩, .int .i64 0, .int .i64 0]) (t := 58) ?hr ?_; (case hd => rfl); (case hg => rfl); (case hr => first | (go_simp; done) | (go_simp; rfl)); intro bH hg w12 hbox hb; have bE := aM (hbox); have gj := aM ((by rw [hg]; exact (aA z22) : w.heap.size ≤ bH)); have eH := aM ((by rw [hg]; exact (aA z22) : w.heap.size ≤ bH)); replace HB := aM (az z22 hb); have bV := aM ((by rw [hg]; exact aC (ax (g := bL) (o := .cells #[.slice (some ad124) l0_0.length bo] 29 (0, 0)) z9) : bL ≠ bH)); have ca := aM ((by rw [hg]; exact aD (ax (g := bL) (o := .cells #[.slice (some ad124) l0_0.length bo] 29 (0, 0)) z9) : bH ≠ bL)); replace bR := aM (bK_ bR.out hb); clear hb hbox hg; have nB := ca.out; have nz := bV.out; obtain ⟨jh, lr, lq, lp, ln, i2, kJ, kI, kH, kG⟩ := cc5 bE.out))
        repeat (go_quiet (fail); try go_wp2_with (first | ((with_reducible refine aK (N := 5) rfl ?_); refine aN ?hg (N := 5) ?hd (cs := #[.int .i64 0, .int .i64 0, .string ⟨#[]⟩, .int .i64 0, .int .i64 0]) (t := 58) ?hr ?_; (case hd => rfl); (case hg => rfl); (case hr => first | (go_simp; done) | (go_simp; rfl)); intro bH hg w12 hbox hb; have bE := aM (hbox); have gj := aM ((by rw [hg]; exact (aA z22) : w.heap.size ≤ bH)); have eH := aM ((by rw [hg]; exact (aA z22) : w.heap.size ≤ bH)); replace HB := aM (az z22 hb); have bV := aM ((by rw [hg]; exact aC (ax (g := bL) (o := .cells #[.slice (some ad124) l0_0.length bo] 29 (0, 0)) z9) : bL ≠ bH)); have ca := aM ((by rw [hg]; exact aD (ax (g := bL) (o := .cells #[.slice (some ad124) l0_0.length bo] 29 (0, 0)) z9) : bH ≠ bL)); replace bR := aM (bK_ bR.out hb); clear hb hbox hg; have nB := ca.out; have nz := bV.out; obtain ⟨jh, lr, lq, lp, ln, i2, kJ, kI, kH, kG⟩ := cc5 bE.out)))
        go_ret2
        exact ⟨y4, by repeat (first | (with_reducible first | exact HB.out | apply bA | apply pD | apply bD | refine ay ?_ eI.out | refine ay ?_ eH.out) | exact HB.out)⟩
       ·rw [if_neg dk] at H
        have c11b0 : decide (20 < ((rd_T58 l0_0 x12_1).f4)) = false := dF dk
        clear dk
        obtain ⟨gI, lR, H⟩ := oA_ H
        try dsimp only at H
        by_cases dM : ((rd_T58 l0_0 x12_1).f3) < gI
        ·rw [if_pos dM] at H
         have c16b0 : decide (((rd_T58 l0_0 x12_1).f3) < gI) = true := dT dM
         clear dM
         simp only [Option.some.injEq, Prod.mk.injEq] at H
         obtain ⟨rfl, rfl⟩ := H
         have p124 : 0 ≤ (x12_1 : Int) := oD z2
         have q124 : x12_1 < (l0_0.length : Int) := oD z2
         obtain ⟨ad124, e124, hx124_0, hx124_1, hx124_2, hx124_3, hx124_4⟩ := at_T58 dw.out x12_1 p124 q124
         cases e124
         replace hx124_0 := (HB.out.cell (World.block_lt_of_cell? w _ hx124_0)).trans hx124_0
         replace hx124_1 := (HB.out.cell (World.block_lt_of_cell? w _ hx124_1)).trans hx124_1
         replace hx124_2 := (HB.out.cell (World.block_lt_of_cell? w _ hx124_2)).trans hx124_2
         replace hx124_3 := (HB.out.cell (World.block_lt_of_cell? w _ hx124_3)).trans hx124_3
         replace hx124_4 := (HB.out.cell (World.block_lt_of_cell? w _ hx124_4)).trans hx124_4
         replace p124 := eq_true p124
         replace q124 := eq_true q124
         go_wp2_with (first | ((with_reducible refine aK (N := 5) rfl ?_); refine aN ?hg (N := 5) ?hd (cs := #[.int .i64 0, .int .i64 0, .string ⟨#[]⟩, .int .i64 0, .int .i64 0]) (t := 58) ?hr ?_; (case hd => rfl); (case hg => rfl); (case hr => first | (go_simp; done) | (go_simp; rfl)); intro bH hg w17 hbox hb; have bE := aM (hbox); have gj := aM ((by rw [hg]; exact (aA z22) : w.heap.size ≤ bH)); have eH := aM ((by rw [hg]; exact (aA z22) : w.heap.size ≤ bH)); replace HB := aM (az z22 hb); have bV := aM ((by rw [hg]; exact aC (ax (g := bL) (o := .cells #[.slice (some ad124) l0_0.length bo] 29 (0, 0)) z9) : bL ≠ bH)); have ca := aM ((by rw [hg]; exact aD (ax (g := bL) (o := .cells #[.slice (some ad124) l0_0.length bo] 29 (0, 0)) z9) : bH ≠ bL)); replace bR := aM (bK_ bR.out hb); clear hb hbox hg; have nA := ca.out; have ny := bV.out; obtain ⟨em, eX, eW, eV, eU, ei, eR, eQ, eP, eO⟩ := cc5 bE.out) | (go_at_call 52; (with_reducible refine (spec_l12Fibonacci.calls k1 (wrap64 (((rd_T58 l0_0 x12_1).f4) + 2)) gI _ lR.out).mono ?_); rintro e w' ⟨rfl, ⟨nd, rfl⟩⟩; (try exact dD_)))
         repeat (go_quiet (first | (go_at_call 52; (with_reducible refine (spec_l12Fibonacci.calls k1 (wrap64 (((rd_T58 l0_0 x12_1).f4) + 2)) gI _ lR.out).mono ?_); rintro e w' ⟨rfl, ⟨nd, rfl⟩⟩; (try exact dD_))); try go_wp2_with (first | ((with_reducible refine aK (N := 5) rfl ?_); refine aN ?hg (N := 5) ?hd (cs := #[.int .i64 0, .int .i64 0, .string ⟨#[]⟩, .int .i64 0, .int .i64 0]) (t := 58) ?hr ?_; (case hd => rfl); (case hg => rfl); (case hr => first | (go_simp; done) | (go_simp; rfl)); intro bH hg w17 hbox hb; have bE := aM (hbox); have gj := aM ((by rw [hg]; exact (aA z22) : w.heap.size ≤ bH)); have eH := aM ((by rw [hg]; exact (aA z22) : w.heap.size ≤ bH)); replace HB := aM (az z22 hb); have bV := aM ((by rw [hg]; exact aC (ax (g := bL) (o := .cells #[.slice (some ad124) l0_0.length bo] 29 (0, 0)) z9) : bL ≠ bH)); have ca := aM ((by rw [hg]; exact aD (ax (g := bL) (o := .cells #[.slice (some ad124) l0_0.length bo] 29 (0, 0)) z9) : bH ≠ bL)); replace bR := aM (bK_ bR.out hb); clear hb hbox hg; have nA := ca.out; have ny := bV.out; obtain ⟨em, eX, eW, eV, eU, ei, eR, eQ, eP, eO⟩ := cc5 bE.out) | (go_at_call 52; (with_reducible refine (spec_l12Fibonacci.calls k1 (wrap64 (((rd_T58 l0_0 x12_1).f4) + 2)) gI _ lR.out).mono ?_); rintro e w' ⟨rfl, ⟨nd, rfl⟩⟩; (try exact dD_))))
         go_ret2
         exact ⟨y4, by repeat (first | (with_reducible first | exact HB.out | apply bA | apply pD | apply bD | refine ay ?_ eI.out | refine ay ?_ eH.out) | exact HB.out)⟩
        ·rw [if_neg dM] at H
         have c16b0 : decide (((rd_T58 l0_0 x12_1).f3) < gI) = false := dF dM
         clear dM
         have H' := aM H
         clear H
         have p124 : 0 ≤ (x12_1 : Int) := oD z2
         have q124 : x12_1 < (l0_0.length : Int) := oD z2
         obtain ⟨ad124, e124, hx124_0, hx124_1, hx124_2, hx124_3, hx124_4⟩ := at_T58 dw.out x12_1 p124 q124
         cases e124
         replace hx124_0 := (HB.out.cell (World.block_lt_of_cell? w _ hx124_0)).trans hx124_0
         replace hx124_1 := (HB.out.cell (World.block_lt_of_cell? w _ hx124_1)).trans hx124_1
         replace hx124_2 := (HB.out.cell (World.block_lt_of_cell? w _ hx124_2)).trans hx124_2
         replace hx124_3 := (HB.out.cell (World.block_lt_of_cell? w _ hx124_3)).trans hx124_3
         replace hx124_4 := (HB.out.cell (World.block_lt_of_cell? w _ hx124_4)).trans hx124_4
         replace p124 := eq_true p124
         replace q124 := eq_true q124
         go_wp2_with (first | ((with_reducible refine aK (N := 5) rfl ?_); refine aN ?hg (N := 5) ?hd (cs := #[.int .i64 0, .int .i64 0, .string ⟨#[]⟩, .int .i64 0, .int .i64 0]) (t := 58) ?hr ?_; (case hd => rfl); (case hg => rfl); (case hr => first | (go_simp; done) | (go_simp; rfl)); intro bH hg w20 hbox hb; have bE := aM (hbox); have gj := aM ((by rw [hg]; exact (aA z22) : w.heap.size ≤ bH)); have eH := aM ((by rw [hg]; exact (aA z22) : w.heap.size ≤ bH)); replace HB := aM (az z22 hb); have bV := aM ((by rw [hg]; exact aC (ax (g := bL) (o := .cells #[.slice (some ad124) l0_0.length bo] 29 (0, 0)) z9) : bL ≠ bH)); have ca := aM ((by rw [hg]; exact aD (ax (g := bL) (o := .cells #[.slice (some ad124) l0_0.length bo] 29 (0, 0)) z9) : bH ≠ bL)); replace bR := aM (bK_ bR.out hb); clear hb hbox hg; have ml := ca.out; have mj := bV.out; obtain ⟨ek, eT, eS, fy, fx, eh, eN, eM, fu, ft⟩ := cc5 bE.out) | (go_at_call 52; (with_reducible refine (spec_l12Fibonacci.calls k1 (wrap64 (((rd_T58 l0_0 x12_1).f4) + 2)) gI _ lR.out).mono ?_); rintro e w' ⟨rfl, ⟨nd, rfl⟩⟩; (try exact dD_)))
         repeat (go_quiet (first | (go_at_call 52; (with_reducible refine (spec_l12Fibonacci.calls k1 (wrap64 (((rd_T58 l0_0 x12_1).f4) + 2)) gI _ lR.out).mono ?_); rintro e w' ⟨rfl, ⟨nd, rfl⟩⟩; (try exact dD_))); try go_wp2_with (first | ((with_reducible refine aK (N := 5) rfl ?_); refine aN ?hg (N := 5) ?hd (cs := #[.int .i64 0, .int .i64 0, .string ⟨#[]⟩, .int .i64 0, .int .i64 0]) (t := 58) ?hr ?_; (case hd => rfl); (case hg => rfl); (case hr => first | (go_simp; done) | (go_simp; rfl)); intro bH hg w20 hbox hb; have bE := aM (hbox); have gj := aM ((by rw [hg]; exact (aA z22) : w.heap.size ≤ bH)); have eH := aM ((by rw [hg]; exact (aA z22) : w.heap.size ≤ bH)); replace HB := aM (az z22 hb); have bV := aM ((by rw [hg]; exact aC (ax (g := bL) (o := .cells #[.slice (some ad124) l0_0.length bo] 29 (0, 0)) z9) : bL ≠ bH)); have ca := aM ((by rw [hg]; exact aD (ax (g := bL) (o := .cells #[.slice (some ad124) l0_0.length bo] 29 (0, 0)) z9) : bH ≠ bL)); replace bR := aM (bK_ bR.out hb); clear hb hbox hg; have ml := ca.out; have mj := bV.out; obtain ⟨ek, eT, eS, fy, fx, eh, eN, eM, fu, ft⟩ := cc5 bE.out) | (go_at_call 52; (with_reducible refine (spec_l12Fibonacci.calls k1 (wrap64 (((rd_T58 l0_0 x12_1).f4) + 2)) gI _ lR.out).mono ?_); rintro e w' ⟨rfl, ⟨nd, rfl⟩⟩; (try exact dD_))))
         go_roundg k1
         case measure => have := HK1.out; omega
         case rel => exact ⟨(wrap64 (x12_1 + 1)), z1, H', ⟨y0⟩, ⟨by (with_reducible repeat (first | refine ar ?_ _ | refine aq ?_ | refine au ?_ _)); refine av ?_ bV.out _; (with_reducible repeat (first | refine ar ?_ _ | refine aq ?_ | refine au ?_ _)); refine av ?_ bV.out _; (with_reducible repeat (first | refine ar ?_ _ | refine aq ?_ | refine au ?_ _)); refine av ?_ bV.out _; (with_reducible repeat (first | refine ar ?_ _ | refine aq ?_ | refine au ?_ _)); refine av ?_ bV.out _; (with_reducible repeat (first | refine ar ?_ _ | refine aq ?_ | refine au ?_ _)); refine av ?_ bV.out _; (with_reducible repeat (first | refine ar ?_ _ | refine aq ?_ | refine au ?_ _)); exact bR.out⟩, ⟨by repeat (first | (with_reducible first | exact HB.out | apply bA | apply pD | apply bD | refine ay ?_ eI.out | refine ay ?_ eH.out) | exact HB.out)⟩⟩
      ·rw [if_neg cS] at H
       exact absurd H (by simp)
     ·rw [if_neg c9] at H
      exact absurd H (by simp)
    ·rw [if_neg c8] at H
     have c8b0 : decide (x12_1 < (l0_0.length : Int)) = false := dF c8
     clear c8
     simp only [Option.some.injEq, Prod.mk.injEq] at H
     obtain ⟨rfl, rfl⟩ := H
     go_wp2
     repeat (go_quiet (fail); try go_wp2)
     go_ret2
     exact ⟨y4, by repeat (first | (with_reducible first | exact HB.out | apply bA | apply pD | apply bD | refine ay ?_ eI.out) | exact HB.out)⟩
 ·replace c3 := Bool.eq_false_iff.mpr c3
  subst c3
  rw [if_neg nF_] at H
  simp only [Option.some.injEq, Prod.mk.injEq] at H
  obtain ⟨rfl, rfl⟩ := H
  go_enter Try.func21, Try.ntmps21
  go_wp2_with (first | ((with_reducible refine aK (N := 1) rfl ?_); refine aN ?hg (N := 1) ?hd (cs := #[.slice bB l0_0.length bo]) (t := 29) ?hr ?_; (case hd => rfl); (case hg => rfl); (case hr => first | (go_simp; done) | (go_simp; rfl)); intro bL hg w23 hbox hb; have bR := aM (hbox); have jJ := aM ((by rw [hg]; exact (aA z16) : w.heap.size ≤ bL)); have eI := aM ((by rw [hg]; exact (aA z16) : w.heap.size ≤ bL)); replace HB := aM (az z16 hb); clear hb hbox hg; obtain ⟨fw, fq⟩ := cc1 bR.out) | (go_at_call 15; (with_reducible refine (spec_GoodRope.calls k _ _ l0_0 false _ ?side1 ?side2 A2.out).mono ?_); (case side1 => exact y38); (case side2 => exact eb.out); rintro e w25 ⟨rfl, hb⟩; replace bR := aM (bK_ bR.out hb); replace HB := aM (az z22 hb); (try clear hb)))
  repeat (go_quiet (fail); try go_wp2_with (first | ((with_reducible refine aK (N := 1) rfl ?_); refine aN ?hg (N := 1) ?hd (cs := #[.slice bB l0_0.length bo]) (t := 29) ?hr ?_; (case hd => rfl); (case hg => rfl); (case hr => first | (go_simp; done) | (go_simp; rfl)); intro bL hg w23 hbox hb; have bR := aM (hbox); have jJ := aM ((by rw [hg]; exact (aA z16) : w.heap.size ≤ bL)); have eI := aM ((by rw [hg]; exact (aA z16) : w.heap.size ≤ bL)); replace HB := aM (az z16 hb); clear hb hbox hg; obtain ⟨fw, fq⟩ := cc1 bR.out) | (go_at_call 15; (with_reducible refine (spec_GoodRope.calls k _ _ l0_0 false _ ?side1 ?side2 A2.out).mono ?_); (case side1 => exact y38); (case side2 => exact eb.out); rintro e w25 ⟨rfl, hb⟩; replace bR := aM (bK_ bR.out hb); replace HB := aM (az z22 hb); (try clear hb))))
  go_ret2
  exact ⟨y4, by repeat (first | (with_reducible first | exact HB.out | apply bA | apply pD | apply bD | refine ay ?_ eI.out) | exact HB.out)⟩

/-! ### impl_limb_isBalanced: function 53, by hand -/
def fibl : Nat → Int → Int → Option Int
 | 0, _, b => some b
 | n + 1, a, b => if 300 < a + b then none else fibl n b (a + b)
def blc : Limb → Bool
 | .nil => true
 | .node l r _ n d => match fibl d.toNat 1 1 with
  | none => false
  | some b => decide (b ≤ n) && (blc l && blc r)
set_option maxHeartbeats 4000000 in
theorem isBalanced_any (t : Limb) : ∀ (A : Option Addr) (ok : Nat → Prop) (w : World), LmAt w ok t A →
  Calls Try.prog 53 #[.pointer A] w fun e w' => e = .returned (.bool (blc t)) ∧ w = w' := by
 induction t with
 | nil =>
  intro A ok w hA
  obtain rfl : A = none := hA
  go_enter Try.func53, Try.ntmps53
  go_wp2
  go_ret
  exact ⟨rfl, rfl⟩
 | node l r s n d ihl ihr =>
  intro A ok w hA
  obtain ⟨b, L, R, rfl, hb, hc, hl, hr⟩ := hA
  have c0 : w.cell? ⟨b, 0, none⟩ = some (.pointer L) := (bC hc 0).trans rfl
  have c1 : w.cell? ⟨b, 1, none⟩ = some (.pointer R) := (bC hc 1).trans rfl
  have c3 : w.cell? ⟨b, 3, none⟩ = some (.int .i64 n) := (bC hc 3).trans rfl
  have c4 : w.cell? ⟨b, 4, none⟩ = some (.int .i64 d) := (bC hc 4).trans rfl
  have HI1 := aM (ihl L ok w hl)
  have HI2 := aM (ihr R ok w hr)
  have HX : Aside0 (blc (.node l r s n d) = match fibl d.toNat 1 1 with | none => false | some b => decide (b ≤ n) && (blc l && blc r)) := ⟨rfl⟩
  clear hb hc hl hr ihl ihr
  generalize blc (.node l r s n d) = res at *
  generalize blc l = bl at *
  generalize blc r = br at *
  go_enter Try.func53, Try.ntmps53
  go_wp2
  go_loop [3, 4, 11] (fun u v i => ∃ (k : Nat) (x y : Int), i = .int .i64 k ∧ u = .int .i64 x ∧ v = .int .i64 y ∧ 1 ≤ x ∧ x ≤ 300 ∧ (k : Int) + 1 ≤ y ∧ y ≤ 300 ∧ k ≤ d.toNat ∧ Aside0 (fibl (d.toNat - k) x y = fibl d.toNat 1 1)) (fun _ _ i => d.toNat - (intOf i).toNat)
  case atStart => exact ⟨0, 1, 1, rfl, rfl, rfl, by omega, by omega, by omega, by omega, Nat.zero_le _, ⟨rfl⟩⟩
  case round =>
   obtain ⟨k, x, y, rfl, rfl, rfl, x1, x2, y1, y2, hk, HF⟩ := hrel
   by_cases hlt : k < d.toNat
   ·have hd : (k : Int) < d := by omega
    obtain ⟨m, hm⟩ : ∃ m, d.toNat - k = m + 1 := ⟨d.toNat - k - 1, by omega⟩
    by_cases hy : 300 < x + y
    ·have HR : Aside0 (res = false) := ⟨by rw [HX.out, ← HF.out, hm]; unfold fibl; rw [if_pos hy]⟩
     clear hm
     go_wp2
     go_ret
     exact ⟨by rw [HR.out]; rfl, rfl⟩
    ·have HF2 : Aside0 (fibl (d.toNat - (k + 1)) y (x + y) = fibl d.toNat 1 1) := ⟨by rw [← HF.out, hm, show d.toNat - (k + 1) = m by omega]; conv => rhs; unfold fibl; rw [if_neg hy]⟩
     clear hm
     go_wp2
     go_round
     case rel => exact ⟨k + 1, y, x + y, by go_num, rfl, rfl, by omega, by omega, by omega, by omega, by omega, HF2⟩
     case measure => simp [intOf]; omega
   ·have hd : ¬ ((k : Int) < d) := by omega
    have HR : Aside0 (res = (decide (y ≤ n) && (bl && br))) := ⟨by rw [HX.out, ← HF.out, show d.toNat - k = 0 by omega]; rfl⟩
    clear x1 x2 hk hlt
    by_cases hy : y ≤ n
    ·have q1 : decide (y ≤ n) = true := dT hy
     cases bl with
     | false =>
      have lO : Aside0 (res = false) := ⟨by rw [HR.out, q1]; rfl⟩
      go_wp2_with (first | (go_at_call_of 53 (Value.pointer L); refine HI1.out.mono ?_; rintro e w1 ⟨rfl, rfl⟩))
      go_ret
      exact ⟨by rw [lO.out]; rfl, rfl⟩
     | true =>
      have lO : Aside0 (res = br) := ⟨by rw [HR.out, q1]; rfl⟩
      go_wp2_with (first | (go_at_call_of 53 (Value.pointer L); refine HI1.out.mono ?_; rintro e w1 ⟨rfl, rfl⟩) | (go_at_call_of 53 (Value.pointer R); refine HI2.out.mono ?_; rintro e w1 ⟨rfl, rfl⟩))
      go_ret
      exact ⟨by rw [lO.out]; rfl, rfl⟩
    ·have q1 : decide (y ≤ n) = false := dF hy
     have lO : Aside0 (res = false) := ⟨by rw [HR.out, q1]; rfl⟩
     go_wp2_with (first | (go_at_call_of 53 (Value.pointer L); refine HI1.out.mono ?_; rintro e w1 ⟨rfl, rfl⟩))
     go_ret
     exact ⟨by rw [lO.out]; rfl, rfl⟩

/-! ### impl_IsBalanced: function 22, by hand -/
def impl_IsBalanced.f (k : Nat) (l0_0 : List S58) : Option (Bool × Bool) := (opnF k l0_0).bind fun p => if p.2 = true then some (blc p.1, true) else some (false, false)
theorem impl_IsBalanced.mono : ∀ a0 k, LeO (impl_IsBalanced.f k a0) (impl_IsBalanced.f (k + 1) a0) := fun a0 k => open_drop (fun _ => LeO.refl _)
set_option maxHeartbeats 1000000 in
theorem impl_IsBalanced.calls (k : Nat) (bB : Option Addr) (bo : Nat) (l0_0 : List S58) (r1 : Bool) (r2 : Bool) (w : World) (hr0_0 : Kd.C k58 w bB l0_0.length l0_0) (hc0_0 : l0_0.length ≤ bo) (h : impl_IsBalanced.f k l0_0 = some (r1, r2)) :
  Calls Try.prog 22 #[.agg #[.slice bB l0_0.length bo]] w fun e w' => e = .returned (.tuple #[.bool r1, .bool r2]) ∧ Below w.heap.size w w' := by
 obtain ⟨⟨t, b⟩, h1, h2⟩ := oB h
 have HO := aM (fun (w' : World) (hC : Kd.C k58 w' bB l0_0.length l0_0) => open_any k l0_0 bB bo t b w' hC hc0_0 h1)
 have HC := aM hr0_0
 cases b with
 | false =>
  rw [if_neg (by simp)] at h2
  obtain ⟨rfl, rfl⟩ := Prod.mk.inj (sI h2)
  clear h h1 h2 hr0_0 hc0_0
  go_enter Try.func22, Try.ntmps22
  go_wp2_with (first | (go_at_call 48; refine (HO.out _ (aG HC.out _)).mono ?_; rintro e w1 ⟨P, rfl, hl, hb⟩; have HB := aM hb; clear hl hb))
  go_ret2
  exact ⟨rfl, az (bA (Below.refl _ _) _) HB.out⟩
 | true =>
  rw [if_pos rfl] at h2
  obtain ⟨rfl, rfl⟩ := Prod.mk.inj (sI h2)
  clear h h1 h2 hr0_0 hc0_0
  go_enter Try.func22, Try.ntmps22
  go_wp2_with (first | (go_at_call 48; refine (HO.out _ (aG HC.out _)).mono ?_; rintro e w1 ⟨P, rfl, hl, hb⟩; have HB := aM hb; have HL := aM hl; clear hl hb) | (go_at_call 53; refine (isBalanced_any t P _ _ HL.out).mono ?_; rintro e w2 ⟨rfl, rfl⟩))
  go_ret2
  exact ⟨rfl, az (bA (Below.refl _ _) _) HB.out⟩

/-! ### impl_limb_pieces: function 66, by hand -/
/-- The texts of the pieces. -/
def pcs : Limb → List ByteArray
 | .nil => []
 | .node l r s _ _ => if l.isNil = true then [s] else pcs l ++ pcs r
def PcAt (w0 w : World) (v : Value) (xs : List ByteArray) (e : Ending) (w' : World) : Prop := ∃ v', e = .returned v' ∧ Kd.R Kd.string 9 w' w0.heap.size (fun _ => True) v' xs ∧ Below w0.heap.size w0 w' ∧ RowTo w w' v v'
set_option maxHeartbeats 4000000 in
theorem pieces_any (t : Limb) : ∀ (A : Option Addr) (ok : Nat → Prop) (w0 w : World) (v : Value) (xs : List ByteArray), LmAt w ok t A → Kd.R Kd.string 9 w w0.heap.size (fun _ => True) v xs → Below w0.heap.size w0 w → xs.length + (pcs t).length ≤ 100000000 →
  Calls Try.prog 66 #[.pointer A, v] w (PcAt w0 w v (xs ++ pcs t)) := by
 induction t with
 | nil =>
  intro A ok w0 w v xs hA hv hB hn
  obtain rfl : A = none := hA
  have HV := aM hv
  have HB := aM hB
  obtain ⟨Av, cv, rfl, -, -⟩ := Kd.R_reads hv
  have HX : Aside0 (xs ++ pcs .nil = xs) := ⟨List.append_nil _⟩
  rw [HX.out]
  clear hv hB hn HX
  go_enter Try.func66, Try.ntmps66
  go_wp2
  go_ret
  exact ⟨_, rfl, HV.out, HB.out, RowTo.refl _ _⟩
 | node l r s n d ihl ihr =>
  intro A ok w0 w v xs hA hv hB hn
  have HA := aM hA
  have HV := aM hv
  have HB := aM hB
  have HN := aM hn
  obtain ⟨b, L, R, rfl, hb, hc, hl, hr⟩ := hA
  have HC := aM hc
  have c0 : w.cell? ⟨b, 0, none⟩ = some (.pointer L) := (bC hc 0).trans rfl
  have c1 : w.cell? ⟨b, 1, none⟩ = some (.pointer R) := (bC hc 1).trans rfl
  have c2 : w.cell? ⟨b, 2, none⟩ = some (.string s) := (bC hc 2).trans rfl
  have HL := aM hl
  have HR := aM hr
  obtain ⟨Av, cv, rfl, -, -⟩ := Kd.R_reads hv
  cases l with
  | nil =>
   obtain rfl : L = none := hl
   have HN1 : Aside0 (xs.length + 1 ≤ 100000000) := ⟨hn⟩
   have HX : Aside0 (xs ++ pcs (.node .nil r s n d) = xs ++ [s]) := ⟨rfl⟩
   rw [HX.out]
   clear hr hb hc hv hB hn ihl ihr HX HN
   go_enter Try.func66, Try.ntmps66
   go_wp2_with (first | (at_builtin; refine Kd.R_append Kd.string (w0 := w0) w0.heap.size rfl (.tmp 15) (.tmp 20) 44 9 (.string ⟨#[]⟩) 16 rfl Try.underlying44 info9 rfl (by decide) (by omega) (.slice Av xs.length cv) xs s [.string s] (fun _ => True) (fun _ => False) rfl (by first | (go_simp; done) | (go_simp; rfl)) ?aP (fun _ hk => hk.elim) (fun _ _ => trivial) ?aO ?aB ?aS ?aL ?_; (case aP => exact rfl); (case aO => exact HV.out); (case aB => exact HB.out); (case aS => exact HB.out.size); (case aL => have := HN1.out; omega); intro v1 w1 ho hb hg hat; obtain ⟨A1, c1, eo, -, -⟩ := Kd.R_reads ho; rw [aX, aY] at eo; subst eo; have HO := aM ho; have HB1 := aM hb; have HT : Aside0 (RowTo w w1 (.slice Av xs.length cv) (.slice A1 (xs.length + 1) c1)) := ⟨⟨Kept.of_grown hg (Kept.refl w _) (fun k hk => .inl hk.symm), hat⟩⟩; clear ho hb hg hat))
   go_ret
   exact ⟨_, rfl, HO.out, HB1.out, HT.out⟩
  | node l' r' s' n' d' =>
   have hl2 := hl
   obtain ⟨bl, L2, R2, rfl, -⟩ := hl2
   have HN1 : Aside0 (xs.length + (pcs (.node l' r' s' n' d')).length ≤ 100000000) := ⟨by have : pcs (.node (.node l' r' s' n' d') r s n d) = pcs (.node l' r' s' n' d') ++ pcs r := rfl; rw [this, aX] at hn; omega⟩
   have HN2 : Aside0 ((xs ++ pcs (.node l' r' s' n' d')).length + (pcs r).length ≤ 100000000) := ⟨by have : pcs (.node (.node l' r' s' n' d') r s n d) = pcs (.node l' r' s' n' d') ++ pcs r := rfl; rw [this, aX] at hn; rw [aX]; omega⟩
   have HX : Aside0 (xs ++ pcs (.node (.node l' r' s' n' d') r s n d) = (xs ++ pcs (.node l' r' s' n' d')) ++ pcs r) := ⟨(List.append_assoc _ _ _).symm⟩
   rw [HX.out]
   clear hr hb hc hv hB hn hl HN HX
   generalize (Limb.node l' r' s' n' d') = l at *
   go_enter Try.func66, Try.ntmps66
   go_wp2
   go_region_held3 (fun w' => w'.cell? ⟨b, 0, none⟩ = some (.pointer (some ⟨bl, 0, none⟩)) ∧ w'.cell? ⟨b, 1, none⟩ = some (.pointer R)) (first | go_keep | exact HS1.out | exact HS2.out)
    (first | (go_at_call_of 66 (Value.pointer (some ⟨bl, 0, none⟩)); refine (ihl (some ⟨bl, 0, none⟩) ok w0 _ _ xs ?g1 ?g2 ?g3 HN1.out).mono ?_; (case g1 => (first | exact HL.out | exact HL.out.drewN _ | exact HL.out.drew)); (case g2 => (first | exact HV.out | exact ac HV.out _ | exact aa HV.out)); (case g3 => (first | exact HB.out | exact pD HB.out _ | exact below_drew HB.out)); rintro e w1 ⟨v1, rfl, ho, hb, ht⟩; obtain ⟨A1, k1, eo, -, -⟩ := Kd.R_reads ho; rw [aX] at eo; subst eo; have HV1 := aM ho; have HB1 := aM hb; have HT1 : Aside0 (RowTo w w1 (.slice Av xs.length cv) _) := ⟨ht⟩; have hc1 := blk_kept (W := w) HC.out HT1.out.1 (fun e => Kd.R_ne HV.out HC.out (by decide) e); have HS1 : Aside0 (w1.cell? ⟨b, 0, none⟩ = some (.pointer (some ⟨bl, 0, none⟩)) ∧ w1.cell? ⟨b, 1, none⟩ = some (.pointer R)) := ⟨⟨(bC hc1 0).trans rfl, (bC hc1 1).trans rfl⟩⟩; have lP := aM (HR.out.rowTo HV.out (by decide) HT1.out); clear ho hb ht hc1) | (go_at_call_of 66 (Value.pointer R); refine (ihr R ok w0 _ _ (xs ++ pcs l) ?g1 ?g2 ?g3 HN2.out).mono ?_; (case g1 => (first | exact lP.out | exact lP.out.drewN _ | exact lP.out.drew)); (case g2 => (first | exact HV1.out | exact ac HV1.out _ | exact aa HV1.out)); (case g3 => (first | exact HB1.out | exact pD HB1.out _ | exact below_drew HB1.out)); rintro e w2 ⟨v2, rfl, ho, hb, ht⟩; obtain ⟨A2, k2, eo, -, -⟩ := Kd.R_reads ho; rw [aX, aX] at eo; subst eo; have HV2 := aM ho; have HB2 := aM hb; have HT2 : Aside0 (RowTo w1 w2 _ _) := ⟨ht⟩; have hc2 := blk_kept (W := w1) ((blk_kept (W := w) HC.out HT1.out.1 (fun e => Kd.R_ne HV.out HC.out (by decide) e))) HT2.out.1 (fun e => Kd.R_ne HV1.out ((blk_kept (W := w) HC.out HT1.out.1 (fun e => Kd.R_ne HV.out HC.out (by decide) e))) (by decide) e); have HS2 : Aside0 (w2.cell? ⟨b, 0, none⟩ = some (.pointer (some ⟨bl, 0, none⟩)) ∧ w2.cell? ⟨b, 1, none⟩ = some (.pointer R)) := ⟨⟨(bC hc2 0).trans rfl, (bC hc2 1).trans rfl⟩⟩; clear ho hb ht hc2))
   go_wp2
   go_ret
   exact ⟨_, rfl, HV2.out, HB2.out, HT1.out.trans HT2.out⟩

/-! ### impl_PiecesOf: function 30, by hand -/
def impl_PiecesOf.f (k : Nat) (l0_0 : List S58) : Option (List ByteArray × Bool) := (opnF k l0_0).bind fun p => if p.2 = true then (if (pcs p.1).length ≤ 100000000 then some (pcs p.1, true) else none) else some ([], false)
theorem impl_PiecesOf.mono : ∀ a0 k, LeO (impl_PiecesOf.f k a0) (impl_PiecesOf.f (k + 1) a0) := fun a0 k => open_drop (fun _ => LeO.refl _)
set_option maxHeartbeats 1000000 in
theorem impl_PiecesOf.calls (k : Nat) (bB : Option Addr) (bo : Nat) (l0_0 : List S58) (r1 : List ByteArray) (r2 : Bool) (w : World) (hr0_0 : Kd.C k58 w bB l0_0.length l0_0) (hc0_0 : l0_0.length ≤ bo) (h : impl_PiecesOf.f k l0_0 = some (r1, r2)) :
  Calls Try.prog 30 #[.agg #[.slice bB l0_0.length bo]] w fun e w' => ∃ v0_ : Value, e = .returned (.tuple #[v0_, .bool r2]) ∧ Kd.R Kd.string 9 w' w.heap.size (fun _ => True) v0_ r1 ∧ Below w.heap.size w w' := by
 obtain ⟨⟨t, b⟩, h1, h2⟩ := oB h
 have HO := aM (fun (w' : World) (hC : Kd.C k58 w' bB l0_0.length l0_0) => open_any k l0_0 bB bo t b w' hC hc0_0 h1)
 have HC := aM hr0_0
 cases b with
 | false =>
  rw [if_neg (by simp)] at h2
  obtain ⟨rfl, rfl⟩ := Prod.mk.inj (sI h2)
  clear h h1 h2 hr0_0 hc0_0
  go_enter Try.func30, Try.ntmps30
  go_wp2_with (first | (go_at_call 48; refine (HO.out _ (aG HC.out _)).mono ?_; rintro e w1 ⟨P, rfl, hl, hb⟩; have HB := aM hb; clear hl hb))
  go_ret2
  exact ⟨_, rfl, Kd.R_nil _ _ _ _ _, az (bA (Below.refl _ _) _) HB.out⟩
 | true =>
  rw [if_pos rfl] at h2
  split at h2
  case isFalse => cases h2
  case isTrue hn =>
  obtain ⟨rfl, rfl⟩ := Prod.mk.inj (sI h2)
  have hn2 : (pcs t).length ≤ 100000000 := hn
  have HN : Aside0 (([] : List ByteArray).length + (pcs t).length ≤ 100000000) := ⟨by show 0 + _ ≤ _; omega⟩
  clear hn2
  clear h h1 h2 hr0_0 hc0_0 hn
  go_enter Try.func30, Try.ntmps30
  go_wp2_with (first | (go_at_call 48; refine (HO.out _ (aG HC.out _)).mono ?_; rintro e w1 ⟨P, rfl, hl, hb⟩; have HB : Aside0 (Below w.heap.size w w1) := ⟨az (bA (Below.refl _ _) _) hb⟩; have HL := aM hl; clear hl hb) | (go_at_call 66; refine (pieces_any t P _ w _ _ [] HL.out (Kd.R_nil _ _ _ _ _) HB.out HN.out).mono ?_; rintro e w2 ⟨v2, rfl, ho, hb, ht⟩; rw [List.nil_append] at ho; obtain ⟨A1, k1, eo, -, -⟩ := Kd.R_reads ho; subst eo; have nx := aM ho; have HB2 := aM hb; clear ho hb ht))
  go_ret2
  exact ⟨_, rfl, nx.out, HB2.out⟩

/-! ### spec_l12Join: function 68, by hand -/
def spec_l12Join.l0 : Nat → List (S58) → List (S58) → List (S58) → List (S58) → Int → Int → Option ((List (S58)))
 | 0, _, _, _, _, _, _ => none
 | k + 1, x0, x1, x5, x22, x23, x24 => if x24 < x23 then (if 0 ≤ x24 then (if x24 < (x22.length : Int) then (if ((rd_T58 x22 x24).f0) ≥ 0 then (if x5.length < 2932031007402 then (spec_l12Join.l0 k x0 x1 (x5 ++ [(⟨wrap64 (((rd_T58 x22 x24).f0) + (x0.length : Int)), wrap64 (((rd_T58 x22 x24).f1) + (x0.length : Int)), (rd_T58 x22 x24).f2, (rd_T58 x22 x24).f3, (rd_T58 x22 x24).f4⟩ : S58)]) x22 x23 (wrap64 (x24 + 1))) else (none)) else (if x5.length < 2932031007402 then (spec_l12Join.l0 k x0 x1 (x5 ++ [(⟨(rd_T58 x22 x24).f0, (rd_T58 x22 x24).f1, (rd_T58 x22 x24).f2, (rd_T58 x22 x24).f3, (rd_T58 x22 x24).f4⟩ : S58)]) x22 x23 (wrap64 (x24 + 1))) else (none))) else (none)) else (none)) else (if 0 ≤ (wrap64 ((x0.length : Int) - 1)) then (if (wrap64 ((x0.length : Int) - 1)) < (x0.length : Int) then (if 0 ≤ (wrap64 ((x1.length : Int) - 1)) then (if (wrap64 ((x1.length : Int) - 1)) < (x1.length : Int) then (if ((rd_T58 x1 (wrap64 ((x1.length : Int) - 1))).f4) > ((rd_T58 x0 (wrap64 ((x0.length : Int) - 1))).f4) then (if x5.length < 2932031007402 then (some (x5 ++ [(⟨wrap64 ((x0.length : Int) - 1), wrap64 ((x5.length : Int) - 1), (⟨#[]⟩ : ByteArray), wrap64 (((rd_T58 x0 (wrap64 ((x0.length : Int) - 1))).f3) + ((rd_T58 x1 (wrap64 ((x1.length : Int) - 1))).f3)), wrap64 (((rd_T58 x1 (wrap64 ((x1.length : Int) - 1))).f4) + 1)⟩ : S58)])) else (none)) else (if x5.length < 2932031007402 then (some (x5 ++ [(⟨wrap64 ((x0.length : Int) - 1), wrap64 ((x5.length : Int) - 1), (⟨#[]⟩ : ByteArray), wrap64 (((rd_T58 x0 (wrap64 ((x0.length : Int) - 1))).f3) + ((rd_T58 x1 (wrap64 ((x1.length : Int) - 1))).f3)), wrap64 (((rd_T58 x0 (wrap64 ((x0.length : Int) - 1))).f4) + 1)⟩ : S58)])) else (none))) else (none)) else (none)) else (none)) else (none))
def spec_l12Join.f (k : Nat) (l0 : List (S58)) (l1 : List (S58)) : Option ((List (S58))) := if (l0.length : Int) = 0 then (some l1) else (if (l1.length : Int) = 0 then (some l0) else ((some (([] : List (S58)) : List (S58))).bind fun y157 => (if y157.length + l0.length < 2932031007402 then (spec_l12Join.l0 k l0 l1 (y157 ++ l0) l1 (l1.length : Int) 0) else (none))))
theorem spec_l12Join.mono_l : ∀ k, (∀ y0 y1 y2 y3 y4 y5, LeO (spec_l12Join.l0 k y0 y1 y2 y3 y4 y5) (spec_l12Join.l0 (k + 1) y0 y1 y2 y3 y4 y5))
 | 0 => fun _ _ _ _ _ _ r h => by simp [spec_l12Join.l0] at h
 | k + 1 => by
  have ih0 := spec_l12Join.mono_l k
  ·intro y0 y1 y2 y3 y4 y5
   unfold spec_l12Join.l0
   repeat' first
   | (with_reducible exact ih0 _ _ _ _ _ _)
   | (with_reducible exact LeO.refl _)
   | (with_reducible exact LeO.none _)
   | (with_reducible refine LeO.ite ?_ ?_)
   | (with_reducible refine LeO.bind ?_ (fun _ => ?_))
theorem spec_l12Join.mono : ∀ a0 a1 k, LeO (spec_l12Join.f k a0 a1) (spec_l12Join.f (k + 1) a0 a1) := by
 intro a0 a1 k
 have ih0 := spec_l12Join.mono_l k
 unfold spec_l12Join.f
 repeat' first
   | (with_reducible exact ih0 _ _ _ _ _ _)
   | (with_reducible exact LeO.refl _)
   | (with_reducible exact LeO.none _)
   | (with_reducible refine LeO.ite ?_ ?_)
   | (with_reducible refine LeO.bind ?_ (fun _ => ?_))
def RdAt (w : World) (r : List S58) (e : Ending) (w' : World) : Prop := ∃ A c, e = .returned (.slice A r.length c) ∧ Kd.C k58 w' A r.length r ∧ r.length ≤ c ∧ Below w.heap.size w w'
/-- .. and the row that comes back is one of the two, or a new one. -/
def JnAt (w : World) (A0 : Option Addr) (c0 : Nat) (l0 : List S58) (A1 : Option Addr) (c1 : Nat) (l1 r : List S58) (e : Ending) (w' : World) : Prop := ∃ A c, e = .returned (.slice A r.length c) ∧ ((A = A1 ∧ c = c1 ∧ r = l1) ∨ (A = A0 ∧ c = c0 ∧ r = l0) ∨ Kd.R k58 58 w' w.heap.size (fun _ => True) (.slice A r.length c) r) ∧ Below w.heap.size w w'
set_option maxHeartbeats 8000000 in
set_option maxRecDepth 100000 in
theorem join_own (k : Nat) (l0 : List S58) (A0 : Option Addr) (c0 : Nat) (l1 : List S58) (A1 : Option Addr) (c1 : Nat) (r : List S58) (w : World) (hr0 : Kd.C k58 w A0 l0.length l0) (hc0 : l0.length ≤ c0) (hr1 : Kd.C k58 w A1 l1.length l1) (hc1 : l1.length ≤ c1) (h : spec_l12Join.f k l0 l1 = some r) :
  Calls Try.prog 68 #[.slice A0 l0.length c0, .slice A1 l1.length c1] w (JnAt w A0 c0 l0 A1 c1 l1 r) := by
 have hu101 := Try.underlying58
 have cN := aM hr0
 have lP := aM hr1
 have dy := aM hc0
 have dN := aM hc1
 unfold spec_l12Join.f at h
 by_cases e0 : (l0.length : Int) = 0
 ·rw [if_pos e0] at h
  obtain rfl := sI h
  have q0 : ((l0.length : Int) == 0) = true := qT e0
  clear h e0 hr0 hr1 hc0 hc1
  go_enter Try.func68, Try.ntmps68
  go_wp2
  go_ret
  exact ⟨A1, c1, rfl, .inl ⟨rfl, rfl, rfl⟩, Below.refl _ _⟩
 rw [if_neg e0] at h
 have q0 : ((l0.length : Int) == 0) = false := qF e0
 by_cases e1 : (l1.length : Int) = 0
 ·rw [if_pos e1] at h
  obtain rfl := sI h
  have q1 : ((l1.length : Int) == 0) = true := qT e1
  clear h e0 e1 hr0 hr1 hc0 hc1
  go_enter Try.func68, Try.ntmps68
  go_wp2
  go_ret
  exact ⟨A0, c0, rfl, .inr (.inl ⟨rfl, rfl, rfl⟩), Below.refl _ _⟩
 rw [if_neg e1] at h
 have q1 : ((l1.length : Int) == 0) = false := qF e1
 replace h : (if ([] : List S58).length + l0.length < 2932031007402 then (spec_l12Join.l0 k l0 l1 ([] ++ l0) l1 (l1.length : Int) 0) else none) = some r := h
 rw [List.nil_append] at h
 split at h
 case isFalse => cases h
 case isTrue hlen =>
 have HH := aM h
 have LM0 : Aside0 (([] : List S58).length + l0.length < 2932031007402) := ⟨hlen⟩
 clear h e0 e1 hr0 hr1 hc0 hc1 hlen
 go_enter Try.func68, Try.ntmps68
 go_wp2_with (first | ((with_reducible refine aK (N := 19) rfl ?_); refine Kd.R_lit k58 _ 58 ?hg (N := 19) ?hd (xs := ([] : List (S58))) (inner := []) (ok := fun _ => True) (okp := fun _ => True) ?hr ?hp (fun _ hk => hk) trivial (Below.refl _ _) (Nat.le_refl _) (by simp) ?_; (case hd => rfl); (case hg => rfl); (case hr => first | (go_simp; done) | (go_simp; rfl)); (case hp => exact (Reps.none _ _)); intro v1 w1 ho1 hb1 hg_ hnew_; have HV1 := aM ho1; have HB1 : Aside0 (Below w.heap.size w w1) := ⟨hb1⟩; have HRA := aM (aE cN.out hb1); clear ho1 hb1 hg_ hnew_) | ((with_reducible refine gate_builtin (b := .append) (xs := #[.tmp 19, .tmp 20]) rfl ?_); at_builtin; refine Kd.R_append_rows k58 (w0 := w) w.heap.size rfl (.tmp 19) (.tmp 20) 27 58 (.agg #[(.int .i64 0), (.int .i64 0), (.string ⟨#[]⟩), (.int .i64 0), (.int .i64 0)]) 48 rfl Try.underlying27 info58 rfl (by decide) (by omega) v1 [] l0 _ _ _ (fun _ => True) (fun _ => False) rfl rfl ?aO ?aR (fun _ _ h => h) (fun _ h => h.elim) (fun _ _ => trivial) ?aB ?aS ?aL ?_; (case aR => repeat (first | exact HRA.out | (with_reducible refine aG ?_ _) | (with_reducible refine aH ?_ _) | (with_reducible refine aI ?_))); (case aB => exact (by repeat (first | (with_reducible first | exact HB1.out | apply bA | apply pD | apply bD) | exact HB1.out))); (case aO => exact (kR_ HV1.out)); (case aS => exact (aA (by repeat (first | (with_reducible first | exact HB1.out | apply bA | apply pD | apply bD) | exact HB1.out)))); (case aL => have := LM0.out; simp only [List.length_nil] at *; omega); intro v2 w2 ho hb hg hat; rw [List.nil_append] at ho; have HV2 := aM ho; have HB2 := aM hb; clear ho hb hg hat))
 go_loopg [5, 24] k (fun kq v5 v24 w' => ∃ (x5 : List S58) (i : Int), v24 = .int .i64 i ∧ Aside0 (spec_l12Join.l0 kq l0 l1 x5 l1 (l1.length : Int) i = some r) ∧ Aside0 (kq ≤ k) ∧ Aside0 (Kd.R k58 58 w' w.heap.size (fun _ => True) v5 x5) ∧ Aside0 (Below w.heap.size w w'))
 case atStart => exact ⟨l0, 0, (by first | rfl | (simp; done)), HH, ⟨Nat.le_refl _⟩, ⟨kR_ HV2.out⟩, ⟨by repeat (first | (with_reducible first | exact HB2.out | apply bA | apply pD | apply bD) | exact HB2.out)⟩⟩
 case round =>
  clear HH HV2 HB2 HV1 HB1 HRA
  obtain ⟨x5, i, rfl, HA, HK1, d7, HB⟩ := hrel
  cases gk with
  | zero => exact absurd HA.out (by simp [spec_l12Join.l0])
  | succ k1 =>
   have H := HA.out
   clear HA
   simp only [spec_l12Join.l0] at H
   obtain ⟨od, nG, eo5⟩ := Kd.R_slice d7.out
   subst eo5
   by_cases t1 : i < (l1.length : Int)
   ·rw [if_pos t1] at H
    have d1 : decide (i < (l1.length : Int)) = true := dT t1
    by_cases t2 : 0 ≤ i
    ·rw [if_pos t2, if_pos t1] at H
     have d2 : decide (0 ≤ i) = true := dT t2
     obtain ⟨ad, e_, hx0, hx1, hx2, hx3, hx4⟩ := at_T58 (aE lP.out HB.out) i t2 t1
     cases e_
     replace t1 := eq_true t1
     replace t2 := eq_true t2
     by_cases t3 : (rd_T58 l1 i).f0 ≥ 0
     ·rw [if_pos t3] at H
      have d3 : decide (0 ≤ (rd_T58 l1 i).f0) = true := dT t3
      clear t3
      by_cases t4 : x5.length < 2932031007402
      ·rw [if_pos t4] at H
       have LM := aM t4
       clear t4
       go_upto_region 8 with (fail)
       go_cut [7] (fun v_ wc_ => ∃ g_, v_ = .pointer (some ⟨g_, 0, none⟩) ∧ Aside0 (g_ = wr.heap.size) ∧ Aside0 (wc_.heap[g_]? = some (.cells #[.int .i64 ((rd_T58 l1 i).f0), .int .i64 ((rd_T58 l1 i).f1), .string ((rd_T58 l1 i).f2), .int .i64 ((rd_T58 l1 i).f3), .int .i64 ((rd_T58 l1 i).f4)] 58 (0, 0))) ∧ Aside0 (Below wr.heap.size wr wc_))
       case first =>
        go_wp2_with (fail)
        go_meet
        exact ⟨_, rfl, ⟨rfl⟩, ⟨blk_new _ _⟩, ⟨bA (Below.refl _ _) _⟩⟩
       case rest =>
        obtain ⟨gx, rfl, hg_, BK_gx, hb_⟩ := hcut
        have a8 := aM (ag (Kd.R_elderB d7.out gx (Nat.le_of_eq hg_.out.symm)) hb_.out); have a9 := aM (az HB.out hb_.out); have GE_gx : Aside0 (w.heap.size ≤ gx) := ⟨by rw [hg_.out]; exact HB.out.size⟩
        clear d7 HB; have d7 := a8; have HB := a9; clear a8 a9 hg_ hb_
        have hcgx_0 : wc.cell? ⟨gx, 0, none⟩ = some (.int .i64 ((rd_T58 l1 i).f0)) := (bC BK_gx.out 0).trans rfl; have hfgx_0 := bF BK_gx.out 0; have hcgx_1 : wc.cell? ⟨gx, 1, none⟩ = some (.int .i64 ((rd_T58 l1 i).f1)) := (bC BK_gx.out 1).trans rfl; have hfgx_1 := bF BK_gx.out 1; have hcgx_2 : wc.cell? ⟨gx, 2, none⟩ = some (.string ((rd_T58 l1 i).f2)) := (bC BK_gx.out 2).trans rfl; have hfgx_2 := bF BK_gx.out 2; have hcgx_3 : wc.cell? ⟨gx, 3, none⟩ = some (.int .i64 ((rd_T58 l1 i).f3)) := (bC BK_gx.out 3).trans rfl; have hfgx_3 := bF BK_gx.out 3; have hcgx_4 : wc.cell? ⟨gx, 4, none⟩ = some (.int .i64 ((rd_T58 l1 i).f4)) := (bC BK_gx.out 4).trans rfl; have hfgx_4 := bF BK_gx.out 4
        clear hx0 hx1 hx2 hx3 hx4
        go_upto_region 11 with (fail)
        go_cut [] (fun wd_ => Aside0 (wd_.heap[gx]? = some (.cells #[.int .i64 (wrap64 ((rd_T58 l1 i).f0 + (l0.length : Int))), .int .i64 (wrap64 ((rd_T58 l1 i).f1 + (l0.length : Int))), .string ((rd_T58 l1 i).f2), .int .i64 ((rd_T58 l1 i).f3), .int .i64 ((rd_T58 l1 i).f4)] 58 (0, 0))) ∧ Aside0 (Kd.R k58 58 wd_ w.heap.size (fun k_ => True ∧ k_ ≠ gx) (.slice od x5.length nG) x5) ∧ Aside0 (Below w.heap.size w wd_))
        case first =>
         go_wp2_with (fail)
         go_meet
         exact ⟨⟨by (with_reducible repeat (first | refine ar ?_ _ | refine aq ?_ | refine au ?_ _)); refine aw (cs := #[.int .i64 (wrap64 ((rd_T58 l1 i).f0 + (l0.length : Int))), .int .i64 ((rd_T58 l1 i).f1), .string ((rd_T58 l1 i).f2), .int .i64 ((rd_T58 l1 i).f3), .int .i64 ((rd_T58 l1 i).f4)]) ?_ 1 _ rfl; (with_reducible repeat (first | refine ar ?_ _ | refine aq ?_ | refine au ?_ _)); refine aw (cs := #[.int .i64 ((rd_T58 l1 i).f0), .int .i64 ((rd_T58 l1 i).f1), .string ((rd_T58 l1 i).f2), .int .i64 ((rd_T58 l1 i).f3), .int .i64 ((rd_T58 l1 i).f4)]) ?_ 0 _ rfl; (with_reducible repeat (first | refine ar ?_ _ | refine aq ?_ | refine au ?_ _)); exact BK_gx.out⟩, ⟨by (with_reducible repeat (first | apply ae | apply ac | apply aa)); exact (am (p := ⟨gx, 1, none⟩) (am (p := ⟨gx, 0, none⟩) d7.out (fun _ hk => hk.2) (.int .i64 (wrap64 ((rd_T58 l1 i).f0 + (l0.length : Int))))) (fun _ hk => hk.2) (.int .i64 (wrap64 ((rd_T58 l1 i).f1 + (l0.length : Int)))))⟩, ⟨by repeat (first | (with_reducible first | exact HB.out | apply bA | apply pD | apply bD | refine ay ?_ GE_gx.out) | exact HB.out)⟩⟩
        case rest =>
         obtain ⟨CB_, CO_, CL_⟩ := hcut
         clear d7 HB BK_gx hcgx_0 hfgx_0 hcgx_1 hfgx_1 hcgx_2 hfgx_2 hcgx_3 hfgx_3 hcgx_4 hfgx_4; have d7 := CO_; have HB := CL_; have BK_gx := CB_; clear CO_ CL_ CB_
         have hcgx_0 : wc.cell? ⟨gx, 0, none⟩ = some (.int .i64 (wrap64 ((rd_T58 l1 i).f0 + (l0.length : Int)))) := (bC BK_gx.out 0).trans rfl; have hfgx_0 := bF BK_gx.out 0; have hcgx_1 : wc.cell? ⟨gx, 1, none⟩ = some (.int .i64 (wrap64 ((rd_T58 l1 i).f1 + (l0.length : Int)))) := (bC BK_gx.out 1).trans rfl; have hfgx_1 := bF BK_gx.out 1; have hcgx_2 : wc.cell? ⟨gx, 2, none⟩ = some (.string ((rd_T58 l1 i).f2)) := (bC BK_gx.out 2).trans rfl; have hfgx_2 := bF BK_gx.out 2; have hcgx_3 : wc.cell? ⟨gx, 3, none⟩ = some (.int .i64 ((rd_T58 l1 i).f3)) := (bC BK_gx.out 3).trans rfl; have hfgx_3 := bF BK_gx.out 3; have hcgx_4 : wc.cell? ⟨gx, 4, none⟩ = some (.int .i64 ((rd_T58 l1 i).f4)) := (bC BK_gx.out 4).trans rfl; have hfgx_4 := bF BK_gx.out 4
         go_wp2_with (first | ((with_reducible refine gate_builtin (b := .append) (xs := #[.tmp 43, .tmp 45]) rfl ?_); at_builtin; refine Kd.R_append k58 (w0 := w) w.heap.size rfl (.tmp 43) (.tmp 45) 27 58 (.agg #[(.int .i64 0), (.int .i64 0), (.string ⟨#[]⟩), (.int .i64 0), (.int .i64 0)]) 48 rfl Try.underlying27 info58 rfl (by decide) (by omega) (.slice od x5.length nG) x5 (⟨wrap64 ((rd_T58 l1 i).f0 + (l0.length : Int)), wrap64 ((rd_T58 l1 i).f1 + (l0.length : Int)), (rd_T58 l1 i).f2, (rd_T58 l1 i).f3, (rd_T58 l1 i).f4⟩ : S58) [.int .i64 (wrap64 ((rd_T58 l1 i).f0 + (l0.length : Int))), .int .i64 (wrap64 ((rd_T58 l1 i).f1 + (l0.length : Int))), .string ((rd_T58 l1 i).f2), .int .i64 ((rd_T58 l1 i).f3), .int .i64 ((rd_T58 l1 i).f4)] (fun k_ => k_ ≠ gx) (fun _ => False) rfl (by first | (go_simp; done) | (go_simp; rfl)) ?aP (fun _ hk => hk.elim) ?aF ?aO ?aB ?aS ?aL ?_; (case aP => exact k58_mkM _ _ _ (⟨wrap64 ((rd_T58 l1 i).f0 + (l0.length : Int)), wrap64 ((rd_T58 l1 i).f1 + (l0.length : Int)), (rd_T58 l1 i).f2, (rd_T58 l1 i).f3, (rd_T58 l1 i).f4⟩ : S58)); (case aB => exact z16); (case aF => exact (fun k_ hk => Kd.freshB (g := gx) (kB_ BK_gx.out) k_ hk)); (case aO => exact (kM_ d7.out (fun _ hk => hk.2))); (case aS => exact (aA z16)); (case aL => have := LM.out; omega);  intro v9 w9 ho hb hg hat; have a8 := aM ho; have a9 := aM hb; clear d7 HB; have d7 := a8; have HB := a9; clear a8 a9 ho hb hg hat))
         go_roundg k1
         case measure => have := HK1.out; omega
         case rel => exact ⟨_, wrap64 (i + 1), (by first | rfl | (simp; done)), ⟨H⟩, ⟨y0⟩, ⟨kM_ d7.out (fun _ _ => trivial)⟩, ⟨y5⟩⟩
      ·rw [if_neg t4] at H
       exact absurd H (by simp)
     ·rw [if_neg t3] at H
      have d3 : decide (0 ≤ (rd_T58 l1 i).f0) = false := dF t3
      clear t3
      by_cases t4 : x5.length < 2932031007402
      ·rw [if_pos t4] at H
       have LM := aM t4
       clear t4
       go_upto_region 8 with (fail)
       go_cut [7] (fun v_ wc_ => ∃ g_, v_ = .pointer (some ⟨g_, 0, none⟩) ∧ Aside0 (g_ = wr.heap.size) ∧ Aside0 (wc_.heap[g_]? = some (.cells #[.int .i64 ((rd_T58 l1 i).f0), .int .i64 ((rd_T58 l1 i).f1), .string ((rd_T58 l1 i).f2), .int .i64 ((rd_T58 l1 i).f3), .int .i64 ((rd_T58 l1 i).f4)] 58 (0, 0))) ∧ Aside0 (Below wr.heap.size wr wc_))
       case first =>
        go_wp2_with (fail)
        go_meet
        exact ⟨_, rfl, ⟨rfl⟩, ⟨blk_new _ _⟩, ⟨bA (Below.refl _ _) _⟩⟩
       case rest =>
        obtain ⟨gx, rfl, hg_, BK_gx, hb_⟩ := hcut
        have a8 := aM (ag (Kd.R_elderB d7.out gx (Nat.le_of_eq hg_.out.symm)) hb_.out); have a9 := aM (az HB.out hb_.out); have GE_gx : Aside0 (w.heap.size ≤ gx) := ⟨by rw [hg_.out]; exact HB.out.size⟩
        clear d7 HB; have d7 := a8; have HB := a9; clear a8 a9 hg_ hb_
        have hcgx_0 : wc.cell? ⟨gx, 0, none⟩ = some (.int .i64 ((rd_T58 l1 i).f0)) := (bC BK_gx.out 0).trans rfl; have hfgx_0 := bF BK_gx.out 0; have hcgx_1 : wc.cell? ⟨gx, 1, none⟩ = some (.int .i64 ((rd_T58 l1 i).f1)) := (bC BK_gx.out 1).trans rfl; have hfgx_1 := bF BK_gx.out 1; have hcgx_2 : wc.cell? ⟨gx, 2, none⟩ = some (.string ((rd_T58 l1 i).f2)) := (bC BK_gx.out 2).trans rfl; have hfgx_2 := bF BK_gx.out 2; have hcgx_3 : wc.cell? ⟨gx, 3, none⟩ = some (.int .i64 ((rd_T58 l1 i).f3)) := (bC BK_gx.out 3).trans rfl; have hfgx_3 := bF BK_gx.out 3; have hcgx_4 : wc.cell? ⟨gx, 4, none⟩ = some (.int .i64 ((rd_T58 l1 i).f4)) := (bC BK_gx.out 4).trans rfl; have hfgx_4 := bF BK_gx.out 4
        clear hx0 hx1 hx2 hx3 hx4
        go_wp2_with (first | ((with_reducible refine gate_builtin (b := .append) (xs := #[.tmp 43, .tmp 45]) rfl ?_); at_builtin; refine Kd.R_append k58 (w0 := w) w.heap.size rfl (.tmp 43) (.tmp 45) 27 58 (.agg #[(.int .i64 0), (.int .i64 0), (.string ⟨#[]⟩), (.int .i64 0), (.int .i64 0)]) 48 rfl Try.underlying27 info58 rfl (by decide) (by omega) (.slice od x5.length nG) x5 (⟨(rd_T58 l1 i).f0, (rd_T58 l1 i).f1, (rd_T58 l1 i).f2, (rd_T58 l1 i).f3, (rd_T58 l1 i).f4⟩ : S58) [.int .i64 ((rd_T58 l1 i).f0), .int .i64 ((rd_T58 l1 i).f1), .string ((rd_T58 l1 i).f2), .int .i64 ((rd_T58 l1 i).f3), .int .i64 ((rd_T58 l1 i).f4)] (fun k_ => k_ ≠ gx) (fun _ => False) rfl (by first | (go_simp; done) | (go_simp; rfl)) ?aP (fun _ hk => hk.elim) ?aF ?aO ?aB ?aS ?aL ?_; (case aP => exact k58_mkM _ _ _ (⟨(rd_T58 l1 i).f0, (rd_T58 l1 i).f1, (rd_T58 l1 i).f2, (rd_T58 l1 i).f3, (rd_T58 l1 i).f4⟩ : S58)); (case aB => exact z16); (case aF => exact (fun k_ hk => Kd.freshB (g := gx) (kB_ BK_gx.out) k_ hk)); (case aO => exact (kM_ d7.out (fun _ hk => hk.2))); (case aS => exact (aA z16)); (case aL => have := LM.out; omega);  intro v9 w9 ho hb hg hat; have a8 := aM ho; have a9 := aM hb; clear d7 HB; have d7 := a8; have HB := a9; clear a8 a9 ho hb hg hat))
        go_roundg k1
        case measure => have := HK1.out; omega
        case rel => exact ⟨_, wrap64 (i + 1), (by first | rfl | (simp; done)), ⟨H⟩, ⟨y0⟩, ⟨kM_ d7.out (fun _ _ => trivial)⟩, ⟨y5⟩⟩
      ·rw [if_neg t4] at H
       exact absurd H (by simp)
    ·rw [if_neg t2] at H
     exact absurd H (by simp)
   ·rw [if_neg t1] at H
    have d1 : decide (i < (l1.length : Int)) = false := dF t1
    clear t1
    obtain ⟨a, ha⟩ : ∃ j : Int, wrap64 ((l0.length : Int) - 1) = j := ⟨_, rfl⟩
    obtain ⟨b, hb⟩ : ∃ j : Int, wrap64 ((l1.length : Int) - 1) = j := ⟨_, rfl⟩
    have haw : IntKind.i64.wrap ((l0.length : Int) - 1) = a := (i64_w _).trans ha
    have hbw : IntKind.i64.wrap ((l1.length : Int) - 1) = b := (i64_w _).trans hb
    rw [ha, hb] at H
    clear ha hb
    by_cases t5 : 0 ≤ a
    ·by_cases t6 : a < (l0.length : Int)
     ·rw [if_pos t5, if_pos t6] at H
      by_cases t7 : 0 ≤ b
      ·by_cases t8 : b < (l1.length : Int)
       ·rw [if_pos t7, if_pos t8] at H
        obtain ⟨ada, ea_, ha0, ha1, ha2, ha3, ha4⟩ := at_T58 (aE cN.out HB.out) a t5 t6
        cases ea_
        replace t5 := eq_true t5
        replace t6 := eq_true t6
        go_upto_region 14 with (fail)
        go_cut [8] (fun v_ wc_ => ∃ g_, v_ = .pointer (some ⟨g_, 0, none⟩) ∧ Aside0 (g_ = wr.heap.size) ∧ Aside0 (wc_.heap[g_]? = some (.cells #[.int .i64 ((rd_T58 l0 a).f0), .int .i64 ((rd_T58 l0 a).f1), .string ((rd_T58 l0 a).f2), .int .i64 ((rd_T58 l0 a).f3), .int .i64 ((rd_T58 l0 a).f4)] 58 (0, 0))) ∧ Aside0 (Below wr.heap.size wr wc_))
        case first =>
         go_wp2_with (fail)
         go_meet
         exact ⟨_, rfl, ⟨rfl⟩, ⟨blk_new _ _⟩, ⟨bA (Below.refl _ _) _⟩⟩
        case rest =>
         obtain ⟨gl, rfl, hg_, BK_gl, hb_⟩ := hcut
         have a8 := aM (ag (Kd.R_elderB d7.out gl (Nat.le_of_eq hg_.out.symm)) hb_.out); have a9 := aM (az HB.out hb_.out); have GE_gl : Aside0 (w.heap.size ≤ gl) := ⟨by rw [hg_.out]; exact HB.out.size⟩
         clear d7 HB; have d7 := a8; have HB := a9; clear a8 a9 hg_ hb_
         have hcgl_0 : wc.cell? ⟨gl, 0, none⟩ = some (.int .i64 ((rd_T58 l0 a).f0)) := (bC BK_gl.out 0).trans rfl; have hfgl_0 := bF BK_gl.out 0; have hcgl_1 : wc.cell? ⟨gl, 1, none⟩ = some (.int .i64 ((rd_T58 l0 a).f1)) := (bC BK_gl.out 1).trans rfl; have hfgl_1 := bF BK_gl.out 1; have hcgl_2 : wc.cell? ⟨gl, 2, none⟩ = some (.string ((rd_T58 l0 a).f2)) := (bC BK_gl.out 2).trans rfl; have hfgl_2 := bF BK_gl.out 2; have hcgl_3 : wc.cell? ⟨gl, 3, none⟩ = some (.int .i64 ((rd_T58 l0 a).f3)) := (bC BK_gl.out 3).trans rfl; have hfgl_3 := bF BK_gl.out 3; have hcgl_4 : wc.cell? ⟨gl, 4, none⟩ = some (.int .i64 ((rd_T58 l0 a).f4)) := (bC BK_gl.out 4).trans rfl; have hfgl_4 := bF BK_gl.out 4
         clear ha0 ha1 ha2 ha3 ha4
         obtain ⟨adb, eb_, hb0, hb1, hb2, hb3, hb4⟩ := at_T58 (aE lP.out HB.out) b t7 t8
         cases eb_
         replace t7 := eq_true t7
         replace t8 := eq_true t8
         go_upto_region 15 with (fail)
         go_cut [9] (fun v_ wc_ => ∃ g_, v_ = .pointer (some ⟨g_, 0, none⟩) ∧ Aside0 (g_ = wc.heap.size) ∧ Aside0 (wc_.heap[g_]? = some (.cells #[.int .i64 ((rd_T58 l1 b).f0), .int .i64 ((rd_T58 l1 b).f1), .string ((rd_T58 l1 b).f2), .int .i64 ((rd_T58 l1 b).f3), .int .i64 ((rd_T58 l1 b).f4)] 58 (0, 0))) ∧ Aside0 (Below wc.heap.size wc wc_))
         case first =>
          go_wp2_with (fail)
          go_meet
          exact ⟨_, rfl, ⟨rfl⟩, ⟨blk_new _ _⟩, ⟨bA (Below.refl _ _) _⟩⟩
         case rest =>
          obtain ⟨gr, rfl, hg_, BK_gr, hb_⟩ := hcut
          have a8 := aM (ag (Kd.R_elderB d7.out gr (Nat.le_of_eq hg_.out.symm)) hb_.out); have a9 := aM (az HB.out hb_.out); have GE_gr : Aside0 (w.heap.size ≤ gr) := ⟨by rw [hg_.out]; exact HB.out.size⟩
          have mgl_ := aM (af BK_gl.out hb_.out); have NE_gl : Aside0 (gl ≠ gr) := ⟨fun e_ => by have := ax BK_gl.out; rw [hg_.out] at e_; omega⟩
          clear d7 HB; have d7 := a8; have HB := a9; clear a8 a9 hg_ hb_; clear BK_gl hcgl_0 hfgl_0 hcgl_1 hfgl_1 hcgl_2 hfgl_2 hcgl_3 hfgl_3 hcgl_4 hfgl_4; have BK_gl := mgl_; clear mgl_
          have hcgr_0 : wc.cell? ⟨gr, 0, none⟩ = some (.int .i64 ((rd_T58 l1 b).f0)) := (bC BK_gr.out 0).trans rfl; have hfgr_0 := bF BK_gr.out 0; have hcgr_1 : wc.cell? ⟨gr, 1, none⟩ = some (.int .i64 ((rd_T58 l1 b).f1)) := (bC BK_gr.out 1).trans rfl; have hfgr_1 := bF BK_gr.out 1; have hcgr_2 : wc.cell? ⟨gr, 2, none⟩ = some (.string ((rd_T58 l1 b).f2)) := (bC BK_gr.out 2).trans rfl; have hfgr_2 := bF BK_gr.out 2; have hcgr_3 : wc.cell? ⟨gr, 3, none⟩ = some (.int .i64 ((rd_T58 l1 b).f3)) := (bC BK_gr.out 3).trans rfl; have hfgr_3 := bF BK_gr.out 3; have hcgr_4 : wc.cell? ⟨gr, 4, none⟩ = some (.int .i64 ((rd_T58 l1 b).f4)) := (bC BK_gr.out 4).trans rfl; have hfgr_4 := bF BK_gr.out 4
          have hcgl_0 : wc.cell? ⟨gl, 0, none⟩ = some (.int .i64 ((rd_T58 l0 a).f0)) := (bC BK_gl.out 0).trans rfl; have hfgl_0 := bF BK_gl.out 0; have hcgl_1 : wc.cell? ⟨gl, 1, none⟩ = some (.int .i64 ((rd_T58 l0 a).f1)) := (bC BK_gl.out 1).trans rfl; have hfgl_1 := bF BK_gl.out 1; have hcgl_2 : wc.cell? ⟨gl, 2, none⟩ = some (.string ((rd_T58 l0 a).f2)) := (bC BK_gl.out 2).trans rfl; have hfgl_2 := bF BK_gl.out 2; have hcgl_3 : wc.cell? ⟨gl, 3, none⟩ = some (.int .i64 ((rd_T58 l0 a).f3)) := (bC BK_gl.out 3).trans rfl; have hfgl_3 := bF BK_gl.out 3; have hcgl_4 : wc.cell? ⟨gl, 4, none⟩ = some (.int .i64 ((rd_T58 l0 a).f4)) := (bC BK_gl.out 4).trans rfl; have hfgl_4 := bF BK_gl.out 4
          clear hb0 hb1 hb2 hb3 hb4
          by_cases t9 : (rd_T58 l1 b).f4 > (rd_T58 l0 a).f4
          ·rw [if_pos t9] at H
           have d9 : decide ((rd_T58 l0 a).f4 < (rd_T58 l1 b).f4) = true := dT t9
           clear t9
           by_cases t4 : x5.length < 2932031007402
           ·rw [if_pos t4] at H
            have LM := aM t4
            clear t4
            obtain rfl := sI H
            go_wp2_with (first | ((with_reducible refine gate_builtin (b := .append) (xs := #[.tmp 68, .tmp 83]) rfl ?_); at_builtin; refine Kd.R_append k58 (w0 := w) w.heap.size rfl (.tmp 68) (.tmp 83) 27 58 (.agg #[(.int .i64 0), (.int .i64 0), (.string ⟨#[]⟩), (.int .i64 0), (.int .i64 0)]) 48 rfl Try.underlying27 info58 rfl (by decide) (by omega) (.slice od x5.length nG) x5 (⟨a, wrap64 ((x5.length : Int) - 1), (⟨#[]⟩ : ByteArray), wrap64 ((rd_T58 l0 a).f3 + (rd_T58 l1 b).f3), wrap64 ((rd_T58 l1 b).f4 + 1)⟩ : S58) [.int .i64 a, .int .i64 (wrap64 ((x5.length : Int) - 1)), .string ⟨#[]⟩, .int .i64 (wrap64 ((rd_T58 l0 a).f3 + (rd_T58 l1 b).f3)), .int .i64 (wrap64 ((rd_T58 l1 b).f4 + 1))] (fun k_ => k_ ≠ gl ∧ k_ ≠ gr) (fun _ => False) rfl (by first | (go_simp; done) | (go_simp; rfl)) ?aP (fun _ hk => hk.elim) ?aF ?aO ?aB ?aS ?aL ?_; (case aP => exact k58_mkM _ _ _ (⟨a, wrap64 ((x5.length : Int) - 1), (⟨#[]⟩ : ByteArray), wrap64 ((rd_T58 l0 a).f3 + (rd_T58 l1 b).f3), wrap64 ((rd_T58 l1 b).f4 + 1)⟩ : S58)); (case aB => exact z16); (case aF => exact (fun k_ hk => ⟨Kd.freshB (g := gl) (kB_ BK_gl.out) k_ hk, Kd.freshB (g := gr) (kB_ BK_gr.out) k_ hk⟩)); (case aO => exact (kM_ d7.out (fun _ hk => ⟨hk.1.2, hk.2⟩))); (case aS => exact (aA z16)); (case aL => have := LM.out; omega);  intro v9 w9 ho hb hg hat; have p9 := aM ho; have HB9 := aM hb; clear ho hb hg hat))
            go_ret
            obtain ⟨A9, c9, eo9⟩ := Kd.R_slice p9.out
            subst eo9
            exact ⟨A9, c9, rfl, .inr (.inr (ah p9.out (fun _ _ => trivial))), HB9.out⟩
           ·rw [if_neg t4] at H
            exact absurd H (by simp)
          ·rw [if_neg t9] at H
           have d9 : decide ((rd_T58 l0 a).f4 < (rd_T58 l1 b).f4) = false := dF t9
           clear t9
           by_cases t4 : x5.length < 2932031007402
           ·rw [if_pos t4] at H
            have LM := aM t4
            clear t4
            obtain rfl := sI H
            go_wp2_with (first | ((with_reducible refine gate_builtin (b := .append) (xs := #[.tmp 68, .tmp 83]) rfl ?_); at_builtin; refine Kd.R_append k58 (w0 := w) w.heap.size rfl (.tmp 68) (.tmp 83) 27 58 (.agg #[(.int .i64 0), (.int .i64 0), (.string ⟨#[]⟩), (.int .i64 0), (.int .i64 0)]) 48 rfl Try.underlying27 info58 rfl (by decide) (by omega) (.slice od x5.length nG) x5 (⟨a, wrap64 ((x5.length : Int) - 1), (⟨#[]⟩ : ByteArray), wrap64 ((rd_T58 l0 a).f3 + (rd_T58 l1 b).f3), wrap64 ((rd_T58 l0 a).f4 + 1)⟩ : S58) [.int .i64 a, .int .i64 (wrap64 ((x5.length : Int) - 1)), .string ⟨#[]⟩, .int .i64 (wrap64 ((rd_T58 l0 a).f3 + (rd_T58 l1 b).f3)), .int .i64 (wrap64 ((rd_T58 l0 a).f4 + 1))] (fun k_ => k_ ≠ gl ∧ k_ ≠ gr) (fun _ => False) rfl (by first | (go_simp; done) | (go_simp; rfl)) ?aP (fun _ hk => hk.elim) ?aF ?aO ?aB ?aS ?aL ?_; (case aP => exact k58_mkM _ _ _ (⟨a, wrap64 ((x5.length : Int) - 1), (⟨#[]⟩ : ByteArray), wrap64 ((rd_T58 l0 a).f3 + (rd_T58 l1 b).f3), wrap64 ((rd_T58 l0 a).f4 + 1)⟩ : S58)); (case aB => exact z16); (case aF => exact (fun k_ hk => ⟨Kd.freshB (g := gl) (kB_ BK_gl.out) k_ hk, Kd.freshB (g := gr) (kB_ BK_gr.out) k_ hk⟩)); (case aO => exact (kM_ d7.out (fun _ hk => ⟨hk.1.2, hk.2⟩))); (case aS => exact (aA z16)); (case aL => have := LM.out; omega);  intro v9 w9 ho hb hg hat; have p9 := aM ho; have HB9 := aM hb; clear ho hb hg hat))
            go_ret
            obtain ⟨A9, c9, eo9⟩ := Kd.R_slice p9.out
            subst eo9
            exact ⟨A9, c9, rfl, .inr (.inr (ah p9.out (fun _ _ => trivial))), HB9.out⟩
           ·rw [if_neg t4] at H
            exact absurd H (by simp)
       ·rw [if_pos t7, if_neg t8] at H
        exact absurd H (by simp)
      ·rw [if_neg t7] at H
       exact absurd H (by simp)
     ·rw [if_pos t5, if_neg t6] at H
      exact absurd H (by simp)
    ·rw [if_neg t5] at H
     exact absurd H (by simp)
theorem join_rd (k : Nat) (l0 : List S58) (A0 : Option Addr) (c0 : Nat) (l1 : List S58) (A1 : Option Addr) (c1 : Nat) (r : List S58) (w : World) (hr0 : Kd.C k58 w A0 l0.length l0) (hc0 : l0.length ≤ c0) (hr1 : Kd.C k58 w A1 l1.length l1) (hc1 : l1.length ≤ c1) (h : spec_l12Join.f k l0 l1 = some r) :
  Calls Try.prog 68 #[.slice A0 l0.length c0, .slice A1 l1.length c1] w (RdAt w r) := by
 refine (join_own k l0 A0 c0 l1 A1 c1 r w hr0 hc0 hr1 hc1 h).mono ?_
 rintro e w' ⟨A, c, rfl, h, hb⟩
 rcases h with ⟨rfl, rfl, rfl⟩ | ⟨rfl, rfl, rfl⟩ | h
 ·exact ⟨_, _, rfl, aE hr1 hb, hc1, hb⟩
 ·exact ⟨_, _, rfl, aE hr0 hb, hc0, hb⟩
 ·exact ⟨_, _, rfl, (ai h).2.2, (ai h).2.1, hb⟩

/-! ### spec_l12Piece: function 80 -/
def spec_l12Piece.f (a0 : ByteArray) : Option ((List (S58))) := some (([(⟨(-1), (-1), a0, (a0.size : Int), 0⟩ : S58)] : List (S58)))
set_option maxHeartbeats 8000000 in
set_option maxRecDepth 100000 in
theorem spec_l12Piece.calls (a0 : ByteArray) (r : List (S58)) (w : World) (h : spec_l12Piece.f a0 = some r) :
  Calls Try.prog 80 #[.string a0] w fun e w' => ∃ v0_ : Value, e = .returned (v0_) ∧ Kd.R k58 58 w' w.heap.size (fun _ => True) v0_ r ∧ Below w.heap.size w w' := by
 have hu58 := Try.underlying58
 have HB := aM (Below.refl w.heap.size w)
 have H : (some (([(⟨(-1), (-1), a0, (a0.size : Int), 0⟩ : S58)] : List (S58)))) = some r := h
 clear h
 obtain ⟨y127, hy127⟩ : ∃ y_ : List (S58), y_ = (([(⟨(-1), (-1), a0, (a0.size : Int), 0⟩ : S58)] : List (S58))) := ⟨_, rfl⟩
 replace H : (some y127) = some r := by first | (rw [hy127]; with_reducible exact H) | (have H2_ := (Option.bind_some _ _).symm.trans H; rw [hy127]; with_reducible exact H2_) | (have H2_ := (Option.bind_some _ _).symm.trans H; with_reducible exact H2_) | with_reducible exact H | (rw [hy127]; exact H) | exact H
 have Ny127 := aM hy127
 clear hy127
 obtain rfl := sI H
 go_enter Try.func80, Try.ntmps80
 go_wp2_with (first | ((with_reducible refine aK (N := 7) rfl ?_); refine Kd.R_lit k58 _ 58 ?hg (N := 7) ?hd (xs := ([(⟨(-1), (-1), a0, (a0.size : Int), 0⟩ : S58)] : List (S58))) (inner := [.int .i64 (-1), .int .i64 (-1), .string a0, .int .i64 (a0.size : Int), .int .i64 0]) (ok := fun _ => True) (okp := fun _ => True) ?hr ?hp (fun _ hk => hk) trivial (Below.refl _ _) (Nat.le_refl _) (by simp) ?_; (case hd => rfl); (case hg => rfl); (case hr => first | (go_simp; done) | (go_simp; rfl)); (case hp => exact (Reps.c5 (show Kd.M k58 _ _ _ (⟨(-1), (-1), a0, (a0.size : Int), 0⟩ : S58) [.int .i64 (-1), .int .i64 (-1), .string a0, .int .i64 (a0.size : Int), .int .i64 0] from (k58_mkM _ _ _ (⟨(-1), (-1), a0, (a0.size : Int), 0⟩ : S58) )) (Reps.none _ _))); intro v128 w2 ho3 hb hg_ hnew_; clear hg_ hnew_; (first | rw [← Ny127.out] at ho3 | (simp only [Int.reduceToNat] at ho3; rw [← Ny127.out] at ho3)); have HO129 := aM (aV ho3 (aA z16)); replace HB := aM (az z16 hb); clear hb ho3))
 go_ret
 exact ⟨_, y4, by (with_reducible repeat (first | apply ae | apply ac | apply aa)); exact HO129.out, y5⟩

end Go.Proofs.Ytmkenlejdaphnaa.AFnBalanced
