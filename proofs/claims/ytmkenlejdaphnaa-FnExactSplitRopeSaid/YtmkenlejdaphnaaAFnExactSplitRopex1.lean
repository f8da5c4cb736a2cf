-- this session's own text: written by wip/tools/ownprint.py over the kit's print
import Derived.Test.YtmkenlejdaphnaaAFnExactSplitRopex0
namespace Go.Proofs.Ytmkenlejdaphnaa.AFnExactSplitRope
open Go.RowKit Go.Proofs.YtmkenlejdaphnaaW.PrintWords Go.Proofs.YtmkenlejdaphnaaW.PrintLast Go.Proofs.YtmkenlejdaphnaaW.PrintMore
attribute [local go_sem] max2_int min2_int max_two min_two max_three min_three max_four min_four   -- for this text's walks alone
set_option linter.unusedVariables false
set_option linter.unusedSimpArgs false

/-! ### laws_szBough: function 75 -/
def laws_szBough.f (a0_0 : Int) (a0_1 : Int) (a0_2 : ByteArray) (a0_3 : Int) (a0_4 : Int) (a1 : Int) : Option (Int) := if (wrap64 (a1 - (a0_2.size : Int))) < 0 then (some (-1)) else (some (wrap64 (a1 - (a0_2.size : Int))))
set_option maxHeartbeats 8000000 in
set_option maxRecDepth 100000 in
theorem laws_szBough.calls (a0_0 : Int) (a0_1 : Int) (a0_2 : ByteArray) (a0_3 : Int) (a0_4 : Int) (a1 : Int) (r : Int) (w : World) (h : laws_szBough.f a0_0 a0_1 a0_2 a0_3 a0_4 a1 = some r) :
  Calls Try.prog 75 #[.agg #[.int .i64 a0_0, .int .i64 a0_1, .string a0_2, .int .i64 a0_3, .int .i64 a0_4], .int .i64 a1] w fun e w' => e = .returned (.int .i64 r) ∧ Below w.heap.size w w' := by
 have hu99 := Try.underlying99
 have HB := aM (Below.refl w.heap.size w)
 have H : (if (wrap64 (a1 - (a0_2.size : Int))) < 0 then (some (-1)) else (some (wrap64 (a1 - (a0_2.size : Int))))) = some r := h
 clear h
 by_cases c3 : (wrap64 (a1 - (a0_2.size : Int))) < 0
 ·rw [if_pos c3] at H
  have c3b0 : decide ((wrap64 (a1 - (a0_2.size : Int))) < 0) = true := dT c3
  clear c3
  obtain rfl := sI H
  go_enter Try.func75, Try.ntmps75
  go_wp2_with (first | ((with_reducible refine aK (N := 2) rfl ?_); refine aN ?hg (N := 2) ?hd (cs := #[.int .i64 a0_0, .int .i64 a0_1, .string a0_2, .int .i64 a0_3, .int .i64 a0_4]) (t := 99) ?hr ?_; (case hd => rfl); (case hg => rfl); (case hr => first | (go_simp; done) | (go_simp; rfl)); intro eY hg w4 hbox hb; have ba := aM (ay z23 hb); have bb := aM (hbox); have bf := aM ((by rw [hg]; exact (az z23) : w.heap.size ≤ eY)); have bk := aM ((by rw [hg]; exact (az z23) : w.heap.size ≤ eY)); clear HB; have HB := ba; have ei := bb; have GW101 := bf; have nB := bk; clear ba bb bf bk; clear hb hbox hg; have hcz5_0 : w4.cell? ⟨eY, 0, none⟩ = some (.int .i64 a0_0) := (bC ei.out 0).trans rfl; have hcz5_1 : w4.cell? ⟨eY, 1, none⟩ = some (.int .i64 a0_1) := (bC ei.out 1).trans rfl; have hcz5_2 : w4.cell? ⟨eY, 2, none⟩ = some (.string a0_2) := (bC ei.out 2).trans rfl; have hcz5_3 : w4.cell? ⟨eY, 3, none⟩ = some (.int .i64 a0_3) := (bC ei.out 3).trans rfl; have hcz5_4 : w4.cell? ⟨eY, 4, none⟩ = some (.int .i64 a0_4) := (bC ei.out 4).trans rfl; have hfz5_0 := bF ei.out 0; have hfz5_1 := bF ei.out 1; have hfz5_2 := bF ei.out 2; have hfz5_3 := bF ei.out 3; have hfz5_4 := bF ei.out 4))
  go_ret
  exact ⟨y2, by repeat (first | (with_reducible first | exact HB.out | apply bA | apply pD | apply bD | refine ax ?_ nB.out) | exact HB.out)⟩
 ·rw [if_neg c3] at H
  have c3b0 : decide ((wrap64 (a1 - (a0_2.size : Int))) < 0) = false := dF c3
  clear c3
  obtain rfl := sI H
  go_enter Try.func75, Try.ntmps75
  go_wp2_with (first | ((with_reducible refine aK (N := 2) rfl ?_); refine aN ?hg (N := 2) ?hd (cs := #[.int .i64 a0_0, .int .i64 a0_1, .string a0_2, .int .i64 a0_3, .int .i64 a0_4]) (t := 99) ?hr ?_; (case hd => rfl); (case hg => rfl); (case hr => first | (go_simp; done) | (go_simp; rfl)); intro eY hg w6 hbox hb; have ba := aM (ay z23 hb); have bb := aM (hbox); have bf := aM ((by rw [hg]; exact (az z23) : w.heap.size ≤ eY)); have bk := aM ((by rw [hg]; exact (az z23) : w.heap.size ≤ eY)); clear HB; have HB := ba; have ei := bb; have GW101 := bf; have nB := bk; clear ba bb bf bk; clear hb hbox hg; have f7 : w6.cell? ⟨eY, 0, none⟩ = some (.int .i64 a0_0) := (bC ei.out 0).trans rfl; have f6 : w6.cell? ⟨eY, 1, none⟩ = some (.int .i64 a0_1) := (bC ei.out 1).trans rfl; have f5 : w6.cell? ⟨eY, 2, none⟩ = some (.string a0_2) := (bC ei.out 2).trans rfl; have fZ : w6.cell? ⟨eY, 3, none⟩ = some (.int .i64 a0_3) := (bC ei.out 3).trans rfl; have fY : w6.cell? ⟨eY, 4, none⟩ = some (.int .i64 a0_4) := (bC ei.out 4).trans rfl; have fW := bF ei.out 0; have fV := bF ei.out 1; have fU := bF ei.out 2; have fT := bF ei.out 3; have fS := bF ei.out 4))
  go_ret
  exact ⟨y2, by repeat (first | (with_reducible first | exact HB.out | apply bA | apply pD | apply bD | refine ax ?_ nB.out) | exact HB.out)⟩

/-! ### laws_szBoughS: function 45 -/
def laws_szBoughS.l0 : Nat → List (S99) → Int → Int → Option (Int)
 | 0, _, _, _ => none
 | k + 1, x0, x1, x5 => if x5 < (x0.length : Int) then (if 0 ≤ x5 then ((laws_szBough.f ((rd_T99 x0 x5).f0) ((rd_T99 x0 x5).f1) ((rd_T99 x0 x5).f2) ((rd_T99 x0 x5).f3) ((rd_T99 x0 x5).f4) x1).bind fun ju => (if ju < 0 then (some (-1)) else (laws_szBoughS.l0 k x0 ju (wrap64 (x5 + 1))))) else (none)) else (some x1)
def laws_szBoughS.f (k : Nat) (l0 : List (S99)) (a1 : Int) : Option (Int) := if (wrap64 (a1 - (l0.length : Int))) < 0 then (some (-1)) else (laws_szBoughS.l0 k l0 (wrap64 (a1 - (l0.length : Int))) 0)
theorem laws_szBoughS.mono_l : ∀ k, (∀ y0 y1 y2, LeO (laws_szBoughS.l0 k y0 y1 y2) (laws_szBoughS.l0 (k + 1) y0 y1 y2))
 | 0 => fun _ _ _ r h => by simp [laws_szBoughS.l0] at h
 | k + 1 => by
  have ih0 := laws_szBoughS.mono_l k
  ·intro y0 y1 y2
   unfold laws_szBoughS.l0
   repeat' first
   | (with_reducible exact ih0 _ _ _)
   | (with_reducible exact LeO.refl _)
   | (with_reducible exact LeO.none _)
   | (with_reducible refine LeO.ite ?_ ?_)
   | (with_reducible refine LeO.bind ?_ (fun _ => ?_))
   | exact ih0 _ _ _
   | exact LeO.none _
   | refine LeO.ite ?_ ?_
   | refine LeO.bind ?_ (fun _ => ?_)
theorem laws_szBoughS.mono : ∀ a0 a1 k, LeO (laws_szBoughS.f k a0 a1) (laws_szBoughS.f (k + 1) a0 a1) := by
 intro a0 a1 k
 have ih0 := laws_szBoughS.mono_l k
 unfold laws_szBoughS.f
 repeat' first
   | (with_reducible exact ih0 _ _ _)
   | (with_reducible exact LeO.refl _)
   | (with_reducible exact LeO.none _)
   | (with_reducible refine LeO.ite ?_ ?_)
   | (with_reducible refine LeO.bind ?_ (fun _ => ?_))
   | exact ih0 _ _ _
   | exact LeO.none _
   | refine LeO.ite ?_ ?_
   | refine LeO.bind ?_ (fun _ => ?_)
set_option maxHeartbeats 8000000 in
set_option maxRecDepth 100000 in
theorem laws_szBoughS.calls (k : Nat) (A0 : Option Addr) (c0 : Nat) (l0 : List (S99)) (a1 : Int) (r : Int) (w : World) (hr0 : Kd.C k99 w A0 l0.length l0) (hc0 : l0.length ≤ c0) (h : laws_szBoughS.f k l0 a1 = some r) :
  Calls Try.prog 45 #[.slice A0 l0.length c0, .int .i64 a1] w fun e w' => e = .returned (.int .i64 r) ∧ Below w.heap.size w w' := by
 have hu99 := Try.underlying99
 have dX := aM hr0
 have g6 := aM hc0
 clear hr0 hc0
 have HB := aM (Below.refl w.heap.size w)
 have H : (if (wrap64 (a1 - (l0.length : Int))) < 0 then (some (-1)) else (laws_szBoughS.l0 k l0 (wrap64 (a1 - (l0.length : Int))) 0)) = some r := h
 clear h
 by_cases c3 : (wrap64 (a1 - (l0.length : Int))) < 0
 ·rw [if_pos c3] at H
  have c3b0 : decide ((wrap64 (a1 - (l0.length : Int))) < 0) = true := dT c3
  clear c3
  obtain rfl := sI H
  go_enter Try.func45, Try.ntmps45
  go_wp2
  go_ret
  exact ⟨y2, y3⟩
 ·rw [if_neg c3] at H
  have c3b0 : decide ((wrap64 (a1 - (l0.length : Int))) < 0) = false := dF c3
  clear c3
  have H' := aM H
  clear H
  go_enter Try.func45, Try.ntmps45
  go_wp2
  go_loopg [1, 5] k (fun kq v1 v5 w' => ∃ (x1_1 : Int) (x5_1 : Int), v1 = .int .i64 x1_1 ∧ v5 = .int .i64 x5_1 ∧ Aside0 (laws_szBoughS.l0 kq l0 x1_1 x5_1 = some r) ∧ Aside0 (kq ≤ k) ∧ Aside0 (Below w.heap.size w w'))
  case atStart => exact ⟨(wrap64 (a1 - (l0.length : Int))), (0), z2, z2, H', ⟨Nat.le_refl _⟩, ⟨y3⟩⟩
  case round =>
   clear H'
   try clear p2
   try clear c3
   try clear c3b0
   obtain ⟨x1_1, x5_1, rfl, rfl, HA, HK1, HB⟩ := hrel
   cases gk with
   | zero => exact absurd HA.out (by simp [laws_szBoughS.l0])
   | succ k1 =>
    have H := HA.out
    clear HA
    simp only [laws_szBoughS.l0] at H
    by_cases c4 : x5_1 < (l0.length : Int)
    ·rw [if_pos c4] at H
     have c4b0 : decide (x5_1 < (l0.length : Int)) = true := dT c4
     clear c4
     by_cases c5 : 0 ≤ x5_1
     ·rw [if_pos c5] at H
      have c5b0 : decide (0 ≤ x5_1) = true := dT c5
      clear c5
      replace H := oB H
      obtain ⟨ju, nD, H⟩ := H
      try dsimp only at H
      have A6 := aM nD
      clear nD
      by_cases c7 : ju < 0
      ·rw [if_pos c7] at H
       have c7b0 : decide (ju < 0) = true := dT c7
       clear c7
       obtain rfl := sI H
       have p102 : 0 ≤ (x5_1 : Int) := oD z3
       have q102 : x5_1 < (l0.length : Int) := oD z3
       obtain ⟨ad102, e102, hx102_0, hx102_1, hx102_2, hx102_3, hx102_4⟩ := at_T99 dX.out x5_1 p102 q102
       cases e102
       replace hx102_0 := (HB.out.cell (World.block_lt_of_cell? w _ hx102_0)).trans hx102_0
       replace hx102_1 := (HB.out.cell (World.block_lt_of_cell? w _ hx102_1)).trans hx102_1
       replace hx102_2 := (HB.out.cell (World.block_lt_of_cell? w _ hx102_2)).trans hx102_2
       replace hx102_3 := (HB.out.cell (World.block_lt_of_cell? w _ hx102_3)).trans hx102_3
       replace hx102_4 := (HB.out.cell (World.block_lt_of_cell? w _ hx102_4)).trans hx102_4
       replace p102 := eq_true p102
       replace q102 := eq_true q102
       go_wp2_with (first | ((with_reducible refine aJ (f := 75) rfl ?_); refine aQ (some 23) rfl rfl Try.func75 z1 rfl #[.agg #[.int .i64 ((rd_T99 l0 x5_1).f0), .int .i64 ((rd_T99 l0 x5_1).f1), .string ((rd_T99 l0 x5_1).f2), .int .i64 ((rd_T99 l0 x5_1).f3), .int .i64 ((rd_T99 l0 x5_1).f4)], .int .i64 x1_1] rfl z25 ?_; (with_reducible refine (laws_szBough.calls ((rd_T99 l0 x5_1).f0) ((rd_T99 l0 x5_1).f1) ((rd_T99 l0 x5_1).f2) ((rd_T99 l0 x5_1).f3) ((rd_T99 l0 x5_1).f4) x1_1 ju _ A6.out).mono ?_); rintro e w8 ⟨rfl, hb⟩; refine ⟨_, rfl, ?_⟩; have ba := aM (ay z23 hb); clear HB; have HB := ba; clear ba; (try clear hb); (try clear hb2); (try clear hk); (try clear hi)))
       go_ret
       exact ⟨y2, y3⟩
      ·rw [if_neg c7] at H
       have c7b0 : decide (ju < 0) = false := dF c7
       clear c7
       have H' := aM H
       clear H
       have p102 : 0 ≤ (x5_1 : Int) := oD z3
       have q102 : x5_1 < (l0.length : Int) := oD z3
       obtain ⟨ad102, e102, hx102_0, hx102_1, hx102_2, hx102_3, hx102_4⟩ := at_T99 dX.out x5_1 p102 q102
       cases e102
       replace hx102_0 := (HB.out.cell (World.block_lt_of_cell? w _ hx102_0)).trans hx102_0
       replace hx102_1 := (HB.out.cell (World.block_lt_of_cell? w _ hx102_1)).trans hx102_1
       replace hx102_2 := (HB.out.cell (World.block_lt_of_cell? w _ hx102_2)).trans hx102_2
       replace hx102_3 := (HB.out.cell (World.block_lt_of_cell? w _ hx102_3)).trans hx102_3
       replace hx102_4 := (HB.out.cell (World.block_lt_of_cell? w _ hx102_4)).trans hx102_4
       replace p102 := eq_true p102
       replace q102 := eq_true q102
       go_wp2_with (first | ((with_reducible refine aJ (f := 75) rfl ?_); refine aQ (some 23) rfl rfl Try.func75 z1 rfl #[.agg #[.int .i64 ((rd_T99 l0 x5_1).f0), .int .i64 ((rd_T99 l0 x5_1).f1), .string ((rd_T99 l0 x5_1).f2), .int .i64 ((rd_T99 l0 x5_1).f3), .int .i64 ((rd_T99 l0 x5_1).f4)], .int .i64 x1_1] rfl z25 ?_; (with_reducible refine (laws_szBough.calls ((rd_T99 l0 x5_1).f0) ((rd_T99 l0 x5_1).f1) ((rd_T99 l0 x5_1).f2) ((rd_T99 l0 x5_1).f3) ((rd_T99 l0 x5_1).f4) x1_1 ju _ A6.out).mono ?_); rintro e w9 ⟨rfl, hb⟩; refine ⟨_, rfl, ?_⟩; have ba := aM (ay z23 hb); clear HB; have HB := ba; clear ba; (try clear hb); (try clear hb2); (try clear hk); (try clear hi)))
       go_roundg k1
       case measure => have := HK1.out; omega
       case rel => exact ⟨(ju), (wrap64 (x5_1 + 1)), z2, z2, H', ⟨by have := HK1.out; omega⟩, ⟨y3⟩⟩
     ·rw [if_neg c5] at H
      exact absurd H (by simp)
    ·rw [if_neg c4] at H
     have c4b0 : decide (x5_1 < (l0.length : Int)) = false := dF c4
     clear c4
     obtain rfl := sI H
     go_wp2
     go_ret
     exact ⟨y2, y3⟩

/-! ### laws_szRope: function 14 -/
def laws_szRope.f (k : Nat) (l0_0 : List (S99)) (a1 : Int) : Option (Int) := (laws_szBoughS.f k l0_0 a1).bind fun iU => (if iU < 0 then (some (-1)) else (some iU))
theorem laws_szRope.mono : ∀ a0 a1 k, LeO (laws_szRope.f k a0 a1) (laws_szRope.f (k + 1) a0 a1) := by
 intro a0 a1 k
 unfold laws_szRope.f
 repeat' first
   | (with_reducible exact laws_szBoughS.mono _ _ _)
   | (with_reducible exact LeO.refl _)
   | (with_reducible exact LeO.none _)
   | (with_reducible refine LeO.ite ?_ ?_)
   | (with_reducible refine LeO.bind ?_ (fun _ => ?_))
   | exact laws_szBoughS.mono _ _ _
   | exact LeO.none _
   | refine LeO.ite ?_ ?_
   | refine LeO.bind ?_ (fun _ => ?_)
set_option maxHeartbeats 8000000 in
set_option maxRecDepth 100000 in
theorem laws_szRope.calls (k : Nat) (bu : Option Addr) (bx : Nat) (l0_0 : List (S99)) (a1 : Int) (r : Int) (w : World) (hr0_0 : Kd.C k99 w bu l0_0.length l0_0) (hc0_0 : l0_0.length ≤ bx) (h : laws_szRope.f k l0_0 a1 = some r) :
  Calls Try.prog 14 #[.agg #[.slice bu l0_0.length bx], .int .i64 a1] w fun e w' => e = .returned (.int .i64 r) ∧ Below w.heap.size w w' := by
 have hu24 := Try.underlying24
 have eb := aM hr0_0
 have ee := aM hc0_0
 clear hr0_0 hc0_0
 have HB := aM (Below.refl w.heap.size w)
 have H : ((laws_szBoughS.f k l0_0 a1).bind fun iU => (if iU < 0 then (some (-1)) else (some iU))) = some r := h
 clear h
 replace H := oB H
 obtain ⟨iU, iP, H⟩ := H
 try dsimp only at H
 have A3 := aM iP
 clear iP
 by_cases c4 : iU < 0
 ·rw [if_pos c4] at H
  have c4b0 : decide (iU < 0) = true := dT c4
  clear c4
  obtain rfl := sI H
  go_enter Try.func14, Try.ntmps14
  go_wp2_with (first | ((with_reducible refine aK (N := 2) rfl ?_); refine aN ?hg (N := 2) ?hd (cs := #[.slice bu l0_0.length bx]) (t := 24) ?hr ?_; (case hd => rfl); (case hg => rfl); (case hr => first | (go_simp; done) | (go_simp; rfl)); intro gu hg w5 hbox hb; have ba := aM (ay z23 hb); have bb := aM (hbox); have bf := aM ((by rw [hg]; exact (az z23) : w.heap.size ≤ gu)); have bk := aM ((by rw [hg]; exact (az z23) : w.heap.size ≤ gu)); clear HB; have HB := ba; have fz := bb; have GW104 := bf; have lC := bk; clear ba bb bf bk; clear hb hbox hg; have gD : w5.cell? ⟨gu, 0, none⟩ = some (.slice bu l0_0.length bx) := (bC fz.out 0).trans rfl; have gC := bF fz.out 0) | ((with_reducible refine aJ (f := 45) rfl ?_); refine aQ (some 8) rfl rfl Try.func45 z1 rfl #[.slice bu l0_0.length bx, .int .i64 a1] rfl z25 ?_; (with_reducible refine (laws_szBoughS.calls k _ _ l0_0 a1 iU _ ?side1 ?side2 A3.out).mono ?_); (case side1 => repeat (first | exact (aD eb.out HB.out) | (with_reducible refine aE ?_ _) | (with_reducible refine aG ?_ _) | (with_reducible refine aH ?_))); (case side2 => exact ee.out); rintro e w7 ⟨rfl, hb⟩; refine ⟨_, rfl, ?_⟩; have ba := aM (ae (g := gu) (o := .cells #[.slice bu l0_0.length bx] 24 (0, 0)) (by (with_reducible repeat (first | refine aq ?_ _ | refine ap ?_ | refine ar ?_ _)); exact fz.out) hb); have bb := aM (ay (by repeat (first | (with_reducible first | exact HB.out | apply bA | apply pD | apply bD | refine ax ?_ lC.out) | exact HB.out)) hb); clear fz; clear HB; have fz := ba; have HB := bb; clear ba bb; (try clear hb); (try clear hb2); (try clear hk); (try clear hi)))
  go_ret
  exact ⟨y2, by repeat (first | (with_reducible first | exact HB.out | apply bA | apply pD | apply bD | refine ax ?_ lC.out) | exact HB.out)⟩
 ·rw [if_neg c4] at H
  have c4b0 : decide (iU < 0) = false := dF c4
  clear c4
  obtain rfl := sI H
  go_enter Try.func14, Try.ntmps14
  go_wp2_with (first | ((with_reducible refine aK (N := 2) rfl ?_); refine aN ?hg (N := 2) ?hd (cs := #[.slice bu l0_0.length bx]) (t := 24) ?hr ?_; (case hd => rfl); (case hg => rfl); (case hr => first | (go_simp; done) | (go_simp; rfl)); intro gu hg w8 hbox hb; have ba := aM (ay z23 hb); have bb := aM (hbox); have bf := aM ((by rw [hg]; exact (az z23) : w.heap.size ≤ gu)); have bk := aM ((by rw [hg]; exact (az z23) : w.heap.size ≤ gu)); clear HB; have HB := ba; have fz := bb; have GW104 := bf; have lC := bk; clear ba bb bf bk; clear hb hbox hg; have fX : w8.cell? ⟨gu, 0, none⟩ = some (.slice bu l0_0.length bx) := (bC fz.out 0).trans rfl; have fR := bF fz.out 0) | ((with_reducible refine aJ (f := 45) rfl ?_); refine aQ (some 8) rfl rfl Try.func45 z1 rfl #[.slice bu l0_0.length bx, .int .i64 a1] rfl z25 ?_; (with_reducible refine (laws_szBoughS.calls k _ _ l0_0 a1 iU _ ?side1 ?side2 A3.out).mono ?_); (case side1 => repeat (first | exact (aD eb.out HB.out) | (with_reducible refine aE ?_ _) | (with_reducible refine aG ?_ _) | (with_reducible refine aH ?_))); (case side2 => exact ee.out); rintro e w10 ⟨rfl, hb⟩; refine ⟨_, rfl, ?_⟩; have ba := aM (ae (g := gu) (o := .cells #[.slice bu l0_0.length bx] 24 (0, 0)) (by (with_reducible repeat (first | refine aq ?_ _ | refine ap ?_ | refine ar ?_ _)); exact fz.out) hb); have bb := aM (ay (by repeat (first | (with_reducible first | exact HB.out | apply bA | apply pD | apply bD | refine ax ?_ lC.out) | exact HB.out)) hb); clear fz; clear HB; have fz := ba; have HB := bb; clear ba bb; (try clear hb); (try clear hb2); (try clear hk); (try clear hi)))
  go_ret
  exact ⟨y2, by repeat (first | (with_reducible first | exact HB.out | apply bA | apply pD | apply bD | refine ax ?_ lC.out) | exact HB.out)⟩

/-! ### laws_toBough: function 77 -/
def laws_toBough.f (a0_0 : Int) (a0_1 : Int) (a0_2 : ByteArray) (a0_3 : Int) (a0_4 : Int) : Option (Int × Int × ByteArray × Int × Int) := some (a0_0, a0_1, a0_2, a0_3, a0_4)
set_option maxHeartbeats 8000000 in
set_option maxRecDepth 100000 in
theorem laws_toBough.calls (a0_0 : Int) (a0_1 : Int) (a0_2 : ByteArray) (a0_3 : Int) (a0_4 : Int) (r1 : Int) (r2 : Int) (r3 : ByteArray) (r4 : Int) (r5 : Int) (w : World) (h : laws_toBough.f a0_0 a0_1 a0_2 a0_3 a0_4 = some (r1, r2, r3, r4, r5)) :
  Calls Try.prog 77 #[.agg #[.int .i64 a0_0, .int .i64 a0_1, .string a0_2, .int .i64 a0_3, .int .i64 a0_4]] w fun e w' => e = .returned (.agg #[.int .i64 r1, .int .i64 r2, .string r3, .int .i64 r4, .int .i64 r5]) ∧ Below w.heap.size w w' := by
 have hu99 := Try.underlying99
 have hu58 := Try.underlying58
 have HB := aM (Below.refl w.heap.size w)
 have H : (some (a0_0, a0_1, a0_2, a0_3, a0_4)) = some (r1, r2, r3, r4, r5) := h
 clear h
 simp only [Option.some.injEq, Prod.mk.injEq] at H
 obtain ⟨rfl, rfl, rfl, rfl, rfl⟩ := H
 go_enter Try.func77, Try.ntmps77
 go_wp2_with (first | ((with_reducible refine aK (N := 1) rfl ?_); refine aN ?hg (N := 1) ?hd (cs := #[.int .i64 a0_0, .int .i64 a0_1, .string a0_2, .int .i64 a0_3, .int .i64 a0_4]) (t := 99) ?hr ?_; (case hd => rfl); (case hg => rfl); (case hr => first | (go_simp; done) | (go_simp; rfl)); intro eI hg w2 hbox hb; have ba := aM (ay z23 hb); have bb := aM (hbox); have bf := aM ((by rw [hg]; exact (az z23) : w.heap.size ≤ eI)); have bk := aM ((by rw [hg]; exact (az z23) : w.heap.size ≤ eI)); clear HB; have HB := ba; have ep := bb; have GW106 := bf; have jb := bk; clear ba bb bf bk; clear hb hbox hg) | ((with_reducible refine aK (N := 2) rfl ?_); refine aN ?hg (N := 2) ?hd (cs := #[.int .i64 0, .int .i64 0, .string (⟨#[]⟩ : ByteArray), .int .i64 0, .int .i64 0]) (t := 58) ?hr ?_; (case hd => rfl); (case hg => rfl); (case hr => first | (go_simp; done) | (go_simp; rfl)); intro eX hg w3 hbox hb; have ba := aM (ae (g := eI) (o := .cells #[.int .i64 a0_0, .int .i64 a0_1, .string a0_2, .int .i64 a0_3, .int .i64 a0_4] 99 (0, 0)) (by (with_reducible repeat (first | refine aq ?_ _ | refine ap ?_ | refine ar ?_ _)); exact ep.out) hb); have bb := aM (ay (by repeat (first | (with_reducible first | exact HB.out | apply bA | apply pD | apply bD | refine ax ?_ jb.out) | exact HB.out)) hb); have bf := aM (hbox); have bk := aM ((by rw [hg]; exact (az (by repeat (first | (with_reducible first | exact HB.out | apply bA | apply pD | apply bD | refine ax ?_ jb.out) | exact HB.out))) : w.heap.size ≤ eX)); have bn := aM ((by rw [hg]; exact (az (by repeat (first | (with_reducible first | exact HB.out | apply bA | apply pD | apply bD | refine ax ?_ jb.out) | exact HB.out))) : w.heap.size ≤ eX)); have br := aM ((by rw [hg]; exact aA (aw (g := eI) (o := .cells #[.int .i64 a0_0, .int .i64 a0_1, .string a0_2, .int .i64 a0_3, .int .i64 a0_4] 99 (0, 0)) (by (with_reducible repeat (first | refine aq ?_ _ | refine ap ?_ | refine ar ?_ _)); exact ep.out)) : eI ≠ eX)); have bM := aM ((by rw [hg]; exact aC (aw (g := eI) (o := .cells #[.int .i64 a0_0, .int .i64 a0_1, .string a0_2, .int .i64 a0_3, .int .i64 a0_4] 99 (0, 0)) (by (with_reducible repeat (first | refine aq ?_ _ | refine ap ?_ | refine ar ?_ _)); exact ep.out)) : eX ≠ eI)); clear ep; clear HB; have ep := ba; have HB := bb; have eM := bf; have GW107 := bk; have mD := bn; have NB106_107 := br; have NB107_106 := bM; clear ba bb bf bk bn br bM; clear hb hbox hg) | ((with_reducible refine aK (N := 3) rfl ?_); refine aN ?hg (N := 3) ?hd (cs := #[.int .i64 0, .int .i64 0, .string (⟨#[]⟩ : ByteArray), .int .i64 0, .int .i64 0]) (t := 58) ?hr ?_; (case hd => rfl); (case hg => rfl); (case hr => first | (go_simp; done) | (go_simp; rfl)); intro fq hg w4 hbox hb; have ba := aM (ae (g := eI) (o := .cells #[.int .i64 a0_0, .int .i64 a0_1, .string a0_2, .int .i64 a0_3, .int .i64 a0_4] 99 (0, 0)) (by (with_reducible repeat (first | refine aq ?_ _ | refine ap ?_ | refine ar ?_ _)); exact ep.out) hb); have bb := aM (ae (g := eX) (o := .cells #[.int .i64 0, .int .i64 0, .string (⟨#[]⟩ : ByteArray), .int .i64 0, .int .i64 0] 58 (0, 0)) (by (with_reducible repeat (first | refine aq ?_ _ | refine ap ?_ | refine ar ?_ _)); exact eM.out) hb); have bf := aM (ay (by repeat (first | (with_reducible first | exact HB.out | apply bA | apply pD | apply bD | refine ax ?_ jb.out | refine ax ?_ mD.out) | exact HB.out)) hb); have bk := aM (hbox); have bn := aM ((by rw [hg]; exact (az (by repeat (first | (with_reducible first | exact HB.out | apply bA | apply pD | apply bD | refine ax ?_ jb.out | refine ax ?_ mD.out) | exact HB.out))) : w.heap.size ≤ fq)); have br := aM ((by rw [hg]; exact (az (by repeat (first | (with_reducible first | exact HB.out | apply bA | apply pD | apply bD | refine ax ?_ jb.out | refine ax ?_ mD.out) | exact HB.out))) : w.heap.size ≤ fq)); have bM := aM ((by rw [hg]; exact aA (aw (g := eI) (o := .cells #[.int .i64 a0_0, .int .i64 a0_1, .string a0_2, .int .i64 a0_3, .int .i64 a0_4] 99 (0, 0)) (by (with_reducible repeat (first | refine aq ?_ _ | refine ap ?_ | refine ar ?_ _)); exact ep.out)) : eI ≠ fq)); have b3 := aM ((by rw [hg]; exact aC (aw (g := eI) (o := .cells #[.int .i64 a0_0, .int .i64 a0_1, .string a0_2, .int .i64 a0_3, .int .i64 a0_4] 99 (0, 0)) (by (with_reducible repeat (first | refine aq ?_ _ | refine ap ?_ | refine ar ?_ _)); exact ep.out)) : fq ≠ eI)); have b6 := aM ((by rw [hg]; exact aA (aw (g := eX) (o := .cells #[.int .i64 0, .int .i64 0, .string (⟨#[]⟩ : ByteArray), .int .i64 0, .int .i64 0] 58 (0, 0)) (by (with_reducible repeat (first | refine aq ?_ _ | refine ap ?_ | refine ar ?_ _)); exact eM.out)) : eX ≠ fq)); have b9 := aM ((by rw [hg]; exact aC (aw (g := eX) (o := .cells #[.int .i64 0, .int .i64 0, .string (⟨#[]⟩ : ByteArray), .int .i64 0, .int .i64 0] 58 (0, 0)) (by (with_reducible repeat (first | refine aq ?_ _ | refine ap ?_ | refine ar ?_ _)); exact eM.out)) : fq ≠ eX)); clear ep; clear eM; clear HB; have ep := ba; have eM := bb; have HB := bf; have fP := bk; have GW108 := bn; have GE108 := br; have NB106_108 := bM; have NB108_106 := b3; have eV := b6; have NB108_107 := b9; clear ba bb bf bk bn br bM b3 b6 b9; clear hb hbox hg; have hnb5 := NB106_107.out; have hnc5 := NB107_106.out; have hnb6 := NB106_108.out; have hnc6 := NB108_106.out; have f7 : w4.cell? ⟨eI, 0, none⟩ = some (.int .i64 a0_0) := (bC ep.out 0).trans rfl; have f6 : w4.cell? ⟨eI, 1, none⟩ = some (.int .i64 a0_1) := (bC ep.out 1).trans rfl; have f5 : w4.cell? ⟨eI, 2, none⟩ = some (.string a0_2) := (bC ep.out 2).trans rfl; have fZ : w4.cell? ⟨eI, 3, none⟩ = some (.int .i64 a0_3) := (bC ep.out 3).trans rfl; have fY : w4.cell? ⟨eI, 4, none⟩ = some (.int .i64 a0_4) := (bC ep.out 4).trans rfl; have fW := bF ep.out 0; have fV := bF ep.out 1; have fU := bF ep.out 2; have fT := bF ep.out 3; have fS := bF ep.out 4; have hnb8 := NB108_107.out; have hnc8 := eV.out; have fX : w4.cell? ⟨fq, 0, none⟩ = some (.int .i64 0) := (bC fP.out 0).trans rfl; have j8 : w4.cell? ⟨fq, 1, none⟩ = some (.int .i64 0) := (bC fP.out 1).trans rfl; have j7 : w4.cell? ⟨fq, 2, none⟩ = some (.string (⟨#[]⟩ : ByteArray)) := (bC fP.out 2).trans rfl; have j6 : w4.cell? ⟨fq, 3, none⟩ = some (.int .i64 0) := (bC fP.out 3).trans rfl; have j5 : w4.cell? ⟨fq, 4, none⟩ = some (.int .i64 0) := (bC fP.out 4).trans rfl; have fR := bF fP.out 0; have jy := bF fP.out 1; have jx := bF fP.out 2; have jw := bF fP.out 3; have jv := bF fP.out 4; have iO : w4.cell? ⟨eX, 0, none⟩ = some (.int .i64 0) := (bC eM.out 0).trans rfl; have iN : w4.cell? ⟨eX, 1, none⟩ = some (.int .i64 0) := (bC eM.out 1).trans rfl; have iM : w4.cell? ⟨eX, 2, none⟩ = some (.string (⟨#[]⟩ : ByteArray)) := (bC eM.out 2).trans rfl; have iL : w4.cell? ⟨eX, 3, none⟩ = some (.int .i64 0) := (bC eM.out 3).trans rfl; have iK : w4.cell? ⟨eX, 4, none⟩ = some (.int .i64 0) := (bC eM.out 4).trans rfl; have iw := bF eM.out 0; have iv := bF eM.out 1; have iu := bF eM.out 2; have ir := bF eM.out 3; have iq := bF eM.out 4))
 refine aT (results_cell_row rfl _ _ eX 58 #[.int .i64 a0_0, .int .i64 a0_1, .string a0_2, .int .i64 a0_3, .int .i64 a0_4] (0, 0) _ rfl (by (with_reducible repeat (first | refine aq ?_ _ | refine ap ?_ | refine ar ?_ _)); refine av (cs := #[.int .i64 a0_0, .int .i64 a0_1, .string a0_2, .int .i64 a0_3, .int .i64 0]) ?_ 4 _ rfl; (with_reducible repeat (first | refine aq ?_ _ | refine ap ?_ | refine ar ?_ _)); refine av (cs := #[.int .i64 a0_0, .int .i64 a0_1, .string a0_2, .int .i64 0, .int .i64 0]) ?_ 3 _ rfl; (with_reducible repeat (first | refine aq ?_ _ | refine ap ?_ | refine ar ?_ _)); refine av (cs := #[.int .i64 a0_0, .int .i64 a0_1, .string (⟨#[]⟩ : ByteArray), .int .i64 0, .int .i64 0]) ?_ 2 _ rfl; (with_reducible repeat (first | refine aq ?_ _ | refine ap ?_ | refine ar ?_ _)); refine av (cs := #[.int .i64 a0_0, .int .i64 0, .string (⟨#[]⟩ : ByteArray), .int .i64 0, .int .i64 0]) ?_ 1 _ rfl; (with_reducible repeat (first | refine aq ?_ _ | refine ap ?_ | refine ar ?_ _)); refine av (cs := #[.int .i64 0, .int .i64 0, .string (⟨#[]⟩ : ByteArray), .int .i64 0, .int .i64 0]) ?_ 0 _ rfl; (with_reducible repeat (first | refine aq ?_ _ | refine ap ?_ | refine ar ?_ _)); refine au ?_ eV.out _; (with_reducible repeat (first | refine aq ?_ _ | refine ap ?_ | refine ar ?_ _)); refine au ?_ eV.out _; (with_reducible repeat (first | refine aq ?_ _ | refine ap ?_ | refine ar ?_ _)); refine au ?_ eV.out _; (with_reducible repeat (first | refine aq ?_ _ | refine ap ?_ | refine ar ?_ _)); refine au ?_ eV.out _; (with_reducible repeat (first | refine aq ?_ _ | refine ap ?_ | refine ar ?_ _)); refine au ?_ eV.out _; (with_reducible repeat (first | refine aq ?_ _ | refine ap ?_ | refine ar ?_ _)); exact eM.out) Try.underlying58 rfl z1) rfl ?_
 exact ⟨y2, by repeat (first | (with_reducible first | exact HB.out | apply bA | apply pD | apply bD | refine ax ?_ jb.out | refine ax ?_ mD.out | refine ax ?_ GE108.out) | exact HB.out)⟩

/-! ### laws_toBoughS: function 47 -/
def laws_toBoughS.l0 : Nat → List (S99) → List (S58) → Int → Option ((List (S58)))
 | 0, _, _, _ => none
 | k + 1, x0, x3, x4 => if x4 < (x0.length : Int) then (if 0 ≤ x4 then ((laws_toBough.f ((rd_T99 x0 x4).f0) ((rd_T99 x0 x4).f1) ((rd_T99 x0 x4).f2) ((rd_T99 x0 x4).f3) ((rd_T99 x0 x4).f4)).bind fun lu => (if x4 < (x3.length : Int) then (laws_toBoughS.l0 k x0 (x3.set (x4 : Int).toNat (⟨lu.1, lu.2.1, lu.2.2.1, lu.2.2.2.1, lu.2.2.2.2⟩ : S58)) (wrap64 (x4 + 1))) else (none))) else (none)) else (some x3)
def laws_toBoughS.f (k : Nat) (l0 : List (S99)) : Option ((List (S58))) := if 0 ≤ (l0.length : Int) then (if ((l0.length : Int) : Int).toNat ≤ 5864062014805 then (laws_toBoughS.l0 k l0 (List.replicate ((l0.length : Int) : Int).toNat z58) 0) else (none)) else (none)
theorem laws_toBoughS.mono_l : ∀ k, (∀ y0 y1 y2, LeO (laws_toBoughS.l0 k y0 y1 y2) (laws_toBoughS.l0 (k + 1) y0 y1 y2))
 | 0 => fun _ _ _ r h => by simp [laws_toBoughS.l0] at h
 | k + 1 => by
  have ih0 := laws_toBoughS.mono_l k
  ·intro y0 y1 y2
   unfold laws_toBoughS.l0
   repeat' first
   | (with_reducible exact ih0 _ _ _)
   | (with_reducible exact LeO.refl _)
   | (with_reducible exact LeO.none _)
   | (with_reducible refine LeO.ite ?_ ?_)
   | (with_reducible refine LeO.bind ?_ (fun _ => ?_))
   | exact ih0 _ _ _
   | exact LeO.none _
   | refine LeO.ite ?_ ?_
   | refine LeO.bind ?_ (fun _ => ?_)
theorem laws_toBoughS.mono : ∀ a0 k, LeO (laws_toBoughS.f k a0) (laws_toBoughS.f (k + 1) a0) := by
 intro a0 k
 have ih0 := laws_toBoughS.mono_l k
 unfold laws_toBoughS.f
 repeat' first
   | (with_reducible exact ih0 _ _ _)
   | (with_reducible exact LeO.refl _)
   | (with_reducible exact LeO.none _)
   | (with_reducible refine LeO.ite ?_ ?_)
   | (with_reducible refine LeO.bind ?_ (fun _ => ?_))
   | exact ih0 _ _ _
   | exact LeO.none _
   | refine LeO.ite ?_ ?_
   | refine LeO.bind ?_ (fun _ => ?_)
set_option maxHeartbeats 8000000 in
set_option maxRecDepth 100000 in
theorem laws_toBoughS.calls (k : Nat) (A0 : Option Addr) (c0 : Nat) (l0 : List (S99)) (r : List (S58)) (w : World) (hr0 : Kd.C k99 w A0 l0.length l0) (hc0 : l0.length ≤ c0) (h : laws_toBoughS.f k l0 = some r) :
  Calls Try.prog 47 #[.slice A0 l0.length c0] w fun e w' => ∃ v0_ : Value, e = .returned (v0_) ∧ Kd.R k58 58 w' w.heap.size (fun _ => True) v0_ r ∧ Below w.heap.size w w' := by
 have hu99 := Try.underlying99
 have hu58 := Try.underlying58
 have dX := aM hr0
 have g6 := aM hc0
 clear hr0 hc0
 have HB := aM (Below.refl w.heap.size w)
 have H : (if 0 ≤ (l0.length : Int) then (if ((l0.length : Int) : Int).toNat ≤ 5864062014805 then (laws_toBoughS.l0 k l0 (List.replicate ((l0.length : Int) : Int).toNat z58) 0) else (none)) else (none)) = some r := h
 clear h
 by_cases c2 : 0 ≤ (l0.length : Int)
 ·rw [if_pos c2] at H
  have c2b0 := eq_true c2
  have c2b1 : decide (0 ≤ (l0.length : Int)) = true := dT c2
  clear c2
  by_cases c3 : ((l0.length : Int) : Int).toNat ≤ 5864062014805
  ·rw [if_pos c3] at H
   have c3b0 := eq_true c3
   have c3b1 : decide (((l0.length : Int) : Int).toNat ≤ 5864062014805) = true := dT c3
   (try (have c3b1n := c3b1; simp only [aV] at c3b1n))
   clear c3
   obtain ⟨y109, hy109⟩ : ∃ y_ : List (S58), y_ = (List.replicate ((l0.length : Int) : Int).toNat z58) := ⟨_, rfl⟩
   replace H : (laws_toBoughS.l0 k l0 y109 0) = some r := by first | (rw [hy109]; with_reducible exact H) | (have H2_ := (Option.bind_some _ _).symm.trans H; rw [hy109]; with_reducible exact H2_) | (have H2_ := (Option.bind_some _ _).symm.trans H; with_reducible exact H2_) | with_reducible exact H | (rw [hy109]; exact H) | exact H
   have Ny109 := aM hy109
   clear hy109
   have H' := aM H
   clear H
   go_enter Try.func47, Try.ntmps47
   go_wp2_with (first | ((with_reducible refine aK (N := 7) rfl ?_); refine Kd.R_make k58 _ 58 rfl (N := 7) rfl 27 _ _ rfl (l0.length : Int) rfl rfl Try.underlying27 (.agg #[(.int .i64 0), (.int .i64 0), (.string ⟨#[]⟩), (.int .i64 0), (.int .i64 0)]) 48 info58 rfl z0 (by omega) z58 (ok := fun _ => True) (okp := fun _ => True) (k58_mkM _ _ _ z58 ) (fun _ hk => hk) trivial (oD z3) (Nat.le_trans (Nat.mul_le_mul_right _ (oD z3 : (l0.length : Int).toNat ≤ 5864062014805)) (by omega)) (Below.refl _ _) (Nat.le_refl _) ?_; intro v110 w4 ho5 hb hg_ hnew_; clear hg_ hnew_; (first | rw [← Ny109.out] at ho5 | (simp only [Int.reduceToNat] at ho5; rw [← Ny109.out] at ho5)); have ba := aM (aU ho5 (az z23)); have bb := aM (ay z23 hb); clear HB; have HO111 := ba; have HB := bb; clear ba bb; clear hb ho5))
   go_loopg [4] k (fun kq v4 w' => ∃ (x3_1 : List (S58)) (x4_1 : Int), v4 = .int .i64 x4_1 ∧ Aside0 (laws_toBoughS.l0 kq l0 x3_1 x4_1 = some r) ∧ Aside0 (kq ≤ k) ∧ Aside0 (Kd.R k58 58 w' w.heap.size (fun _ => True) v110 x3_1) ∧ Aside0 (Below w.heap.size w w'))
   case atStart => exact ⟨(y109), (0), z2, H', ⟨Nat.le_refl _⟩, ⟨by (with_reducible repeat (first | apply ac | apply ab | apply aa)); exact HO111.out⟩, ⟨y3⟩⟩
   case round =>
    clear H'
    try clear c2
    try clear c2b0
    try clear c2b1
    try clear p2
    try clear c3
    try clear c3b0
    try clear c3b1
    try clear c4
    obtain ⟨x3_1, x4_1, rfl, HA, HK1, hO, HB⟩ := hrel
    cases gk with
    | zero => exact absurd HA.out (by simp [laws_toBoughS.l0])
    | succ k1 =>
     have H := HA.out
     clear HA
     simp only [laws_toBoughS.l0] at H
     by_cases c6 : x4_1 < (l0.length : Int)
     ·rw [if_pos c6] at H
      have c6b0 : decide (x4_1 < (l0.length : Int)) = true := dT c6
      clear c6
      by_cases c7 : 0 ≤ x4_1
      ·rw [if_pos c7] at H
       have c7b0 : decide (0 ≤ x4_1) = true := dT c7
       clear c7
       replace H := oB H
       obtain ⟨⟨mJ, mI, mH, mG, mF⟩, nC, H⟩ := H
       try dsimp only at H
       have A8 := aM nC
       clear nC
       by_cases c9 : x4_1 < (x3_1.length : Int)
       ·rw [if_pos c9] at H
        have c9b0 : decide (x4_1 < (x3_1.length : Int)) = true := dT c9
        clear c9
        obtain ⟨y118, hy118⟩ : ∃ y_ : List (S58), y_ = (x3_1.set (x4_1 : Int).toNat (⟨mJ, mI, mH, mG, mF⟩ : S58)) := ⟨_, rfl⟩
        replace H : (laws_toBoughS.l0 k1 l0 y118 (wrap64 (x4_1 + 1))) = some r := by first | (rw [hy118]; with_reducible exact H) | (have H2_ := (Option.bind_some _ _).symm.trans H; rw [hy118]; with_reducible exact H2_) | (have H2_ := (Option.bind_some _ _).symm.trans H; with_reducible exact H2_) | with_reducible exact H | (rw [hy118]; exact H) | exact H
        have Ny118 := aM hy118
        clear hy118
        have H' := aM H
        clear H
        have p112 : 0 ≤ (x4_1 : Int) := oD z3
        have q112 : x4_1 < (l0.length : Int) := oD z3
        obtain ⟨ad112, e112, hx112_0, hx112_1, hx112_2, hx112_3, hx112_4⟩ := at_T99 dX.out x4_1 p112 q112
        cases e112
        replace hx112_0 := (HB.out.cell (World.block_lt_of_cell? w _ hx112_0)).trans hx112_0
        replace hx112_1 := (HB.out.cell (World.block_lt_of_cell? w _ hx112_1)).trans hx112_1
        replace hx112_2 := (HB.out.cell (World.block_lt_of_cell? w _ hx112_2)).trans hx112_2
        replace hx112_3 := (HB.out.cell (World.block_lt_of_cell? w _ hx112_3)).trans hx112_3
        replace hx112_4 := (HB.out.cell (World.block_lt_of_cell? w _ hx112_4)).trans hx112_4
        replace p112 := eq_true p112
        replace q112 := eq_true q112
        go_wp2_with (first | ((with_reducible refine aJ (f := 77) rfl ?_); refine aQ (some 20) rfl rfl Try.func77 z1 rfl #[.agg #[.int .i64 ((rd_T99 l0 x4_1).f0), .int .i64 ((rd_T99 l0 x4_1).f1), .string ((rd_T99 l0 x4_1).f2), .int .i64 ((rd_T99 l0 x4_1).f3), .int .i64 ((rd_T99 l0 x4_1).f4)]] rfl z25 ?_; (with_reducible refine (laws_toBough.calls ((rd_T99 l0 x4_1).f0) ((rd_T99 l0 x4_1).f1) ((rd_T99 l0 x4_1).f2) ((rd_T99 l0 x4_1).f3) ((rd_T99 l0 x4_1).f4) mJ mI mH mG mF _ A8.out).mono ?_); rintro e w11 ⟨rfl, hb⟩; refine ⟨_, rfl, ?_⟩; have ba := aM (af (by (with_reducible repeat (first | apply ac | apply ab | apply aa)); exact hO.out) hb); have bb := aM (ay z23 hb); clear hO; clear HB; have hO := ba; have HB := bb; clear ba bb; (try clear hb); (try clear hb2); (try clear hk); (try clear hi); have p10 : 0 ≤ (x4_1 : Int) := oD z3; have q10 : (x4_1 : Int) < ((x3_1.length : Int) : Int) := oD z3; obtain ⟨go10, ej, eo10, pt, gl10, cl10, HG10⟩ := Kd.R_form hO.out (by omega); (first | cases eo10 | (injection eo10 with ea_ en_ ec_; (first | subst ea_ | (injection ea_ with ea_; subst ea_)); subst ec_; clear en_)); have GB10 := aM pt; have GG10 := aM HG10; clear pt gl10 HG10; obtain ⟨ce10, hcl10, hM10, hcc10, hfr10⟩ := Kd.R_elem hO.out z58 (x4_1 : Int) p10 q10; obtain rfl := k58_openM hM10; have hx10_0 : w11.cell? ⟨go10, (x4_1 : Int).toNat * 5, none⟩ = some (.int .i64 ((rd_T58 x3_1 x4_1).f0)) := hcc10 0 _ rfl; have hx10_1 : w11.cell? ⟨go10, (x4_1 : Int).toNat * 5 + 1, none⟩ = some (.int .i64 ((rd_T58 x3_1 x4_1).f1)) := hcc10 1 _ rfl; have hx10_2 : w11.cell? ⟨go10, (x4_1 : Int).toNat * 5 + 2, none⟩ = some (.string ((rd_T58 x3_1 x4_1).f2)) := hcc10 2 _ rfl; have hx10_3 : w11.cell? ⟨go10, (x4_1 : Int).toNat * 5 + 3, none⟩ = some (.int .i64 ((rd_T58 x3_1 x4_1).f3)) := hcc10 3 _ rfl; have hx10_4 : w11.cell? ⟨go10, (x4_1 : Int).toNat * 5 + 4, none⟩ = some (.int .i64 ((rd_T58 x3_1 x4_1).f4)) := hcc10 4 _ rfl; have hf10_0 : w11.frozen? ⟨go10, (x4_1 : Int).toNat * 5, none⟩ = false := hfr10 0; have hf10_1 : w11.frozen? ⟨go10, (x4_1 : Int).toNat * 5 + 1, none⟩ = false := hfr10 1; have hf10_2 : w11.frozen? ⟨go10, (x4_1 : Int).toNat * 5 + 2, none⟩ = false := hfr10 2; have hf10_3 : w11.frozen? ⟨go10, (x4_1 : Int).toNat * 5 + 3, none⟩ = false := hfr10 3; have hf10_4 : w11.frozen? ⟨go10, (x4_1 : Int).toNat * 5 + 4, none⟩ = false := hfr10 4; clear hcl10 hcc10 hfr10; (try clear hM10); replace p10 := eq_true p10; replace q10 := eq_true q10; have HX12 := aM (show Kd.R k58 58 w11 w.heap.size (fun _ => True) (.slice (some ⟨go10, 0, none⟩) x3_1.length ej) x3_1 from (by (with_reducible repeat (first | apply ac | apply ab | apply aa)); exact hO.out)); obtain ⟨ce12, hcl12, hM12, hcc12, hfr12⟩ := Kd.R_elem HX12.out z58 (x4_1 : Int) (oD z3) (by have h_ : (x4_1 : Int) < ((x3_1.length : Int) : Int) := oD z3; first | exact h_ | (have e_ := (ah hO.out).1; omega) | simpa using h_); obtain rfl := k58_openM hM12; have HP12 := Kd.R_seg HX12.out (x4_1 : Int) (oD z3) (by have h_ : (x4_1 : Int) < ((x3_1.length : Int) : Int) := oD z3; first | exact h_ | (have e_ := (ah hO.out).1; omega) | simpa using h_) (seg := [.int .i64 mJ, .int .i64 mI, .string mH, .int .i64 mG, .int .i64 mF]) (j := 0) hcl12 hcc12 (show 5 ≤ 5 from by decide) (x' := (⟨mJ, mI, mH, mG, mF⟩ : S58)) (k58_mkM _ _ _ (⟨mJ, mI, mH, mG, mF⟩ : S58) ) (fun _ hk => hk); have hx12_0 := hcc12 0 _ rfl; (try simp only [show (k58).sz = 5 from rfl, Nat.mul_one, Nat.add_zero] at hx12_0); have hf12_0 := hfr12 0; (try simp only [show (k58).sz = 5 from rfl, Nat.mul_one, Nat.add_zero] at hf12_0); have hx12_1 := hcc12 1 _ rfl; (try simp only [show (k58).sz = 5 from rfl, Nat.mul_one, Nat.add_zero] at hx12_1); have hf12_1 := hfr12 1; (try simp only [show (k58).sz = 5 from rfl, Nat.mul_one, Nat.add_zero] at hf12_1); have hx12_2 := hcc12 2 _ rfl; (try simp only [show (k58).sz = 5 from rfl, Nat.mul_one, Nat.add_zero] at hx12_2); have hf12_2 := hfr12 2; (try simp only [show (k58).sz = 5 from rfl, Nat.mul_one, Nat.add_zero] at hf12_2); have hx12_3 := hcc12 3 _ rfl; (try simp only [show (k58).sz = 5 from rfl, Nat.mul_one, Nat.add_zero] at hx12_3); have hf12_3 := hfr12 3; (try simp only [show (k58).sz = 5 from rfl, Nat.mul_one, Nat.add_zero] at hf12_3); have hx12_4 := hcc12 4 _ rfl; (try simp only [show (k58).sz = 5 from rfl, Nat.mul_one, Nat.add_zero] at hx12_4); have hf12_4 := hfr12 4; (try simp only [show (k58).sz = 5 from rfl, Nat.mul_one, Nat.add_zero] at hf12_4); clear hcl12 hcc12 hfr12; (try clear hM12)) | ((with_reducible refine gate_store (t := 58) (p := 21) rfl ?_); refine store_event (t := 58) (p := 21) (v := ?vo_w13) (w1 := (((((w11.setCell ⟨go10, (x4_1 : Int).toNat * 5, none⟩ (.int .i64 mJ)).setCell ⟨go10, (x4_1 : Int).toNat * 5 + 1, none⟩ (.int .i64 mI)).setCell ⟨go10, (x4_1 : Int).toNat * 5 + 2, none⟩ (.string mH)).setCell ⟨go10, (x4_1 : Int).toNat * 5 + 3, none⟩ (.int .i64 mG)).setCell ⟨go10, (x4_1 : Int).toNat * 5 + 4, none⟩ (.int .i64 mF))) ?hg ?ho ?hn ?hr ?_; (case ho => rfl); (case hg => rfl); (case hn => rfl); (case hr => first | (go_simp; done) | (go_simp; rfl) | ((try simp only [aV] at *); go_simp; first | done | rfl)); intro w13 hw; have hg : w11.grownBy w13 (some go10) := (by rw [hw]; exact HP12.2); have hp_ : Kd.R k58 58 w13 w.heap.size (fun _ => True) (.slice (some ⟨go10, 0, none⟩) x3_1.length ej) y118 := (by rw [hw, Ny118.out]; exact HP12.1); clear HP12; have ba := aM (hp_); have bb := aM ((by rw [hw]; exact ax (ax (ax (ax (ax (HB.out) GB10.out) GB10.out) GB10.out) GB10.out) GB10.out : Below w.heap.size w w13)); clear hO; clear HB; have hO := ba; have HB := bb; clear ba bb; clear hg hw hp_))
        go_roundg k1
        case measure => have := HK1.out; omega
        case rel => exact ⟨(y118), (wrap64 (x4_1 + 1)), z2, H', ⟨by have := HK1.out; omega⟩, ⟨by (with_reducible repeat (first | apply ac | apply ab | apply aa)); exact hO.out⟩, ⟨y3⟩⟩
       ·rw [if_neg c9] at H
        exact absurd H (by simp)
      ·rw [if_neg c7] at H
       exact absurd H (by simp)
     ·rw [if_neg c6] at H
      have c6b0 : decide (x4_1 < (l0.length : Int)) = false := dF c6
      clear c6
      obtain rfl := sI H
      go_wp2
      go_ret
      exact ⟨_, y2, by (with_reducible repeat (first | apply ac | apply ab | apply aa)); exact hO.out, y3⟩
  ·rw [if_neg c3] at H
   exact absurd H (by simp)
 ·rw [if_neg c2] at H
  exact absurd H (by simp)

/-! ### laws_toRope: function 16 -/
def laws_toRope.f (k : Nat) (l0_0 : List (S99)) : Option ((List (S58))) := (laws_toBoughS.f k l0_0).bind fun kL => (some kL)
theorem laws_toRope.mono : ∀ a0 k, LeO (laws_toRope.f k a0) (laws_toRope.f (k + 1) a0) := by
 intro a0 k
 unfold laws_toRope.f
 repeat' first
   | (with_reducible exact laws_toBoughS.mono _ _)
   | (with_reducible exact LeO.refl _)
   | (with_reducible exact LeO.none _)
   | (with_reducible refine LeO.ite ?_ ?_)
   | (with_reducible refine LeO.bind ?_ (fun _ => ?_))
   | exact laws_toBoughS.mono _ _
   | exact LeO.none _
   | refine LeO.ite ?_ ?_
   | refine LeO.bind ?_ (fun _ => ?_)
set_option maxHeartbeats 8000000 in
set_option maxRecDepth 100000 in
theorem laws_toRope.calls (k : Nat) (bu : Option Addr) (bx : Nat) (l0_0 : List (S99)) (r : List (S58)) (w : World) (hr0_0 : Kd.C k99 w bu l0_0.length l0_0) (hc0_0 : l0_0.length ≤ bx) (h : laws_toRope.f k l0_0 = some r) :
  Calls Try.prog 16 #[.agg #[.slice bu l0_0.length bx]] w fun e w' => ∃ v0_ : Value, e = .returned (.agg #[v0_]) ∧ Kd.R k58 58 w' w.heap.size (fun _ => True) v0_ r ∧ Below w.heap.size w w' := by
 have hu24 := Try.underlying24
 have hu29 := Try.underlying29
 have eb := aM hr0_0
 have ee := aM hc0_0
 clear hr0_0 hc0_0
 have HB := aM (Below.refl w.heap.size w)
 have H : ((laws_toBoughS.f k l0_0).bind fun kL => (some kL)) = some r := h
 clear h
 replace H := oB H
 obtain ⟨kL, rl, H⟩ := H
 try dsimp only at H
 have A2 := aM rl
 clear rl
 obtain rfl := sI H
 go_enter Try.func16, Try.ntmps16
 go_wp2_with (first | ((with_reducible refine aK (N := 1) rfl ?_); refine aN ?hg (N := 1) ?hd (cs := #[.slice bu l0_0.length bx]) (t := 24) ?hr ?_; (case hd => rfl); (case hg => rfl); (case hr => first | (go_simp; done) | (go_simp; rfl)); intro fb hg w3 hbox hb; have ba := aM (ay z23 hb); have bb := aM (hbox); have bf := aM ((by rw [hg]; exact (az z23) : w.heap.size ≤ fb)); have bk := aM ((by rw [hg]; exact (az z23) : w.heap.size ≤ fb)); clear HB; have HB := ba; have e8 := bb; have GW119 := bf; have gz := bk; clear ba bb bf bk; clear hb hbox hg) | ((with_reducible refine aK (N := 2) rfl ?_); refine aN ?hg (N := 2) ?hd (cs := #[.slice none 0 0]) (t := 29) ?hr ?_; (case hd => rfl); (case hg => rfl); (case hr => first | (go_simp; done) | (go_simp; rfl)); intro ff hg w4 hbox hb; have ba := aM (ae (g := fb) (o := .cells #[.slice bu l0_0.length bx] 24 (0, 0)) (by (with_reducible repeat (first | refine aq ?_ _ | refine ap ?_ | refine ar ?_ _)); exact e8.out) hb); have bb := aM (ay (by repeat (first | (with_reducible first | exact HB.out | apply bA | apply pD | apply bD | refine ax ?_ gz.out) | exact HB.out)) hb); have bf := aM (hbox); have bk := aM ((by rw [hg]; exact (az (by repeat (first | (with_reducible first | exact HB.out | apply bA | apply pD | apply bD | refine ax ?_ gz.out) | exact HB.out))) : w.heap.size ≤ ff)); have bn := aM ((by rw [hg]; exact (az (by repeat (first | (with_reducible first | exact HB.out | apply bA | apply pD | apply bD | refine ax ?_ gz.out) | exact HB.out))) : w.heap.size ≤ ff)); have br := aM ((by rw [hg]; exact aA (aw (g := fb) (o := .cells #[.slice bu l0_0.length bx] 24 (0, 0)) (by (with_reducible repeat (first | refine aq ?_ _ | refine ap ?_ | refine ar ?_ _)); exact e8.out)) : fb ≠ ff)); have bM := aM ((by rw [hg]; exact aC (aw (g := fb) (o := .cells #[.slice bu l0_0.length bx] 24 (0, 0)) (by (with_reducible repeat (first | refine aq ?_ _ | refine ap ?_ | refine ar ?_ _)); exact e8.out)) : ff ≠ fb)); clear e8; clear HB; have e8 := ba; have HB := bb; have fo := bf; have GW120 := bk; have jp := bn; have NB119_120 := br; have NB120_119 := bM; clear ba bb bf bk bn br bM; clear hb hbox hg) | ((with_reducible refine aK (N := 3) rfl ?_); refine aN ?hg (N := 3) ?hd (cs := #[.slice none 0 0]) (t := 29) ?hr ?_; (case hd => rfl); (case hg => rfl); (case hr => first | (go_simp; done) | (go_simp; rfl)); intro gs hg w5 hbox hb; have ba := aM (ae (g := fb) (o := .cells #[.slice bu l0_0.length bx] 24 (0, 0)) (by (with_reducible repeat (first | refine aq ?_ _ | refine ap ?_ | refine ar ?_ _)); exact e8.out) hb); have bb := aM (ae (g := ff) (o := .cells #[.slice none 0 0] 29 (0, 0)) (by (with_reducible repeat (first | refine aq ?_ _ | refine ap ?_ | refine ar ?_ _)); exact fo.out) hb); have bf := aM (ay (by repeat (first | (with_reducible first | exact HB.out | apply bA | apply pD | apply bD | refine ax ?_ gz.out | refine ax ?_ jp.out) | exact HB.out)) hb); have bk := aM (hbox); have bn := aM ((by rw [hg]; exact (az (by repeat (first | (with_reducible first | exact HB.out | apply bA | apply pD | apply bD | refine ax ?_ gz.out | refine ax ?_ jp.out) | exact HB.out))) : w.heap.size ≤ gs)); have br := aM ((by rw [hg]; exact (az (by repeat (first | (with_reducible first | exact HB.out | apply bA | apply pD | apply bD | refine ax ?_ gz.out | refine ax ?_ jp.out) | exact HB.out))) : w.heap.size ≤ gs)); have bM := aM ((by rw [hg]; exact aA (aw (g := fb) (o := .cells #[.slice bu l0_0.length bx] 24 (0, 0)) (by (with_reducible repeat (first | refine aq ?_ _ | refine ap ?_ | refine ar ?_ _)); exact e8.out)) : fb ≠ gs)); have b3 := aM ((by rw [hg]; exact aC (aw (g := fb) (o := .cells #[.slice bu l0_0.length bx] 24 (0, 0)) (by (with_reducible repeat (first | refine aq ?_ _ | refine ap ?_ | refine ar ?_ _)); exact e8.out)) : gs ≠ fb)); have b6 := aM ((by rw [hg]; exact aA (aw (g := ff) (o := .cells #[.slice none 0 0] 29 (0, 0)) (by (with_reducible repeat (first | refine aq ?_ _ | refine ap ?_ | refine ar ?_ _)); exact fo.out)) : ff ≠ gs)); have b9 := aM ((by rw [hg]; exact aC (aw (g := ff) (o := .cells #[.slice none 0 0] 29 (0, 0)) (by (with_reducible repeat (first | refine aq ?_ _ | refine ap ?_ | refine ar ?_ _)); exact fo.out)) : gs ≠ ff)); clear e8; clear fo; clear HB; have e8 := ba; have fo := bb; have HB := bf; have jr := bk; have GW121 := bn; have nA := br; have NB119_121 := bM; have NB121_119 := b3; have jn := b6; have NB121_120 := b9; clear ba bb bf bk bn br bM b3 b6 b9; clear hb hbox hg; have hnb6 := NB119_120.out; have hnc6 := NB120_119.out; have hnb7 := NB119_121.out; have hnc7 := NB121_119.out; have hcz8_0 : w5.cell? ⟨fb, 0, none⟩ = some (.slice bu l0_0.length bx) := (bC e8.out 0).trans rfl; have hfz8_0 := bF e8.out 0) | ((with_reducible refine aJ (f := 47) rfl ?_); refine aQ (some 6) rfl rfl Try.func47 z1 rfl #[.slice bu l0_0.length bx] rfl z25 ?_; (with_reducible refine (laws_toBoughS.calls k _ _ l0_0 kL _ ?side1 ?side2 A2.out).mono ?_); (case side1 => repeat (first | exact (aD eb.out HB.out) | (with_reducible refine aE ?_ _) | (with_reducible refine aG ?_ _) | (with_reducible refine aH ?_))); (case side2 => exact ee.out); rintro e w9 ⟨v123, rfl, ho0, hb⟩; refine ⟨_, rfl, ?_⟩; have ba := aM (aU ho0 (az (by repeat (first | (with_reducible first | exact HB.out | apply bA | apply pD | apply bD | refine ax ?_ gz.out | refine ax ?_ jp.out | refine ax ?_ nA.out) | exact HB.out)))); have bb := aM (ae (g := fb) (o := .cells #[.slice bu l0_0.length bx] 24 (0, 0)) (by (with_reducible repeat (first | refine aq ?_ _ | refine ap ?_ | refine ar ?_ _)); exact e8.out) hb); have bf := aM (ae (g := ff) (o := .cells #[.slice none 0 0] 29 (0, 0)) (by (with_reducible repeat (first | refine aq ?_ _ | refine ap ?_ | refine ar ?_ _)); exact fo.out) hb); have bk := aM (ae (g := gs) (o := .cells #[.slice none 0 0] 29 (0, 0)) (by (with_reducible repeat (first | refine aq ?_ _ | refine ap ?_ | refine ar ?_ _)); exact jr.out) hb); have bn := aM (ay (by repeat (first | (with_reducible first | exact HB.out | apply bA | apply pD | apply bD | refine ax ?_ gz.out | refine ax ?_ jp.out | refine ax ?_ nA.out) | exact HB.out)) hb); clear e8; clear fo; clear jr; clear HB; have nY := ba; have e8 := bb; have fo := bf; have jr := bk; have HB := bn; clear ba bb bf bk bn; (try clear hb); (try clear hb2); (try clear hk); (try clear hi); (try clear ho0); obtain ⟨hU, ej, eo10⟩ := Kd.R_slice nY.out; subst eo10; have hnb11 := NB121_120.out; have hnc11 := jn.out; have mv : w9.cell? ⟨gs, 0, none⟩ = some (.slice none 0 0) := (bC jr.out 0).trans rfl; have mc := bF jr.out 0; have hcz13_0 : w9.cell? ⟨ff, 0, none⟩ = some (.slice none 0 0) := (bC fo.out 0).trans rfl; have hfz13_0 := bF fo.out 0))
 refine aT (results_cell_row rfl _ _ ff 29 #[.slice hU kL.length ej] (0, 0) _ rfl (by (with_reducible repeat (first | refine aq ?_ _ | refine ap ?_ | refine ar ?_ _)); refine av (cs := #[.slice none 0 0]) ?_ 0 _ rfl; (with_reducible repeat (first | refine aq ?_ _ | refine ap ?_ | refine ar ?_ _)); refine au ?_ jn.out _; (with_reducible repeat (first | refine aq ?_ _ | refine ap ?_ | refine ar ?_ _)); exact fo.out) Try.underlying29 rfl z1) rfl ?_
 exact ⟨_, y2, by (with_reducible repeat (first | apply ac | apply ab | apply aa)); exact ag (am (p := ⟨ff, 0, none⟩) (am (p := ⟨gs, 0, none⟩) (ao (ao nY.out jr.out z0) fo.out z0) (fun _ hk => hk.1.2) (.slice hU kL.length ej)) (fun _ hk => hk.2) (.slice hU kL.length ej)) (fun _ hk => trivial), by repeat (first | (with_reducible first | exact HB.out | apply bA | apply pD | apply bD | refine ax ?_ gz.out | refine ax ?_ jp.out | refine ax ?_ nA.out) | exact HB.out)⟩

/-! ### laws_eqBough: function 79 -/
def laws_eqBough.f (a0_0 : Int) (a0_1 : Int) (a0_2 : ByteArray) (a0_3 : Int) (a0_4 : Int) (a1_0 : Int) (a1_1 : Int) (a1_2 : ByteArray) (a1_3 : Int) (a1_4 : Int) : Option (Bool) := if a0_0 = a1_0 then (if a0_1 = a1_1 then (if a0_2.toList = a1_2.toList then (if a0_3 = a1_3 then (if a0_4 = a1_4 then (some true) else (some false)) else (some false)) else (some false)) else (some false)) else (some false)
set_option maxHeartbeats 8000000 in
set_option maxRecDepth 100000 in
theorem laws_eqBough.calls (a0_0 : Int) (a0_1 : Int) (a0_2 : ByteArray) (a0_3 : Int) (a0_4 : Int) (a1_0 : Int) (a1_1 : Int) (a1_2 : ByteArray) (a1_3 : Int) (a1_4 : Int) (r : Bool) (w : World) (h : laws_eqBough.f a0_0 a0_1 a0_2 a0_3 a0_4 a1_0 a1_1 a1_2 a1_3 a1_4 = some r) :
  Calls Try.prog 79 #[.agg #[.int .i64 a0_0, .int .i64 a0_1, .string a0_2, .int .i64 a0_3, .int .i64 a0_4], .agg #[.int .i64 a1_0, .int .i64 a1_1, .string a1_2, .int .i64 a1_3, .int .i64 a1_4]] w fun e w' => e = .returned (.bool r) ∧ Below w.heap.size w w' := by
 have hu58 := Try.underlying58
 have HB := aM (Below.refl w.heap.size w)
 have H : (if a0_0 = a1_0 then (if a0_1 = a1_1 then (if a0_2.toList = a1_2.toList then (if a0_3 = a1_3 then (if a0_4 = a1_4 then (some true) else (some false)) else (some false)) else (some false)) else (some false)) else (some false)) = some r := h
 clear h
 by_cases c3 : a0_0 = a1_0
 ·rw [if_pos c3] at H
  have c3b0 : (a0_0 == a1_0) = true := qT c3
  have c3b1 : (a0_0 != a1_0) = false := nF c3
  clear c3
  by_cases c4 : a0_1 = a1_1
  ·rw [if_pos c4] at H
   have c4b0 : (a0_1 == a1_1) = true := qT c4
   have c4b1 : (a0_1 != a1_1) = false := nF c4
   clear c4
   by_cases c5 : a0_2.toList = a1_2.toList
   ·rw [if_pos c5] at H
    have c5b0 : (a0_2.toList == a1_2.toList) = true := qT c5
    have c5b1 : (a0_2.toList != a1_2.toList) = false := nF c5
    clear c5
    by_cases c6 : a0_3 = a1_3
    ·rw [if_pos c6] at H
     have c6b0 : (a0_3 == a1_3) = true := qT c6
     have c6b1 : (a0_3 != a1_3) = false := nF c6
     clear c6
     by_cases c7 : a0_4 = a1_4
     ·rw [if_pos c7] at H
      have c7b0 : (a0_4 == a1_4) = true := qT c7
      have c7b1 : (a0_4 != a1_4) = false := nF c7
      clear c7
      obtain rfl := sI H
      go_enter Try.func79, Try.ntmps79
      go_wp2_with (first | ((with_reducible refine aK (N := 2) rfl ?_); refine aN ?hg (N := 2) ?hd (cs := #[.int .i64 a0_0, .int .i64 a0_1, .string a0_2, .int .i64 a0_3, .int .i64 a0_4]) (t := 58) ?hr ?_; (case hd => rfl); (case hg => rfl); (case hr => first | (go_simp; done) | (go_simp; rfl)); intro b4 hg w8 hbox hb; have ba := aM (ay z23 hb); have bb := aM (hbox); have bf := aM ((by rw [hg]; exact (az z23) : w.heap.size ≤ b4)); have bk := aM ((by rw [hg]; exact (az z23) : w.heap.size ≤ b4)); clear HB; have HB := ba; have b5 := bb; have lx := bf; have lB := bk; clear ba bb bf bk; clear hb hbox hg) | ((with_reducible refine aK (N := 3) rfl ?_); refine aN ?hg (N := 3) ?hd (cs := #[.int .i64 a1_0, .int .i64 a1_1, .string a1_2, .int .i64 a1_3, .int .i64 a1_4]) (t := 58) ?hr ?_; (case hd => rfl); (case hg => rfl); (case hr => first | (go_simp; done) | (go_simp; rfl)); intro ck hg w9 hbox hb; have ba := aM (ae (g := b4) (o := .cells #[.int .i64 a0_0, .int .i64 a0_1, .string a0_2, .int .i64 a0_3, .int .i64 a0_4] 58 (0, 0)) z11 hb); have bb := aM (ay z26 hb); have bf := aM (hbox); have bk := aM ((by rw [hg]; exact (az z26) : w.heap.size ≤ ck)); have bn := aM ((by rw [hg]; exact (az z26) : w.heap.size ≤ ck)); have br := aM ((by rw [hg]; exact aA (aw (g := b4) (o := .cells #[.int .i64 a0_0, .int .i64 a0_1, .string a0_2, .int .i64 a0_3, .int .i64 a0_4] 58 (0, 0)) z11) : b4 ≠ ck)); have bM := aM ((by rw [hg]; exact aC (aw (g := b4) (o := .cells #[.int .i64 a0_0, .int .i64 a0_1, .string a0_2, .int .i64 a0_3, .int .i64 a0_4] 58 (0, 0)) z11) : ck ≠ b4)); clear b5; clear HB; have b5 := ba; have HB := bb; have cb := bf; have lw := bk; have lA := bn; have dK := br; have dJ := bM; clear ba bb bf bk bn br bM; clear hb hbox hg; have hnb10 := dK.out; have hnc10 := dJ.out; have hcz11_0 : w9.cell? ⟨b4, 0, none⟩ = some (.int .i64 a0_0) := (bC b5.out 0).trans rfl; have hcz11_1 : w9.cell? ⟨b4, 1, none⟩ = some (.int .i64 a0_1) := (bC b5.out 1).trans rfl; have hcz11_2 : w9.cell? ⟨b4, 2, none⟩ = some (.string a0_2) := (bC b5.out 2).trans rfl; have hcz11_3 : w9.cell? ⟨b4, 3, none⟩ = some (.int .i64 a0_3) := (bC b5.out 3).trans rfl; have hcz11_4 : w9.cell? ⟨b4, 4, none⟩ = some (.int .i64 a0_4) := (bC b5.out 4).trans rfl; have hfz11_0 := bF b5.out 0; have hfz11_1 := bF b5.out 1; have hfz11_2 := bF b5.out 2; have hfz11_3 := bF b5.out 3; have hfz11_4 := bF b5.out 4; have mv : w9.cell? ⟨ck, 0, none⟩ = some (.int .i64 a1_0) := (bC cb.out 0).trans rfl; have hcz12_1 : w9.cell? ⟨ck, 1, none⟩ = some (.int .i64 a1_1) := (bC cb.out 1).trans rfl; have hcz12_2 : w9.cell? ⟨ck, 2, none⟩ = some (.string a1_2) := (bC cb.out 2).trans rfl; have hcz12_3 : w9.cell? ⟨ck, 3, none⟩ = some (.int .i64 a1_3) := (bC cb.out 3).trans rfl; have hcz12_4 : w9.cell? ⟨ck, 4, none⟩ = some (.int .i64 a1_4) := (bC cb.out 4).trans rfl; have mc := bF cb.out 0; have hfz12_1 := bF cb.out 1; have hfz12_2 := bF cb.out 2; have hfz12_3 := bF cb.out 3; have hfz12_4 := bF cb.out 4))
      all_goals (try (exfalso; rename_i h_; rw [c5b0] at h_; cases h_; done))
      go_ret
      exact ⟨y2, y14⟩
     ·rw [if_neg c7] at H
      have c7b0 : (a0_4 == a1_4) = false := qF c7
      have c7b1 : (a0_4 != a1_4) = true := nT c7
      obtain rfl := sI H
      go_enter Try.func79, Try.ntmps79
      go_wp2_with (first | ((with_reducible refine aK (N := 2) rfl ?_); refine aN ?hg (N := 2) ?hd (cs := #[.int .i64 a0_0, .int .i64 a0_1, .string a0_2, .int .i64 a0_3, .int .i64 a0_4]) (t := 58) ?hr ?_; (case hd => rfl); (case hg => rfl); (case hr => first | (go_simp; done) | (go_simp; rfl)); intro b4 hg w13 hbox hb; have ba := aM (ay z23 hb); have bb := aM (hbox); have bf := aM ((by rw [hg]; exact (az z23) : w.heap.size ≤ b4)); have bk := aM ((by rw [hg]; exact (az z23) : w.heap.size ≤ b4)); clear HB; have HB := ba; have b5 := bb; have lx := bf; have lB := bk; clear ba bb bf bk; clear hb hbox hg) | ((with_reducible refine aK (N := 3) rfl ?_); refine aN ?hg (N := 3) ?hd (cs := #[.int .i64 a1_0, .int .i64 a1_1, .string a1_2, .int .i64 a1_3, .int .i64 a1_4]) (t := 58) ?hr ?_; (case hd => rfl); (case hg => rfl); (case hr => first | (go_simp; done) | (go_simp; rfl)); intro ck hg w14 hbox hb; have ba := aM (ae (g := b4) (o := .cells #[.int .i64 a0_0, .int .i64 a0_1, .string a0_2, .int .i64 a0_3, .int .i64 a0_4] 58 (0, 0)) z11 hb); have bb := aM (ay z26 hb); have bf := aM (hbox); have bk := aM ((by rw [hg]; exact (az z26) : w.heap.size ≤ ck)); have bn := aM ((by rw [hg]; exact (az z26) : w.heap.size ≤ ck)); have br := aM ((by rw [hg]; exact aA (aw (g := b4) (o := .cells #[.int .i64 a0_0, .int .i64 a0_1, .string a0_2, .int .i64 a0_3, .int .i64 a0_4] 58 (0, 0)) z11) : b4 ≠ ck)); have bM := aM ((by rw [hg]; exact aC (aw (g := b4) (o := .cells #[.int .i64 a0_0, .int .i64 a0_1, .string a0_2, .int .i64 a0_3, .int .i64 a0_4] 58 (0, 0)) z11) : ck ≠ b4)); clear b5; clear HB; have b5 := ba; have HB := bb; have cb := bf; have lw := bk; have lA := bn; have dK := br; have dJ := bM; clear ba bb bf bk bn br bM; clear hb hbox hg; have hnb15 := dK.out; have hnc15 := dJ.out; have gp : w14.cell? ⟨b4, 0, none⟩ = some (.int .i64 a0_0) := (bC b5.out 0).trans rfl; have hcz16_1 : w14.cell? ⟨b4, 1, none⟩ = some (.int .i64 a0_1) := (bC b5.out 1).trans rfl; have hcz16_2 : w14.cell? ⟨b4, 2, none⟩ = some (.string a0_2) := (bC b5.out 2).trans rfl; have hcz16_3 : w14.cell? ⟨b4, 3, none⟩ = some (.int .i64 a0_3) := (bC b5.out 3).trans rfl; have hcz16_4 : w14.cell? ⟨b4, 4, none⟩ = some (.int .i64 a0_4) := (bC b5.out 4).trans rfl; have gm := bF b5.out 0; have hfz16_1 := bF b5.out 1; have hfz16_2 := bF b5.out 2; have hfz16_3 := bF b5.out 3; have hfz16_4 := bF b5.out 4; have hcz17_0 : w14.cell? ⟨ck, 0, none⟩ = some (.int .i64 a1_0) := (bC cb.out 0).trans rfl; have hcz17_1 : w14.cell? ⟨ck, 1, none⟩ = some (.int .i64 a1_1) := (bC cb.out 1).trans rfl; have hcz17_2 : w14.cell? ⟨ck, 2, none⟩ = some (.string a1_2) := (bC cb.out 2).trans rfl; have hcz17_3 : w14.cell? ⟨ck, 3, none⟩ = some (.int .i64 a1_3) := (bC cb.out 3).trans rfl; have hcz17_4 : w14.cell? ⟨ck, 4, none⟩ = some (.int .i64 a1_4) := (bC cb.out 4).trans rfl; have hfz17_0 := bF cb.out 0; have hfz17_1 := bF cb.out 1; have hfz17_2 := bF cb.out 2; have hfz17_3 := bF cb.out 3; have hfz17_4 := bF cb.out 4))
      all_goals (try (exfalso; rename_i h_; rw [c5b0] at h_; cases h_; done))
      go_ret
      exact ⟨y2, y14⟩
    ·rw [if_neg c6] at H
     have c6b0 : (a0_3 == a1_3) = false := qF c6
     have c6b1 : (a0_3 != a1_3) = true := nT c6
     obtain rfl := sI H
     go_enter Try.func79, Try.ntmps79
     go_wp2_with (first | ((with_reducible refine aK (N := 2) rfl ?_); refine aN ?hg (N := 2) ?hd (cs := #[.int .i64 a0_0, .int .i64 a0_1, .string a0_2, .int .i64 a0_3, .int .i64 a0_4]) (t := 58) ?hr ?_; (case hd => rfl); (case hg => rfl); (case hr => first | (go_simp; done) | (go_simp; rfl)); intro b4 hg w18 hbox hb; have ba := aM (ay z23 hb); have bb := aM (hbox); have bf := aM ((by rw [hg]; exact (az z23) : w.heap.size ≤ b4)); have bk := aM ((by rw [hg]; exact (az z23) : w.heap.size ≤ b4)); clear HB; have HB := ba; have b5 := bb; have lx := bf; have lB := bk; clear ba bb bf bk; clear hb hbox hg) | ((with_reducible refine aK (N := 3) rfl ?_); refine aN ?hg (N := 3) ?hd (cs := #[.int .i64 a1_0, .int .i64 a1_1, .string a1_2, .int .i64 a1_3, .int .i64 a1_4]) (t := 58) ?hr ?_; (case hd => rfl); (case hg => rfl); (case hr => first | (go_simp; done) | (go_simp; rfl)); intro ck hg w19 hbox hb; have ba := aM (ae (g := b4) (o := .cells #[.int .i64 a0_0, .int .i64 a0_1, .string a0_2, .int .i64 a0_3, .int .i64 a0_4] 58 (0, 0)) z11 hb); have bb := aM (ay z26 hb); have bf := aM (hbox); have bk := aM ((by rw [hg]; exact (az z26) : w.heap.size ≤ ck)); have bn := aM ((by rw [hg]; exact (az z26) : w.heap.size ≤ ck)); have br := aM ((by rw [hg]; exact aA (aw (g := b4) (o := .cells #[.int .i64 a0_0, .int .i64 a0_1, .string a0_2, .int .i64 a0_3, .int .i64 a0_4] 58 (0, 0)) z11) : b4 ≠ ck)); have bM := aM ((by rw [hg]; exact aC (aw (g := b4) (o := .cells #[.int .i64 a0_0, .int .i64 a0_1, .string a0_2, .int .i64 a0_3, .int .i64 a0_4] 58 (0, 0)) z11) : ck ≠ b4)); clear b5; clear HB; have b5 := ba; have HB := bb; have cb := bf; have lw := bk; have lA := bn; have dK := br; have dJ := bM; clear ba bb bf bk bn br bM; clear hb hbox hg; have hnb20 := dK.out; have hnc20 := dJ.out; have kE : w19.cell? ⟨b4, 0, none⟩ = some (.int .i64 a0_0) := (bC b5.out 0).trans rfl; have kD : w19.cell? ⟨b4, 1, none⟩ = some (.int .i64 a0_1) := (bC b5.out 1).trans rfl; have kC : w19.cell? ⟨b4, 2, none⟩ = some (.string a0_2) := (bC b5.out 2).trans rfl; have kB : w19.cell? ⟨b4, 3, none⟩ = some (.int .i64 a0_3) := (bC b5.out 3).trans rfl; have kA : w19.cell? ⟨b4, 4, none⟩ = some (.int .i64 a0_4) := (bC b5.out 4).trans rfl; have j4 := bF b5.out 0; have j3 := bF b5.out 1; have jZ := bF b5.out 2; have jY := bF b5.out 3; have jX := bF b5.out 4; have kz : w19.cell? ⟨ck, 0, none⟩ = some (.int .i64 a1_0) := (bC cb.out 0).trans rfl; have ky : w19.cell? ⟨ck, 1, none⟩ = some (.int .i64 a1_1) := (bC cb.out 1).trans rfl; have kx : w19.cell? ⟨ck, 2, none⟩ = some (.string a1_2) := (bC cb.out 2).trans rfl; have kw : w19.cell? ⟨ck, 3, none⟩ = some (.int .i64 a1_3) := (bC cb.out 3).trans rfl; have kv : w19.cell? ⟨ck, 4, none⟩ = some (.int .i64 a1_4) := (bC cb.out 4).trans rfl; have jW := bF cb.out 0; have jV := bF cb.out 1; have jU := bF cb.out 2; have jT := bF cb.out 3; have jS := bF cb.out 4))
     all_goals (try (exfalso; rename_i h_; rw [c5b0] at h_; cases h_; done))
     go_ret
     exact ⟨y2, y14⟩
   ·rw [if_neg c5] at H
    have c5b0 : (a0_2.toList == a1_2.toList) = false := qF c5
    have c5b1 : (a0_2.toList != a1_2.toList) = true := nT c5
    obtain rfl := sI H
    go_enter Try.func79, Try.ntmps79
    go_wp2_with (first | ((with_reducible refine aK (N := 2) rfl ?_); refine aN ?hg (N := 2) ?hd (cs := #[.int .i64 a0_0, .int .i64 a0_1, .string a0_2, .int .i64 a0_3, .int .i64 a0_4]) (t := 58) ?hr ?_; (case hd => rfl); (case hg => rfl); (case hr => first | (go_simp; done) | (go_simp; rfl)); intro b4 hg w23 hbox hb; have ba := aM (ay z23 hb); have bb := aM (hbox); have bf := aM ((by rw [hg]; exact (az z23) : w.heap.size ≤ b4)); have bk := aM ((by rw [hg]; exact (az z23) : w.heap.size ≤ b4)); clear HB; have HB := ba; have b5 := bb; have lx := bf; have lB := bk; clear ba bb bf bk; clear hb hbox hg) | ((with_reducible refine aK (N := 3) rfl ?_); refine aN ?hg (N := 3) ?hd (cs := #[.int .i64 a1_0, .int .i64 a1_1, .string a1_2, .int .i64 a1_3, .int .i64 a1_4]) (t := 58) ?hr ?_; (case hd => rfl); (case hg => rfl); (case hr => first | (go_simp; done) | (go_simp; rfl)); intro ck hg w24 hbox hb; have ba := aM (ae (g := b4) (o := .cells #[.int .i64 a0_0, .int .i64 a0_1, .string a0_2, .int .i64 a0_3, .int .i64 a0_4] 58 (0, 0)) z11 hb); have bb := aM (ay z26 hb); have bf := aM (hbox); have bk := aM ((by rw [hg]; exact (az z26) : w.heap.size ≤ ck)); have bn := aM ((by rw [hg]; exact (az z26) : w.heap.size ≤ ck)); have br := aM ((by rw [hg]; exact aA (aw (g := b4) (o := .cells #[.int .i64 a0_0, .int .i64 a0_1, .string a0_2, .int .i64 a0_3, .int .i64 a0_4] 58 (0, 0)) z11) : b4 ≠ ck)); have bM := aM ((by rw [hg]; exact aC (aw (g := b4) (o := .cells #[.int .i64 a0_0, .int .i64 a0_1, .string a0_2, .int .i64 a0_3, .int .i64 a0_4] 58 (0, 0)) z11) : ck ≠ b4)); clear b5; clear HB; have b5 := ba; have HB := bb; have cb := bf; have lw := bk; have lA := bn; have dK := br; have dJ := bM; clear ba bb bf bk bn br bM; clear hb hbox hg; have hnb25 := dK.out; have hnc25 := dJ.out; have kt : w24.cell? ⟨b4, 0, none⟩ = some (.int .i64 a0_0) := (bC b5.out 0).trans rfl; have ks : w24.cell? ⟨b4, 1, none⟩ = some (.int .i64 a0_1) := (bC b5.out 1).trans rfl; have kr : w24.cell? ⟨b4, 2, none⟩ = some (.string a0_2) := (bC b5.out 2).trans rfl; have kp : w24.cell? ⟨b4, 3, none⟩ = some (.int .i64 a0_3) := (bC b5.out 3).trans rfl; have ko : w24.cell? ⟨b4, 4, none⟩ = some (.int .i64 a0_4) := (bC b5.out 4).trans rfl; have jQ := bF b5.out 0; have jP := bF b5.out 1; have jO := bF b5.out 2; have jN := bF b5.out 3; have jM := bF b5.out 4; have kn : w24.cell? ⟨ck, 0, none⟩ = some (.int .i64 a1_0) := (bC cb.out 0).trans rfl; have km : w24.cell? ⟨ck, 1, none⟩ = some (.int .i64 a1_1) := (bC cb.out 1).trans rfl; have kk : w24.cell? ⟨ck, 2, none⟩ = some (.string a1_2) := (bC cb.out 2).trans rfl; have kj : w24.cell? ⟨ck, 3, none⟩ = some (.int .i64 a1_3) := (bC cb.out 3).trans rfl; have ki : w24.cell? ⟨ck, 4, none⟩ = some (.int .i64 a1_4) := (bC cb.out 4).trans rfl; have jL := bF cb.out 0; have jK := bF cb.out 1; have jJ := bF cb.out 2; have jI := bF cb.out 3; have jH := bF cb.out 4))
    all_goals (try (exfalso; rename_i h_; rw [c5b0] at h_; cases h_; done))
    go_ret
    exact ⟨y2, y14⟩
  ·rw [if_neg c4] at H
   have c4b0 : (a0_1 == a1_1) = false := qF c4
   have c4b1 : (a0_1 != a1_1) = true := nT c4
   obtain rfl := sI H
   go_enter Try.func79, Try.ntmps79
   go_wp2_with (first | ((with_reducible refine aK (N := 2) rfl ?_); refine aN ?hg (N := 2) ?hd (cs := #[.int .i64 a0_0, .int .i64 a0_1, .string a0_2, .int .i64 a0_3, .int .i64 a0_4]) (t := 58) ?hr ?_; (case hd => rfl); (case hg => rfl); (case hr => first | (go_simp; done) | (go_simp; rfl)); intro b4 hg w28 hbox hb; have ba := aM (ay z23 hb); have bb := aM (hbox); have bf := aM ((by rw [hg]; exact (az z23) : w.heap.size ≤ b4)); have bk := aM ((by rw [hg]; exact (az z23) : w.heap.size ≤ b4)); clear HB; have HB := ba; have b5 := bb; have lx := bf; have lB := bk; clear ba bb bf bk; clear hb hbox hg) | ((with_reducible refine aK (N := 3) rfl ?_); refine aN ?hg (N := 3) ?hd (cs := #[.int .i64 a1_0, .int .i64 a1_1, .string a1_2, .int .i64 a1_3, .int .i64 a1_4]) (t := 58) ?hr ?_; (case hd => rfl); (case hg => rfl); (case hr => first | (go_simp; done) | (go_simp; rfl)); intro ck hg w29 hbox hb; have ba := aM (ae (g := b4) (o := .cells #[.int .i64 a0_0, .int .i64 a0_1, .string a0_2, .int .i64 a0_3, .int .i64 a0_4] 58 (0, 0)) z11 hb); have bb := aM (ay z26 hb); have bf := aM (hbox); have bk := aM ((by rw [hg]; exact (az z26) : w.heap.size ≤ ck)); have bn := aM ((by rw [hg]; exact (az z26) : w.heap.size ≤ ck)); have br := aM ((by rw [hg]; exact aA (aw (g := b4) (o := .cells #[.int .i64 a0_0, .int .i64 a0_1, .string a0_2, .int .i64 a0_3, .int .i64 a0_4] 58 (0, 0)) z11) : b4 ≠ ck)); have bM := aM ((by rw [hg]; exact aC (aw (g := b4) (o := .cells #[.int .i64 a0_0, .int .i64 a0_1, .string a0_2, .int .i64 a0_3, .int .i64 a0_4] 58 (0, 0)) z11) : ck ≠ b4)); clear b5; clear HB; have b5 := ba; have HB := bb; have cb := bf; have lw := bk; have lA := bn; have dK := br; have dJ := bM; clear ba bb bf bk bn br bM; clear hb hbox hg; have hnb30 := dK.out; have hnc30 := dJ.out; have hcz31_0 : w29.cell? ⟨b4, 0, none⟩ = some (.int .i64 a0_0) := (bC b5.out 0).trans rfl; have hcz31_1 : w29.cell? ⟨b4, 1, none⟩ = some (.int .i64 a0_1) := (bC b5.out 1).trans rfl; have hcz31_2 : w29.cell? ⟨b4, 2, none⟩ = some (.string a0_2) := (bC b5.out 2).trans rfl; have hcz31_3 : w29.cell? ⟨b4, 3, none⟩ = some (.int .i64 a0_3) := (bC b5.out 3).trans rfl; have hcz31_4 : w29.cell? ⟨b4, 4, none⟩ = some (.int .i64 a0_4) := (bC b5.out 4).trans rfl; have hfz31_0 := bF b5.out 0; have hfz31_1 := bF b5.out 1; have hfz31_2 := bF b5.out 2; have hfz31_3 := bF b5.out 3; have hfz31_4 := bF b5.out 4; have hcz32_0 : w29.cell? ⟨ck, 0, none⟩ = some (.int .i64 a1_0) := (bC cb.out 0).trans rfl; have hcz32_1 : w29.cell? ⟨ck, 1, none⟩ = some (.int .i64 a1_1) := (bC cb.out 1).trans rfl; have hcz32_2 : w29.cell? ⟨ck, 2, none⟩ = some (.string a1_2) := (bC cb.out 2).trans rfl; have hcz32_3 : w29.cell? ⟨ck, 3, none⟩ = some (.int .i64 a1_3) := (bC cb.out 3).trans rfl; have hcz32_4 : w29.cell? ⟨ck, 4, none⟩ = some (.int .i64 a1_4) := (bC cb.out 4).trans rfl; have hfz32_0 := bF cb.out 0; have hfz32_1 := bF cb.out 1; have hfz32_2 := bF cb.out 2; have hfz32_3 := bF cb.out 3; have hfz32_4 := bF cb.out 4))
   go_ret
   exact ⟨y2, y14⟩
 ·rw [if_neg c3] at H
  have c3b0 : (a0_0 == a1_0) = false := qF c3
  have c3b1 : (a0_0 != a1_0) = true := nT c3
  obtain rfl := sI H
  go_enter Try.func79, Try.ntmps79
  go_wp2_with (first | ((with_reducible refine aK (N := 2) rfl ?_); refine aN ?hg (N := 2) ?hd (cs := #[.int .i64 a0_0, .int .i64 a0_1, .string a0_2, .int .i64 a0_3, .int .i64 a0_4]) (t := 58) ?hr ?_; (case hd => rfl); (case hg => rfl); (case hr => first | (go_simp; done) | (go_simp; rfl)); intro b4 hg w33 hbox hb; have ba := aM (ay z23 hb); have bb := aM (hbox); have bf := aM ((by rw [hg]; exact (az z23) : w.heap.size ≤ b4)); have bk := aM ((by rw [hg]; exact (az z23) : w.heap.size ≤ b4)); clear HB; have HB := ba; have b5 := bb; have lx := bf; have lB := bk; clear ba bb bf bk; clear hb hbox hg) | ((with_reducible refine aK (N := 3) rfl ?_); refine aN ?hg (N := 3) ?hd (cs := #[.int .i64 a1_0, .int .i64 a1_1, .string a1_2, .int .i64 a1_3, .int .i64 a1_4]) (t := 58) ?hr ?_; (case hd => rfl); (case hg => rfl); (case hr => first | (go_simp; done) | (go_simp; rfl)); intro ck hg w34 hbox hb; have ba := aM (ae (g := b4) (o := .cells #[.int .i64 a0_0, .int .i64 a0_1, .string a0_2, .int .i64 a0_3, .int .i64 a0_4] 58 (0, 0)) z11 hb); have bb := aM (ay z26 hb); have bf := aM (hbox); have bk := aM ((by rw [hg]; exact (az z26) : w.heap.size ≤ ck)); have bn := aM ((by rw [hg]; exact (az z26) : w.heap.size ≤ ck)); have br := aM ((by rw [hg]; exact aA (aw (g := b4) (o := .cells #[.int .i64 a0_0, .int .i64 a0_1, .string a0_2, .int .i64 a0_3, .int .i64 a0_4] 58 (0, 0)) z11) : b4 ≠ ck)); have bM := aM ((by rw [hg]; exact aC (aw (g := b4) (o := .cells #[.int .i64 a0_0, .int .i64 a0_1, .string a0_2, .int .i64 a0_3, .int .i64 a0_4] 58 (0, 0)) z11) : ck ≠ b4)); clear b5; clear HB; have b5 := ba; have HB := bb; have cb := bf; have lw := bk; have lA := bn; have dK := br; have dJ := bM; clear ba bb bf bk bn br bM; clear hb hbox hg; have hnb35 := dK.out; have hnc35 := dJ.out; have iA : w34.cell? ⟨b4, 0, none⟩ = some (.int .i64 a0_0) := (bC b5.out 0).trans rfl; have hcz36_1 : w34.cell? ⟨b4, 1, none⟩ = some (.int .i64 a0_1) := (bC b5.out 1).trans rfl; have hcz36_2 : w34.cell? ⟨b4, 2, none⟩ = some (.string a0_2) := (bC b5.out 2).trans rfl; have hcz36_3 : w34.cell? ⟨b4, 3, none⟩ = some (.int .i64 a0_3) := (bC b5.out 3).trans rfl; have hcz36_4 : w34.cell? ⟨b4, 4, none⟩ = some (.int .i64 a0_4) := (bC b5.out 4).trans rfl; have ib := bF b5.out 0; have hfz36_1 := bF b5.out 1; have hfz36_2 := bF b5.out 2; have hfz36_3 := bF b5.out 3; have hfz36_4 := bF b5.out 4; have hcz37_0 : w34.cell? ⟨ck, 0, none⟩ = some (.int .i64 a1_0) := (bC cb.out 0).trans rfl; have hcz37_1 : w34.cell? ⟨ck, 1, none⟩ = some (.int .i64 a1_1) := (bC cb.out 1).trans rfl; have hcz37_2 : w34.cell? ⟨ck, 2, none⟩ = some (.string a1_2) := (bC cb.out 2).trans rfl; have hcz37_3 : w34.cell? ⟨ck, 3, none⟩ = some (.int .i64 a1_3) := (bC cb.out 3).trans rfl; have hcz37_4 : w34.cell? ⟨ck, 4, none⟩ = some (.int .i64 a1_4) := (bC cb.out 4).trans rfl; have hfz37_0 := bF cb.out 0; have hfz37_1 := bF cb.out 1; have hfz37_2 := bF cb.out 2; have hfz37_3 := bF cb.out 3; have hfz37_4 := bF cb.out 4))
  go_ret
  exact ⟨y2, y14⟩

/-! ### laws_eqBoughS: function 49 -/
def laws_eqBoughS.l0 : Nat → List (S58) → List (S58) → Int → Option (Bool)
 | 0, _, _, _ => none
 | k + 1, x0, x1, x5 => if x5 < (x0.length : Int) then (if 0 ≤ x5 then (if x5 < (x1.length : Int) then ((laws_eqBough.f ((rd_T58 x0 x5).f0) ((rd_T58 x0 x5).f1) ((rd_T58 x0 x5).f2) ((rd_T58 x0 x5).f3) ((rd_T58 x0 x5).f4) ((rd_T58 x1 x5).f0) ((rd_T58 x1 x5).f1) ((rd_T58 x1 x5).f2) ((rd_T58 x1 x5).f3) ((rd_T58 x1 x5).f4)).bind fun oQ => (if oQ = true then (laws_eqBoughS.l0 k x0 x1 (wrap64 (x5 + 1))) else (some false))) else (none)) else (none)) else (some true)
def laws_eqBoughS.f (k : Nat) (l0 : List (S58)) (l1 : List (S58)) : Option (Bool) := if (l0.length : Int) = (l1.length : Int) then (laws_eqBoughS.l0 k l0 l1 0) else (some false)
theorem laws_eqBoughS.mono_l : ∀ k, (∀ y0 y1 y2, LeO (laws_eqBoughS.l0 k y0 y1 y2) (laws_eqBoughS.l0 (k + 1) y0 y1 y2))
 | 0 => fun _ _ _ r h => by simp [laws_eqBoughS.l0] at h
 | k + 1 => by
  have ih0 := laws_eqBoughS.mono_l k
  ·intro y0 y1 y2
   unfold laws_eqBoughS.l0
   repeat' first
   | (with_reducible exact ih0 _ _ _)
   | (with_reducible exact LeO.refl _)
   | (with_reducible exact LeO.none _)
   | (with_reducible refine LeO.ite ?_ ?_)
   | (with_reducible refine LeO.bind ?_ (fun _ => ?_))
   | exact ih0 _ _ _
   | exact LeO.none _
   | refine LeO.ite ?_ ?_
   | refine LeO.bind ?_ (fun _ => ?_)
theorem laws_eqBoughS.mono : ∀ a0 a1 k, LeO (laws_eqBoughS.f k a0 a1) (laws_eqBoughS.f (k + 1) a0 a1) := by
 intro a0 a1 k
 have ih0 := laws_eqBoughS.mono_l k
 unfold laws_eqBoughS.f
 repeat' first
   | (with_reducible exact ih0 _ _ _)
   | (with_reducible exact LeO.refl _)
   | (with_reducible exact LeO.none _)
   | (with_reducible refine LeO.ite ?_ ?_)
   | (with_reducible refine LeO.bind ?_ (fun _ => ?_))
   | exact ih0 _ _ _
   | exact LeO.none _
   | refine LeO.ite ?_ ?_
   | refine LeO.bind ?_ (fun _ => ?_)
def laws_eqBoughS.T6 : Bool × List (List Nat × List Nat) := (true, [([], []), ([], []), ([0, 1], [0, 1]), ([2], [2]), ([], []), ([], []), ([4, 5], [4, 5]), ([6], [6]), ([3, 7], [3, 7]), ([8], [8])])
def laws_eqBoughS.B6 : List Nat := [0, 0, 3, 7, 0, 0, 48, 112, 255, 511]
theorem laws_eqBoughS.tab6 : rtab .any (opsOf Try.f49 6) = laws_eqBoughS.T6 := by kernel_rfl
theorem laws_eqBoughS.bits6 : waitsOk laws_eqBoughS.T6.2 laws_eqBoughS.B6 = true := by kernel_rfl
set_option maxHeartbeats 8000000 in
set_option maxRecDepth 100000 in
theorem laws_eqBoughS.calls (k : Nat) (A0 : Option Addr) (c0 : Nat) (l0 : List (S58)) (A1 : Option Addr) (c1 : Nat) (l1 : List (S58)) (r : Bool) (w : World) (hr0 : Kd.C k58 w A0 l0.length l0) (hc0 : l0.length ≤ c0) (hr1 : Kd.C k58 w A1 l1.length l1) (hc1 : l1.length ≤ c1) (h : laws_eqBoughS.f k l0 l1 = some r) :
  Calls Try.prog 49 #[.slice A0 l0.length c0, .slice A1 l1.length c1] w fun e w' => e = .returned (.bool r) ∧ Below w.heap.size w w' := by
 have hu58 := Try.underlying58
 have dX := aM hr0
 have g6 := aM hc0
 clear hr0 hc0
 have my := aM hr1
 have gV := aM hc1
 clear hr1 hc1
 have HB := aM (Below.refl w.heap.size w)
 have H : (if (l0.length : Int) = (l1.length : Int) then (laws_eqBoughS.l0 k l0 l1 0) else (some false)) = some r := h
 clear h
 by_cases c3 : (l0.length : Int) = (l1.length : Int)
 ·rw [if_pos c3] at H
  have c3b0 : ((l0.length : Int) == (l1.length : Int)) = true := qT c3
  have c3b1 : ((l0.length : Int) != (l1.length : Int)) = false := nF c3
  have c3b2 : (l0.length == l1.length) = true := by first | simpa using c3 | (simp at c3 ⊢; omega)
  clear c3
  have H' := aM H
  clear H
  go_enter Try.func49, Try.ntmps49
  go_wp2
  go_loopg [5] k (fun kq v5 w' => ∃ (x5_1 : Int), v5 = .int .i64 x5_1 ∧ Aside0 (laws_eqBoughS.l0 kq l0 l1 x5_1 = some r) ∧ Aside0 (kq ≤ k) ∧ Aside0 (Below w.heap.size w w'))
  case atStart => exact ⟨(0), z2, H', ⟨Nat.le_refl _⟩, ⟨y3⟩⟩
  case round =>
   clear H'
   try clear c1
   try clear p2
   try clear c3
   try clear c3b0
   try clear c3b1
   try clear c3b2
   obtain ⟨x5_1, rfl, HA, HK1, HB⟩ := hrel
   cases gk with
   | zero => exact absurd HA.out (by simp [laws_eqBoughS.l0])
   | succ k1 =>
    have H := HA.out
    clear HA
    simp only [laws_eqBoughS.l0] at H
    by_cases c4 : x5_1 < (l0.length : Int)
    ·rw [if_pos c4] at H
     have c4b0 : decide (x5_1 < (l0.length : Int)) = true := dT c4
     clear c4
     by_cases c5 : 0 ≤ x5_1
     ·rw [if_pos c5] at H
      have c5b0 : decide (0 ≤ x5_1) = true := dT c5
      clear c5
      by_cases c6 : x5_1 < (l1.length : Int)
      ·rw [if_pos c6] at H
       have c6b0 : decide (x5_1 < (l1.length : Int)) = true := dT c6
       clear c6
       replace H := oB H
       obtain ⟨oQ, oe, H⟩ := H
       try dsimp only at H
       have A7 := aM oe
       clear oe
       by_cases c8 : oQ = true
       ·subst c8
        rw [if_pos rfl] at H
        have H' := aM H
        clear H
        try go_wp2
        have ba := aM (bD HB.out)
        clear HB
        have HB := ba
        clear ba
        have p127 : 0 ≤ (x5_1 : Int) := oD z3
        have q127 : x5_1 < (l0.length : Int) := oD z3
        obtain ⟨ad127, e127, hx127_0, hx127_1, hx127_2, hx127_3, hx127_4⟩ := at_T58 dX.out x5_1 p127 q127
        have hw127_4 := hx127_4
        have hw127_3 := hx127_3
        have hw127_2 := hx127_2
        have hw127_1 := hx127_1
        have hw127_0 := hx127_0
        cases e127
        replace hx127_0 := (HB.out.cell (World.block_lt_of_cell? w _ hx127_0)).trans hx127_0
        replace hx127_1 := (HB.out.cell (World.block_lt_of_cell? w _ hx127_1)).trans hx127_1
        replace hx127_2 := (HB.out.cell (World.block_lt_of_cell? w _ hx127_2)).trans hx127_2
        replace hx127_3 := (HB.out.cell (World.block_lt_of_cell? w _ hx127_3)).trans hx127_3
        replace hx127_4 := (HB.out.cell (World.block_lt_of_cell? w _ hx127_4)).trans hx127_4
        replace p127 := eq_true p127
        replace q127 := eq_true q127
        have p128 : 0 ≤ (x5_1 : Int) := oD z3
        have q128 : x5_1 < (l1.length : Int) := oD z3
        obtain ⟨ad128, e128, hx128_0, hx128_1, hx128_2, hx128_3, hx128_4⟩ := at_T58 my.out x5_1 p128 q128
        have hw128_4 := hx128_4
        have hw128_3 := hx128_3
        have hw128_2 := hx128_2
        have hw128_1 := hx128_1
        have hw128_0 := hx128_0
        cases e128
        replace hx128_0 := (HB.out.cell (World.block_lt_of_cell? w _ hx128_0)).trans hx128_0
        replace hx128_1 := (HB.out.cell (World.block_lt_of_cell? w _ hx128_1)).trans hx128_1
        replace hx128_2 := (HB.out.cell (World.block_lt_of_cell? w _ hx128_2)).trans hx128_2
        replace hx128_3 := (HB.out.cell (World.block_lt_of_cell? w _ hx128_3)).trans hx128_3
        replace hx128_4 := (HB.out.cell (World.block_lt_of_cell? w _ hx128_4)).trans hx128_4
        replace p128 := eq_true p128
        replace q128 := eq_true q128
        refine start_ (n := 10) (S := fun w' => w'.cell? (ad127.add ((x5_1).toNat * 5)) = some (.int .i64 ((rd_T58 l0 x5_1).f0)) ∧ w'.cell? ⟨(ad127.add ((x5_1).toNat * 5)).block, (ad127.add ((x5_1).toNat * 5)).off + 1, none⟩ = some (.int .i64 ((rd_T58 l0 x5_1).f1)) ∧ w'.cell? ⟨(ad127.add ((x5_1).toNat * 5)).block, (ad127.add ((x5_1).toNat * 5)).off + 2, none⟩ = some (.string ((rd_T58 l0 x5_1).f2)) ∧ w'.cell? ⟨(ad127.add ((x5_1).toNat * 5)).block, (ad127.add ((x5_1).toNat * 5)).off + 3, none⟩ = some (.int .i64 ((rd_T58 l0 x5_1).f3)) ∧ w'.cell? ⟨(ad127.add ((x5_1).toNat * 5)).block, (ad127.add ((x5_1).toNat * 5)).off + 4, none⟩ = some (.int .i64 ((rd_T58 l0 x5_1).f4)) ∧ w'.cell? (ad128.add ((x5_1).toNat * 5)) = some (.int .i64 ((rd_T58 l1 x5_1).f0)) ∧ w'.cell? ⟨(ad128.add ((x5_1).toNat * 5)).block, (ad128.add ((x5_1).toNat * 5)).off + 1, none⟩ = some (.int .i64 ((rd_T58 l1 x5_1).f1)) ∧ w'.cell? ⟨(ad128.add ((x5_1).toNat * 5)).block, (ad128.add ((x5_1).toNat * 5)).off + 2, none⟩ = some (.string ((rd_T58 l1 x5_1).f2)) ∧ w'.cell? ⟨(ad128.add ((x5_1).toNat * 5)).block, (ad128.add ((x5_1).toNat * 5)).off + 3, none⟩ = some (.int .i64 ((rd_T58 l1 x5_1).f3)) ∧ w'.cell? ⟨(ad128.add ((x5_1).toNat * 5)).block, (ad128.add ((x5_1).toNat * 5)).off + 4, none⟩ = some (.int .i64 ((rd_T58 l1 x5_1).f4))) (ds := []) #[false, false, false, false, false, false, false, false, false, false] z1 rfl rfl ⟨((HB.out.cell (World.block_lt_of_cell? w _ hw127_0)).trans hw127_0), ((HB.out.cell (World.block_lt_of_cell? w _ hw127_1)).trans hw127_1), ((HB.out.cell (World.block_lt_of_cell? w _ hw127_2)).trans hw127_2), ((HB.out.cell (World.block_lt_of_cell? w _ hw127_3)).trans hw127_3), ((HB.out.cell (World.block_lt_of_cell? w _ hw127_4)).trans hw127_4), ((HB.out.cell (World.block_lt_of_cell? w _ hw128_0)).trans hw128_0), ((HB.out.cell (World.block_lt_of_cell? w _ hw128_1)).trans hw128_1), ((HB.out.cell (World.block_lt_of_cell? w _ hw128_2)).trans hw128_2), ((HB.out.cell (World.block_lt_of_cell? w _ hw128_3)).trans hw128_3), ((HB.out.cell (World.block_lt_of_cell? w _ hw128_4)).trans hw128_4)⟩ (fun hHeld => ?_); refine with_tabW laws_eqBoughS.tab6 laws_eqBoughS.bits6 (fun HT_ HW_ => ?_)
        generalize wr.drew = w9 at HB hx127_0 hx127_1 hx127_2 hx127_3 hx127_4 hx128_0 hx128_1 hx128_2 hx128_3 hx128_4 hHeld ⊢
        refine pA 0 17 ?_
        refine pA 1 18 ?_
        refine pA 2 19 ?_
        refine pA 4 21 ?_
        refine pA 5 22 ?_
        refine pA 6 23 ?_
        refine tA 3 20 ?_ (hy := by rintro w' ⟨s0, s1, s2, s3, s4, s5, s6, s7, s8, s9⟩; go_simp; with_reducible rfl)
        refine tA 7 24 ?_ (hy := by rintro w' ⟨s0, s1, s2, s3, s4, s5, s6, s7, s8, s9⟩; go_simp; with_reducible rfl)
        refine one_ (i := 8) (N := some 25) #[true, true, true, true, true, true, true, true, true, false] rfl rfl (one_of HT_.out z1) z0 (fun K hK => ?_)
        refine goes_ Try.func79 z1 rfl #[.agg #[.int .i64 ((rd_T58 l0 x5_1).f0), .int .i64 ((rd_T58 l0 x5_1).f1), .string ((rd_T58 l0 x5_1).f2), .int .i64 ((rd_T58 l0 x5_1).f3), .int .i64 ((rd_T58 l0 x5_1).f4)], .agg #[.int .i64 ((rd_T58 l1 x5_1).f0), .int .i64 ((rd_T58 l1 x5_1).f1), .string ((rd_T58 l1 x5_1).f2), .int .i64 ((rd_T58 l1 x5_1).f3), .int .i64 ((rd_T58 l1 x5_1).f4)]] (by rfl) rfl rfl z25 ?_
        with_reducible refine (laws_eqBough.calls ((rd_T58 l0 x5_1).f0) ((rd_T58 l0 x5_1).f1) ((rd_T58 l0 x5_1).f2) ((rd_T58 l0 x5_1).f3) ((rd_T58 l0 x5_1).f4) ((rd_T58 l1 x5_1).f0) ((rd_T58 l1 x5_1).f1) ((rd_T58 l1 x5_1).f2) ((rd_T58 l1 x5_1).f3) ((rd_T58 l1 x5_1).f4) true _ A7.out).mono ?_
        rintro e w10 ⟨rfl, hb⟩
        refine ⟨_, rfl, ?_⟩
        have ba := aM (ay z23 hb)
        clear HB
        have HB := ba
        clear ba
        (try clear hb)
        (try clear hb2)
        (try clear hk)
        (try clear hi)
        refine hK.out _ _ ⟨((HB.out.cell (World.block_lt_of_cell? w _ hw127_0)).trans hw127_0), ((HB.out.cell (World.block_lt_of_cell? w _ hw127_1)).trans hw127_1), ((HB.out.cell (World.block_lt_of_cell? w _ hw127_2)).trans hw127_2), ((HB.out.cell (World.block_lt_of_cell? w _ hw127_3)).trans hw127_3), ((HB.out.cell (World.block_lt_of_cell? w _ hw127_4)).trans hw127_4), ((HB.out.cell (World.block_lt_of_cell? w _ hw128_0)).trans hw128_0), ((HB.out.cell (World.block_lt_of_cell? w _ hw128_1)).trans hw128_1), ((HB.out.cell (World.block_lt_of_cell? w _ hw128_2)).trans hw128_2), ((HB.out.cell (World.block_lt_of_cell? w _ hw128_3)).trans hw128_3), ((HB.out.cell (World.block_lt_of_cell? w _ hw128_4)).trans hw128_4)⟩ (fun hHeld => ?_)
        clear hK K
        refine norm_ (a' := ?_) ?_ ?_
        rotate_left
        ·show Act.put _ (some 25) _ = _
         simp only [Act.put, sA, sB, sC, i64_w, i32_w]
         rfl
        refine pA 9 26 ?_
        refine done_ (done_of HT_.out z1) ?_
        try go_wp2
        go_roundg k1
        case measure => have := HK1.out; omega
        case rel => exact ⟨(wrap64 (x5_1 + 1)), z2, H', ⟨by have := HK1.out; omega⟩, ⟨y3⟩⟩
       ·replace c8 := Bool.eq_false_iff.mpr c8
        subst c8
        rw [if_neg (show ¬ (false = true) by decide)] at H
        obtain rfl := sI H
        try go_wp2
        have ba := aM (bD HB.out)
        clear HB
        have HB := ba
        clear ba
        have p127 : 0 ≤ (x5_1 : Int) := oD z3
        have q127 : x5_1 < (l0.length : Int) := oD z3
        obtain ⟨ad127, e127, hx127_0, hx127_1, hx127_2, hx127_3, hx127_4⟩ := at_T58 dX.out x5_1 p127 q127
        have hw127_4 := hx127_4
        have hw127_3 := hx127_3
        have hw127_2 := hx127_2
        have hw127_1 := hx127_1
        have hw127_0 := hx127_0
        cases e127
        replace hx127_0 := (HB.out.cell (World.block_lt_of_cell? w _ hx127_0)).trans hx127_0
        replace hx127_1 := (HB.out.cell (World.block_lt_of_cell? w _ hx127_1)).trans hx127_1
        replace hx127_2 := (HB.out.cell (World.block_lt_of_cell? w _ hx127_2)).trans hx127_2
        replace hx127_3 := (HB.out.cell (World.block_lt_of_cell? w _ hx127_3)).trans hx127_3
        replace hx127_4 := (HB.out.cell (World.block_lt_of_cell? w _ hx127_4)).trans hx127_4
        replace p127 := eq_true p127
        replace q127 := eq_true q127
        have p128 : 0 ≤ (x5_1 : Int) := oD z3
        have q128 : x5_1 < (l1.length : Int) := oD z3
        obtain ⟨ad128, e128, hx128_0, hx128_1, hx128_2, hx128_3, hx128_4⟩ := at_T58 my.out x5_1 p128 q128
        have hw128_4 := hx128_4
        have hw128_3 := hx128_3
        have hw128_2 := hx128_2
        have hw128_1 := hx128_1
        have hw128_0 := hx128_0
        cases e128
        replace hx128_0 := (HB.out.cell (World.block_lt_of_cell? w _ hx128_0)).trans hx128_0
        replace hx128_1 := (HB.out.cell (World.block_lt_of_cell? w _ hx128_1)).trans hx128_1
        replace hx128_2 := (HB.out.cell (World.block_lt_of_cell? w _ hx128_2)).trans hx128_2
        replace hx128_3 := (HB.out.cell (World.block_lt_of_cell? w _ hx128_3)).trans hx128_3
        replace hx128_4 := (HB.out.cell (World.block_lt_of_cell? w _ hx128_4)).trans hx128_4
        replace p128 := eq_true p128
        replace q128 := eq_true q128
        refine start_ (n := 10) (S := fun w' => w'.cell? (ad127.add ((x5_1).toNat * 5)) = some (.int .i64 ((rd_T58 l0 x5_1).f0)) ∧ w'.cell? ⟨(ad127.add ((x5_1).toNat * 5)).block, (ad127.add ((x5_1).toNat * 5)).off + 1, none⟩ = some (.int .i64 ((rd_T58 l0 x5_1).f1)) ∧ w'.cell? ⟨(ad127.add ((x5_1).toNat * 5)).block, (ad127.add ((x5_1).toNat * 5)).off + 2, none⟩ = some (.string ((rd_T58 l0 x5_1).f2)) ∧ w'.cell? ⟨(ad127.add ((x5_1).toNat * 5)).block, (ad127.add ((x5_1).toNat * 5)).off + 3, none⟩ = some (.int .i64 ((rd_T58 l0 x5_1).f3)) ∧ w'.cell? ⟨(ad127.add ((x5_1).toNat * 5)).block, (ad127.add ((x5_1).toNat * 5)).off + 4, none⟩ = some (.int .i64 ((rd_T58 l0 x5_1).f4)) ∧ w'.cell? (ad128.add ((x5_1).toNat * 5)) = some (.int .i64 ((rd_T58 l1 x5_1).f0)) ∧ w'.cell? ⟨(ad128.add ((x5_1).toNat * 5)).block, (ad128.add ((x5_1).toNat * 5)).off + 1, none⟩ = some (.int .i64 ((rd_T58 l1 x5_1).f1)) ∧ w'.cell? ⟨(ad128.add ((x5_1).toNat * 5)).block, (ad128.add ((x5_1).toNat * 5)).off + 2, none⟩ = some (.string ((rd_T58 l1 x5_1).f2)) ∧ w'.cell? ⟨(ad128.add ((x5_1).toNat * 5)).block, (ad128.add ((x5_1).toNat * 5)).off + 3, none⟩ = some (.int .i64 ((rd_T58 l1 x5_1).f3)) ∧ w'.cell? ⟨(ad128.add ((x5_1).toNat * 5)).block, (ad128.add ((x5_1).toNat * 5)).off + 4, none⟩ = some (.int .i64 ((rd_T58 l1 x5_1).f4))) (ds := []) #[false, false, false, false, false, false, false, false, false, false] z1 rfl rfl ⟨((HB.out.cell (World.block_lt_of_cell? w _ hw127_0)).trans hw127_0), ((HB.out.cell (World.block_lt_of_cell? w _ hw127_1)).trans hw127_1), ((HB.out.cell (World.block_lt_of_cell? w _ hw127_2)).trans hw127_2), ((HB.out.cell (World.block_lt_of_cell? w _ hw127_3)).trans hw127_3), ((HB.out.cell (World.block_lt_of_cell? w _ hw127_4)).trans hw127_4), ((HB.out.cell (World.block_lt_of_cell? w _ hw128_0)).trans hw128_0), ((HB.out.cell (World.block_lt_of_cell? w _ hw128_1)).trans hw128_1), ((HB.out.cell (World.block_lt_of_cell? w _ hw128_2)).trans hw128_2), ((HB.out.cell (World.block_lt_of_cell? w _ hw128_3)).trans hw128_3), ((HB.out.cell (World.block_lt_of_cell? w _ hw128_4)).trans hw128_4)⟩ (fun hHeld => ?_); refine with_tabW laws_eqBoughS.tab6 laws_eqBoughS.bits6 (fun HT_ HW_ => ?_)
        generalize wr.drew = w11 at HB hx127_0 hx127_1 hx127_2 hx127_3 hx127_4 hx128_0 hx128_1 hx128_2 hx128_3 hx128_4 hHeld ⊢
        refine pA 0 17 ?_
        refine pA 1 18 ?_
        refine pA 2 19 ?_
        refine pA 4 21 ?_
        refine pA 5 22 ?_
        refine pA 6 23 ?_
        refine tA 3 20 ?_ (hy := by rintro w' ⟨s0, s1, s2, s3, s4, s5, s6, s7, s8, s9⟩; go_simp; with_reducible rfl)
        refine tA 7 24 ?_ (hy := by rintro w' ⟨s0, s1, s2, s3, s4, s5, s6, s7, s8, s9⟩; go_simp; with_reducible rfl)
        refine one_ (i := 8) (N := some 25) #[true, true, true, true, true, true, true, true, true, false] rfl rfl (one_of HT_.out z1) z0 (fun K hK => ?_)
        refine goes_ Try.func79 z1 rfl #[.agg #[.int .i64 ((rd_T58 l0 x5_1).f0), .int .i64 ((rd_T58 l0 x5_1).f1), .string ((rd_T58 l0 x5_1).f2), .int .i64 ((rd_T58 l0 x5_1).f3), .int .i64 ((rd_T58 l0 x5_1).f4)], .agg #[.int .i64 ((rd_T58 l1 x5_1).f0), .int .i64 ((rd_T58 l1 x5_1).f1), .string ((rd_T58 l1 x5_1).f2), .int .i64 ((rd_T58 l1 x5_1).f3), .int .i64 ((rd_T58 l1 x5_1).f4)]] (by rfl) rfl rfl z25 ?_
        with_reducible refine (laws_eqBough.calls ((rd_T58 l0 x5_1).f0) ((rd_T58 l0 x5_1).f1) ((rd_T58 l0 x5_1).f2) ((rd_T58 l0 x5_1).f3) ((rd_T58 l0 x5_1).f4) ((rd_T58 l1 x5_1).f0) ((rd_T58 l1 x5_1).f1) ((rd_T58 l1 x5_1).f2) ((rd_T58 l1 x5_1).f3) ((rd_T58 l1 x5_1).f4) false _ A7.out).mono ?_
        rintro e w12 ⟨rfl, hb⟩
        refine ⟨_, rfl, ?_⟩
        have ba := aM (ay z23 hb)
        clear HB
        have HB := ba
        clear ba
        (try clear hb)
        (try clear hb2)
        (try clear hk)
        (try clear hi)
        refine hK.out _ _ ⟨((HB.out.cell (World.block_lt_of_cell? w _ hw127_0)).trans hw127_0), ((HB.out.cell (World.block_lt_of_cell? w _ hw127_1)).trans hw127_1), ((HB.out.cell (World.block_lt_of_cell? w _ hw127_2)).trans hw127_2), ((HB.out.cell (World.block_lt_of_cell? w _ hw127_3)).trans hw127_3), ((HB.out.cell (World.block_lt_of_cell? w _ hw127_4)).trans hw127_4), ((HB.out.cell (World.block_lt_of_cell? w _ hw128_0)).trans hw128_0), ((HB.out.cell (World.block_lt_of_cell? w _ hw128_1)).trans hw128_1), ((HB.out.cell (World.block_lt_of_cell? w _ hw128_2)).trans hw128_2), ((HB.out.cell (World.block_lt_of_cell? w _ hw128_3)).trans hw128_3), ((HB.out.cell (World.block_lt_of_cell? w _ hw128_4)).trans hw128_4)⟩ (fun hHeld => ?_)
        clear hK K
        refine norm_ (a' := ?_) ?_ ?_
        rotate_left
        ·show Act.put _ (some 25) _ = _
         simp only [Act.put, sA, sB, sC, i64_w, i32_w]
         rfl
        refine pA 9 26 ?_
        refine done_ (done_of HT_.out z1) ?_
        try go_wp2
        go_ret
        exact ⟨y2, y3⟩
      ·rw [if_neg c6] at H
       exact absurd H (by simp)
     ·rw [if_neg c5] at H
      exact absurd H (by simp)
    ·rw [if_neg c4] at H
     have c4b0 : decide (x5_1 < (l0.length : Int)) = false := dF c4
     clear c4
     obtain rfl := sI H
     go_wp2
     go_ret
     exact ⟨y2, y3⟩
 ·rw [if_neg c3] at H
  have c3b0 : ((l0.length : Int) == (l1.length : Int)) = false := qF c3
  have c3b1 : ((l0.length : Int) != (l1.length : Int)) = true := nT c3
  have c3b2 : (l0.length == l1.length) = false := by first | simpa using c3 | (simp at c3 ⊢; omega)
  obtain rfl := sI H
  go_enter Try.func49, Try.ntmps49
  go_wp2
  go_ret
  exact ⟨y2, y3⟩

end Go.Proofs.Ytmkenlejdaphnaa.AFnExactSplitRope
