-- this session's own text: written by wip/tools/ownprint.py over the kit's print
import Derived.Test.YtblnnbaeiggmoaaAFnExactEditRopex0
namespace Go.Proofs.Ytblnnbaeiggmoaa.AFnExactEditRope
open Go.RowKit Go.Proofs.YtblnnbaeiggmoaaW.PrintWords Go.Proofs.YtblnnbaeiggmoaaW.PrintLast Go.Proofs.YtblnnbaeiggmoaaW.PrintMore
attribute [local go_sem] max2_int min2_int max_two min_two max_three min_three max_four min_four   -- for this text's walks alone
set_option linter.unusedVariables false
set_option linter.unusedSimpArgs false

/-! ### laws_szBough: function 58 -/
def laws_szBough.f (a0_0 : Int) (a0_1 : Int) (a0_2 : ByteArray) (a0_3 : Int) (a0_4 : Int) (a1 : Int) : Option (Int) := if (wrap64 (a1 - (a0_2.size : Int))) < 0 then (some (-1)) else (some (wrap64 (a1 - (a0_2.size : Int))))
set_option maxHeartbeats 8000000 in
set_option maxRecDepth 100000 in
theorem laws_szBough.calls (a0_0 : Int) (a0_1 : Int) (a0_2 : ByteArray) (a0_3 : Int) (a0_4 : Int) (a1 : Int) (r : Int) (w : World) (h : laws_szBough.f a0_0 a0_1 a0_2 a0_3 a0_4 a1 = some r) :
  Calls Try.prog 58 #[.agg #[.int .i64 a0_0, .int .i64 a0_1, .string a0_2, .int .i64 a0_3, .int .i64 a0_4], .int .i64 a1] w fun e w' => e = .returned (.int .i64 r) ∧ Below w.heap.size w w' := by
 have hu100 := Try.underlying100
 have HB := aM (Below.refl w.heap.size w)
 have H : (if (wrap64 (a1 - (a0_2.size : Int))) < 0 then (some (-1)) else (some (wrap64 (a1 - (a0_2.size : Int))))) = some r := h
 clear h
 by_cases c3 : (wrap64 (a1 - (a0_2.size : Int))) < 0
 ·rw [if_pos c3] at H
  have c3b0 : decide ((wrap64 (a1 - (a0_2.size : Int))) < 0) = true := dT c3
  clear c3
  obtain rfl := sI H
  go_enter Try.func58, Try.ntmps58
  go_wp2_with (first | ((with_reducible refine aJ (N := 2) rfl ?_); refine aK ?hg (N := 2) ?hd (cs := #[.int .i64 a0_0, .int .i64 a0_1, .string a0_2, .int .i64 a0_3, .int .i64 a0_4]) (t := 100) ?hr ?_; (case hd => rfl); (case hg => rfl); (case hr => first | (go_simp; done) | (go_simp; rfl)); intro dD hg w4 hbox hb; have a6 := aM (ay z11 hb); have ba := aM (hbox); have bb := aM ((by rw [hg]; exact (az z11) : w.heap.size ≤ dD)); have bf := aM ((by rw [hg]; exact (az z11) : w.heap.size ≤ dD)); clear HB; have HB := a6; have cS := ba; have GW101 := bb; have lU := bf; clear a6 ba bb bf; clear hb hbox hg; have hcz5_0 : w4.cell? ⟨dD, 0, none⟩ = some (.int .i64 a0_0) := (bC cS.out 0).trans rfl; have hcz5_1 : w4.cell? ⟨dD, 1, none⟩ = some (.int .i64 a0_1) := (bC cS.out 1).trans rfl; have hcz5_2 : w4.cell? ⟨dD, 2, none⟩ = some (.string a0_2) := (bC cS.out 2).trans rfl; have hcz5_3 : w4.cell? ⟨dD, 3, none⟩ = some (.int .i64 a0_3) := (bC cS.out 3).trans rfl; have hcz5_4 : w4.cell? ⟨dD, 4, none⟩ = some (.int .i64 a0_4) := (bC cS.out 4).trans rfl; have hfz5_0 := bF cS.out 0; have hfz5_1 := bF cS.out 1; have hfz5_2 := bF cS.out 2; have hfz5_3 := bF cS.out 3; have hfz5_4 := bF cS.out 4))
  go_ret
  exact ⟨y3, by repeat (first | (with_reducible first | exact HB.out | apply bA | apply pD | apply bD | refine ax ?_ lU.out) | exact HB.out)⟩
 ·rw [if_neg c3] at H
  have c3b0 : decide ((wrap64 (a1 - (a0_2.size : Int))) < 0) = false := dF c3
  clear c3
  obtain rfl := sI H
  go_enter Try.func58, Try.ntmps58
  go_wp2_with (first | ((with_reducible refine aJ (N := 2) rfl ?_); refine aK ?hg (N := 2) ?hd (cs := #[.int .i64 a0_0, .int .i64 a0_1, .string a0_2, .int .i64 a0_3, .int .i64 a0_4]) (t := 100) ?hr ?_; (case hd => rfl); (case hg => rfl); (case hr => first | (go_simp; done) | (go_simp; rfl)); intro dD hg w6 hbox hb; have a6 := aM (ay z11 hb); have ba := aM (hbox); have bb := aM ((by rw [hg]; exact (az z11) : w.heap.size ≤ dD)); have bf := aM ((by rw [hg]; exact (az z11) : w.heap.size ≤ dD)); clear HB; have HB := a6; have cS := ba; have GW101 := bb; have lU := bf; clear a6 ba bb bf; clear hb hbox hg; have ev : w6.cell? ⟨dD, 0, none⟩ = some (.int .i64 a0_0) := (bC cS.out 0).trans rfl; have eu : w6.cell? ⟨dD, 1, none⟩ = some (.int .i64 a0_1) := (bC cS.out 1).trans rfl; have es : w6.cell? ⟨dD, 2, none⟩ = some (.string a0_2) := (bC cS.out 2).trans rfl; have e8 : w6.cell? ⟨dD, 3, none⟩ = some (.int .i64 a0_3) := (bC cS.out 3).trans rfl; have e7 : w6.cell? ⟨dD, 4, none⟩ = some (.int .i64 a0_4) := (bC cS.out 4).trans rfl; have er := bF cS.out 0; have ep := bF cS.out 1; have en := bF cS.out 2; have eZ := bF cS.out 3; have eY := bF cS.out 4))
  go_ret
  exact ⟨y3, by repeat (first | (with_reducible first | exact HB.out | apply bA | apply pD | apply bD | refine ax ?_ lU.out) | exact HB.out)⟩

/-! ### laws_szBoughS: function 22 -/
def laws_szBoughS.l0 : Nat → List (S100) → Int → Int → Option (Int)
 | 0, _, _, _ => none
 | k + 1, x0, x1, x5 => if x5 < (x0.length : Int) then (if 0 ≤ x5 then ((laws_szBough.f ((rd_T100 x0 x5).f0) ((rd_T100 x0 x5).f1) ((rd_T100 x0 x5).f2) ((rd_T100 x0 x5).f3) ((rd_T100 x0 x5).f4) x1).bind fun hX => (if hX < 0 then (some (-1)) else (laws_szBoughS.l0 k x0 hX (wrap64 (x5 + 1))))) else (none)) else (some x1)
def laws_szBoughS.f (k : Nat) (l0 : List (S100)) (a1 : Int) : Option (Int) := if (wrap64 (a1 - (l0.length : Int))) < 0 then (some (-1)) else (laws_szBoughS.l0 k l0 (wrap64 (a1 - (l0.length : Int))) 0)
theorem laws_szBoughS.mono_l : ∀ k, (∀ y0 y1 y2, LeO (laws_szBoughS.l0 k y0 y1 y2) (laws_szBoughS.l0 (k + 1) y0 y1 y2))
 | 0 => fun _ _ _ r h => by simp [laws_szBoughS.l0] at h
 | k + 1 => by
  have ih0 := laws_szBoughS.mono_l k
  ·intro y0 y1 y2
   unfold laws_szBoughS.l0
   repeat' first
   | (with_reducible exact ih0 _ _ _)
   | (with_reducible exact LeO.refl _)
   | (with_reducible exact LeO.none _)
   | (with_reducible refine LeO.ite ?_ ?_)
   | (with_reducible refine LeO.bind ?_ (fun _ => ?_))
   | exact ih0 _ _ _
   | exact LeO.none _
   | refine LeO.ite ?_ ?_
   | refine LeO.bind ?_ (fun _ => ?_)
theorem laws_szBoughS.mono : ∀ a0 a1 k, LeO (laws_szBoughS.f k a0 a1) (laws_szBoughS.f (k + 1) a0 a1) := by
 intro a0 a1 k
 have ih0 := laws_szBoughS.mono_l k
 unfold laws_szBoughS.f
 repeat' first
   | (with_reducible exact ih0 _ _ _)
   | (with_reducible exact LeO.refl _)
   | (with_reducible exact LeO.none _)
   | (with_reducible refine LeO.ite ?_ ?_)
   | (with_reducible refine LeO.bind ?_ (fun _ => ?_))
   | exact ih0 _ _ _
   | exact LeO.none _
   | refine LeO.ite ?_ ?_
   | refine LeO.bind ?_ (fun _ => ?_)
set_option maxHeartbeats 8000000 in
set_option maxRecDepth 100000 in
theorem laws_szBoughS.calls (k : Nat) (A0 : Option Addr) (c0 : Nat) (l0 : List (S100)) (a1 : Int) (r : Int) (w : World) (hr0 : Kd.C k100 w A0 l0.length l0) (hc0 : l0.length ≤ c0) (h : laws_szBoughS.f k l0 a1 = some r) :
  Calls Try.prog 22 #[.slice A0 l0.length c0, .int .i64 a1] w fun e w' => e = .returned (.int .i64 r) ∧ Below w.heap.size w w' := by
 have hu100 := Try.underlying100
 have bY := aM hr0
 have cQ := aM hc0
 clear hr0 hc0
 have HB := aM (Below.refl w.heap.size w)
 have H : (if (wrap64 (a1 - (l0.length : Int))) < 0 then (some (-1)) else (laws_szBoughS.l0 k l0 (wrap64 (a1 - (l0.length : Int))) 0)) = some r := h
 clear h
 by_cases c3 : (wrap64 (a1 - (l0.length : Int))) < 0
 ·rw [if_pos c3] at H
  have c3b0 : decide ((wrap64 (a1 - (l0.length : Int))) < 0) = true := dT c3
  clear c3
  obtain rfl := sI H
  go_enter Try.func22, Try.ntmps22
  go_wp2
  go_ret
  exact ⟨y3, y4⟩
 ·rw [if_neg c3] at H
  have c3b0 : decide ((wrap64 (a1 - (l0.length : Int))) < 0) = false := dF c3
  clear c3
  have H' := aM H
  clear H
  go_enter Try.func22, Try.ntmps22
  go_wp2
  go_loopg [1, 5] k (fun kq v1 v5 w' => ∃ (x1_1 : Int) (x5_1 : Int), v1 = .int .i64 x1_1 ∧ v5 = .int .i64 x5_1 ∧ Aside0 (laws_szBoughS.l0 kq l0 x1_1 x5_1 = some r) ∧ Aside0 (kq ≤ k) ∧ Aside0 (Below w.heap.size w w'))
  case atStart => exact ⟨(wrap64 (a1 - (l0.length : Int))), (0), z1, z1, H', ⟨Nat.le_refl _⟩, ⟨y4⟩⟩
  case round =>
   clear H'
   try clear c2
   try clear p2
   try clear c3
   try clear c3b0
   obtain ⟨x1_1, x5_1, rfl, rfl, HA, HK1, HB⟩ := hrel
   cases gk with
   | zero => exact absurd HA.out (by simp [laws_szBoughS.l0])
   | succ k1 =>
    have H := HA.out
    clear HA
    simp only [laws_szBoughS.l0] at H
    by_cases c4 : x5_1 < (l0.length : Int)
    ·rw [if_pos c4] at H
     have c4b0 : decide (x5_1 < (l0.length : Int)) = true := dT c4
     clear c4
     by_cases c5 : 0 ≤ x5_1
     ·rw [if_pos c5] at H
      have c5b0 : decide (0 ≤ x5_1) = true := dT c5
      clear c5
      replace H := oB H
      obtain ⟨hX, fU, H⟩ := H
      try dsimp only at H
      have A6 := aM fU
      clear fU
      by_cases c7 : hX < 0
      ·rw [if_pos c7] at H
       have c7b0 : decide (hX < 0) = true := dT c7
       clear c7
       obtain rfl := sI H
       have p102 : 0 ≤ (x5_1 : Int) := oD z2
       have q102 : x5_1 < (l0.length : Int) := oD z2
       obtain ⟨ad102, e102, hx102_0, hx102_1, hx102_2, hx102_3, hx102_4⟩ := at_T100 bY.out x5_1 p102 q102
       cases e102
       replace hx102_0 := (HB.out.cell (World.block_lt_of_cell? w _ hx102_0)).trans hx102_0
       replace hx102_1 := (HB.out.cell (World.block_lt_of_cell? w _ hx102_1)).trans hx102_1
       replace hx102_2 := (HB.out.cell (World.block_lt_of_cell? w _ hx102_2)).trans hx102_2
       replace hx102_3 := (HB.out.cell (World.block_lt_of_cell? w _ hx102_3)).trans hx102_3
       replace hx102_4 := (HB.out.cell (World.block_lt_of_cell? w _ hx102_4)).trans hx102_4
       replace p102 := eq_true p102
       replace q102 := eq_true q102
       go_wp2_with (first | ((with_reducible refine aI (f := 58) rfl ?_); refine aN (some 23) rfl rfl Try.func58 z0 rfl #[.agg #[.int .i64 ((rd_T100 l0 x5_1).f0), .int .i64 ((rd_T100 l0 x5_1).f1), .string ((rd_T100 l0 x5_1).f2), .int .i64 ((rd_T100 l0 x5_1).f3), .int .i64 ((rd_T100 l0 x5_1).f4)], .int .i64 x1_1] rfl z12 ?_; (with_reducible refine (laws_szBough.calls ((rd_T100 l0 x5_1).f0) ((rd_T100 l0 x5_1).f1) ((rd_T100 l0 x5_1).f2) ((rd_T100 l0 x5_1).f3) ((rd_T100 l0 x5_1).f4) x1_1 hX _ A6.out).mono ?_); rintro e w8 ⟨rfl, hb⟩; refine ⟨_, rfl, ?_⟩; have a6 := aM (ay z11 hb); clear HB; have HB := a6; clear a6; (try clear hb); (try clear hb2); (try clear hk); (try clear hi)))
       go_ret
       exact ⟨y3, y4⟩
      ·rw [if_neg c7] at H
       have c7b0 : decide (hX < 0) = false := dF c7
       clear c7
       have H' := aM H
       clear H
       have p102 : 0 ≤ (x5_1 : Int) := oD z2
       have q102 : x5_1 < (l0.length : Int) := oD z2
       obtain ⟨ad102, e102, hx102_0, hx102_1, hx102_2, hx102_3, hx102_4⟩ := at_T100 bY.out x5_1 p102 q102
       cases e102
       replace hx102_0 := (HB.out.cell (World.block_lt_of_cell? w _ hx102_0)).trans hx102_0
       replace hx102_1 := (HB.out.cell (World.block_lt_of_cell? w _ hx102_1)).trans hx102_1
       replace hx102_2 := (HB.out.cell (World.block_lt_of_cell? w _ hx102_2)).trans hx102_2
       replace hx102_3 := (HB.out.cell (World.block_lt_of_cell? w _ hx102_3)).trans hx102_3
       replace hx102_4 := (HB.out.cell (World.block_lt_of_cell? w _ hx102_4)).trans hx102_4
       replace p102 := eq_true p102
       replace q102 := eq_true q102
       go_wp2_with (first | ((with_reducible refine aI (f := 58) rfl ?_); refine aN (some 23) rfl rfl Try.func58 z0 rfl #[.agg #[.int .i64 ((rd_T100 l0 x5_1).f0), .int .i64 ((rd_T100 l0 x5_1).f1), .string ((rd_T100 l0 x5_1).f2), .int .i64 ((rd_T100 l0 x5_1).f3), .int .i64 ((rd_T100 l0 x5_1).f4)], .int .i64 x1_1] rfl z12 ?_; (with_reducible refine (laws_szBough.calls ((rd_T100 l0 x5_1).f0) ((rd_T100 l0 x5_1).f1) ((rd_T100 l0 x5_1).f2) ((rd_T100 l0 x5_1).f3) ((rd_T100 l0 x5_1).f4) x1_1 hX _ A6.out).mono ?_); rintro e w9 ⟨rfl, hb⟩; refine ⟨_, rfl, ?_⟩; have a6 := aM (ay z11 hb); clear HB; have HB := a6; clear a6; (try clear hb); (try clear hb2); (try clear hk); (try clear hi)))
       go_roundg k1
       case measure => have := HK1.out; omega
       case rel => exact ⟨(hX), (wrap64 (x5_1 + 1)), z1, z1, H', ⟨y0⟩, ⟨y4⟩⟩
     ·rw [if_neg c5] at H
      exact absurd H (by simp)
    ·rw [if_neg c4] at H
     have c4b0 : decide (x5_1 < (l0.length : Int)) = false := dF c4
     clear c4
     obtain rfl := sI H
     go_wp2
     go_ret
     exact ⟨y3, y4⟩

/-! ### laws_szRope: function 5 -/
def laws_szRope.f (k : Nat) (l0_0 : List (S100)) (a1 : Int) : Option (Int) := (laws_szBoughS.f k l0_0 a1).bind fun gy => (if gy < 0 then (some (-1)) else (some gy))
theorem laws_szRope.mono : ∀ a0 a1 k, LeO (laws_szRope.f k a0 a1) (laws_szRope.f (k + 1) a0 a1) := by
 intro a0 a1 k
 unfold laws_szRope.f
 repeat' first
   | (with_reducible exact laws_szBoughS.mono _ _ _)
   | (with_reducible exact LeO.refl _)
   | (with_reducible exact LeO.none _)
   | (with_reducible refine LeO.ite ?_ ?_)
   | (with_reducible refine LeO.bind ?_ (fun _ => ?_))
   | exact laws_szBoughS.mono _ _ _
   | exact LeO.none _
   | refine LeO.ite ?_ ?_
   | refine LeO.bind ?_ (fun _ => ?_)
set_option maxHeartbeats 8000000 in
set_option maxRecDepth 100000 in
theorem laws_szRope.calls (k : Nat) (bj : Option Addr) (bk : Nat) (l0_0 : List (S100)) (a1 : Int) (r : Int) (w : World) (hr0_0 : Kd.C k100 w bj l0_0.length l0_0) (hc0_0 : l0_0.length ≤ bk) (h : laws_szRope.f k l0_0 a1 = some r) :
  Calls Try.prog 5 #[.agg #[.slice bj l0_0.length bk], .int .i64 a1] w fun e w' => e = .returned (.int .i64 r) ∧ Below w.heap.size w w' := by
 have hu24 := Try.underlying24
 have cI := aM hr0_0
 have cM := aM hc0_0
 clear hr0_0 hc0_0
 have HB := aM (Below.refl w.heap.size w)
 have H : ((laws_szBoughS.f k l0_0 a1).bind fun gy => (if gy < 0 then (some (-1)) else (some gy))) = some r := h
 clear h
 replace H := oB H
 obtain ⟨gy, fT, H⟩ := H
 try dsimp only at H
 have A3 := aM fT
 clear fT
 by_cases c4 : gy < 0
 ·rw [if_pos c4] at H
  have c4b0 : decide (gy < 0) = true := dT c4
  clear c4
  obtain rfl := sI H
  go_enter Try.func5, Try.ntmps5
  go_wp2_with (first | ((with_reducible refine aJ (N := 2) rfl ?_); refine aK ?hg (N := 2) ?hd (cs := #[.slice bj l0_0.length bk]) (t := 24) ?hr ?_; (case hd => rfl); (case hg => rfl); (case hr => first | (go_simp; done) | (go_simp; rfl)); intro fF hg w5 hbox hb; have a6 := aM (ay z11 hb); have ba := aM (hbox); have bb := aM ((by rw [hg]; exact (az z11) : w.heap.size ≤ fF)); have bf := aM ((by rw [hg]; exact (az z11) : w.heap.size ≤ fF)); clear HB; have HB := a6; have eD := ba; have GW104 := bb; have jG := bf; clear a6 ba bb bf; clear hb hbox hg; have dL : w5.cell? ⟨fF, 0, none⟩ = some (.slice bj l0_0.length bk) := (bC eD.out 0).trans rfl; have dK := bF eD.out 0) | ((with_reducible refine aI (f := 22) rfl ?_); refine aN (some 8) rfl rfl Try.func22 z0 rfl #[.slice bj l0_0.length bk, .int .i64 a1] rfl z12 ?_; (with_reducible refine (laws_szBoughS.calls k _ _ l0_0 a1 gy _ ?side1 ?side2 A3.out).mono ?_); (case side1 => repeat (first | exact (aD cI.out HB.out) | (with_reducible refine aE ?_ _) | (with_reducible refine aG ?_ _) | (with_reducible refine aH ?_))); (case side2 => exact cM.out); rintro e w7 ⟨rfl, hb⟩; refine ⟨_, rfl, ?_⟩; have a6 := aM (af (g := fF) (o := .cells #[.slice bj l0_0.length bk] 24 (0, 0)) (by (with_reducible repeat (first | refine ar ?_ _ | refine aq ?_ | refine au ?_ _)); exact eD.out) hb); have ba := aM (ay (by repeat (first | (with_reducible first | exact HB.out | apply bA | apply pD | apply bD | refine ax ?_ jG.out) | exact HB.out)) hb); clear eD; clear HB; have eD := a6; have HB := ba; clear a6 ba; (try clear hb); (try clear hb2); (try clear hk); (try clear hi)))
  go_ret
  exact ⟨y3, by repeat (first | (with_reducible first | exact HB.out | apply bA | apply pD | apply bD | refine ax ?_ jG.out) | exact HB.out)⟩
 ·rw [if_neg c4] at H
  have c4b0 : decide (gy < 0) = false := dF c4
  clear c4
  obtain rfl := sI H
  go_enter Try.func5, Try.ntmps5
  go_wp2_with (first | ((with_reducible refine aJ (N := 2) rfl ?_); refine aK ?hg (N := 2) ?hd (cs := #[.slice bj l0_0.length bk]) (t := 24) ?hr ?_; (case hd => rfl); (case hg => rfl); (case hr => first | (go_simp; done) | (go_simp; rfl)); intro fF hg w8 hbox hb; have a6 := aM (ay z11 hb); have ba := aM (hbox); have bb := aM ((by rw [hg]; exact (az z11) : w.heap.size ≤ fF)); have bf := aM ((by rw [hg]; exact (az z11) : w.heap.size ≤ fF)); clear HB; have HB := a6; have eD := ba; have GW104 := bb; have jG := bf; clear a6 ba bb bf; clear hb hbox hg; have dp : w8.cell? ⟨fF, 0, none⟩ = some (.slice bj l0_0.length bk) := (bC eD.out 0).trans rfl; have dn := bF eD.out 0) | ((with_reducible refine aI (f := 22) rfl ?_); refine aN (some 8) rfl rfl Try.func22 z0 rfl #[.slice bj l0_0.length bk, .int .i64 a1] rfl z12 ?_; (with_reducible refine (laws_szBoughS.calls k _ _ l0_0 a1 gy _ ?side1 ?side2 A3.out).mono ?_); (case side1 => repeat (first | exact (aD cI.out HB.out) | (with_reducible refine aE ?_ _) | (with_reducible refine aG ?_ _) | (with_reducible refine aH ?_))); (case side2 => exact cM.out); rintro e w10 ⟨rfl, hb⟩; refine ⟨_, rfl, ?_⟩; have a6 := aM (af (g := fF) (o := .cells #[.slice bj l0_0.length bk] 24 (0, 0)) (by (with_reducible repeat (first | refine ar ?_ _ | refine aq ?_ | refine au ?_ _)); exact eD.out) hb); have ba := aM (ay (by repeat (first | (with_reducible first | exact HB.out | apply bA | apply pD | apply bD | refine ax ?_ jG.out) | exact HB.out)) hb); clear eD; clear HB; have eD := a6; have HB := ba; clear a6 ba; (try clear hb); (try clear hb2); (try clear hk); (try clear hi)))
  go_ret
  exact ⟨y3, by repeat (first | (with_reducible first | exact HB.out | apply bA | apply pD | apply bD | refine ax ?_ jG.out) | exact HB.out)⟩

/-! ### laws_szPart: function 23 -/
def laws_szPart.f (a0_0 : Int) (a0_1 : ByteArray) (a0_2 : ByteArray) (a1 : Int) : Option (Int) := if (wrap64 (a1 - (a0_1.size : Int))) < 0 then (some (-1)) else (if (wrap64 ((wrap64 (a1 - (a0_1.size : Int))) - (a0_2.size : Int))) < 0 then (some (-1)) else (some (wrap64 ((wrap64 (a1 - (a0_1.size : Int))) - (a0_2.size : Int)))))
set_option maxHeartbeats 8000000 in
set_option maxRecDepth 100000 in
theorem laws_szPart.calls (a0_0 : Int) (a0_1 : ByteArray) (a0_2 : ByteArray) (a1 : Int) (r : Int) (w : World) (h : laws_szPart.f a0_0 a0_1 a0_2 a1 = some r) :
  Calls Try.prog 23 #[.agg #[.int .i64 a0_0, .string a0_1, .string a0_2], .int .i64 a1] w fun e w' => e = .returned (.int .i64 r) ∧ Below w.heap.size w w' := by
 have hu55 := Try.underlying55
 have HB := aM (Below.refl w.heap.size w)
 have H : (if (wrap64 (a1 - (a0_1.size : Int))) < 0 then (some (-1)) else (if (wrap64 ((wrap64 (a1 - (a0_1.size : Int))) - (a0_2.size : Int))) < 0 then (some (-1)) else (some (wrap64 ((wrap64 (a1 - (a0_1.size : Int))) - (a0_2.size : Int)))))) = some r := h
 clear h
 by_cases c3 : (wrap64 (a1 - (a0_1.size : Int))) < 0
 ·rw [if_pos c3] at H
  have c3b0 : decide ((wrap64 (a1 - (a0_1.size : Int))) < 0) = true := dT c3
  clear c3
  obtain rfl := sI H
  go_enter Try.func23, Try.ntmps23
  go_wp2_with (first | ((with_reducible refine aJ (N := 2) rfl ?_); refine aK ?hg (N := 2) ?hd (cs := #[.int .i64 a0_0, .string a0_1, .string a0_2]) (t := 55) ?hr ?_; (case hd => rfl); (case hg => rfl); (case hr => first | (go_simp; done) | (go_simp; rfl)); intro dk hg w4 hbox hb; have a6 := aM (ay z11 hb); have ba := aM (hbox); have bb := aM ((by rw [hg]; exact (az z11) : w.heap.size ≤ dk)); have bf := aM ((by rw [hg]; exact (az z11) : w.heap.size ≤ dk)); clear HB; have HB := a6; have cY := ba; have mB := bb; have jF := bf; clear a6 ba bb bf; clear hb hbox hg; have hcz5_0 : w4.cell? ⟨dk, 0, none⟩ = some (.int .i64 a0_0) := (bC cY.out 0).trans rfl; have hcz5_1 : w4.cell? ⟨dk, 1, none⟩ = some (.string a0_1) := (bC cY.out 1).trans rfl; have hcz5_2 : w4.cell? ⟨dk, 2, none⟩ = some (.string a0_2) := (bC cY.out 2).trans rfl; have hfz5_0 := bF cY.out 0; have hfz5_1 := bF cY.out 1; have hfz5_2 := bF cY.out 2))
  go_ret
  exact ⟨y3, by repeat (first | (with_reducible first | exact HB.out | apply bA | apply pD | apply bD | refine ax ?_ jF.out) | exact HB.out)⟩
 ·rw [if_neg c3] at H
  have c3b0 : decide ((wrap64 (a1 - (a0_1.size : Int))) < 0) = false := dF c3
  clear c3
  by_cases c6 : (wrap64 ((wrap64 (a1 - (a0_1.size : Int))) - (a0_2.size : Int))) < 0
  ·rw [if_pos c6] at H
   have c6b0 : decide ((wrap64 ((wrap64 (a1 - (a0_1.size : Int))) - (a0_2.size : Int))) < 0) = true := dT c6
   clear c6
   obtain rfl := sI H
   go_enter Try.func23, Try.ntmps23
   go_wp2_with (first | ((with_reducible refine aJ (N := 2) rfl ?_); refine aK ?hg (N := 2) ?hd (cs := #[.int .i64 a0_0, .string a0_1, .string a0_2]) (t := 55) ?hr ?_; (case hd => rfl); (case hg => rfl); (case hr => first | (go_simp; done) | (go_simp; rfl)); intro dk hg w7 hbox hb; have a6 := aM (ay z11 hb); have ba := aM (hbox); have bb := aM ((by rw [hg]; exact (az z11) : w.heap.size ≤ dk)); have bf := aM ((by rw [hg]; exact (az z11) : w.heap.size ≤ dk)); clear HB; have HB := a6; have cY := ba; have mB := bb; have jF := bf; clear a6 ba bb bf; clear hb hbox hg; have e6 : w7.cell? ⟨dk, 0, none⟩ = some (.int .i64 a0_0) := (bC cY.out 0).trans rfl; have gE : w7.cell? ⟨dk, 1, none⟩ = some (.string a0_1) := (bC cY.out 1).trans rfl; have gD : w7.cell? ⟨dk, 2, none⟩ = some (.string a0_2) := (bC cY.out 2).trans rfl; have eX := bF cY.out 0; have gC := bF cY.out 1; have gB := bF cY.out 2))
   go_ret
   exact ⟨y3, by repeat (first | (with_reducible first | exact HB.out | apply bA | apply pD | apply bD | refine ax ?_ jF.out) | exact HB.out)⟩
  ·rw [if_neg c6] at H
   have c6b0 : decide ((wrap64 ((wrap64 (a1 - (a0_1.size : Int))) - (a0_2.size : Int))) < 0) = false := dF c6
   clear c6
   obtain rfl := sI H
   go_enter Try.func23, Try.ntmps23
   go_wp2_with (first | ((with_reducible refine aJ (N := 2) rfl ?_); refine aK ?hg (N := 2) ?hd (cs := #[.int .i64 a0_0, .string a0_1, .string a0_2]) (t := 55) ?hr ?_; (case hd => rfl); (case hg => rfl); (case hr => first | (go_simp; done) | (go_simp; rfl)); intro dk hg w9 hbox hb; have a6 := aM (ay z11 hb); have ba := aM (hbox); have bb := aM ((by rw [hg]; exact (az z11) : w.heap.size ≤ dk)); have bf := aM ((by rw [hg]; exact (az z11) : w.heap.size ≤ dk)); clear HB; have HB := a6; have cY := ba; have mB := bb; have jF := bf; clear a6 ba bb bf; clear hb hbox hg; have eh : w9.cell? ⟨dk, 0, none⟩ = some (.int .i64 a0_0) := (bC cY.out 0).trans rfl; have eg : w9.cell? ⟨dk, 1, none⟩ = some (.string a0_1) := (bC cY.out 1).trans rfl; have ee : w9.cell? ⟨dk, 2, none⟩ = some (.string a0_2) := (bC cY.out 2).trans rfl; have ea := bF cY.out 0; have d8 := bF cY.out 1; have d7 := bF cY.out 2))
   go_ret
   exact ⟨y3, by repeat (first | (with_reducible first | exact HB.out | apply bA | apply pD | apply bD | refine ax ?_ jF.out) | exact HB.out)⟩

/-! ### laws_szPartS: function 6 -/
def laws_szPartS.l0 : Nat → List (S55) → Int → Int → Option (Int)
 | 0, _, _, _ => none
 | k + 1, x0, x1, x5 => if x5 < (x0.length : Int) then (if 0 ≤ x5 then ((laws_szPart.f ((rd_T55 x0 x5).f0) ((rd_T55 x0 x5).f1) ((rd_T55 x0 x5).f2) x1).bind fun hV => (if hV < 0 then (some (-1)) else (laws_szPartS.l0 k x0 hV (wrap64 (x5 + 1))))) else (none)) else (some x1)
def laws_szPartS.f (k : Nat) (l0 : List (S55)) (a1 : Int) : Option (Int) := if (wrap64 (a1 - (l0.length : Int))) < 0 then (some (-1)) else (laws_szPartS.l0 k l0 (wrap64 (a1 - (l0.length : Int))) 0)
theorem laws_szPartS.mono_l : ∀ k, (∀ y0 y1 y2, LeO (laws_szPartS.l0 k y0 y1 y2) (laws_szPartS.l0 (k + 1) y0 y1 y2))
 | 0 => fun _ _ _ r h => by simp [laws_szPartS.l0] at h
 | k + 1 => by
  have ih0 := laws_szPartS.mono_l k
  ·intro y0 y1 y2
   unfold laws_szPartS.l0
   repeat' first
   | (with_reducible exact ih0 _ _ _)
   | (with_reducible exact LeO.refl _)
   | (with_reducible exact LeO.none _)
   | (with_reducible refine LeO.ite ?_ ?_)
   | (with_reducible refine LeO.bind ?_ (fun _ => ?_))
   | exact ih0 _ _ _
   | exact LeO.none _
   | refine LeO.ite ?_ ?_
   | refine LeO.bind ?_ (fun _ => ?_)
theorem laws_szPartS.mono : ∀ a0 a1 k, LeO (laws_szPartS.f k a0 a1) (laws_szPartS.f (k + 1) a0 a1) := by
 intro a0 a1 k
 have ih0 := laws_szPartS.mono_l k
 unfold laws_szPartS.f
 repeat' first
   | (with_reducible exact ih0 _ _ _)
   | (with_reducible exact LeO.refl _)
   | (with_reducible exact LeO.none _)
   | (with_reducible refine LeO.ite ?_ ?_)
   | (with_reducible refine LeO.bind ?_ (fun _ => ?_))
   | exact ih0 _ _ _
   | exact LeO.none _
   | refine LeO.ite ?_ ?_
   | refine LeO.bind ?_ (fun _ => ?_)
set_option maxHeartbeats 8000000 in
set_option maxRecDepth 100000 in
theorem laws_szPartS.calls (k : Nat) (A0 : Option Addr) (c0 : Nat) (l0 : List (S55)) (a1 : Int) (r : Int) (w : World) (hr0 : Kd.C k55 w A0 l0.length l0) (hc0 : l0.length ≤ c0) (h : laws_szPartS.f k l0 a1 = some r) :
  Calls Try.prog 6 #[.slice A0 l0.length c0, .int .i64 a1] w fun e w' => e = .returned (.int .i64 r) ∧ Below w.heap.size w w' := by
 have hu55 := Try.underlying55
 have bY := aM hr0
 have cQ := aM hc0
 clear hr0 hc0
 have HB := aM (Below.refl w.heap.size w)
 have H : (if (wrap64 (a1 - (l0.length : Int))) < 0 then (some (-1)) else (laws_szPartS.l0 k l0 (wrap64 (a1 - (l0.length : Int))) 0)) = some r := h
 clear h
 by_cases c3 : (wrap64 (a1 - (l0.length : Int))) < 0
 ·rw [if_pos c3] at H
  have c3b0 : decide ((wrap64 (a1 - (l0.length : Int))) < 0) = true := dT c3
  clear c3
  obtain rfl := sI H
  go_enter Try.func6, Try.ntmps6
  go_wp2
  go_ret
  exact ⟨y3, y4⟩
 ·rw [if_neg c3] at H
  have c3b0 : decide ((wrap64 (a1 - (l0.length : Int))) < 0) = false := dF c3
  clear c3
  have H' := aM H
  clear H
  go_enter Try.func6, Try.ntmps6
  go_wp2
  go_loopg [1, 5] k (fun kq v1 v5 w' => ∃ (x1_1 : Int) (x5_1 : Int), v1 = .int .i64 x1_1 ∧ v5 = .int .i64 x5_1 ∧ Aside0 (laws_szPartS.l0 kq l0 x1_1 x5_1 = some r) ∧ Aside0 (kq ≤ k) ∧ Aside0 (Below w.heap.size w w'))
  case atStart => exact ⟨(wrap64 (a1 - (l0.length : Int))), (0), z1, z1, H', ⟨Nat.le_refl _⟩, ⟨y4⟩⟩
  case round =>
   clear H'
   try clear p2
   try clear c3
   try clear c3b0
   obtain ⟨x1_1, x5_1, rfl, rfl, HA, HK1, HB⟩ := hrel
   cases gk with
   | zero => exact absurd HA.out (by simp [laws_szPartS.l0])
   | succ k1 =>
    have H := HA.out
    clear HA
    simp only [laws_szPartS.l0] at H
    by_cases c4 : x5_1 < (l0.length : Int)
    ·rw [if_pos c4] at H
     have c4b0 : decide (x5_1 < (l0.length : Int)) = true := dT c4
     clear c4
     by_cases c5 : 0 ≤ x5_1
     ·rw [if_pos c5] at H
      have c5b0 : decide (0 ≤ x5_1) = true := dT c5
      clear c5
      replace H := oB H
      obtain ⟨hV, fU, H⟩ := H
      try dsimp only at H
      have A6 := aM fU
      clear fU
      by_cases c7 : hV < 0
      ·rw [if_pos c7] at H
       have c7b0 : decide (hV < 0) = true := dT c7
       clear c7
       obtain rfl := sI H
       have p107 : 0 ≤ (x5_1 : Int) := oD z2
       have q107 : x5_1 < (l0.length : Int) := oD z2
       obtain ⟨ad107, e107, hx107_0, hx107_1, hx107_2⟩ := at_T55 bY.out x5_1 p107 q107
       cases e107
       replace hx107_0 := (HB.out.cell (World.block_lt_of_cell? w _ hx107_0)).trans hx107_0
       replace hx107_1 := (HB.out.cell (World.block_lt_of_cell? w _ hx107_1)).trans hx107_1
       replace hx107_2 := (HB.out.cell (World.block_lt_of_cell? w _ hx107_2)).trans hx107_2
       replace p107 := eq_true p107
       replace q107 := eq_true q107
       go_wp2_with (first | ((with_reducible refine aI (f := 23) rfl ?_); refine aN (some 23) rfl rfl Try.func23 z0 rfl #[.agg #[.int .i64 ((rd_T55 l0 x5_1).f0), .string ((rd_T55 l0 x5_1).f1), .string ((rd_T55 l0 x5_1).f2)], .int .i64 x1_1] rfl z12 ?_; (with_reducible refine (laws_szPart.calls ((rd_T55 l0 x5_1).f0) ((rd_T55 l0 x5_1).f1) ((rd_T55 l0 x5_1).f2) x1_1 hV _ A6.out).mono ?_); rintro e w8 ⟨rfl, hb⟩; refine ⟨_, rfl, ?_⟩; have a6 := aM (ay z11 hb); clear HB; have HB := a6; clear a6; (try clear hb); (try clear hb2); (try clear hk); (try clear hi)))
       go_ret
       exact ⟨y3, y4⟩
      ·rw [if_neg c7] at H
       have c7b0 : decide (hV < 0) = false := dF c7
       clear c7
       have H' := aM H
       clear H
       have p107 : 0 ≤ (x5_1 : Int) := oD z2
       have q107 : x5_1 < (l0.length : Int) := oD z2
       obtain ⟨ad107, e107, hx107_0, hx107_1, hx107_2⟩ := at_T55 bY.out x5_1 p107 q107
       cases e107
       replace hx107_0 := (HB.out.cell (World.block_lt_of_cell? w _ hx107_0)).trans hx107_0
       replace hx107_1 := (HB.out.cell (World.block_lt_of_cell? w _ hx107_1)).trans hx107_1
       replace hx107_2 := (HB.out.cell (World.block_lt_of_cell? w _ hx107_2)).trans hx107_2
       replace p107 := eq_true p107
       replace q107 := eq_true q107
       go_wp2_with (first | ((with_reducible refine aI (f := 23) rfl ?_); refine aN (some 23) rfl rfl Try.func23 z0 rfl #[.agg #[.int .i64 ((rd_T55 l0 x5_1).f0), .string ((rd_T55 l0 x5_1).f1), .string ((rd_T55 l0 x5_1).f2)], .int .i64 x1_1] rfl z12 ?_; (with_reducible refine (laws_szPart.calls ((rd_T55 l0 x5_1).f0) ((rd_T55 l0 x5_1).f1) ((rd_T55 l0 x5_1).f2) x1_1 hV _ A6.out).mono ?_); rintro e w9 ⟨rfl, hb⟩; refine ⟨_, rfl, ?_⟩; have a6 := aM (ay z11 hb); clear HB; have HB := a6; clear a6; (try clear hb); (try clear hb2); (try clear hk); (try clear hi)))
       go_roundg k1
       case measure => have := HK1.out; omega
       case rel => exact ⟨(hV), (wrap64 (x5_1 + 1)), z1, z1, H', ⟨y0⟩, ⟨y4⟩⟩
     ·rw [if_neg c5] at H
      exact absurd H (by simp)
    ·rw [if_neg c4] at H
     have c4b0 : decide (x5_1 < (l0.length : Int)) = false := dF c4
     clear c4
     obtain rfl := sI H
     go_wp2
     go_ret
     exact ⟨y3, y4⟩

/-! ### spec_l1In: function 49 -/
def spec_l1In.f (a0 : Int) (a1 : Int) (a2 : Int) : Option (Bool) := if a0 ≥ a1 then (some (decide (a0 ≤ a2))) else (some false)
set_option maxHeartbeats 8000000 in
set_option maxRecDepth 100000 in
theorem spec_l1In.calls (a0 : Int) (a1 : Int) (a2 : Int) (r : Bool) (w : World) (h : spec_l1In.f a0 a1 a2 = some r) :
  Calls Try.prog 49 #[.int .i64 a0, .int .i64 a1, .int .i64 a2] w fun e w' => e = .returned (.bool r) ∧ Drawn0 w w' := by
 have H : (if a0 ≥ a1 then (some (decide (a0 ≤ a2))) else (some false)) = some r := h
 clear h
 by_cases c4 : a0 ≥ a1
 ·rw [if_pos c4] at H
  have c4b0 : decide (a1 ≤ a0) = true := dT c4
  clear c4
  obtain rfl := sI H
  go_enter Try.func49, Try.ntmps49
  go_wp2
  go_ret
  exact ⟨y1, y2⟩
 ·rw [if_neg c4] at H
  have c4b0 : decide (a1 ≤ a0) = false := dF c4
  clear c4
  obtain rfl := sI H
  go_enter Try.func49, Try.ntmps49
  go_wp2
  go_ret
  exact ⟨y1, y2⟩

/-! ### spec_l1Open: function 83 -/
def spec_l1Open.f (a0 : Int) : Option (Bool) := if a0 ≥ 65 then (some (decide (a0 ≤ 70))) else (some false)
set_option maxHeartbeats 8000000 in
set_option maxRecDepth 100000 in
theorem spec_l1Open.calls (a0 : Int) (r : Bool) (w : World) (h : spec_l1Open.f a0 = some r) :
  Calls Try.prog 83 #[.int .u8 a0] w fun e w' => e = .returned (.bool r) ∧ Drawn0 w w' := by
 have H : (if a0 ≥ 65 then (some (decide (a0 ≤ 70))) else (some false)) = some r := h
 clear h
 by_cases c2 : a0 ≥ 65
 ·rw [if_pos c2] at H
  have c2b0 : decide (65 ≤ a0) = true := dT c2
  clear c2
  obtain rfl := sI H
  go_enter Try.func83, Try.ntmps83
  go_wp2
  go_ret
  exact ⟨y1, y2⟩
 ·rw [if_neg c2] at H
  have c2b0 : decide (65 ≤ a0) = false := dF c2
  clear c2
  obtain rfl := sI H
  go_enter Try.func83, Try.ntmps83
  go_wp2
  go_ret
  exact ⟨y1, y2⟩

/-! ### spec_l1Plain: function 84 -/
def spec_l1Plain.f (a0 : Int) : Option (Bool) := if a0 ≥ 97 then (if a0 ≤ 122 then (some true) else (if a0 ≥ 48 then (if a0 ≤ 57 then (some true) else (if a0 = 32 then (some true) else (if a0 = 46 then (some true) else (some (a0 == 44))))) else (if a0 = 32 then (some true) else (if a0 = 46 then (some true) else (some (a0 == 44)))))) else (if a0 ≥ 48 then (if a0 ≤ 57 then (some true) else (if a0 = 32 then (some true) else (if a0 = 46 then (some true) else (some (a0 == 44))))) else (if a0 = 32 then (some true) else (if a0 = 46 then (some true) else (some (a0 == 44)))))
set_option maxHeartbeats 8000000 in
set_option maxRecDepth 100000 in
theorem spec_l1Plain.calls (a0 : Int) (r : Bool) (w : World) (h : spec_l1Plain.f a0 = some r) :
  Calls Try.prog 84 #[.int .u8 a0] w fun e w' => e = .returned (.bool r) ∧ Drawn0 w w' := by
 have H : (if a0 ≥ 97 then (if a0 ≤ 122 then (some true) else (if a0 ≥ 48 then (if a0 ≤ 57 then (some true) else (if a0 = 32 then (some true) else (if a0 = 46 then (some true) else (some (a0 == 44))))) else (if a0 = 32 then (some true) else (if a0 = 46 then (some true) else (some (a0 == 44)))))) else (if a0 ≥ 48 then (if a0 ≤ 57 then (some true) else (if a0 = 32 then (some true) else (if a0 = 46 then (some true) else (some (a0 == 44))))) else (if a0 = 32 then (some true) else (if a0 = 46 then (some true) else (some (a0 == 44)))))) = some r := h
 clear h
 by_cases c2 : a0 ≥ 97
 ·rw [if_pos c2] at H
  have c2b0 : decide (97 ≤ a0) = true := dT c2
  clear c2
  by_cases c3 : a0 ≤ 122
  ·rw [if_pos c3] at H
   have c3b0 : decide (a0 ≤ 122) = true := dT c3
   clear c3
   obtain rfl := sI H
   go_enter Try.func84, Try.ntmps84
   go_wp2
   go_ret
   exact ⟨y1, y2⟩
  ·rw [if_neg c3] at H
   have c3b0 : decide (a0 ≤ 122) = false := dF c3
   clear c3
   by_cases c4 : a0 ≥ 48
   ·rw [if_pos c4] at H
    have c4b0 : decide (48 ≤ a0) = true := dT c4
    clear c4
    by_cases c5 : a0 ≤ 57
    ·rw [if_pos c5] at H
     have c5b0 : decide (a0 ≤ 57) = true := dT c5
     clear c5
     obtain rfl := sI H
     go_enter Try.func84, Try.ntmps84
     go_wp2
     go_ret
     exact ⟨y1, y2⟩
    ·rw [if_neg c5] at H
     have c5b0 : decide (a0 ≤ 57) = false := dF c5
     clear c5
     by_cases c6 : a0 = 32
     ·rw [if_pos c6] at H
      have c6b0 : (a0 == 32) = true := qT c6
      have c6b1 : (a0 != 32) = false := nF c6
      clear c6
      obtain rfl := sI H
      go_enter Try.func84, Try.ntmps84
      go_wp2
      go_ret
      exact ⟨y1, y2⟩
     ·rw [if_neg c6] at H
      have c6b0 : (a0 == 32) = false := qF c6
      have c6b1 : (a0 != 32) = true := nT c6
      by_cases c7 : a0 = 46
      ·rw [if_pos c7] at H
       have c7b0 : (a0 == 46) = true := qT c7
       have c7b1 : (a0 != 46) = false := nF c7
       clear c7
       obtain rfl := sI H
       go_enter Try.func84, Try.ntmps84
       go_wp2
       go_ret
       exact ⟨y1, y2⟩
      ·rw [if_neg c7] at H
       have c7b0 : (a0 == 46) = false := qF c7
       have c7b1 : (a0 != 46) = true := nT c7
       obtain rfl := sI H
       go_enter Try.func84, Try.ntmps84
       go_wp2
       go_ret
       exact ⟨y1, y2⟩
   ·rw [if_neg c4] at H
    have c4b0 : decide (48 ≤ a0) = false := dF c4
    clear c4
    by_cases c8 : a0 = 32
    ·rw [if_pos c8] at H
     have c8b0 : (a0 == 32) = true := qT c8
     have c8b1 : (a0 != 32) = false := nF c8
     clear c8
     obtain rfl := sI H
     go_enter Try.func84, Try.ntmps84
     go_wp2
     go_ret
     exact ⟨y1, y2⟩
    ·rw [if_neg c8] at H
     have c8b0 : (a0 == 32) = false := qF c8
     have c8b1 : (a0 != 32) = true := nT c8
     by_cases c9 : a0 = 46
     ·rw [if_pos c9] at H
      have c9b0 : (a0 == 46) = true := qT c9
      have c9b1 : (a0 != 46) = false := nF c9
      clear c9
      obtain rfl := sI H
      go_enter Try.func84, Try.ntmps84
      go_wp2
      go_ret
      exact ⟨y1, y2⟩
     ·rw [if_neg c9] at H
      have c9b0 : (a0 == 46) = false := qF c9
      have c9b1 : (a0 != 46) = true := nT c9
      obtain rfl := sI H
      go_enter Try.func84, Try.ntmps84
      go_wp2
      go_ret
      exact ⟨y1, y2⟩
 ·rw [if_neg c2] at H
  have c2b0 : decide (97 ≤ a0) = false := dF c2
  clear c2
  by_cases cL : a0 ≥ 48
  ·rw [if_pos cL] at H
   have c10b0 : decide (48 ≤ a0) = true := dT cL
   clear cL
   by_cases dH : a0 ≤ 57
   ·rw [if_pos dH] at H
    have c11b0 : decide (a0 ≤ 57) = true := dT dH
    clear dH
    obtain rfl := sI H
    go_enter Try.func84, Try.ntmps84
    go_wp2
    go_ret
    exact ⟨y1, y2⟩
   ·rw [if_neg dH] at H
    have c11b0 : decide (a0 ≤ 57) = false := dF dH
    clear dH
    by_cases eT : a0 = 32
    ·rw [if_pos eT] at H
     have c12b0 : (a0 == 32) = true := qT eT
     have c12b1 : (a0 != 32) = false := nF eT
     clear eT
     obtain rfl := sI H
     go_enter Try.func84, Try.ntmps84
     go_wp2
     go_ret
     exact ⟨y1, y2⟩
    ·rw [if_neg eT] at H
     have c12b0 : (a0 == 32) = false := qF eT
     have c12b1 : (a0 != 32) = true := nT eT
     by_cases dM : a0 = 46
     ·rw [if_pos dM] at H
      have c13b0 : (a0 == 46) = true := qT dM
      have c13b1 : (a0 != 46) = false := nF dM
      clear dM
      obtain rfl := sI H
      go_enter Try.func84, Try.ntmps84
      go_wp2
      go_ret
      exact ⟨y1, y2⟩
     ·rw [if_neg dM] at H
      have c13b0 : (a0 == 46) = false := qF dM
      have c13b1 : (a0 != 46) = true := nT dM
      obtain rfl := sI H
      go_enter Try.func84, Try.ntmps84
      go_wp2
      go_ret
      exact ⟨y1, y2⟩
  ·rw [if_neg cL] at H
   have c10b0 : decide (48 ≤ a0) = false := dF cL
   clear cL
   by_cases fG : a0 = 32
   ·rw [if_pos fG] at H
    have c14b0 : (a0 == 32) = true := qT fG
    have c14b1 : (a0 != 32) = false := nF fG
    clear fG
    obtain rfl := sI H
    go_enter Try.func84, Try.ntmps84
    go_wp2
    go_ret
    exact ⟨y1, y2⟩
   ·rw [if_neg fG] at H
    have c14b0 : (a0 == 32) = false := qF fG
    have c14b1 : (a0 != 32) = true := nT fG
    by_cases ex : a0 = 46
    ·rw [if_pos ex] at H
     have c15b0 : (a0 == 46) = true := qT ex
     have c15b1 : (a0 != 46) = false := nF ex
     clear ex
     obtain rfl := sI H
     go_enter Try.func84, Try.ntmps84
     go_wp2
     go_ret
     exact ⟨y1, y2⟩
    ·rw [if_neg ex] at H
     have c15b0 : (a0 == 46) = false := qF ex
     have c15b1 : (a0 != 46) = true := nT ex
     obtain rfl := sI H
     go_enter Try.func84, Try.ntmps84
     go_wp2
     go_ret
     exact ⟨y1, y2⟩

/-! ### spec_l1Text: function 77 -/
def spec_l1Text.l0 : Nat → ByteArray → Int → Option (Bool)
 | 0, _, _ => none
 | k + 1, x0, x3 => if x3 < (x0.size : Int) then (if 0 ≤ x3 then ((spec_l1Open.f (bt x0 x3)).bind fun mZ => (if mZ = true then (spec_l1Text.l0 k x0 (wrap64 (x3 + 1))) else ((spec_l1Plain.f (bt x0 x3)).bind fun mY => (if mY = true then (spec_l1Text.l0 k x0 (wrap64 (x3 + 1))) else (if (bt x0 x3) = 47 then (spec_l1Text.l0 k x0 (wrap64 (x3 + 1))) else (some false)))))) else (none)) else (some true)
def spec_l1Text.f (k : Nat) (a0 : ByteArray) : Option (Bool) := spec_l1Text.l0 k a0 0
theorem spec_l1Text.mono_l : ∀ k, (∀ y0 y1, LeO (spec_l1Text.l0 k y0 y1) (spec_l1Text.l0 (k + 1) y0 y1))
 | 0 => fun _ _ r h => by simp [spec_l1Text.l0] at h
 | k + 1 => by
  have ih0 := spec_l1Text.mono_l k
  ·intro y0 y1
   unfold spec_l1Text.l0
   repeat' first
   | (with_reducible exact ih0 _ _)
   | (with_reducible exact LeO.refl _)
   | (with_reducible exact LeO.none _)
   | (with_reducible refine LeO.ite ?_ ?_)
   | (with_reducible refine LeO.bind ?_ (fun _ => ?_))
   | exact ih0 _ _
   | exact LeO.none _
   | refine LeO.ite ?_ ?_
   | refine LeO.bind ?_ (fun _ => ?_)
theorem spec_l1Text.mono : ∀ a0 k, LeO (spec_l1Text.f k a0) (spec_l1Text.f (k + 1) a0) := by
 intro a0 k
 have ih0 := spec_l1Text.mono_l k
 unfold spec_l1Text.f
 repeat' first
   | (with_reducible exact ih0 _ _)
   | (with_reducible exact LeO.refl _)
   | (with_reducible exact LeO.none _)
   | (with_reducible refine LeO.ite ?_ ?_)
   | (with_reducible refine LeO.bind ?_ (fun _ => ?_))
   | exact ih0 _ _
   | exact LeO.none _
   | refine LeO.ite ?_ ?_
   | refine LeO.bind ?_ (fun _ => ?_)
set_option maxHeartbeats 8000000 in
set_option maxRecDepth 100000 in
theorem spec_l1Text.calls (k : Nat) (a0 : ByteArray) (r : Bool) (w : World) (h : spec_l1Text.f k a0 = some r) :
  Calls Try.prog 77 #[.string a0] w fun e w' => e = .returned (.bool r) ∧ Drawn0 w w' := by
 have H : (spec_l1Text.l0 k a0 0) = some r := h
 clear h
 have H' := aM H
 clear H
 go_enter Try.func77, Try.ntmps77
 go_wp2
 go_loopg [3] k (fun kq v3 w' => ∃ (x3_1 : Int), v3 = .int .i64 x3_1 ∧ Aside0 (spec_l1Text.l0 kq a0 x3_1 = some r) ∧ Aside0 (kq ≤ k) ∧ Drawn0 w w')
 case atStart => exact ⟨(0), z1, H', ⟨Nat.le_refl _⟩, y2⟩
 case round =>
  clear H'
  obtain ⟨x3_1, rfl, HA, HK1, ⟨m1, rfl⟩⟩ := hrel
  cases gk with
  | zero => exact absurd HA.out (by simp [spec_l1Text.l0])
  | succ k1 =>
   have H := HA.out
   clear HA
   simp only [spec_l1Text.l0] at H
   by_cases c2 : x3_1 < (a0.size : Int)
   ·rw [if_pos c2] at H
    have c2b0 : decide (x3_1 < (a0.size : Int)) = true := dT c2
    clear c2
    by_cases c3 : 0 ≤ x3_1
    ·rw [if_pos c3] at H
     have c3b0 : decide (0 ≤ x3_1) = true := dT c3
     clear c3
     replace H := oB H
     obtain ⟨mZ, nA, H⟩ := H
     try dsimp only at H
     have A5 := aM nA
     clear nA
     by_cases c6 : mZ = true
     ·subst c6
      rw [if_pos rfl] at H
      have H' := aM H
      clear H
      have p4 : 0 ≤ (x3_1 : Int) := oD z2
      have q4 : x3_1 < (a0.size : Int) := oD z2
      have hx4 := bt_at a0 x3_1
      replace p4 := eq_true p4
      replace q4 := eq_true q4
      go_wp2_with (first | ((with_reducible refine aI (f := 83) rfl ?_); refine aN (some 13) rfl rfl Try.func83 z0 rfl #[.int .u8 (bt a0 x3_1)] rfl z12 ?_; (with_reducible refine (spec_l1Open.calls (bt a0 x3_1) true _ A5.out).mono ?_); rintro e w' ⟨rfl, ⟨nd, rfl⟩⟩; refine ⟨_, rfl, ?_⟩))
      go_roundg k1
      case measure => have := HK1.out; omega
      case rel => exact ⟨(wrap64 (x3_1 + 1)), z1, H', ⟨y0⟩, y2⟩
     ·replace c6 := Bool.eq_false_iff.mpr c6
      subst c6
      rw [if_neg (show ¬ (false = true) by decide)] at H
      replace H := oB H
      obtain ⟨mY, kN, H⟩ := H
      try dsimp only at H
      have A8 := aM kN
      clear kN
      by_cases c9 : mY = true
      ·subst c9
       rw [if_pos rfl] at H
       have H' := aM H
       clear H
       have p4 : 0 ≤ (x3_1 : Int) := oD z2
       have q4 : x3_1 < (a0.size : Int) := oD z2
       have hx4 := bt_at a0 x3_1
       replace p4 := eq_true p4
       replace q4 := eq_true q4
       go_wp2_with (first | ((with_reducible refine aI (f := 83) rfl ?_); refine aN (some 13) rfl rfl Try.func83 z0 rfl #[.int .u8 (bt a0 x3_1)] rfl z12 ?_; (with_reducible refine (spec_l1Open.calls (bt a0 x3_1) false _ A5.out).mono ?_); rintro e w' ⟨rfl, ⟨nd, rfl⟩⟩; refine ⟨_, rfl, ?_⟩; have p7 : 0 ≤ (x3_1 : Int) := oD z2; have q7 : x3_1 < (a0.size : Int) := oD z2; have hx7 := bt_at a0 x3_1; replace p7 := eq_true p7; replace q7 := eq_true q7) | (go_at_call 84; (with_reducible refine (spec_l1Plain.calls (bt a0 x3_1) true _ A8.out).mono ?_); rintro e w' ⟨rfl, ⟨nd, rfl⟩⟩))
       go_roundg k1
       case measure => have := HK1.out; omega
       case rel => exact ⟨(wrap64 (x3_1 + 1)), z1, H', ⟨y0⟩, y2⟩
      ·replace c9 := Bool.eq_false_iff.mpr c9
       subst c9
       rw [if_neg (show ¬ (false = true) by decide)] at H
       by_cases dH : (bt a0 x3_1) = 47
       ·rw [if_pos dH] at H
        have c11b0 : ((bt a0 x3_1) == 47) = true := qT dH
        have c11b1 : ((bt a0 x3_1) != 47) = false := nF dH
        clear dH
        have H' := aM H
        clear H
        have p4 : 0 ≤ (x3_1 : Int) := oD z2
        have q4 : x3_1 < (a0.size : Int) := oD z2
        have hx4 := bt_at a0 x3_1
        replace p4 := eq_true p4
        replace q4 := eq_true q4
        go_wp2_with (first | ((with_reducible refine aI (f := 83) rfl ?_); refine aN (some 13) rfl rfl Try.func83 z0 rfl #[.int .u8 (bt a0 x3_1)] rfl z12 ?_; (with_reducible refine (spec_l1Open.calls (bt a0 x3_1) false _ A5.out).mono ?_); rintro e w' ⟨rfl, ⟨nd, rfl⟩⟩; refine ⟨_, rfl, ?_⟩; have p7 : 0 ≤ (x3_1 : Int) := oD z2; have q7 : x3_1 < (a0.size : Int) := oD z2; have hx7 := bt_at a0 x3_1; replace p7 := eq_true p7; replace q7 := eq_true q7) | (go_at_call 84; (with_reducible refine (spec_l1Plain.calls (bt a0 x3_1) false _ A8.out).mono ?_); rintro e w' ⟨rfl, ⟨nd, rfl⟩⟩; have p10 : 0 ≤ (x3_1 : Int) := oD z2; have q10 : x3_1 < (a0.size : Int) := oD z2; have hx10 := bt_at a0 x3_1; replace p10 := eq_true p10; replace q10 := eq_true q10))
        go_roundg k1
        case measure => have := HK1.out; omega
        case rel => exact ⟨(wrap64 (x3_1 + 1)), z1, H', ⟨y0⟩, y2⟩
       ·rw [if_neg dH] at H
        have c11b0 : ((bt a0 x3_1) == 47) = false := qF dH
        have c11b1 : ((bt a0 x3_1) != 47) = true := nT dH
        obtain rfl := sI H
        have p4 : 0 ≤ (x3_1 : Int) := oD z2
        have q4 : x3_1 < (a0.size : Int) := oD z2
        have hx4 := bt_at a0 x3_1
        replace p4 := eq_true p4
        replace q4 := eq_true q4
        go_wp2_with (first | ((with_reducible refine aI (f := 83) rfl ?_); refine aN (some 13) rfl rfl Try.func83 z0 rfl #[.int .u8 (bt a0 x3_1)] rfl z12 ?_; (with_reducible refine (spec_l1Open.calls (bt a0 x3_1) false _ A5.out).mono ?_); rintro e w' ⟨rfl, ⟨nd, rfl⟩⟩; refine ⟨_, rfl, ?_⟩; have p7 : 0 ≤ (x3_1 : Int) := oD z2; have q7 : x3_1 < (a0.size : Int) := oD z2; have hx7 := bt_at a0 x3_1; replace p7 := eq_true p7; replace q7 := eq_true q7) | (go_at_call 84; (with_reducible refine (spec_l1Plain.calls (bt a0 x3_1) false _ A8.out).mono ?_); rintro e w' ⟨rfl, ⟨nd, rfl⟩⟩; have p10 : 0 ≤ (x3_1 : Int) := oD z2; have q10 : x3_1 < (a0.size : Int) := oD z2; have hx10 := bt_at a0 x3_1; replace p10 := eq_true p10; replace q10 := eq_true q10))
        go_ret
        exact ⟨y1, y2⟩
    ·rw [if_neg c3] at H
     exact absurd H (by simp)
   ·rw [if_neg c2] at H
    have c2b0 : decide (x3_1 < (a0.size : Int)) = false := dF c2
    clear c2
    obtain rfl := sI H
    go_wp2
    go_ret
    exact ⟨y1, y2⟩

end Go.Proofs.Ytblnnbaeiggmoaa.AFnExactEditRope
