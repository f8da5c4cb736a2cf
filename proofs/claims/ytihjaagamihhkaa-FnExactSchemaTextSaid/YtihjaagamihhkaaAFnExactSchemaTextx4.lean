-- this session's own text: written by wip/tools/ownprint.py over the kit's print
import Derived.Laws.Cover1
import Derived.Test.YtihjaagamihhkaaAFnExactSchemaTextx0
import Derived.Test.YtihjaagamihhkaaAFnExactSchemaTextx1
import Derived.Test.YtihjaagamihhkaaAFnExactSchemaTextx3
namespace Go.Proofs.Ytihjaagamihhkaa.AFnExactSchemaText
open Go.RowKit Go.Proofs.YtihjaagamihhkaaW.PrintWords Go.Proofs.YtihjaagamihhkaaW.PrintLast Go.Proofs.YtihjaagamihhkaaW.PrintMore
attribute [local go_sem] max2_int min2_int max_two min_two max_three min_three max_four min_four   -- for this text's walks alone
set_option linter.unusedVariables false
set_option linter.unusedSimpArgs false

/-! ### spec_GoodSchema: function 7 -/
def spec_GoodSchema.l0 : Nat → List (S38) → List (S38) → Int → Int → Option (Bool)
 | 0, _, _, _, _ => none
 | k + 1, x0, x5, x6, x7 => if x7 < x6 then (if 0 ≤ x7 then (if x7 < (x5.length : Int) then (if ((rd_T38 x5 x7).f0).toList = ([45] : List UInt8) then ((spec_GoodExpr.f k ((rd_T38 x5 x7).f1)).bind fun cy => (if cy = true then (if x7 > 0 then (if 0 ≤ (wrap64 (x7 - 1)) then (if (wrap64 (x7 - 1)) < (x0.length : Int) then (if ((Op.bytesLess (((rd_T38 x0 (wrap64 (x7 - 1))).f0).toList) (((rd_T38 x5 x7).f0).toList)) = true) then (spec_GoodSchema.l0 k x0 x5 x6 (wrap64 (x7 + 1))) else (some false)) else (none)) else (none)) else (spec_GoodSchema.l0 k x0 x5 x6 (wrap64 (x7 + 1)))) else (some false))) else ((spec_l1Name.f ((rd_T38 x5 x7).f0)).bind fun cx => (if cx = true then ((spec_GoodExpr.f k ((rd_T38 x5 x7).f1)).bind fun cw => (if cw = true then (if x7 > 0 then (if 0 ≤ (wrap64 (x7 - 1)) then (if (wrap64 (x7 - 1)) < (x0.length : Int) then (if ((Op.bytesLess (((rd_T38 x0 (wrap64 (x7 - 1))).f0).toList) (((rd_T38 x5 x7).f0).toList)) = true) then (spec_GoodSchema.l0 k x0 x5 x6 (wrap64 (x7 + 1))) else (some false)) else (none)) else (none)) else (spec_GoodSchema.l0 k x0 x5 x6 (wrap64 (x7 + 1)))) else (some false))) else (some false)))) else (none)) else (none)) else (some (decide ((x0.length : Int) ≤ 7)))
def spec_GoodSchema.f (k : Nat) (l0 : List (S38)) : Option (Bool) := spec_GoodSchema.l0 k l0 l0 (l0.length : Int) 0
theorem spec_GoodSchema.mono_l : ∀ k, (∀ y0 y1 y2 y3, LeO (spec_GoodSchema.l0 k y0 y1 y2 y3) (spec_GoodSchema.l0 (k + 1) y0 y1 y2 y3))
 | 0 => fun _ _ _ _ r h => by simp [spec_GoodSchema.l0] at h
 | k + 1 => by
  have ih0 := spec_GoodSchema.mono_l k
  ·intro y0 y1 y2 y3
   unfold spec_GoodSchema.l0
   repeat' first
   | (with_reducible exact ih0 _ _ _ _)
   | (with_reducible exact spec_GoodExpr.mono _ _)
   | (with_reducible exact LeO.refl _)
   | (with_reducible exact LeO.none _)
   | (with_reducible refine LeO.ite ?_ ?_)
   | (with_reducible refine LeO.bind ?_ (fun _ => ?_))
   | exact ih0 _ _ _ _
   | exact spec_GoodExpr.mono _ _
   | exact LeO.none _
   | refine LeO.ite ?_ ?_
   | refine LeO.bind ?_ (fun _ => ?_)
theorem spec_GoodSchema.mono : ∀ a0 k, LeO (spec_GoodSchema.f k a0) (spec_GoodSchema.f (k + 1) a0) := by
 intro a0 k
 have ih0 := spec_GoodSchema.mono_l k
 unfold spec_GoodSchema.f
 repeat' first
   | (with_reducible exact ih0 _ _ _ _)
   | (with_reducible exact spec_GoodExpr.mono _ _)
   | (with_reducible exact LeO.refl _)
   | (with_reducible exact LeO.none _)
   | (with_reducible refine LeO.ite ?_ ?_)
   | (with_reducible refine LeO.bind ?_ (fun _ => ?_))
   | exact ih0 _ _ _ _
   | exact spec_GoodExpr.mono _ _
   | exact LeO.none _
   | refine LeO.ite ?_ ?_
   | refine LeO.bind ?_ (fun _ => ?_)
def spec_GoodSchema.T4 : Bool × List (List Nat × List Nat) := (true, [([], []), ([0], [0]), ([1], [1]), ([2], [2]), ([3], [3]), ([4, 3], [3, 4]), ([5, 3, 3], [3, 5]), ([6, 3], [3, 6]), ([3, 7], [3, 7]), ([8, 6], [8]), ([9], [9]), ([10, 9], [9, 10]), ([11, 9, 9], [9, 11]), ([12, 9], [9, 12]), ([9, 13], [9, 13]), ([14, 12], [14]), ([15], [15]), ([16, 15], [15, 16]), ([17, 15, 15], [15, 17]), ([18], [18]), ([18], [18]), ([20, 18], [18, 20]), ([19, 21, 18], [18, 19, 21]), ([22, 18], [18, 22]), ([23, 18], [18, 23]), ([18], [18]), ([25, 18], [18, 25]), ([24, 26, 18], [18, 24, 26]), ([18, 27, 15], [15, 18, 27]), ([15, 28], [15, 28])])
def spec_GoodSchema.B4 : List Nat := [0, 1, 3, 7, 15, 31, 63, 127, 255, 511, 1023, 2047, 4095, 8191, 16383, 32767, 65535, 131071, 262143, 524287, 524287, 1572863, 4194303, 8388607, 16777215, 524287, 34078719, 134217727, 268435455, 536870911]
theorem spec_GoodSchema.tab4 : rtab .any (opsOf Try.f7 4) = spec_GoodSchema.T4 := by kernel_rfl
theorem spec_GoodSchema.bits4 : waitsOk spec_GoodSchema.T4.2 spec_GoodSchema.B4 = true := by kernel_rfl
set_option maxHeartbeats 8000000 in
set_option maxRecDepth 100000 in
theorem spec_GoodSchema.calls (k : Nat) (A0 : Option Addr) (c0 : Nat) (l0 : List (S38)) (r : Bool) (w : World) (hr0 : Kd.C k38 w A0 l0.length l0) (hc0 : l0.length ≤ c0) (h : spec_GoodSchema.f k l0 = some r) :
  Calls Try.prog 7 #[.slice A0 l0.length c0] w fun e w' => e = .returned (.bool r) ∧ Below w.heap.size w w' := by
 have hu38 := Try.underlying38
 have aK := aM hr0
 have bo := aM hc0
 clear hr0 hc0
 have HB := aM (Below.refl w.heap.size w)
 have H : (spec_GoodSchema.l0 k l0 l0 (l0.length : Int) 0) = some r := h
 clear h
 have H' := aM H
 clear H
 go_enter Try.func7, Try.ntmps7
 go_wp2
 go_loopg [7] k (fun kq v7 w' => ∃ (x7_1 : Int), v7 = .int .i64 x7_1 ∧ Aside0 (spec_GoodSchema.l0 kq l0 l0 (l0.length : Int) x7_1 = some r) ∧ Aside0 (kq ≤ k) ∧ Aside0 (Below w.heap.size w w'))
 case atStart => exact ⟨(0), (by first | rfl | (simp; done) | (simp [*]; done)), H', ⟨Nat.le_refl _⟩, ⟨y3⟩⟩
 case round =>
  clear H'
  obtain ⟨x7_1, rfl, HA, HK1, HB⟩ := hrel
  cases gk with
  | zero => exact absurd HA.out (by simp [spec_GoodSchema.l0])
  | succ k1 =>
   have H := HA.out
   clear HA
   simp only [spec_GoodSchema.l0] at H
   by_cases c2 : x7_1 < (l0.length : Int)
   ·rw [if_pos c2] at H
    have c2b0 : decide (x7_1 < (l0.length : Int)) = true := dT c2
    clear c2
    by_cases c3 : 0 ≤ x7_1
    ·rw [if_pos c3] at H
     have c3b0 : decide (0 ≤ x7_1) = true := dT c3
     clear c3
     by_cases c4 : x7_1 < (l0.length : Int)
     ·rw [if_pos c4] at H
      have c4b0 : decide (x7_1 < (l0.length : Int)) = true := dT c4
      clear c4
      by_cases c5 : ((rd_T38 l0 x7_1).f0).toList = ([45] : List UInt8)
      ·rw [if_pos c5] at H
       have c5b0 : (((rd_T38 l0 x7_1).f0).toList == ([45] : List UInt8)) = true := qT c5
       have c5b1 : (((rd_T38 l0 x7_1).f0).toList != ([45] : List UInt8)) = false := nF c5
       clear c5
       replace H := oB H
       obtain ⟨cy, co, H⟩ := H
       try dsimp only at H
       have A6 := aM co
       clear co
       by_cases c7 : cy = true
       ·subst c7
        rw [if_pos rfl] at H
        by_cases c8 : x7_1 > 0
        ·rw [if_pos c8] at H
         have c8b0 : decide (0 < x7_1) = true := dT c8
         clear c8
         obtain ⟨ba, bB⟩ : ∃ j_ : Int, (wrap64 (x7_1 - 1)) = j_ := ⟨_, rfl⟩
         replace H : (if 0 ≤ (ba) then (if (ba) < (l0.length : Int) then (if ((Op.bytesLess (((rd_T38 l0 (ba)).f0).toList) (((rd_T38 l0 x7_1).f0).toList)) = true) then (spec_GoodSchema.l0 k1 l0 l0 (l0.length : Int) (wrap64 (x7_1 + 1))) else (some false)) else (none)) else (none)) = some r := by first | (rw [bB] at H; exact H) | (simp only [bB] at H ⊢; exact H)
         (try rw [bB] at A6)
         have hji9w : (IntKind.i64.wrap (x7_1 - 1)) = ba := (i64_w _).trans bB
         by_cases ca : 0 ≤ (ba)
         ·rw [if_pos ca] at H
          have c10b0 : decide (0 ≤ (ba)) = true := dT ca
          clear ca
          by_cases bx : (ba) < (l0.length : Int)
          ·rw [if_pos bx] at H
           have c11b0 : decide ((ba) < (l0.length : Int)) = true := dT bx
           clear bx
           by_cases bY : ((Op.bytesLess (((rd_T38 l0 (ba)).f0).toList) (((rd_T38 l0 x7_1).f0).toList)) = true)
           ·rw [if_pos bY] at H
            have c12b0 : (Op.bytesLess (((rd_T38 l0 (ba)).f0).toList) (((rd_T38 l0 x7_1).f0).toList)) = true := bY
            clear bY
            have H' := aM H
            clear H
            have p143 : 0 ≤ (x7_1 : Int) := oD z1
            have q143 : x7_1 < (l0.length : Int) := oD z1
            obtain ⟨ad143, e143, hx143_0, hx143_1⟩ := at_T38 aK.out x7_1 p143 q143
            cases e143
            replace hx143_0 := (HB.out.cell (World.block_lt_of_cell? w _ hx143_0)).trans hx143_0
            replace hx143_1 := (HB.out.cell (World.block_lt_of_cell? w _ hx143_1)).trans hx143_1
            replace p143 := eq_true p143
            replace q143 := eq_true q143
            try go_wp2_with (first | ((with_reducible refine am (N := 4) rfl ?_); refine ao ?hg (N := 4) ?hd (cs := #[.string (⟨#[]⟩ : ByteArray), .string (⟨#[]⟩ : ByteArray)]) (t := 38) ?hr ?_; (case hd => rfl); (case hg => rfl); (case hr => first | (go_simp; done) | (go_simp; rfl)); intro av hg w13 hbox hb; have aw := aM (aj z5 hb); have ax := aM (hbox); have az := aM ((by rw [hg]; exact (ak z5) : w.heap.size ≤ av)); have aA := aM ((by rw [hg]; exact (ak z5) : w.heap.size ≤ av)); clear HB; have HB := aw; have ar := ax; have bi := az; have aQ := aA; clear aw ax az aA; clear hb hbox hg; have hcz14_0 : w13.cell? ⟨av, 0, none⟩ = some (.string (⟨#[]⟩ : ByteArray)) := (bC ar.out 0).trans rfl; have hcz14_1 : w13.cell? ⟨av, 1, none⟩ = some (.string (⟨#[]⟩ : ByteArray)) := (bC ar.out 1).trans rfl; have hfz14_0 := bF ar.out 0; have hfz14_1 := bF ar.out 1))
            have aw : Aside0 (((w13.setCell ⟨av, 0, none⟩ (.string ((rd_T38 l0 x7_1).f0))).setCell ⟨av, 1, none⟩ (.string ((rd_T38 l0 x7_1).f1))).heap[av]? = some (.cells #[.string ((rd_T38 l0 x7_1).f0), .string ((rd_T38 l0 x7_1).f1)] 38 (0, 0))) := ⟨y16⟩
            have ax : Aside0 (Below w.heap.size w ((w13.setCell ⟨av, 0, none⟩ (.string ((rd_T38 l0 x7_1).f0))).setCell ⟨av, 1, none⟩ (.string ((rd_T38 l0 x7_1).f1)))) := ⟨y5⟩
            (try clear ar)
            (try clear HB)
            generalize ((w13.setCell ⟨av, 0, none⟩ (.string ((rd_T38 l0 x7_1).f0))).setCell ⟨av, 1, none⟩ (.string ((rd_T38 l0 x7_1).f1))) = w15 at aw ax ⊢
            have ar := aw
            have HB := ax
            clear aw ax
            have aw := aM (af ar.out)
            have ax := aM (bD HB.out)
            clear ar
            clear HB
            have ar := aw
            have HB := ax
            clear aw ax
            have p146 : 0 ≤ ((ba) : Int) := oD z1
            have q146 : (ba) < (l0.length : Int) := oD z1
            obtain ⟨ad146, e146, hx146_0, hx146_1⟩ := at_T38 aK.out (ba) p146 q146
            have hw146_1 := hx146_1
            have hw146_0 := hx146_0
            obtain rfl : ad143 = ad146 := (by injection e146)
            replace hx146_0 := (HB.out.cell (World.block_lt_of_cell? w _ hx146_0)).trans hx146_0
            replace hx146_1 := (HB.out.cell (World.block_lt_of_cell? w _ hx146_1)).trans hx146_1
            replace p146 := eq_true p146
            replace q146 := eq_true q146
            refine start_ (n := 30) (S := fun w' => w'.cell? ⟨av, 0, none⟩ = some (.string ((rd_T38 l0 x7_1).f0)) ∧ w'.cell? ⟨av, 1, none⟩ = some (.string ((rd_T38 l0 x7_1).f1)) ∧ w'.cell? (ad143.add (((ba)).toNat * 2)) = some (.string ((rd_T38 l0 (ba)).f0)) ∧ w'.cell? ⟨(ad143.add (((ba)).toNat * 2)).block, (ad143.add (((ba)).toNat * 2)).off + 1, none⟩ = some (.string ((rd_T38 l0 (ba)).f1))) (ds := []) #[false, false, false, false, false, false, false, false, false, false, false, false, false, false, false, false, false, false, false, false, false, false, false, false, false, false, false, false, false, false] z0 rfl rfl ⟨(bC ar.out 0).trans rfl, (bC ar.out 1).trans rfl, ((HB.out.cell (World.block_lt_of_cell? w _ hw146_0)).trans hw146_0), ((HB.out.cell (World.block_lt_of_cell? w _ hw146_1)).trans hw146_1)⟩ (fun hHeld => ?_); refine with_tabW spec_GoodSchema.tab4 spec_GoodSchema.bits4 (fun HT_ HW_ => ?_)
            generalize w15.drew = w16 at ar HB hx146_0 hx146_1 hHeld ⊢
            refine pA 0 12 ?_
            refine tA 1 13 ?_ (hy := by rintro w' ⟨s0, s1, s2, s3⟩; go_simp; with_reducible rfl)
            refine pA 2 14 ?_
            refine pA 3 15 ?_
            refine pB 4 16 ?_
            refine pB 5 17 ?_
            refine pB 6 18 ?_
            refine pB 7 19 ?_
            refine pA 8 20 ?_
            refine pA 9 21 ?_
            refine pA 10 22 ?_
            refine tA 11 23 ?_ (hy := by rintro w' ⟨s0, s1, s2, s3⟩; go_simp; with_reducible rfl)
            refine one_ (i := 12) (N := some 24) #[true, true, true, true, true, true, true, true, true, true, true, true, true, false, false, false, false, false, false, false, false, false, false, false, false, false, false, false, false, false] rfl rfl (one_of HT_.out z0) (by decide) (fun K hK => ?_)
            refine goes_ Try.func19 z0 rfl #[.string ((rd_T38 l0 x7_1).f1)] (by rfl) rfl rfl z6 ?_
            with_reducible refine (spec_GoodExpr.calls k1 ((rd_T38 l0 x7_1).f1) true _ A6.out).mono ?_
            rintro e w17 ⟨rfl, hb⟩
            refine ⟨_, rfl, ?_⟩
            have aw := aM (ae (g := av) (o := .cells #[.string ((rd_T38 l0 x7_1).f0), .string ((rd_T38 l0 x7_1).f1)] 38 (0, 0)) (by (with_reducible repeat (first | refine ag ?_ _ | refine af ?_ | refine ah ?_ _)); exact ar.out) hb)
            have ax := aM (aj (by repeat (first | (with_reducible first | exact HB.out | apply bA | apply pD | apply bD | refine ai ?_ aQ.out) | exact HB.out)) hb)
            clear ar
            clear HB
            have ar := aw
            have HB := ax
            clear aw ax
            (try clear hb)
            (try clear hb2)
            (try clear hk)
            (try clear hi)
            refine hK.out _ _ ⟨(bC ar.out 0).trans rfl, (bC ar.out 1).trans rfl, ((HB.out.cell (World.block_lt_of_cell? w _ hw146_0)).trans hw146_0), ((HB.out.cell (World.block_lt_of_cell? w _ hw146_1)).trans hw146_1)⟩ (fun hHeld => ?_)
            clear hK K
            refine norm_ (a' := ?_) ?_ ?_
            rotate_left
            ·show Act.put _ (some 24) _ = _
             simp only [Act.put, sA, sB, sC, i64_w, i32_w]
             rfl
            refine pA 13 25 ?_
            refine pA 14 26 ?_
            refine pA 15 27 ?_
            refine pA 16 28 ?_
            refine pA 17 29 ?_
            refine pA 18 30 ?_
            refine pA 19 31 ?_
            refine pA 20 32 ?_
            refine pA 21 33 ?_
            refine pA 22 34 ?_
            refine pA 23 35 ?_
            refine pA 25 37 ?_
            refine tA 24 36 ?_ (hy := by rintro w' ⟨s0, s1, s2, s3⟩; go_simp; with_reducible rfl)
            refine tA 26 38 ?_ (hy := by rintro w' ⟨s0, s1, s2, s3⟩; go_simp; with_reducible rfl)
            refine pA 27 39 ?_
            refine pA 28 40 ?_
            refine pA 29 41 ?_
            refine done_ (done_of HT_.out z0) ?_
            try go_wp2
            go_roundg k1
            case measure => have := HK1.out; omega
            case rel => exact ⟨(wrap64 (x7_1 + 1)), (by first | rfl | (simp; done) | (simp [*]; done)), (by first | exact H' | (simp only [bB]; exact H') | (simp only [← bB]; exact H')), ⟨by have := HK1.out; omega⟩, ⟨y5⟩⟩
           ·rw [if_neg bY] at H
            have c12b0 : (Op.bytesLess (((rd_T38 l0 (ba)).f0).toList) (((rd_T38 l0 x7_1).f0).toList)) = false := by simpa using bY
            clear bY
            obtain rfl := sI H
            have p143 : 0 ≤ (x7_1 : Int) := oD z1
            have q143 : x7_1 < (l0.length : Int) := oD z1
            obtain ⟨ad143, e143, hx143_0, hx143_1⟩ := at_T38 aK.out x7_1 p143 q143
            cases e143
            replace hx143_0 := (HB.out.cell (World.block_lt_of_cell? w _ hx143_0)).trans hx143_0
            replace hx143_1 := (HB.out.cell (World.block_lt_of_cell? w _ hx143_1)).trans hx143_1
            replace p143 := eq_true p143
            replace q143 := eq_true q143
            try go_wp2_with (first | ((with_reducible refine am (N := 4) rfl ?_); refine ao ?hg (N := 4) ?hd (cs := #[.string (⟨#[]⟩ : ByteArray), .string (⟨#[]⟩ : ByteArray)]) (t := 38) ?hr ?_; (case hd => rfl); (case hg => rfl); (case hr => first | (go_simp; done) | (go_simp; rfl)); intro av hg w18 hbox hb; have aw := aM (aj z5 hb); have ax := aM (hbox); have az := aM ((by rw [hg]; exact (ak z5) : w.heap.size ≤ av)); have aA := aM ((by rw [hg]; exact (ak z5) : w.heap.size ≤ av)); clear HB; have HB := aw; have ar := ax; have bi := az; have aQ := aA; clear aw ax az aA; clear hb hbox hg; have hcz19_0 : w18.cell? ⟨av, 0, none⟩ = some (.string (⟨#[]⟩ : ByteArray)) := (bC ar.out 0).trans rfl; have hcz19_1 : w18.cell? ⟨av, 1, none⟩ = some (.string (⟨#[]⟩ : ByteArray)) := (bC ar.out 1).trans rfl; have hfz19_0 := bF ar.out 0; have hfz19_1 := bF ar.out 1))
            have aw : Aside0 (((w18.setCell ⟨av, 0, none⟩ (.string ((rd_T38 l0 x7_1).f0))).setCell ⟨av, 1, none⟩ (.string ((rd_T38 l0 x7_1).f1))).heap[av]? = some (.cells #[.string ((rd_T38 l0 x7_1).f0), .string ((rd_T38 l0 x7_1).f1)] 38 (0, 0))) := ⟨y16⟩
            have ax : Aside0 (Below w.heap.size w ((w18.setCell ⟨av, 0, none⟩ (.string ((rd_T38 l0 x7_1).f0))).setCell ⟨av, 1, none⟩ (.string ((rd_T38 l0 x7_1).f1)))) := ⟨y5⟩
            (try clear ar)
            (try clear HB)
            generalize ((w18.setCell ⟨av, 0, none⟩ (.string ((rd_T38 l0 x7_1).f0))).setCell ⟨av, 1, none⟩ (.string ((rd_T38 l0 x7_1).f1))) = w20 at aw ax ⊢
            have ar := aw
            have HB := ax
            clear aw ax
            have aw := aM (af ar.out)
            have ax := aM (bD HB.out)
            clear ar
            clear HB
            have ar := aw
            have HB := ax
            clear aw ax
            have p146 : 0 ≤ ((ba) : Int) := oD z1
            have q146 : (ba) < (l0.length : Int) := oD z1
            obtain ⟨ad146, e146, hx146_0, hx146_1⟩ := at_T38 aK.out (ba) p146 q146
            have hw146_1 := hx146_1
            have hw146_0 := hx146_0
            obtain rfl : ad143 = ad146 := (by injection e146)
            replace hx146_0 := (HB.out.cell (World.block_lt_of_cell? w _ hx146_0)).trans hx146_0
            replace hx146_1 := (HB.out.cell (World.block_lt_of_cell? w _ hx146_1)).trans hx146_1
            replace p146 := eq_true p146
            replace q146 := eq_true q146
            refine start_ (n := 30) (S := fun w' => w'.cell? ⟨av, 0, none⟩ = some (.string ((rd_T38 l0 x7_1).f0)) ∧ w'.cell? ⟨av, 1, none⟩ = some (.string ((rd_T38 l0 x7_1).f1)) ∧ w'.cell? (ad143.add (((ba)).toNat * 2)) = some (.string ((rd_T38 l0 (ba)).f0)) ∧ w'.cell? ⟨(ad143.add (((ba)).toNat * 2)).block, (ad143.add (((ba)).toNat * 2)).off + 1, none⟩ = some (.string ((rd_T38 l0 (ba)).f1))) (ds := []) #[false, false, false, false, false, false, false, false, false, false, false, false, false, false, false, false, false, false, false, false, false, false, false, false, false, false, false, false, false, false] z0 rfl rfl ⟨(bC ar.out 0).trans rfl, (bC ar.out 1).trans rfl, ((HB.out.cell (World.block_lt_of_cell? w _ hw146_0)).trans hw146_0), ((HB.out.cell (World.block_lt_of_cell? w _ hw146_1)).trans hw146_1)⟩ (fun hHeld => ?_); refine with_tabW spec_GoodSchema.tab4 spec_GoodSchema.bits4 (fun HT_ HW_ => ?_)
            generalize w20.drew = w21 at ar HB hx146_0 hx146_1 hHeld ⊢
            refine pA 0 12 ?_
            refine tA 1 13 ?_ (hy := by rintro w' ⟨s0, s1, s2, s3⟩; go_simp; with_reducible rfl)
            refine pA 2 14 ?_
            refine pA 3 15 ?_
            refine pB 4 16 ?_
            refine pB 5 17 ?_
            refine pB 6 18 ?_
            refine pB 7 19 ?_
            refine pA 8 20 ?_
            refine pA 9 21 ?_
            refine pA 10 22 ?_
            refine tA 11 23 ?_ (hy := by rintro w' ⟨s0, s1, s2, s3⟩; go_simp; with_reducible rfl)
            refine one_ (i := 12) (N := some 24) #[true, true, true, true, true, true, true, true, true, true, true, true, true, false, false, false, false, false, false, false, false, false, false, false, false, false, false, false, false, false] rfl rfl (one_of HT_.out z0) (by decide) (fun K hK => ?_)
            refine goes_ Try.func19 z0 rfl #[.string ((rd_T38 l0 x7_1).f1)] (by rfl) rfl rfl z6 ?_
            with_reducible refine (spec_GoodExpr.calls k1 ((rd_T38 l0 x7_1).f1) true _ A6.out).mono ?_
            rintro e w22 ⟨rfl, hb⟩
            refine ⟨_, rfl, ?_⟩
            have aw := aM (ae (g := av) (o := .cells #[.string ((rd_T38 l0 x7_1).f0), .string ((rd_T38 l0 x7_1).f1)] 38 (0, 0)) (by (with_reducible repeat (first | refine ag ?_ _ | refine af ?_ | refine ah ?_ _)); exact ar.out) hb)
            have ax := aM (aj (by repeat (first | (with_reducible first | exact HB.out | apply bA | apply pD | apply bD | refine ai ?_ aQ.out) | exact HB.out)) hb)
            clear ar
            clear HB
            have ar := aw
            have HB := ax
            clear aw ax
            (try clear hb)
            (try clear hb2)
            (try clear hk)
            (try clear hi)
            refine hK.out _ _ ⟨(bC ar.out 0).trans rfl, (bC ar.out 1).trans rfl, ((HB.out.cell (World.block_lt_of_cell? w _ hw146_0)).trans hw146_0), ((HB.out.cell (World.block_lt_of_cell? w _ hw146_1)).trans hw146_1)⟩ (fun hHeld => ?_)
            clear hK K
            refine norm_ (a' := ?_) ?_ ?_
            rotate_left
            ·show Act.put _ (some 24) _ = _
             simp only [Act.put, sA, sB, sC, i64_w, i32_w]
             rfl
            refine pA 13 25 ?_
            refine pA 14 26 ?_
            refine pA 15 27 ?_
            refine pA 16 28 ?_
            refine pA 17 29 ?_
            refine pA 18 30 ?_
            refine pA 19 31 ?_
            refine pA 20 32 ?_
            refine pA 21 33 ?_
            refine pA 22 34 ?_
            refine pA 23 35 ?_
            refine pA 25 37 ?_
            refine tA 24 36 ?_ (hy := by rintro w' ⟨s0, s1, s2, s3⟩; go_simp; with_reducible rfl)
            refine tA 26 38 ?_ (hy := by rintro w' ⟨s0, s1, s2, s3⟩; go_simp; with_reducible rfl)
            refine pA 27 39 ?_
            refine pA 28 40 ?_
            refine pA 29 41 ?_
            refine done_ (done_of HT_.out z0) ?_
            try go_wp2
            go_ret
            exact ⟨by first | rfl | (simp [errW_none, errW_some] <;> rfl) | (simp only [← bB]; first | rfl | (simp [errW_none, errW_some] <;> rfl)) | (simp [*, errW_none, errW_some] <;> rfl), y5⟩
          ·rw [if_neg bx] at H
           exact absurd H (by simp)
         ·rw [if_neg ca] at H
          exact absurd H (by simp)
        ·rw [if_neg c8] at H
         have c8b0 : decide (0 < x7_1) = false := dF c8
         clear c8
         have H' := aM H
         clear H
         have p143 : 0 ≤ (x7_1 : Int) := oD z1
         have q143 : x7_1 < (l0.length : Int) := oD z1
         obtain ⟨ad143, e143, hx143_0, hx143_1⟩ := at_T38 aK.out x7_1 p143 q143
         cases e143
         replace hx143_0 := (HB.out.cell (World.block_lt_of_cell? w _ hx143_0)).trans hx143_0
         replace hx143_1 := (HB.out.cell (World.block_lt_of_cell? w _ hx143_1)).trans hx143_1
         replace p143 := eq_true p143
         replace q143 := eq_true q143
         try go_wp2_with (first | ((with_reducible refine am (N := 4) rfl ?_); refine ao ?hg (N := 4) ?hd (cs := #[.string (⟨#[]⟩ : ByteArray), .string (⟨#[]⟩ : ByteArray)]) (t := 38) ?hr ?_; (case hd => rfl); (case hg => rfl); (case hr => first | (go_simp; done) | (go_simp; rfl)); intro av hg w23 hbox hb; have aw := aM (aj z5 hb); have ax := aM (hbox); have az := aM ((by rw [hg]; exact (ak z5) : w.heap.size ≤ av)); have aA := aM ((by rw [hg]; exact (ak z5) : w.heap.size ≤ av)); clear HB; have HB := aw; have ar := ax; have bi := az; have aQ := aA; clear aw ax az aA; clear hb hbox hg; have hcz24_0 : w23.cell? ⟨av, 0, none⟩ = some (.string (⟨#[]⟩ : ByteArray)) := (bC ar.out 0).trans rfl; have hcz24_1 : w23.cell? ⟨av, 1, none⟩ = some (.string (⟨#[]⟩ : ByteArray)) := (bC ar.out 1).trans rfl; have hfz24_0 := bF ar.out 0; have hfz24_1 := bF ar.out 1))
         have aw : Aside0 (((w23.setCell ⟨av, 0, none⟩ (.string ((rd_T38 l0 x7_1).f0))).setCell ⟨av, 1, none⟩ (.string ((rd_T38 l0 x7_1).f1))).heap[av]? = some (.cells #[.string ((rd_T38 l0 x7_1).f0), .string ((rd_T38 l0 x7_1).f1)] 38 (0, 0))) := ⟨y16⟩
         have ax : Aside0 (Below w.heap.size w ((w23.setCell ⟨av, 0, none⟩ (.string ((rd_T38 l0 x7_1).f0))).setCell ⟨av, 1, none⟩ (.string ((rd_T38 l0 x7_1).f1)))) := ⟨y5⟩
         (try clear ar)
         (try clear HB)
         generalize ((w23.setCell ⟨av, 0, none⟩ (.string ((rd_T38 l0 x7_1).f0))).setCell ⟨av, 1, none⟩ (.string ((rd_T38 l0 x7_1).f1))) = w25 at aw ax ⊢
         have ar := aw
         have HB := ax
         clear aw ax
         have aw := aM (af ar.out)
         have ax := aM (bD HB.out)
         clear ar
         clear HB
         have ar := aw
         have HB := ax
         clear aw ax
         refine start_ (n := 30) (S := fun w' => w'.cell? ⟨av, 0, none⟩ = some (.string ((rd_T38 l0 x7_1).f0)) ∧ w'.cell? ⟨av, 1, none⟩ = some (.string ((rd_T38 l0 x7_1).f1))) (ds := []) #[false, false, false, false, false, false, false, false, false, false, false, false, false, false, false, false, false, false, false, false, false, false, false, false, false, false, false, false, false, false] z0 rfl rfl ⟨(bC ar.out 0).trans rfl, (bC ar.out 1).trans rfl⟩ (fun hHeld => ?_); refine with_tabW spec_GoodSchema.tab4 spec_GoodSchema.bits4 (fun HT_ HW_ => ?_)
         generalize w25.drew = w26 at ar HB hHeld ⊢
         refine pA 0 12 ?_
         refine tA 1 13 ?_ (hy := by rintro w' ⟨s0, s1⟩; go_simp; with_reducible rfl)
         refine pA 2 14 ?_
         refine pA 3 15 ?_
         refine pB 4 16 ?_
         refine pB 5 17 ?_
         refine pB 6 18 ?_
         refine pB 7 19 ?_
         refine pA 8 20 ?_
         refine pA 9 21 ?_
         refine pA 10 22 ?_
         refine tA 11 23 ?_ (hy := by rintro w' ⟨s0, s1⟩; go_simp; with_reducible rfl)
         refine one_ (i := 12) (N := some 24) #[true, true, true, true, true, true, true, true, true, true, true, true, true, false, false, false, false, false, false, false, false, false, false, false, false, false, false, false, false, false] rfl rfl (one_of HT_.out z0) (by decide) (fun K hK => ?_)
         refine goes_ Try.func19 z0 rfl #[.string ((rd_T38 l0 x7_1).f1)] (by rfl) rfl rfl z6 ?_
         with_reducible refine (spec_GoodExpr.calls k1 ((rd_T38 l0 x7_1).f1) true _ A6.out).mono ?_
         rintro e w27 ⟨rfl, hb⟩
         refine ⟨_, rfl, ?_⟩
         have aw := aM (ae (g := av) (o := .cells #[.string ((rd_T38 l0 x7_1).f0), .string ((rd_T38 l0 x7_1).f1)] 38 (0, 0)) (by (with_reducible repeat (first | refine ag ?_ _ | refine af ?_ | refine ah ?_ _)); exact ar.out) hb)
         have ax := aM (aj (by repeat (first | (with_reducible first | exact HB.out | apply bA | apply pD | apply bD | refine ai ?_ aQ.out) | exact HB.out)) hb)
         clear ar
         clear HB
         have ar := aw
         have HB := ax
         clear aw ax
         (try clear hb)
         (try clear hb2)
         (try clear hk)
         (try clear hi)
         refine hK.out _ _ ⟨(bC ar.out 0).trans rfl, (bC ar.out 1).trans rfl⟩ (fun hHeld => ?_)
         clear hK K
         refine norm_ (a' := ?_) ?_ ?_
         rotate_left
         ·show Act.put _ (some 24) _ = _
          simp only [Act.put, sA, sB, sC, i64_w, i32_w]
          rfl
         refine pA 13 25 ?_
         refine pA 14 26 ?_
         refine pA 15 27 ?_
         refine pA 16 28 ?_
         refine pA 17 29 ?_
         refine pA 18 30 ?_
         refine pB 19 31 ?_
         refine pB 20 32 ?_
         refine pB 21 33 ?_
         refine pB 22 34 ?_
         refine pB 23 35 ?_
         refine pB 24 36 ?_
         refine pB 25 37 ?_
         refine pB 26 38 ?_
         refine pB 27 39 ?_
         refine pA 28 40 ?_
         refine pA 29 41 ?_
         refine done_ (done_of HT_.out z0) ?_
         try go_wp2
         go_roundg k1
         case measure => have := HK1.out; omega
         case rel => exact ⟨(wrap64 (x7_1 + 1)), (by first | rfl | (simp; done) | (simp [*]; done)), H', ⟨by have := HK1.out; omega⟩, ⟨y5⟩⟩
       ·replace c7 := Bool.eq_false_iff.mpr c7
        subst c7
        rw [if_neg (show ¬ (false = true) by decide)] at H
        obtain rfl := sI H
        have p143 : 0 ≤ (x7_1 : Int) := oD z1
        have q143 : x7_1 < (l0.length : Int) := oD z1
        obtain ⟨ad143, e143, hx143_0, hx143_1⟩ := at_T38 aK.out x7_1 p143 q143
        cases e143
        replace hx143_0 := (HB.out.cell (World.block_lt_of_cell? w _ hx143_0)).trans hx143_0
        replace hx143_1 := (HB.out.cell (World.block_lt_of_cell? w _ hx143_1)).trans hx143_1
        replace p143 := eq_true p143
        replace q143 := eq_true q143
        try go_wp2_with (first | ((with_reducible refine am (N := 4) rfl ?_); refine ao ?hg (N := 4) ?hd (cs := #[.string (⟨#[]⟩ : ByteArray), .string (⟨#[]⟩ : ByteArray)]) (t := 38) ?hr ?_; (case hd => rfl); (case hg => rfl); (case hr => first | (go_simp; done) | (go_simp; rfl)); intro av hg w28 hbox hb; have aw := aM (aj z5 hb); have ax := aM (hbox); have az := aM ((by rw [hg]; exact (ak z5) : w.heap.size ≤ av)); have aA := aM ((by rw [hg]; exact (ak z5) : w.heap.size ≤ av)); clear HB; have HB := aw; have ar := ax; have bi := az; have aQ := aA; clear aw ax az aA; clear hb hbox hg; have hcz29_0 : w28.cell? ⟨av, 0, none⟩ = some (.string (⟨#[]⟩ : ByteArray)) := (bC ar.out 0).trans rfl; have hcz29_1 : w28.cell? ⟨av, 1, none⟩ = some (.string (⟨#[]⟩ : ByteArray)) := (bC ar.out 1).trans rfl; have hfz29_0 := bF ar.out 0; have hfz29_1 := bF ar.out 1))
        have aw : Aside0 (((w28.setCell ⟨av, 0, none⟩ (.string ((rd_T38 l0 x7_1).f0))).setCell ⟨av, 1, none⟩ (.string ((rd_T38 l0 x7_1).f1))).heap[av]? = some (.cells #[.string ((rd_T38 l0 x7_1).f0), .string ((rd_T38 l0 x7_1).f1)] 38 (0, 0))) := ⟨y16⟩
        have ax : Aside0 (Below w.heap.size w ((w28.setCell ⟨av, 0, none⟩ (.string ((rd_T38 l0 x7_1).f0))).setCell ⟨av, 1, none⟩ (.string ((rd_T38 l0 x7_1).f1)))) := ⟨y5⟩
        (try clear ar)
        (try clear HB)
        generalize ((w28.setCell ⟨av, 0, none⟩ (.string ((rd_T38 l0 x7_1).f0))).setCell ⟨av, 1, none⟩ (.string ((rd_T38 l0 x7_1).f1))) = w30 at aw ax ⊢
        have ar := aw
        have HB := ax
        clear aw ax
        have aw := aM (af ar.out)
        have ax := aM (bD HB.out)
        clear ar
        clear HB
        have ar := aw
        have HB := ax
        clear aw ax
        refine start_ (n := 30) (S := fun w' => w'.cell? ⟨av, 0, none⟩ = some (.string ((rd_T38 l0 x7_1).f0)) ∧ w'.cell? ⟨av, 1, none⟩ = some (.string ((rd_T38 l0 x7_1).f1))) (ds := []) #[false, false, false, false, false, false, false, false, false, false, false, false, false, false, false, false, false, false, false, false, false, false, false, false, false, false, false, false, false, false] z0 rfl rfl ⟨(bC ar.out 0).trans rfl, (bC ar.out 1).trans rfl⟩ (fun hHeld => ?_); refine with_tabW spec_GoodSchema.tab4 spec_GoodSchema.bits4 (fun HT_ HW_ => ?_)
        generalize w30.drew = w31 at ar HB hHeld ⊢
        refine pA 0 12 ?_
        refine tA 1 13 ?_ (hy := by rintro w' ⟨s0, s1⟩; go_simp; with_reducible rfl)
        refine pA 2 14 ?_
        refine pA 3 15 ?_
        refine pB 4 16 ?_
        refine pB 5 17 ?_
        refine pB 6 18 ?_
        refine pB 7 19 ?_
        refine pA 8 20 ?_
        refine pA 9 21 ?_
        refine pA 10 22 ?_
        refine tA 11 23 ?_ (hy := by rintro w' ⟨s0, s1⟩; go_simp; with_reducible rfl)
        refine one_ (i := 12) (N := some 24) #[true, true, true, true, true, true, true, true, true, true, true, true, true, false, false, false, false, false, false, false, false, false, false, false, false, false, false, false, false, false] rfl rfl (one_of HT_.out z0) (by decide) (fun K hK => ?_)
        refine goes_ Try.func19 z0 rfl #[.string ((rd_T38 l0 x7_1).f1)] (by rfl) rfl rfl z6 ?_
        with_reducible refine (spec_GoodExpr.calls k1 ((rd_T38 l0 x7_1).f1) false _ A6.out).mono ?_
        rintro e w32 ⟨rfl, hb⟩
        refine ⟨_, rfl, ?_⟩
        have aw := aM (ae (g := av) (o := .cells #[.string ((rd_T38 l0 x7_1).f0), .string ((rd_T38 l0 x7_1).f1)] 38 (0, 0)) (by (with_reducible repeat (first | refine ag ?_ _ | refine af ?_ | refine ah ?_ _)); exact ar.out) hb)
        have ax := aM (aj (by repeat (first | (with_reducible first | exact HB.out | apply bA | apply pD | apply bD | refine ai ?_ aQ.out) | exact HB.out)) hb)
        clear ar
        clear HB
        have ar := aw
        have HB := ax
        clear aw ax
        (try clear hb)
        (try clear hb2)
        (try clear hk)
        (try clear hi)
        refine hK.out _ _ ⟨(bC ar.out 0).trans rfl, (bC ar.out 1).trans rfl⟩ (fun hHeld => ?_)
        clear hK K
        refine norm_ (a' := ?_) ?_ ?_
        rotate_left
        ·show Act.put _ (some 24) _ = _
         simp only [Act.put, sA, sB, sC, i64_w, i32_w]
         rfl
        refine pA 13 25 ?_
        refine pA 14 26 ?_
        refine pA 15 27 ?_
        refine pB 16 28 ?_
        refine pB 17 29 ?_
        refine pB 18 30 ?_
        refine pB 19 31 ?_
        refine pB 20 32 ?_
        refine pB 21 33 ?_
        refine pB 22 34 ?_
        refine pB 23 35 ?_
        refine pB 24 36 ?_
        refine pB 25 37 ?_
        refine pB 26 38 ?_
        refine pB 27 39 ?_
        refine pB 28 40 ?_
        refine pA 29 41 ?_
        refine done_ (done_of HT_.out z0) ?_
        try go_wp2
        go_ret
        exact ⟨y2, y5⟩
      ·rw [if_neg c5] at H
       have c5b0 : (((rd_T38 l0 x7_1).f0).toList == ([45] : List UInt8)) = false := qF c5
       have c5b1 : (((rd_T38 l0 x7_1).f0).toList != ([45] : List UInt8)) = true := nT c5
       replace H := oB H
       obtain ⟨cx, cQ, H⟩ := H
       try dsimp only at H
       have cE := aM cQ
       clear cQ
       by_cases cW : cx = true
       ·subst cW
        rw [if_pos rfl] at H
        replace H := oB H
        obtain ⟨cw, cN, H⟩ := H
        try dsimp only at H
        have cO := aM cN
        clear cN
        by_cases cU : cw = true
        ·subst cU
         rw [if_pos rfl] at H
         by_cases b9 : x7_1 > 0
         ·rw [if_pos b9] at H
          have c37b0 : decide (0 < x7_1) = true := dT b9
          clear b9
          obtain ⟨aI, bd⟩ : ∃ j_ : Int, (wrap64 (x7_1 - 1)) = j_ := ⟨_, rfl⟩
          replace H : (if 0 ≤ (aI) then (if (aI) < (l0.length : Int) then (if ((Op.bytesLess (((rd_T38 l0 (aI)).f0).toList) (((rd_T38 l0 x7_1).f0).toList)) = true) then (spec_GoodSchema.l0 k1 l0 l0 (l0.length : Int) (wrap64 (x7_1 + 1))) else (some false)) else (none)) else (none)) = some r := by first | (rw [bd] at H; exact H) | (simp only [bd] at H ⊢; exact H)
          (try rw [bd] at cE)
          (try rw [bd] at cO)
          have hji38w : (IntKind.i64.wrap (x7_1 - 1)) = aI := (i64_w _).trans bd
          by_cases cT : 0 ≤ (aI)
          ·rw [if_pos cT] at H
           have c39b0 : decide (0 ≤ (aI)) = true := dT cT
           clear cT
           by_cases cd : (aI) < (l0.length : Int)
           ·rw [if_pos cd] at H
            have c40b0 : decide ((aI) < (l0.length : Int)) = true := dT cd
            clear cd
            by_cases b8 : ((Op.bytesLess (((rd_T38 l0 (aI)).f0).toList) (((rd_T38 l0 x7_1).f0).toList)) = true)
            ·rw [if_pos b8] at H
             have c41b0 : (Op.bytesLess (((rd_T38 l0 (aI)).f0).toList) (((rd_T38 l0 x7_1).f0).toList)) = true := b8
             clear b8
             have H' := aM H
             clear H
             have p143 : 0 ≤ (x7_1 : Int) := oD z1
             have q143 : x7_1 < (l0.length : Int) := oD z1
             obtain ⟨ad143, e143, hx143_0, hx143_1⟩ := at_T38 aK.out x7_1 p143 q143
             cases e143
             replace hx143_0 := (HB.out.cell (World.block_lt_of_cell? w _ hx143_0)).trans hx143_0
             replace hx143_1 := (HB.out.cell (World.block_lt_of_cell? w _ hx143_1)).trans hx143_1
             replace p143 := eq_true p143
             replace q143 := eq_true q143
             try go_wp2_with (first | ((with_reducible refine am (N := 4) rfl ?_); refine ao ?hg (N := 4) ?hd (cs := #[.string (⟨#[]⟩ : ByteArray), .string (⟨#[]⟩ : ByteArray)]) (t := 38) ?hr ?_; (case hd => rfl); (case hg => rfl); (case hr => first | (go_simp; done) | (go_simp; rfl)); intro av hg w42 hbox hb; have aw := aM (aj z5 hb); have ax := aM (hbox); have az := aM ((by rw [hg]; exact (ak z5) : w.heap.size ≤ av)); have aA := aM ((by rw [hg]; exact (ak z5) : w.heap.size ≤ av)); clear HB; have HB := aw; have ar := ax; have bi := az; have aQ := aA; clear aw ax az aA; clear hb hbox hg; have hcz43_0 : w42.cell? ⟨av, 0, none⟩ = some (.string (⟨#[]⟩ : ByteArray)) := (bC ar.out 0).trans rfl; have hcz43_1 : w42.cell? ⟨av, 1, none⟩ = some (.string (⟨#[]⟩ : ByteArray)) := (bC ar.out 1).trans rfl; have hfz43_0 := bF ar.out 0; have hfz43_1 := bF ar.out 1))
             have aw : Aside0 (((w42.setCell ⟨av, 0, none⟩ (.string ((rd_T38 l0 x7_1).f0))).setCell ⟨av, 1, none⟩ (.string ((rd_T38 l0 x7_1).f1))).heap[av]? = some (.cells #[.string ((rd_T38 l0 x7_1).f0), .string ((rd_T38 l0 x7_1).f1)] 38 (0, 0))) := ⟨y16⟩
             have ax : Aside0 (Below w.heap.size w ((w42.setCell ⟨av, 0, none⟩ (.string ((rd_T38 l0 x7_1).f0))).setCell ⟨av, 1, none⟩ (.string ((rd_T38 l0 x7_1).f1)))) := ⟨y5⟩
             (try clear ar)
             (try clear HB)
             generalize ((w42.setCell ⟨av, 0, none⟩ (.string ((rd_T38 l0 x7_1).f0))).setCell ⟨av, 1, none⟩ (.string ((rd_T38 l0 x7_1).f1))) = w44 at aw ax ⊢
             have ar := aw
             have HB := ax
             clear aw ax
             have aw := aM (af ar.out)
             have ax := aM (bD HB.out)
             clear ar
             clear HB
             have ar := aw
             have HB := ax
             clear aw ax
             have p149 : 0 ≤ ((aI) : Int) := oD z1
             have q149 : (aI) < (l0.length : Int) := oD z1
             obtain ⟨ad149, e149, hx149_0, hx149_1⟩ := at_T38 aK.out (aI) p149 q149
             have hw149_1 := hx149_1
             have hw149_0 := hx149_0
             obtain rfl : ad143 = ad149 := (by injection e149)
             replace hx149_0 := (HB.out.cell (World.block_lt_of_cell? w _ hx149_0)).trans hx149_0
             replace hx149_1 := (HB.out.cell (World.block_lt_of_cell? w _ hx149_1)).trans hx149_1
             replace p149 := eq_true p149
             replace q149 := eq_true q149
             refine start_ (n := 30) (S := fun w' => w'.cell? ⟨av, 0, none⟩ = some (.string ((rd_T38 l0 x7_1).f0)) ∧ w'.cell? ⟨av, 1, none⟩ = some (.string ((rd_T38 l0 x7_1).f1)) ∧ w'.cell? (ad143.add (((aI)).toNat * 2)) = some (.string ((rd_T38 l0 (aI)).f0)) ∧ w'.cell? ⟨(ad143.add (((aI)).toNat * 2)).block, (ad143.add (((aI)).toNat * 2)).off + 1, none⟩ = some (.string ((rd_T38 l0 (aI)).f1))) (ds := []) #[false, false, false, false, false, false, false, false, false, false, false, false, false, false, false, false, false, false, false, false, false, false, false, false, false, false, false, false, false, false] z0 rfl rfl ⟨(bC ar.out 0).trans rfl, (bC ar.out 1).trans rfl, ((HB.out.cell (World.block_lt_of_cell? w _ hw149_0)).trans hw149_0), ((HB.out.cell (World.block_lt_of_cell? w _ hw149_1)).trans hw149_1)⟩ (fun hHeld => ?_); refine with_tabW spec_GoodSchema.tab4 spec_GoodSchema.bits4 (fun HT_ HW_ => ?_)
             generalize w44.drew = w45 at ar HB hx149_0 hx149_1 hHeld ⊢
             refine pA 0 12 ?_
             refine tA 1 13 ?_ (hy := by rintro w' ⟨s0, s1, s2, s3⟩; go_simp; with_reducible rfl)
             refine pA 2 14 ?_
             refine pA 3 15 ?_
             refine pA 4 16 ?_
             refine tA 5 17 ?_ (hy := by rintro w' ⟨s0, s1, s2, s3⟩; go_simp; with_reducible rfl)
             refine one_ (i := 6) (N := some 18) #[true, true, true, true, true, true, true, false, false, false, false, false, false, false, false, false, false, false, false, false, false, false, false, false, false, false, false, false, false, false] rfl rfl (one_of HT_.out z0) (by decide) (fun K hK => ?_)
             refine goes_ Try.func18 z0 rfl #[.string ((rd_T38 l0 x7_1).f0)] (by rfl) rfl rfl z6 ?_
             with_reducible refine (spec_l1Name.calls ((rd_T38 l0 x7_1).f0) true _ cE.out).mono ?_
             rintro e w' ⟨rfl, ⟨nd, rfl⟩⟩
             refine ⟨_, rfl, ?_⟩
             refine hK.out _ _ ⟨(bC ar.out 0).trans rfl, (bC ar.out 1).trans rfl, ((HB.out.cell (World.block_lt_of_cell? w _ hw149_0)).trans hw149_0), ((HB.out.cell (World.block_lt_of_cell? w _ hw149_1)).trans hw149_1)⟩ (fun hHeld => ?_)
             clear hK K
             refine norm_ (a' := ?_) ?_ ?_
             rotate_left
             ·show Act.put _ (some 18) _ = _
              simp only [Act.put, sA, sB, sC, i64_w, i32_w]
              rfl
             refine pA 7 19 ?_
             refine pA 8 20 ?_
             refine pA 9 21 ?_
             refine pA 10 22 ?_
             refine tA 11 23 ?_ (hy := by rintro w' ⟨s0, s1, s2, s3⟩; go_simp; with_reducible rfl)
             refine one_ (i := 12) (N := some 24) #[true, true, true, true, true, true, true, true, true, true, true, true, true, false, false, false, false, false, false, false, false, false, false, false, false, false, false, false, false, false] rfl rfl (one_of HT_.out z0) (by decide) (fun K hK => ?_)
             refine goes_ Try.func19 z0 rfl #[.string ((rd_T38 l0 x7_1).f1)] (by rfl) rfl rfl z6 ?_
             with_reducible refine (spec_GoodExpr.calls k1 ((rd_T38 l0 x7_1).f1) true _ cO.out).mono ?_
             rintro e w46 ⟨rfl, hb⟩
             refine ⟨_, rfl, ?_⟩
             have aw := aM (ae (g := av) (o := .cells #[.string ((rd_T38 l0 x7_1).f0), .string ((rd_T38 l0 x7_1).f1)] 38 (0, 0)) (by (with_reducible repeat (first | refine ag ?_ _ | refine af ?_ | refine ah ?_ _)); exact ar.out) hb)
             have ax := aM (aj (by repeat (first | (with_reducible first | exact HB.out | apply bA | apply pD | apply bD | refine ai ?_ aQ.out) | exact HB.out)) hb)
             clear ar
             clear HB
             have ar := aw
             have HB := ax
             clear aw ax
             (try clear hb)
             (try clear hb2)
             (try clear hk)
             (try clear hi)
             refine hK.out _ _ ⟨(bC ar.out 0).trans rfl, (bC ar.out 1).trans rfl, ((HB.out.cell (World.block_lt_of_cell? w _ hw149_0)).trans hw149_0), ((HB.out.cell (World.block_lt_of_cell? w _ hw149_1)).trans hw149_1)⟩ (fun hHeld => ?_)
             clear hK K
             refine norm_ (a' := ?_) ?_ ?_
             rotate_left
             ·show Act.put _ (some 24) _ = _
              simp only [Act.put, sA, sB, sC, i64_w, i32_w]
              rfl
             refine pA 13 25 ?_
             refine pA 14 26 ?_
             refine pA 15 27 ?_
             refine pA 16 28 ?_
             refine pA 17 29 ?_
             refine pA 18 30 ?_
             refine pA 19 31 ?_
             refine pA 20 32 ?_
             refine pA 21 33 ?_
             refine pA 22 34 ?_
             refine pA 23 35 ?_
             refine pA 25 37 ?_
             refine tA 24 36 ?_ (hy := by rintro w' ⟨s0, s1, s2, s3⟩; go_simp; with_reducible rfl)
             refine tA 26 38 ?_ (hy := by rintro w' ⟨s0, s1, s2, s3⟩; go_simp; with_reducible rfl)
             refine pA 27 39 ?_
             refine pA 28 40 ?_
             refine pA 29 41 ?_
             refine done_ (done_of HT_.out z0) ?_
             try go_wp2
             go_roundg k1
             case measure => have := HK1.out; omega
             case rel => exact ⟨(wrap64 (x7_1 + 1)), (by first | rfl | (simp; done) | (simp [*]; done)), (by first | exact H' | (simp only [bd]; exact H') | (simp only [← bd]; exact H')), ⟨by have := HK1.out; omega⟩, ⟨y5⟩⟩
            ·rw [if_neg b8] at H
             have c41b0 : (Op.bytesLess (((rd_T38 l0 (aI)).f0).toList) (((rd_T38 l0 x7_1).f0).toList)) = false := by simpa using b8
             clear b8
             obtain rfl := sI H
             have p143 : 0 ≤ (x7_1 : Int) := oD z1
             have q143 : x7_1 < (l0.length : Int) := oD z1
             obtain ⟨ad143, e143, hx143_0, hx143_1⟩ := at_T38 aK.out x7_1 p143 q143
             cases e143
             replace hx143_0 := (HB.out.cell (World.block_lt_of_cell? w _ hx143_0)).trans hx143_0
             replace hx143_1 := (HB.out.cell (World.block_lt_of_cell? w _ hx143_1)).trans hx143_1
             replace p143 := eq_true p143
             replace q143 := eq_true q143
             try go_wp2_with (first | ((with_reducible refine am (N := 4) rfl ?_); refine ao ?hg (N := 4) ?hd (cs := #[.string (⟨#[]⟩ : ByteArray), .string (⟨#[]⟩ : ByteArray)]) (t := 38) ?hr ?_; (case hd => rfl); (case hg => rfl); (case hr => first | (go_simp; done) | (go_simp; rfl)); intro av hg w47 hbox hb; have aw := aM (aj z5 hb); have ax := aM (hbox); have az := aM ((by rw [hg]; exact (ak z5) : w.heap.size ≤ av)); have aA := aM ((by rw [hg]; exact (ak z5) : w.heap.size ≤ av)); clear HB; have HB := aw; have ar := ax; have bi := az; have aQ := aA; clear aw ax az aA; clear hb hbox hg; have hcz48_0 : w47.cell? ⟨av, 0, none⟩ = some (.string (⟨#[]⟩ : ByteArray)) := (bC ar.out 0).trans rfl; have hcz48_1 : w47.cell? ⟨av, 1, none⟩ = some (.string (⟨#[]⟩ : ByteArray)) := (bC ar.out 1).trans rfl; have hfz48_0 := bF ar.out 0; have hfz48_1 := bF ar.out 1))
             have aw : Aside0 (((w47.setCell ⟨av, 0, none⟩ (.string ((rd_T38 l0 x7_1).f0))).setCell ⟨av, 1, none⟩ (.string ((rd_T38 l0 x7_1).f1))).heap[av]? = some (.cells #[.string ((rd_T38 l0 x7_1).f0), .string ((rd_T38 l0 x7_1).f1)] 38 (0, 0))) := ⟨y16⟩
             have ax : Aside0 (Below w.heap.size w ((w47.setCell ⟨av, 0, none⟩ (.string ((rd_T38 l0 x7_1).f0))).setCell ⟨av, 1, none⟩ (.string ((rd_T38 l0 x7_1).f1)))) := ⟨y5⟩
             (try clear ar)
             (try clear HB)
             generalize ((w47.setCell ⟨av, 0, none⟩ (.string ((rd_T38 l0 x7_1).f0))).setCell ⟨av, 1, none⟩ (.string ((rd_T38 l0 x7_1).f1))) = w49 at aw ax ⊢
             have ar := aw
             have HB := ax
             clear aw ax
             have aw := aM (af ar.out)
             have ax := aM (bD HB.out)
             clear ar
             clear HB
             have ar := aw
             have HB := ax
             clear aw ax
             have p149 : 0 ≤ ((aI) : Int) := oD z1
             have q149 : (aI) < (l0.length : Int) := oD z1
             obtain ⟨ad149, e149, hx149_0, hx149_1⟩ := at_T38 aK.out (aI) p149 q149
             have hw149_1 := hx149_1
             have hw149_0 := hx149_0
             obtain rfl : ad143 = ad149 := (by injection e149)
             replace hx149_0 := (HB.out.cell (World.block_lt_of_cell? w _ hx149_0)).trans hx149_0
             replace hx149_1 := (HB.out.cell (World.block_lt_of_cell? w _ hx149_1)).trans hx149_1
             replace p149 := eq_true p149
             replace q149 := eq_true q149
             refine start_ (n := 30) (S := fun w' => w'.cell? ⟨av, 0, none⟩ = some (.string ((rd_T38 l0 x7_1).f0)) ∧ w'.cell? ⟨av, 1, none⟩ = some (.string ((rd_T38 l0 x7_1).f1)) ∧ w'.cell? (ad143.add (((aI)).toNat * 2)) = some (.string ((rd_T38 l0 (aI)).f0)) ∧ w'.cell? ⟨(ad143.add (((aI)).toNat * 2)).block, (ad143.add (((aI)).toNat * 2)).off + 1, none⟩ = some (.string ((rd_T38 l0 (aI)).f1))) (ds := []) #[false, false, false, false, false, false, false, false, false, false, false, false, false, false, false, false, false, false, false, false, false, false, false, false, false, false, false, false, false, false] z0 rfl rfl ⟨(bC ar.out 0).trans rfl, (bC ar.out 1).trans rfl, ((HB.out.cell (World.block_lt_of_cell? w _ hw149_0)).trans hw149_0), ((HB.out.cell (World.block_lt_of_cell? w _ hw149_1)).trans hw149_1)⟩ (fun hHeld => ?_); refine with_tabW spec_GoodSchema.tab4 spec_GoodSchema.bits4 (fun HT_ HW_ => ?_)
             generalize w49.drew = w50 at ar HB hx149_0 hx149_1 hHeld ⊢
             refine pA 0 12 ?_
             refine tA 1 13 ?_ (hy := by rintro w' ⟨s0, s1, s2, s3⟩; go_simp; with_reducible rfl)
             refine pA 2 14 ?_
             refine pA 3 15 ?_
             refine pA 4 16 ?_
             refine tA 5 17 ?_ (hy := by rintro w' ⟨s0, s1, s2, s3⟩; go_simp; with_reducible rfl)
             refine one_ (i := 6) (N := some 18) #[true, true, true, true, true, true, true, false, false, false, false, false, false, false, false, false, false, false, false, false, false, false, false, false, false, false, false, false, false, false] rfl rfl (one_of HT_.out z0) (by decide) (fun K hK => ?_)
             refine goes_ Try.func18 z0 rfl #[.string ((rd_T38 l0 x7_1).f0)] (by rfl) rfl rfl z6 ?_
             with_reducible refine (spec_l1Name.calls ((rd_T38 l0 x7_1).f0) true _ cE.out).mono ?_
             rintro e w' ⟨rfl, ⟨nd, rfl⟩⟩
             refine ⟨_, rfl, ?_⟩
             refine hK.out _ _ ⟨(bC ar.out 0).trans rfl, (bC ar.out 1).trans rfl, ((HB.out.cell (World.block_lt_of_cell? w _ hw149_0)).trans hw149_0), ((HB.out.cell (World.block_lt_of_cell? w _ hw149_1)).trans hw149_1)⟩ (fun hHeld => ?_)
             clear hK K
             refine norm_ (a' := ?_) ?_ ?_
             rotate_left
             ·show Act.put _ (some 18) _ = _
              simp only [Act.put, sA, sB, sC, i64_w, i32_w]
              rfl
             refine pA 7 19 ?_
             refine pA 8 20 ?_
             refine pA 9 21 ?_
             refine pA 10 22 ?_
             refine tA 11 23 ?_ (hy := by rintro w' ⟨s0, s1, s2, s3⟩; go_simp; with_reducible rfl)
             refine one_ (i := 12) (N := some 24) #[true, true, true, true, true, true, true, true, true, true, true, true, true, false, false, false, false, false, false, false, false, false, false, false, false, false, false, false, false, false] rfl rfl (one_of HT_.out z0) (by decide) (fun K hK => ?_)
             refine goes_ Try.func19 z0 rfl #[.string ((rd_T38 l0 x7_1).f1)] (by rfl) rfl rfl z6 ?_
             with_reducible refine (spec_GoodExpr.calls k1 ((rd_T38 l0 x7_1).f1) true _ cO.out).mono ?_
             rintro e w51 ⟨rfl, hb⟩
             refine ⟨_, rfl, ?_⟩
             have aw := aM (ae (g := av) (o := .cells #[.string ((rd_T38 l0 x7_1).f0), .string ((rd_T38 l0 x7_1).f1)] 38 (0, 0)) (by (with_reducible repeat (first | refine ag ?_ _ | refine af ?_ | refine ah ?_ _)); exact ar.out) hb)
             have ax := aM (aj (by repeat (first | (with_reducible first | exact HB.out | apply bA | apply pD | apply bD | refine ai ?_ aQ.out) | exact HB.out)) hb)
             clear ar
             clear HB
             have ar := aw
             have HB := ax
             clear aw ax
             (try clear hb)
             (try clear hb2)
             (try clear hk)
             (try clear hi)
             refine hK.out _ _ ⟨(bC ar.out 0).trans rfl, (bC ar.out 1).trans rfl, ((HB.out.cell (World.block_lt_of_cell? w _ hw149_0)).trans hw149_0), ((HB.out.cell (World.block_lt_of_cell? w _ hw149_1)).trans hw149_1)⟩ (fun hHeld => ?_)
             clear hK K
             refine norm_ (a' := ?_) ?_ ?_
             rotate_left
             ·show Act.put _ (some 24) _ = _
              simp only [Act.put, sA, sB, sC, i64_w, i32_w]
              rfl
             refine pA 13 25 ?_
             refine pA 14 26 ?_
             refine pA 15 27 ?_
             refine pA 16 28 ?_
             refine pA 17 29 ?_
             refine pA 18 30 ?_
             refine pA 19 31 ?_
             refine pA 20 32 ?_
             refine pA 21 33 ?_
             refine pA 22 34 ?_
             refine pA 23 35 ?_
             refine pA 25 37 ?_
             refine tA 24 36 ?_ (hy := by rintro w' ⟨s0, s1, s2, s3⟩; go_simp; with_reducible rfl)
             refine tA 26 38 ?_ (hy := by rintro w' ⟨s0, s1, s2, s3⟩; go_simp; with_reducible rfl)
             refine pA 27 39 ?_
             refine pA 28 40 ?_
             refine pA 29 41 ?_
             refine done_ (done_of HT_.out z0) ?_
             try go_wp2
             go_ret
             exact ⟨by first | rfl | (simp [errW_none, errW_some] <;> rfl) | (simp only [← bd]; first | rfl | (simp [errW_none, errW_some] <;> rfl)) | (simp [*, errW_none, errW_some] <;> rfl), y5⟩
           ·rw [if_neg cd] at H
            exact absurd H (by simp)
          ·rw [if_neg cT] at H
           exact absurd H (by simp)
         ·rw [if_neg b9] at H
          have c37b0 : decide (0 < x7_1) = false := dF b9
          clear b9
          have H' := aM H
          clear H
          have p143 : 0 ≤ (x7_1 : Int) := oD z1
          have q143 : x7_1 < (l0.length : Int) := oD z1
          obtain ⟨ad143, e143, hx143_0, hx143_1⟩ := at_T38 aK.out x7_1 p143 q143
          cases e143
          replace hx143_0 := (HB.out.cell (World.block_lt_of_cell? w _ hx143_0)).trans hx143_0
          replace hx143_1 := (HB.out.cell (World.block_lt_of_cell? w _ hx143_1)).trans hx143_1
          replace p143 := eq_true p143
          replace q143 := eq_true q143
          try go_wp2_with (first | ((with_reducible refine am (N := 4) rfl ?_); refine ao ?hg (N := 4) ?hd (cs := #[.string (⟨#[]⟩ : ByteArray), .string (⟨#[]⟩ : ByteArray)]) (t := 38) ?hr ?_; (case hd => rfl); (case hg => rfl); (case hr => first | (go_simp; done) | (go_simp; rfl)); intro av hg w52 hbox hb; have aw := aM (aj z5 hb); have ax := aM (hbox); have az := aM ((by rw [hg]; exact (ak z5) : w.heap.size ≤ av)); have aA := aM ((by rw [hg]; exact (ak z5) : w.heap.size ≤ av)); clear HB; have HB := aw; have ar := ax; have bi := az; have aQ := aA; clear aw ax az aA; clear hb hbox hg; have hcz53_0 : w52.cell? ⟨av, 0, none⟩ = some (.string (⟨#[]⟩ : ByteArray)) := (bC ar.out 0).trans rfl; have hcz53_1 : w52.cell? ⟨av, 1, none⟩ = some (.string (⟨#[]⟩ : ByteArray)) := (bC ar.out 1).trans rfl; have hfz53_0 := bF ar.out 0; have hfz53_1 := bF ar.out 1))
          have aw : Aside0 (((w52.setCell ⟨av, 0, none⟩ (.string ((rd_T38 l0 x7_1).f0))).setCell ⟨av, 1, none⟩ (.string ((rd_T38 l0 x7_1).f1))).heap[av]? = some (.cells #[.string ((rd_T38 l0 x7_1).f0), .string ((rd_T38 l0 x7_1).f1)] 38 (0, 0))) := ⟨y16⟩
          have ax : Aside0 (Below w.heap.size w ((w52.setCell ⟨av, 0, none⟩ (.string ((rd_T38 l0 x7_1).f0))).setCell ⟨av, 1, none⟩ (.string ((rd_T38 l0 x7_1).f1)))) := ⟨y5⟩
          (try clear ar)
          (try clear HB)
          generalize ((w52.setCell ⟨av, 0, none⟩ (.string ((rd_T38 l0 x7_1).f0))).setCell ⟨av, 1, none⟩ (.string ((rd_T38 l0 x7_1).f1))) = w54 at aw ax ⊢
          have ar := aw
          have HB := ax
          clear aw ax
          have aw := aM (af ar.out)
          have ax := aM (bD HB.out)
          clear ar
          clear HB
          have ar := aw
          have HB := ax
          clear aw ax
          refine start_ (n := 30) (S := fun w' => w'.cell? ⟨av, 0, none⟩ = some (.string ((rd_T38 l0 x7_1).f0)) ∧ w'.cell? ⟨av, 1, none⟩ = some (.string ((rd_T38 l0 x7_1).f1))) (ds := []) #[false, false, false, false, false, false, false, false, false, false, false, false, false, false, false, false, false, false, false, false, false, false, false, false, false, false, false, false, false, false] z0 rfl rfl ⟨(bC ar.out 0).trans rfl, (bC ar.out 1).trans rfl⟩ (fun hHeld => ?_); refine with_tabW spec_GoodSchema.tab4 spec_GoodSchema.bits4 (fun HT_ HW_ => ?_)
          generalize w54.drew = w55 at ar HB hHeld ⊢
          refine pA 0 12 ?_
          refine tA 1 13 ?_ (hy := by rintro w' ⟨s0, s1⟩; go_simp; with_reducible rfl)
          refine pA 2 14 ?_
          refine pA 3 15 ?_
          refine pA 4 16 ?_
          refine tA 5 17 ?_ (hy := by rintro w' ⟨s0, s1⟩; go_simp; with_reducible rfl)
          refine one_ (i := 6) (N := some 18) #[true, true, true, true, true, true, true, false, false, false, false, false, false, false, false, false, false, false, false, false, false, false, false, false, false, false, false, false, false, false] rfl rfl (one_of HT_.out z0) (by decide) (fun K hK => ?_)
          refine goes_ Try.func18 z0 rfl #[.string ((rd_T38 l0 x7_1).f0)] (by rfl) rfl rfl z6 ?_
          with_reducible refine (spec_l1Name.calls ((rd_T38 l0 x7_1).f0) true _ cE.out).mono ?_
          rintro e w' ⟨rfl, ⟨nd, rfl⟩⟩
          refine ⟨_, rfl, ?_⟩
          refine hK.out _ _ ⟨(bC ar.out 0).trans rfl, (bC ar.out 1).trans rfl⟩ (fun hHeld => ?_)
          clear hK K
          refine norm_ (a' := ?_) ?_ ?_
          rotate_left
          ·show Act.put _ (some 18) _ = _
           simp only [Act.put, sA, sB, sC, i64_w, i32_w]
           rfl
          refine pA 7 19 ?_
          refine pA 8 20 ?_
          refine pA 9 21 ?_
          refine pA 10 22 ?_
          refine tA 11 23 ?_ (hy := by rintro w' ⟨s0, s1⟩; go_simp; with_reducible rfl)
          refine one_ (i := 12) (N := some 24) #[true, true, true, true, true, true, true, true, true, true, true, true, true, false, false, false, false, false, false, false, false, false, false, false, false, false, false, false, false, false] rfl rfl (one_of HT_.out z0) (by decide) (fun K hK => ?_)
          refine goes_ Try.func19 z0 rfl #[.string ((rd_T38 l0 x7_1).f1)] (by rfl) rfl rfl z6 ?_
          with_reducible refine (spec_GoodExpr.calls k1 ((rd_T38 l0 x7_1).f1) true _ cO.out).mono ?_
          rintro e w56 ⟨rfl, hb⟩
          refine ⟨_, rfl, ?_⟩
          have aw := aM (ae (g := av) (o := .cells #[.string ((rd_T38 l0 x7_1).f0), .string ((rd_T38 l0 x7_1).f1)] 38 (0, 0)) (by (with_reducible repeat (first | refine ag ?_ _ | refine af ?_ | refine ah ?_ _)); exact ar.out) hb)
          have ax := aM (aj (by repeat (first | (with_reducible first | exact HB.out | apply bA | apply pD | apply bD | refine ai ?_ aQ.out) | exact HB.out)) hb)
          clear ar
          clear HB
          have ar := aw
          have HB := ax
          clear aw ax
          (try clear hb)
          (try clear hb2)
          (try clear hk)
          (try clear hi)
          refine hK.out _ _ ⟨(bC ar.out 0).trans rfl, (bC ar.out 1).trans rfl⟩ (fun hHeld => ?_)
          clear hK K
          refine norm_ (a' := ?_) ?_ ?_
          rotate_left
          ·show Act.put _ (some 24) _ = _
           simp only [Act.put, sA, sB, sC, i64_w, i32_w]
           rfl
          refine pA 13 25 ?_
          refine pA 14 26 ?_
          refine pA 15 27 ?_
          refine pA 16 28 ?_
          refine pA 17 29 ?_
          refine pA 18 30 ?_
          refine pB 19 31 ?_
          refine pB 20 32 ?_
          refine pB 21 33 ?_
          refine pB 22 34 ?_
          refine pB 23 35 ?_
          refine pB 24 36 ?_
          refine pB 25 37 ?_
          refine pB 26 38 ?_
          refine pB 27 39 ?_
          refine pA 28 40 ?_
          refine pA 29 41 ?_
          refine done_ (done_of HT_.out z0) ?_
          try go_wp2
          go_roundg k1
          case measure => have := HK1.out; omega
          case rel => exact ⟨(wrap64 (x7_1 + 1)), (by first | rfl | (simp; done) | (simp [*]; done)), H', ⟨by have := HK1.out; omega⟩, ⟨y5⟩⟩
        ·replace cU := Bool.eq_false_iff.mpr cU
         subst cU
         rw [if_neg (show ¬ (false = true) by decide)] at H
         obtain rfl := sI H
         have p143 : 0 ≤ (x7_1 : Int) := oD z1
         have q143 : x7_1 < (l0.length : Int) := oD z1
         obtain ⟨ad143, e143, hx143_0, hx143_1⟩ := at_T38 aK.out x7_1 p143 q143
         cases e143
         replace hx143_0 := (HB.out.cell (World.block_lt_of_cell? w _ hx143_0)).trans hx143_0
         replace hx143_1 := (HB.out.cell (World.block_lt_of_cell? w _ hx143_1)).trans hx143_1
         replace p143 := eq_true p143
         replace q143 := eq_true q143
         try go_wp2_with (first | ((with_reducible refine am (N := 4) rfl ?_); refine ao ?hg (N := 4) ?hd (cs := #[.string (⟨#[]⟩ : ByteArray), .string (⟨#[]⟩ : ByteArray)]) (t := 38) ?hr ?_; (case hd => rfl); (case hg => rfl); (case hr => first | (go_simp; done) | (go_simp; rfl)); intro av hg w57 hbox hb; have aw := aM (aj z5 hb); have ax := aM (hbox); have az := aM ((by rw [hg]; exact (ak z5) : w.heap.size ≤ av)); have aA := aM ((by rw [hg]; exact (ak z5) : w.heap.size ≤ av)); clear HB; have HB := aw; have ar := ax; have bi := az; have aQ := aA; clear aw ax az aA; clear hb hbox hg; have hcz58_0 : w57.cell? ⟨av, 0, none⟩ = some (.string (⟨#[]⟩ : ByteArray)) := (bC ar.out 0).trans rfl; have hcz58_1 : w57.cell? ⟨av, 1, none⟩ = some (.string (⟨#[]⟩ : ByteArray)) := (bC ar.out 1).trans rfl; have hfz58_0 := bF ar.out 0; have hfz58_1 := bF ar.out 1))
         have aw : Aside0 (((w57.setCell ⟨av, 0, none⟩ (.string ((rd_T38 l0 x7_1).f0))).setCell ⟨av, 1, none⟩ (.string ((rd_T38 l0 x7_1).f1))).heap[av]? = some (.cells #[.string ((rd_T38 l0 x7_1).f0), .string ((rd_T38 l0 x7_1).f1)] 38 (0, 0))) := ⟨y16⟩
         have ax : Aside0 (Below w.heap.size w ((w57.setCell ⟨av, 0, none⟩ (.string ((rd_T38 l0 x7_1).f0))).setCell ⟨av, 1, none⟩ (.string ((rd_T38 l0 x7_1).f1)))) := ⟨y5⟩
         (try clear ar)
         (try clear HB)
         generalize ((w57.setCell ⟨av, 0, none⟩ (.string ((rd_T38 l0 x7_1).f0))).setCell ⟨av, 1, none⟩ (.string ((rd_T38 l0 x7_1).f1))) = w59 at aw ax ⊢
         have ar := aw
         have HB := ax
         clear aw ax
         have aw := aM (af ar.out)
         have ax := aM (bD HB.out)
         clear ar
         clear HB
         have ar := aw
         have HB := ax
         clear aw ax
         refine start_ (n := 30) (S := fun w' => w'.cell? ⟨av, 0, none⟩ = some (.string ((rd_T38 l0 x7_1).f0)) ∧ w'.cell? ⟨av, 1, none⟩ = some (.string ((rd_T38 l0 x7_1).f1))) (ds := []) #[false, false, false, false, false, false, false, false, false, false, false, false, false, false, false, false, false, false, false, false, false, false, false, false, false, false, false, false, false, false] z0 rfl rfl ⟨(bC ar.out 0).trans rfl, (bC ar.out 1).trans rfl⟩ (fun hHeld => ?_); refine with_tabW spec_GoodSchema.tab4 spec_GoodSchema.bits4 (fun HT_ HW_ => ?_)
         generalize w59.drew = w60 at ar HB hHeld ⊢
         refine pA 0 12 ?_
         refine tA 1 13 ?_ (hy := by rintro w' ⟨s0, s1⟩; go_simp; with_reducible rfl)
         refine pA 2 14 ?_
         refine pA 3 15 ?_
         refine pA 4 16 ?_
         refine tA 5 17 ?_ (hy := by rintro w' ⟨s0, s1⟩; go_simp; with_reducible rfl)
         refine one_ (i := 6) (N := some 18) #[true, true, true, true, true, true, true, false, false, false, false, false, false, false, false, false, false, false, false, false, false, false, false, false, false, false, false, false, false, false] rfl rfl (one_of HT_.out z0) (by decide) (fun K hK => ?_)
         refine goes_ Try.func18 z0 rfl #[.string ((rd_T38 l0 x7_1).f0)] (by rfl) rfl rfl z6 ?_
         with_reducible refine (spec_l1Name.calls ((rd_T38 l0 x7_1).f0) true _ cE.out).mono ?_
         rintro e w' ⟨rfl, ⟨nd, rfl⟩⟩
         refine ⟨_, rfl, ?_⟩
         refine hK.out _ _ ⟨(bC ar.out 0).trans rfl, (bC ar.out 1).trans rfl⟩ (fun hHeld => ?_)
         clear hK K
         refine norm_ (a' := ?_) ?_ ?_
         rotate_left
         ·show Act.put _ (some 18) _ = _
          simp only [Act.put, sA, sB, sC, i64_w, i32_w]
          rfl
         refine pA 7 19 ?_
         refine pA 8 20 ?_
         refine pA 9 21 ?_
         refine pA 10 22 ?_
         refine tA 11 23 ?_ (hy := by rintro w' ⟨s0, s1⟩; go_simp; with_reducible rfl)
         refine one_ (i := 12) (N := some 24) #[true, true, true, true, true, true, true, true, true, true, true, true, true, false, false, false, false, false, false, false, false, false, false, false, false, false, false, false, false, false] rfl rfl (one_of HT_.out z0) (by decide) (fun K hK => ?_)
         refine goes_ Try.func19 z0 rfl #[.string ((rd_T38 l0 x7_1).f1)] (by rfl) rfl rfl z6 ?_
         with_reducible refine (spec_GoodExpr.calls k1 ((rd_T38 l0 x7_1).f1) false _ cO.out).mono ?_
         rintro e w61 ⟨rfl, hb⟩
         refine ⟨_, rfl, ?_⟩
         have aw := aM (ae (g := av) (o := .cells #[.string ((rd_T38 l0 x7_1).f0), .string ((rd_T38 l0 x7_1).f1)] 38 (0, 0)) (by (with_reducible repeat (first | refine ag ?_ _ | refine af ?_ | refine ah ?_ _)); exact ar.out) hb)
         have ax := aM (aj (by repeat (first | (with_reducible first | exact HB.out | apply bA | apply pD | apply bD | refine ai ?_ aQ.out) | exact HB.out)) hb)
         clear ar
         clear HB
         have ar := aw
         have HB := ax
         clear aw ax
         (try clear hb)
         (try clear hb2)
         (try clear hk)
         (try clear hi)
         refine hK.out _ _ ⟨(bC ar.out 0).trans rfl, (bC ar.out 1).trans rfl⟩ (fun hHeld => ?_)
         clear hK K
         refine norm_ (a' := ?_) ?_ ?_
         rotate_left
         ·show Act.put _ (some 24) _ = _
          simp only [Act.put, sA, sB, sC, i64_w, i32_w]
          rfl
         refine pA 13 25 ?_
         refine pA 14 26 ?_
         refine pA 15 27 ?_
         refine pB 16 28 ?_
         refine pB 17 29 ?_
         refine pB 18 30 ?_
         refine pB 19 31 ?_
         refine pB 20 32 ?_
         refine pB 21 33 ?_
         refine pB 22 34 ?_
         refine pB 23 35 ?_
         refine pB 24 36 ?_
         refine pB 25 37 ?_
         refine pB 26 38 ?_
         refine pB 27 39 ?_
         refine pB 28 40 ?_
         refine pA 29 41 ?_
         refine done_ (done_of HT_.out z0) ?_
         try go_wp2
         go_ret
         exact ⟨y2, y5⟩
       ·replace cW := Bool.eq_false_iff.mpr cW
        subst cW
        rw [if_neg (show ¬ (false = true) by decide)] at H
        obtain rfl := sI H
        have p143 : 0 ≤ (x7_1 : Int) := oD z1
        have q143 : x7_1 < (l0.length : Int) := oD z1
        obtain ⟨ad143, e143, hx143_0, hx143_1⟩ := at_T38 aK.out x7_1 p143 q143
        cases e143
        replace hx143_0 := (HB.out.cell (World.block_lt_of_cell? w _ hx143_0)).trans hx143_0
        replace hx143_1 := (HB.out.cell (World.block_lt_of_cell? w _ hx143_1)).trans hx143_1
        replace p143 := eq_true p143
        replace q143 := eq_true q143
        try go_wp2_with (first | ((with_reducible refine am (N := 4) rfl ?_); refine ao ?hg (N := 4) ?hd (cs := #[.string (⟨#[]⟩ : ByteArray), .string (⟨#[]⟩ : ByteArray)]) (t := 38) ?hr ?_; (case hd => rfl); (case hg => rfl); (case hr => first | (go_simp; done) | (go_simp; rfl)); intro av hg w62 hbox hb; have aw := aM (aj z5 hb); have ax := aM (hbox); have az := aM ((by rw [hg]; exact (ak z5) : w.heap.size ≤ av)); have aA := aM ((by rw [hg]; exact (ak z5) : w.heap.size ≤ av)); clear HB; have HB := aw; have ar := ax; have bi := az; have aQ := aA; clear aw ax az aA; clear hb hbox hg; have hcz63_0 : w62.cell? ⟨av, 0, none⟩ = some (.string (⟨#[]⟩ : ByteArray)) := (bC ar.out 0).trans rfl; have hcz63_1 : w62.cell? ⟨av, 1, none⟩ = some (.string (⟨#[]⟩ : ByteArray)) := (bC ar.out 1).trans rfl; have hfz63_0 := bF ar.out 0; have hfz63_1 := bF ar.out 1))
        have aw : Aside0 (((w62.setCell ⟨av, 0, none⟩ (.string ((rd_T38 l0 x7_1).f0))).setCell ⟨av, 1, none⟩ (.string ((rd_T38 l0 x7_1).f1))).heap[av]? = some (.cells #[.string ((rd_T38 l0 x7_1).f0), .string ((rd_T38 l0 x7_1).f1)] 38 (0, 0))) := ⟨y16⟩
        have ax : Aside0 (Below w.heap.size w ((w62.setCell ⟨av, 0, none⟩ (.string ((rd_T38 l0 x7_1).f0))).setCell ⟨av, 1, none⟩ (.string ((rd_T38 l0 x7_1).f1)))) := ⟨y5⟩
        (try clear ar)
        (try clear HB)
        generalize ((w62.setCell ⟨av, 0, none⟩ (.string ((rd_T38 l0 x7_1).f0))).setCell ⟨av, 1, none⟩ (.string ((rd_T38 l0 x7_1).f1))) = w64 at aw ax ⊢
        have ar := aw
        have HB := ax
        clear aw ax
        have aw := aM (af ar.out)
        have ax := aM (bD HB.out)
        clear ar
        clear HB
        have ar := aw
        have HB := ax
        clear aw ax
        refine start_ (n := 30) (S := fun w' => w'.cell? ⟨av, 0, none⟩ = some (.string ((rd_T38 l0 x7_1).f0)) ∧ w'.cell? ⟨av, 1, none⟩ = some (.string ((rd_T38 l0 x7_1).f1))) (ds := []) #[false, false, false, false, false, false, false, false, false, false, false, false, false, false, false, false, false, false, false, false, false, false, false, false, false, false, false, false, false, false] z0 rfl rfl ⟨(bC ar.out 0).trans rfl, (bC ar.out 1).trans rfl⟩ (fun hHeld => ?_); refine with_tabW spec_GoodSchema.tab4 spec_GoodSchema.bits4 (fun HT_ HW_ => ?_)
        generalize w64.drew = w65 at ar HB hHeld ⊢
        refine pA 0 12 ?_
        refine tA 1 13 ?_ (hy := by rintro w' ⟨s0, s1⟩; go_simp; with_reducible rfl)
        refine pA 2 14 ?_
        refine pA 3 15 ?_
        refine pA 4 16 ?_
        refine tA 5 17 ?_ (hy := by rintro w' ⟨s0, s1⟩; go_simp; with_reducible rfl)
        refine one_ (i := 6) (N := some 18) #[true, true, true, true, true, true, true, false, false, false, false, false, false, false, false, false, false, false, false, false, false, false, false, false, false, false, false, false, false, false] rfl rfl (one_of HT_.out z0) (by decide) (fun K hK => ?_)
        refine goes_ Try.func18 z0 rfl #[.string ((rd_T38 l0 x7_1).f0)] (by rfl) rfl rfl z6 ?_
        with_reducible refine (spec_l1Name.calls ((rd_T38 l0 x7_1).f0) false _ cE.out).mono ?_
        rintro e w' ⟨rfl, ⟨nd, rfl⟩⟩
        refine ⟨_, rfl, ?_⟩
        refine hK.out _ _ ⟨(bC ar.out 0).trans rfl, (bC ar.out 1).trans rfl⟩ (fun hHeld => ?_)
        clear hK K
        refine norm_ (a' := ?_) ?_ ?_
        rotate_left
        ·show Act.put _ (some 18) _ = _
         simp only [Act.put, sA, sB, sC, i64_w, i32_w]
         rfl
        refine pA 7 19 ?_
        refine pA 8 20 ?_
        refine pA 9 21 ?_
        refine pB 10 22 ?_
        refine pB 11 23 ?_
        refine pB 12 24 ?_
        refine pB 13 25 ?_
        refine pA 14 26 ?_
        refine pA 15 27 ?_
        refine pB 16 28 ?_
        refine pB 17 29 ?_
        refine pB 18 30 ?_
        refine pB 19 31 ?_
        refine pB 20 32 ?_
        refine pB 21 33 ?_
        refine pB 22 34 ?_
        refine pB 23 35 ?_
        refine pB 24 36 ?_
        refine pB 25 37 ?_
        refine pB 26 38 ?_
        refine pB 27 39 ?_
        refine pB 28 40 ?_
        refine pA 29 41 ?_
        refine done_ (done_of HT_.out z0) ?_
        try go_wp2
        go_ret
        exact ⟨y2, y5⟩
     ·rw [if_neg c4] at H
      exact absurd H (by simp)
    ·rw [if_neg c3] at H
     exact absurd H (by simp)
   ·rw [if_neg c2] at H
    have c2b0 : decide (x7_1 < (l0.length : Int)) = false := dF c2
    clear c2
    obtain rfl := sI H
    go_wp2
    go_ret
    exact ⟨y2, y3⟩

end Go.Proofs.Ytihjaagamihhkaa.AFnExactSchemaText
