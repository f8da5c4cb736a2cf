-- this session's own text: written by wip/tools/ownprint.py over the kit's print
import Derived.Laws.Cover1
import Derived.Test.YtihjaagamihhkaaAFnExactGoodSchemax0
import Derived.Test.YtihjaagamihhkaaAFnExactGoodSchemax1
import Derived.Test.YtihjaagamihhkaaAFnExactGoodSchemax2
namespace Go.Proofs.Ytihjaagamihhkaa.AFnExactGoodSchema
open Go.RowKit Go.Proofs.YtihjaagamihhkaaW.PrintWords Go.Proofs.YtihjaagamihhkaaW.PrintLast Go.Proofs.YtihjaagamihhkaaW.PrintMore
attribute [local go_sem] max2_int min2_int max_two min_two max_three min_three max_four min_four   -- for this text's walks alone
set_option linter.unusedVariables false
set_option linter.unusedSimpArgs false

/-! ### spec_GoodSchema: function 7 -/
def spec_GoodSchema.l0 : Nat → List (S38) → List (S38) → Int → Int → Option (Bool)
 | 0, _, _, _, _ => none
 | k + 1, x0, x5, x6, x7 => if x7 < x6 then (if 0 ≤ x7 then (if x7 < (x5.length : Int) then (if ((rd_T38 x5 x7).f0).toList = ([45] : List UInt8) then ((spec_GoodExpr.f k ((rd_T38 x5 x7).f1)).bind fun ci => (if ci = true then (if x7 > 0 then (if 0 ≤ (wrap64 (x7 - 1)) then (if (wrap64 (x7 - 1)) < (x0.length : Int) then (if ((Op.bytesLess (((rd_T38 x0 (wrap64 (x7 - 1))).f0).toList) (((rd_T38 x5 x7).f0).toList)) = true) then (spec_GoodSchema.l0 k x0 x5 x6 (wrap64 (x7 + 1))) else (some false)) else (none)) else (none)) else (spec_GoodSchema.l0 k x0 x5 x6 (wrap64 (x7 + 1)))) else (some false))) else ((spec_l1Name.f ((rd_T38 x5 x7).f0)).bind fun ch => (if ch = true then ((spec_GoodExpr.f k ((rd_T38 x5 x7).f1)).bind fun cg => (if cg = true then (if x7 > 0 then (if 0 ≤ (wrap64 (x7 - 1)) then (if (wrap64 (x7 - 1)) < (x0.length : Int) then (if ((Op.bytesLess (((rd_T38 x0 (wrap64 (x7 - 1))).f0).toList) (((rd_T38 x5 x7).f0).toList)) = true) then (spec_GoodSchema.l0 k x0 x5 x6 (wrap64 (x7 + 1))) else (some false)) else (none)) else (none)) else (spec_GoodSchema.l0 k x0 x5 x6 (wrap64 (x7 + 1)))) else (some false))) else (some false)))) else (none)) else (none)) else (some (decide ((x0.length : Int) ≤ 7)))
def spec_GoodSchema.f (k : Nat) (l0 : List (S38)) : Option (Bool) := spec_GoodSchema.l0 k l0 l0 (l0.length : Int) 0
theorem spec_GoodSchema.mono_l : ∀ k, (∀ y0 y1 y2 y3, LeO (spec_GoodSchema.l0 k y0 y1 y2 y3) (spec_GoodSchema.l0 (k + 1) y0 y1 y2 y3))
 | 0 => fun _ _ _ _ r h => by simp [spec_GoodSchema.l0] at h
 | k + 1 => by
  have ih0 := spec_GoodSchema.mono_l k
  ·intro y0 y1 y2 y3
   unfold spec_GoodSchema.l0
   repeat' first
   | (with_reducible exact ih0 _ _ _ _)
   | (with_reducible exact spec_GoodExpr.mono _ _)
   | (with_reducible exact LeO.refl _)
   | (with_reducible exact LeO.none _)
   | (with_reducible refine LeO.ite ?_ ?_)
   | (with_reducible refine LeO.bind ?_ (fun _ => ?_))
   | exact ih0 _ _ _ _
   | exact spec_GoodExpr.mono _ _
   | exact LeO.none _
   | refine LeO.ite ?_ ?_
   | refine LeO.bind ?_ (fun _ => ?_)
theorem spec_GoodSchema.mono : ∀ a0 k, LeO (spec_GoodSchema.f k a0) (spec_GoodSchema.f (k + 1) a0) := by
 intro a0 k
 have ih0 := spec_GoodSchema.mono_l k
 unfold spec_GoodSchema.f
 repeat' first
   | (with_reducible exact ih0 _ _ _ _)
   | (with_reducible exact spec_GoodExpr.mono _ _)
   | (with_reducible exact LeO.refl _)
   | (with_reducible exact LeO.none _)
   | (with_reducible refine LeO.ite ?_ ?_)
   | (with_reducible refine LeO.bind ?_ (fun _ => ?_))
   | exact ih0 _ _ _ _
   | exact spec_GoodExpr.mono _ _
   | exact LeO.none _
   | refine LeO.ite ?_ ?_
   | refine LeO.bind ?_ (fun _ => ?_)
def spec_GoodSchema.T4 : Bool × List (List Nat × List Nat) := (true, [([], []), ([0], [0]), ([1], [1]), ([2], [2]), ([3], [3]), ([4, 3], [3, 4]), ([5, 3, 3], [3, 5]), ([6, 3], [3, 6]), ([3, 7], [3, 7]), ([8, 6], [8]), ([9], [9]), ([10, 9], [9, 10]), ([11, 9, 9], [9, 11]), ([12, 9], [9, 12]), ([9, 13], [9, 13]), ([14, 12], [14]), ([15], [15]), ([16, 15], [15, 16]), ([17, 15, 15], [15, 17]), ([18], [18]), ([18], [18]), ([20, 18], [18, 20]), ([19, 21, 18], [18, 19, 21]), ([22, 18], [18, 22]), ([23, 18], [18, 23]), ([18], [18]), ([25, 18], [18, 25]), ([24, 26, 18], [18, 24, 26]), ([18, 27, 15], [15, 18, 27]), ([15, 28], [15, 28])])
def spec_GoodSchema.B4 : List Nat := [0, 1, 3, 7, 15, 31, 63, 127, 255, 511, 1023, 2047, 4095, 8191, 16383, 32767, 65535, 131071, 262143, 524287, 524287, 1572863, 4194303, 8388607, 16777215, 524287, 34078719, 134217727, 268435455, 536870911]
theorem spec_GoodSchema.tab4 : rtab .any (opsOf Try.f7 4) = spec_GoodSchema.T4 := by kernel_rfl
theorem spec_GoodSchema.bits4 : waitsOk spec_GoodSchema.T4.2 spec_GoodSchema.B4 = true := by kernel_rfl
set_option maxHeartbeats 8000000 in
set_option maxRecDepth 100000 in
theorem spec_GoodSchema.calls (k : Nat) (A0 : Option Addr) (c0 : Nat) (l0 : List (S38)) (r : Bool) (w : World) (hr0 : Kd.C k38 w A0 l0.length l0) (hc0 : l0.length ≤ c0) (h : spec_GoodSchema.f k l0 = some r) :
  Calls Try.prog 7 #[.slice A0 l0.length c0] w fun e w' => e = .returned (.bool r) ∧ Below w.heap.size w w' := by
 have hu38 := Try.underlying38
 have aX := aM hr0
 have bz := aM hc0
 clear hr0 hc0
 have HB := aM (Below.refl w.heap.size w)
 have H : (spec_GoodSchema.l0 k l0 l0 (l0.length : Int) 0) = some r := h
 clear h
 have H' := aM H
 clear H
 go_enter Try.func7, Try.ntmps7
 go_wp2
 go_loopg [7] k (fun kq v7 w' => ∃ (x7_1 : Int), v7 = .int .i64 x7_1 ∧ Aside0 (spec_GoodSchema.l0 kq l0 l0 (l0.length : Int) x7_1 = some r) ∧ Aside0 (kq ≤ k) ∧ Aside0 (Below w.heap.size w w'))
 case atStart => exact ⟨(0), (by first | rfl | (simp; done) | (simp [*]; done)), H', ⟨Nat.le_refl _⟩, ⟨y3⟩⟩
 case round =>
  clear H'
  obtain ⟨x7_1, rfl, HA, HK1, HB⟩ := hrel
  cases gk with
  | zero => exact absurd HA.out (by simp [spec_GoodSchema.l0])
  | succ k1 =>
   have H := HA.out
   clear HA
   simp only [spec_GoodSchema.l0] at H
   by_cases c2 : x7_1 < (l0.length : Int)
   ·rw [if_pos c2] at H
    have c2b0 : decide (x7_1 < (l0.length : Int)) = true := dT c2
    clear c2
    by_cases c3 : 0 ≤ x7_1
    ·rw [if_pos c3] at H
     have c3b0 : decide (0 ≤ x7_1) = true := dT c3
     clear c3
     by_cases c4 : x7_1 < (l0.length : Int)
     ·rw [if_pos c4] at H
      have c4b0 : decide (x7_1 < (l0.length : Int)) = true := dT c4
      clear c4
      by_cases c5 : ((rd_T38 l0 x7_1).f0).toList = ([45] : List UInt8)
      ·rw [if_pos c5] at H
       have c5b0 : (((rd_T38 l0 x7_1).f0).toList == ([45] : List UInt8)) = true := qT c5
       have c5b1 : (((rd_T38 l0 x7_1).f0).toList != ([45] : List UInt8)) = false := nF c5
       clear c5
       replace H := oB H
       obtain ⟨ci, b8, H⟩ := H
       try dsimp only at H
       have A6 := aM b8
       clear b8
       by_cases c7 : ci = true
       ·subst c7
        rw [if_pos rfl] at H
        by_cases c8 : x7_1 > 0
        ·rw [if_pos c8] at H
         have c8b0 : decide (0 < x7_1) = true := dT c8
         clear c8
         obtain ⟨bi, bG⟩ : ∃ j_ : Int, (wrap64 (x7_1 - 1)) = j_ := ⟨_, rfl⟩
         replace H : (if 0 ≤ (bi) then (if (bi) < (l0.length : Int) then (if ((Op.bytesLess (((rd_T38 l0 (bi)).f0).toList) (((rd_T38 l0 x7_1).f0).toList)) = true) then (spec_GoodSchema.l0 k1 l0 l0 (l0.length : Int) (wrap64 (x7_1 + 1))) else (some false)) else (none)) else (none)) = some r := by first | (rw [bG] at H; exact H) | (simp only [bG] at H ⊢; exact H)
         (try rw [bG] at A6)
         have hji9w : (IntKind.i64.wrap (x7_1 - 1)) = bi := (i64_w _).trans bG
         by_cases cM : 0 ≤ (bi)
         ·rw [if_pos cM] at H
          have c10b0 : decide (0 ≤ (bi)) = true := dT cM
          clear cM
          by_cases bY : (bi) < (l0.length : Int)
          ·rw [if_pos bY] at H
           have c11b0 : decide ((bi) < (l0.length : Int)) = true := dT bY
           clear bY
           by_cases bW : ((Op.bytesLess (((rd_T38 l0 (bi)).f0).toList) (((rd_T38 l0 x7_1).f0).toList)) = true)
           ·rw [if_pos bW] at H
            have c12b0 : (Op.bytesLess (((rd_T38 l0 (bi)).f0).toList) (((rd_T38 l0 x7_1).f0).toList)) = true := bW
            clear bW
            have H' := aM H
            clear H
            have p128 : 0 ≤ (x7_1 : Int) := oD z1
            have q128 : x7_1 < (l0.length : Int) := oD z1
            obtain ⟨ad128, e128, hx128_0, hx128_1⟩ := at_T38 aX.out x7_1 p128 q128
            cases e128
            replace hx128_0 := (HB.out.cell (World.block_lt_of_cell? w _ hx128_0)).trans hx128_0
            replace hx128_1 := (HB.out.cell (World.block_lt_of_cell? w _ hx128_1)).trans hx128_1
            replace p128 := eq_true p128
            replace q128 := eq_true q128
            try go_wp2_with (first | ((with_reducible refine ar (N := 4) rfl ?_); refine au ?hg (N := 4) ?hd (cs := #[.string (⟨#[]⟩ : ByteArray), .string (⟨#[]⟩ : ByteArray)]) (t := 38) ?hr ?_; (case hd => rfl); (case hg => rfl); (case hr => first | (go_simp; done) | (go_simp; rfl)); intro az hg w13 hbox hb; have aA := aM (ak z6 hb); have aC := aM (hbox); have aE := aM ((by rw [hg]; exact (al z6) : w.heap.size ≤ az)); have aI := aM ((by rw [hg]; exact (al z6) : w.heap.size ≤ az)); clear HB; have HB := aA; have ax := aC; have bo := aE; have aW := aI; clear aA aC aE aI; clear hb hbox hg; have hcz14_0 : w13.cell? ⟨az, 0, none⟩ = some (.string (⟨#[]⟩ : ByteArray)) := (bC ax.out 0).trans rfl; have hcz14_1 : w13.cell? ⟨az, 1, none⟩ = some (.string (⟨#[]⟩ : ByteArray)) := (bC ax.out 1).trans rfl; have hfz14_0 := bF ax.out 0; have hfz14_1 := bF ax.out 1))
            have aA : Aside0 (((w13.setCell ⟨az, 0, none⟩ (.string ((rd_T38 l0 x7_1).f0))).setCell ⟨az, 1, none⟩ (.string ((rd_T38 l0 x7_1).f1))).heap[az]? = some (.cells #[.string ((rd_T38 l0 x7_1).f0), .string ((rd_T38 l0 x7_1).f1)] 38 (0, 0))) := ⟨y16⟩
            have aC : Aside0 (Below w.heap.size w ((w13.setCell ⟨az, 0, none⟩ (.string ((rd_T38 l0 x7_1).f0))).setCell ⟨az, 1, none⟩ (.string ((rd_T38 l0 x7_1).f1)))) := ⟨y5⟩
            (try clear ax)
            (try clear HB)
            generalize ((w13.setCell ⟨az, 0, none⟩ (.string ((rd_T38 l0 x7_1).f0))).setCell ⟨az, 1, none⟩ (.string ((rd_T38 l0 x7_1).f1))) = w15 at aA aC ⊢
            have ax := aA
            have HB := aC
            clear aA aC
            have aA := aM (ag ax.out)
            have aC := aM (bD HB.out)
            clear ax
            clear HB
            have ax := aA
            have HB := aC
            clear aA aC
            have p131 : 0 ≤ ((bi) : Int) := oD z1
            have q131 : (bi) < (l0.length : Int) := oD z1
            obtain ⟨ad131, e131, hx131_0, hx131_1⟩ := at_T38 aX.out (bi) p131 q131
            have hw131_1 := hx131_1
            have hw131_0 := hx131_0
            obtain rfl : ad128 = ad131 := (by injection e131)
            replace hx131_0 := (HB.out.cell (World.block_lt_of_cell? w _ hx131_0)).trans hx131_0
            replace hx131_1 := (HB.out.cell (World.block_lt_of_cell? w _ hx131_1)).trans hx131_1
            replace p131 := eq_true p131
            replace q131 := eq_true q131
            refine start_ (n := 30) (S := fun w' => w'.cell? ⟨az, 0, none⟩ = some (.string ((rd_T38 l0 x7_1).f0)) ∧ w'.cell? ⟨az, 1, none⟩ = some (.string ((rd_T38 l0 x7_1).f1)) ∧ w'.cell? (ad128.add (((bi)).toNat * 2)) = some (.string ((rd_T38 l0 (bi)).f0)) ∧ w'.cell? ⟨(ad128.add (((bi)).toNat * 2)).block, (ad128.add (((bi)).toNat * 2)).off + 1, none⟩ = some (.string ((rd_T38 l0 (bi)).f1))) (ds := []) #[false, false, false, false, false, false, false, false, false, false, false, false, false, false, false, false, false, false, false, false, false, false, false, false, false, false, false, false, false, false] z0 rfl rfl ⟨(bC ax.out 0).trans rfl, (bC ax.out 1).trans rfl, ((HB.out.cell (World.block_lt_of_cell? w _ hw131_0)).trans hw131_0), ((HB.out.cell (World.block_lt_of_cell? w _ hw131_1)).trans hw131_1)⟩ (fun hHeld => ?_); refine with_tabW spec_GoodSchema.tab4 spec_GoodSchema.bits4 (fun HT_ HW_ => ?_)
            generalize w15.drew = w16 at ax HB hx131_0 hx131_1 hHeld ⊢
            refine pA 0 12 ?_
            refine tA 1 13 ?_ (hy := by rintro w' ⟨s0, s1, s2, s3⟩; go_simp; with_reducible rfl)
            refine pA 2 14 ?_
            refine pA 3 15 ?_
            refine pB 4 16 ?_
            refine pB 5 17 ?_
            refine pB 6 18 ?_
            refine pB 7 19 ?_
            refine pA 8 20 ?_
            refine pA 9 21 ?_
            refine pA 10 22 ?_
            refine tA 11 23 ?_ (hy := by rintro w' ⟨s0, s1, s2, s3⟩; go_simp; with_reducible rfl)
            refine one_ (i := 12) (N := some 24) #[true, true, true, true, true, true, true, true, true, true, true, true, true, false, false, false, false, false, false, false, false, false, false, false, false, false, false, false, false, false] rfl rfl (one_of HT_.out z0) (by decide) (fun K hK => ?_)
            refine goes_ Try.func19 z0 rfl #[.string ((rd_T38 l0 x7_1).f1)] (by rfl) rfl rfl z7 ?_
            with_reducible refine (spec_GoodExpr.calls k1 ((rd_T38 l0 x7_1).f1) true _ A6.out).mono ?_
            rintro e w17 ⟨rfl, hb⟩
            refine ⟨_, rfl, ?_⟩
            have aA := aM (ae (g := az) (o := .cells #[.string ((rd_T38 l0 x7_1).f0), .string ((rd_T38 l0 x7_1).f1)] 38 (0, 0)) (by (with_reducible repeat (first | refine ah ?_ _ | refine ag ?_ | refine ai ?_ _)); exact ax.out) hb)
            have aC := aM (ak (by repeat (first | (with_reducible first | exact HB.out | apply bA | apply pD | apply bD | refine aj ?_ aW.out) | exact HB.out)) hb)
            clear ax
            clear HB
            have ax := aA
            have HB := aC
            clear aA aC
            (try clear hb)
            (try clear hb2)
            (try clear hk)
            (try clear hi)
            refine hK.out _ _ ⟨(bC ax.out 0).trans rfl, (bC ax.out 1).trans rfl, ((HB.out.cell (World.block_lt_of_cell? w _ hw131_0)).trans hw131_0), ((HB.out.cell (World.block_lt_of_cell? w _ hw131_1)).trans hw131_1)⟩ (fun hHeld => ?_)
            clear hK K
            refine norm_ (a' := ?_) ?_ ?_
            rotate_left
            ·show Act.put _ (some 24) _ = _
             simp only [Act.put, sA, sB, sC, i64_w, i32_w]
             rfl
            refine pA 13 25 ?_
            refine pA 14 26 ?_
            refine pA 15 27 ?_
            refine pA 16 28 ?_
            refine pA 17 29 ?_
            refine pA 18 30 ?_
            refine pA 19 31 ?_
            refine pA 20 32 ?_
            refine pA 21 33 ?_
            refine pA 22 34 ?_
            refine pA 23 35 ?_
            refine pA 25 37 ?_
            refine tA 24 36 ?_ (hy := by rintro w' ⟨s0, s1, s2, s3⟩; go_simp; with_reducible rfl)
            refine tA 26 38 ?_ (hy := by rintro w' ⟨s0, s1, s2, s3⟩; go_simp; with_reducible rfl)
            refine pA 27 39 ?_
            refine pA 28 40 ?_
            refine pA 29 41 ?_
            refine done_ (done_of HT_.out z0) ?_
            try go_wp2
            go_roundg k1
            case measure => have := HK1.out; omega
            case rel => exact ⟨(wrap64 (x7_1 + 1)), (by first | rfl | (simp; done) | (simp [*]; done)), (by first | exact H' | (simp only [bG]; exact H') | (simp only [← bG]; exact H')), ⟨by have := HK1.out; omega⟩, ⟨y5⟩⟩
           ·rw [if_neg bW] at H
            have c12b0 : (Op.bytesLess (((rd_T38 l0 (bi)).f0).toList) (((rd_T38 l0 x7_1).f0).toList)) = false := by simpa using bW
            clear bW
            obtain rfl := sI H
            have p128 : 0 ≤ (x7_1 : Int) := oD z1
            have q128 : x7_1 < (l0.length : Int) := oD z1
            obtain ⟨ad128, e128, hx128_0, hx128_1⟩ := at_T38 aX.out x7_1 p128 q128
            cases e128
            replace hx128_0 := (HB.out.cell (World.block_lt_of_cell? w _ hx128_0)).trans hx128_0
            replace hx128_1 := (HB.out.cell (World.block_lt_of_cell? w _ hx128_1)).trans hx128_1
            replace p128 := eq_true p128
            replace q128 := eq_true q128
            try go_wp2_with (first | ((with_reducible refine ar (N := 4) rfl ?_); refine au ?hg (N := 4) ?hd (cs := #[.string (⟨#[]⟩ : ByteArray), .string (⟨#[]⟩ : ByteArray)]) (t := 38) ?hr ?_; (case hd => rfl); (case hg => rfl); (case hr => first | (go_simp; done) | (go_simp; rfl)); intro az hg w18 hbox hb; have aA := aM (ak z6 hb); have aC := aM (hbox); have aE := aM ((by rw [hg]; exact (al z6) : w.heap.size ≤ az)); have aI := aM ((by rw [hg]; exact (al z6) : w.heap.size ≤ az)); clear HB; have HB := aA; have ax := aC; have bo := aE; have aW := aI; clear aA aC aE aI; clear hb hbox hg; have hcz19_0 : w18.cell? ⟨az, 0, none⟩ = some (.string (⟨#[]⟩ : ByteArray)) := (bC ax.out 0).trans rfl; have hcz19_1 : w18.cell? ⟨az, 1, none⟩ = some (.string (⟨#[]⟩ : ByteArray)) := (bC ax.out 1).trans rfl; have hfz19_0 := bF ax.out 0; have hfz19_1 := bF ax.out 1))
            have aA : Aside0 (((w18.setCell ⟨az, 0, none⟩ (.string ((rd_T38 l0 x7_1).f0))).setCell ⟨az, 1, none⟩ (.string ((rd_T38 l0 x7_1).f1))).heap[az]? = some (.cells #[.string ((rd_T38 l0 x7_1).f0), .string ((rd_T38 l0 x7_1).f1)] 38 (0, 0))) := ⟨y16⟩
            have aC : Aside0 (Below w.heap.size w ((w18.setCell ⟨az, 0, none⟩ (.string ((rd_T38 l0 x7_1).f0))).setCell ⟨az, 1, none⟩ (.string ((rd_T38 l0 x7_1).f1)))) := ⟨y5⟩
            (try clear ax)
            (try clear HB)
            generalize ((w18.setCell ⟨az, 0, none⟩ (.string ((rd_T38 l0 x7_1).f0))).setCell ⟨az, 1, none⟩ (.string ((rd_T38 l0 x7_1).f1))) = w20 at aA aC ⊢
            have ax := aA
            have HB := aC
            clear aA aC
            have aA := aM (ag ax.out)
            have aC := aM (bD HB.out)
            clear ax
            clear HB
            have ax := aA
            have HB := aC
            clear aA aC
            have p131 : 0 ≤ ((bi) : Int) := oD z1
            have q131 : (bi) < (l0.length : Int) := oD z1
            obtain ⟨ad131, e131, hx131_0, hx131_1⟩ := at_T38 aX.out (bi) p131 q131
            have hw131_1 := hx131_1
            have hw131_0 := hx131_0
            obtain rfl : ad128 = ad131 := (by injection e131)
            replace hx131_0 := (HB.out.cell (World.block_lt_of_cell? w _ hx131_0)).trans hx131_0
            replace hx131_1 := (HB.out.cell (World.block_lt_of_cell? w _ hx131_1)).trans hx131_1
            replace p131 := eq_true p131
            replace q131 := eq_true q131
            refine start_ (n := 30) (S := fun w' => w'.cell? ⟨az, 0, none⟩ = some (.string ((rd_T38 l0 x7_1).f0)) ∧ w'.cell? ⟨az, 1, none⟩ = some (.string ((rd_T38 l0 x7_1).f1)) ∧ w'.cell? (ad128.add (((bi)).toNat * 2)) = some (.string ((rd_T38 l0 (bi)).f0)) ∧ w'.cell? ⟨(ad128.add (((bi)).toNat * 2)).block, (ad128.add (((bi)).toNat * 2)).off + 1, none⟩ = some (.string ((rd_T38 l0 (bi)).f1))) (ds := []) #[false, false, false, false, false, false, false, false, false, false, false, false, false, false, false, false, false, false, false, false, false, false, false, false, false, false, false, false, false, false] z0 rfl rfl ⟨(bC ax.out 0).trans rfl, (bC ax.out 1).trans rfl, ((HB.out.cell (World.block_lt_of_cell? w _ hw131_0)).trans hw131_0), ((HB.out.cell (World.block_lt_of_cell? w _ hw131_1)).trans hw131_1)⟩ (fun hHeld => ?_); refine with_tabW spec_GoodSchema.tab4 spec_GoodSchema.bits4 (fun HT_ HW_ => ?_)
            generalize w20.drew = w21 at ax HB hx131_0 hx131_1 hHeld ⊢
            refine pA 0 12 ?_
            refine tA 1 13 ?_ (hy := by rintro w' ⟨s0, s1, s2, s3⟩; go_simp; with_reducible rfl)
            refine pA 2 14 ?_
            refine pA 3 15 ?_
            refine pB 4 16 ?_
            refine pB 5 17 ?_
            refine pB 6 18 ?_
            refine pB 7 19 ?_
            refine pA 8 20 ?_
            refine pA 9 21 ?_
            refine pA 10 22 ?_
            refine tA 11 23 ?_ (hy := by rintro w' ⟨s0, s1, s2, s3⟩; go_simp; with_reducible rfl)
            refine one_ (i := 12) (N := some 24) #[true, true, true, true, true, true, true, true, true, true, true, true, true, false, false, false, false, false, false, false, false, false, false, false, false, false, false, false, false, false] rfl rfl (one_of HT_.out z0) (by decide) (fun K hK => ?_)
            refine goes_ Try.func19 z0 rfl #[.string ((rd_T38 l0 x7_1).f1)] (by rfl) rfl rfl z7 ?_
            with_reducible refine (spec_GoodExpr.calls k1 ((rd_T38 l0 x7_1).f1) true _ A6.out).mono ?_
            rintro e w22 ⟨rfl, hb⟩
            refine ⟨_, rfl, ?_⟩
            have aA := aM (ae (g := az) (o := .cells #[.string ((rd_T38 l0 x7_1).f0), .string ((rd_T38 l0 x7_1).f1)] 38 (0, 0)) (by (with_reducible repeat (first | refine ah ?_ _ | refine ag ?_ | refine ai ?_ _)); exact ax.out) hb)
            have aC := aM (ak (by repeat (first | (with_reducible first | exact HB.out | apply bA | apply pD | apply bD | refine aj ?_ aW.out) | exact HB.out)) hb)
            clear ax
            clear HB
            have ax := aA
            have HB := aC
            clear aA aC
            (try clear hb)
            (try clear hb2)
            (try clear hk)
            (try clear hi)
            refine hK.out _ _ ⟨(bC ax.out 0).trans rfl, (bC ax.out 1).trans rfl, ((HB.out.cell (World.block_lt_of_cell? w _ hw131_0)).trans hw131_0), ((HB.out.cell (World.block_lt_of_cell? w _ hw131_1)).trans hw131_1)⟩ (fun hHeld => ?_)
            clear hK K
            refine norm_ (a' := ?_) ?_ ?_
            rotate_left
            ·show Act.put _ (some 24) _ = _
             simp only [Act.put, sA, sB, sC, i64_w, i32_w]
             rfl
            refine pA 13 25 ?_
            refine pA 14 26 ?_
            refine pA 15 27 ?_
            refine pA 16 28 ?_
            refine pA 17 29 ?_
            refine pA 18 30 ?_
            refine pA 19 31 ?_
            refine pA 20 32 ?_
            refine pA 21 33 ?_
            refine pA 22 34 ?_
            refine pA 23 35 ?_
            refine pA 25 37 ?_
            refine tA 24 36 ?_ (hy := by rintro w' ⟨s0, s1, s2, s3⟩; go_simp; with_reducible rfl)
            refine tA 26 38 ?_ (hy := by rintro w' ⟨s0, s1, s2, s3⟩; go_simp; with_reducible rfl)
            refine pA 27 39 ?_
            refine pA 28 40 ?_
            refine pA 29 41 ?_
            refine done_ (done_of HT_.out z0) ?_
            try go_wp2
            go_ret
            exact ⟨by first | rfl | (simp [errW_none, errW_some] <;> rfl) | (simp only [← bG]; first | rfl | (simp [errW_none, errW_some] <;> rfl)) | (simp [*, errW_none, errW_some] <;> rfl), y5⟩
          ·rw [if_neg bY] at H
           exact absurd H (by simp)
         ·rw [if_neg cM] at H
          exact absurd H (by simp)
        ·rw [if_neg c8] at H
         have c8b0 : decide (0 < x7_1) = false := dF c8
         clear c8
         have H' := aM H
         clear H
         have p128 : 0 ≤ (x7_1 : Int) := oD z1
         have q128 : x7_1 < (l0.length : Int) := oD z1
         obtain ⟨ad128, e128, hx128_0, hx128_1⟩ := at_T38 aX.out x7_1 p128 q128
         cases e128
         replace hx128_0 := (HB.out.cell (World.block_lt_of_cell? w _ hx128_0)).trans hx128_0
         replace hx128_1 := (HB.out.cell (World.block_lt_of_cell? w _ hx128_1)).trans hx128_1
         replace p128 := eq_true p128
         replace q128 := eq_true q128
         try go_wp2_with (first | ((with_reducible refine ar (N := 4) rfl ?_); refine au ?hg (N := 4) ?hd (cs := #[.string (⟨#[]⟩ : ByteArray), .string (⟨#[]⟩ : ByteArray)]) (t := 38) ?hr ?_; (case hd => rfl); (case hg => rfl); (case hr => first | (go_simp; done) | (go_simp; rfl)); intro az hg w23 hbox hb; have aA := aM (ak z6 hb); have aC := aM (hbox); have aE := aM ((by rw [hg]; exact (al z6) : w.heap.size ≤ az)); have aI := aM ((by rw [hg]; exact (al z6) : w.heap.size ≤ az)); clear HB; have HB := aA; have ax := aC; have bo := aE; have aW := aI; clear aA aC aE aI; clear hb hbox hg; have hcz24_0 : w23.cell? ⟨az, 0, none⟩ = some (.string (⟨#[]⟩ : ByteArray)) := (bC ax.out 0).trans rfl; have hcz24_1 : w23.cell? ⟨az, 1, none⟩ = some (.string (⟨#[]⟩ : ByteArray)) := (bC ax.out 1).trans rfl; have hfz24_0 := bF ax.out 0; have hfz24_1 := bF ax.out 1))
         have aA : Aside0 (((w23.setCell ⟨az, 0, none⟩ (.string ((rd_T38 l0 x7_1).f0))).setCell ⟨az, 1, none⟩ (.string ((rd_T38 l0 x7_1).f1))).heap[az]? = some (.cells #[.string ((rd_T38 l0 x7_1).f0), .string ((rd_T38 l0 x7_1).f1)] 38 (0, 0))) := ⟨y16⟩
         have aC : Aside0 (Below w.heap.size w ((w23.setCell ⟨az, 0, none⟩ (.string ((rd_T38 l0 x7_1).f0))).setCell ⟨az, 1, none⟩ (.string ((rd_T38 l0 x7_1).f1)))) := ⟨y5⟩
         (try clear ax)
         (try clear HB)
         generalize ((w23.setCell ⟨az, 0, none⟩ (.string ((rd_T38 l0 x7_1).f0))).setCell ⟨az, 1, none⟩ (.string ((rd_T38 l0 x7_1).f1))) = w25 at aA aC ⊢
         have ax := aA
         have HB := aC
         clear aA aC
         have aA := aM (ag ax.out)
         have aC := aM (bD HB.out)
         clear ax
         clear HB
         have ax := aA
         have HB := aC
         clear aA aC
         refine start_ (n := 30) (S := fun w' => w'.cell? ⟨az, 0, none⟩ = some (.string ((rd_T38 l0 x7_1).f0)) ∧ w'.cell? ⟨az, 1, none⟩ = some (.string ((rd_T38 l0 x7_1).f1))) (ds := []) #[false, false, false, false, false, false, false, false, false, false, false, false, false, false, false, false, false, false, false, false, false, false, false, false, false, false, false, false, false, false] z0 rfl rfl ⟨(bC ax.out 0).trans rfl, (bC ax.out 1).trans rfl⟩ (fun hHeld => ?_); refine with_tabW spec_GoodSchema.tab4 spec_GoodSchema.bits4 (fun HT_ HW_ => ?_)
         generalize w25.drew = w26 at ax HB hHeld ⊢
         refine pA 0 12 ?_
         refine tA 1 13 ?_ (hy := by rintro w' ⟨s0, s1⟩; go_simp; with_reducible rfl)
         refine pA 2 14 ?_
         refine pA 3 15 ?_
         refine pB 4 16 ?_
         refine pB 5 17 ?_
         refine pB 6 18 ?_
         refine pB 7 19 ?_
         refine pA 8 20 ?_
         refine pA 9 21 ?_
         refine pA 10 22 ?_
         refine tA 11 23 ?_ (hy := by rintro w' ⟨s0, s1⟩; go_simp; with_reducible rfl)
         refine one_ (i := 12) (N := some 24) #[true, true, true, true, true, true, true, true, true, true, true, true, true, false, false, false, false, false, false, false, false, false, false, false, false, false, false, false, false, false] rfl rfl (one_of HT_.out z0) (by decide) (fun K hK => ?_)
         refine goes_ Try.func19 z0 rfl #[.string ((rd_T38 l0 x7_1).f1)] (by rfl) rfl rfl z7 ?_
         with_reducible refine (spec_GoodExpr.calls k1 ((rd_T38 l0 x7_1).f1) true _ A6.out).mono ?_
         rintro e w27 ⟨rfl, hb⟩
         refine ⟨_, rfl, ?_⟩
         have aA := aM (ae (g := az) (o := .cells #[.string ((rd_T38 l0 x7_1).f0), .string ((rd_T38 l0 x7_1).f1)] 38 (0, 0)) (by (with_reducible repeat (first | refine ah ?_ _ | refine ag ?_ | refine ai ?_ _)); exact ax.out) hb)
         have aC := aM (ak (by repeat (first | (with_reducible first | exact HB.out | apply bA | apply pD | apply bD | refine aj ?_ aW.out) | exact HB.out)) hb)
         clear ax
         clear HB
         have ax := aA
         have HB := aC
         clear aA aC
         (try clear hb)
         (try clear hb2)
         (try clear hk)
         (try clear hi)
         refine hK.out _ _ ⟨(bC ax.out 0).trans rfl, (bC ax.out 1).trans rfl⟩ (fun hHeld => ?_)
         clear hK K
         refine norm_ (a' := ?_) ?_ ?_
         rotate_left
         ·show Act.put _ (some 24) _ = _
          simp only [Act.put, sA, sB, sC, i64_w, i32_w]
          rfl
         refine pA 13 25 ?_
         refine pA 14 26 ?_
         refine pA 15 27 ?_
         refine pA 16 28 ?_
         refine pA 17 29 ?_
         refine pA 18 30 ?_
         refine pB 19 31 ?_
         refine pB 20 32 ?_
         refine pB 21 33 ?_
         refine pB 22 34 ?_
         refine pB 23 35 ?_
         refine pB 24 36 ?_
         refine pB 25 37 ?_
         refine pB 26 38 ?_
         refine pB 27 39 ?_
         refine pA 28 40 ?_
         refine pA 29 41 ?_
         refine done_ (done_of HT_.out z0) ?_
         try go_wp2
         go_roundg k1
         case measure => have := HK1.out; omega
         case rel => exact ⟨(wrap64 (x7_1 + 1)), (by first | rfl | (simp; done) | (simp [*]; done)), H', ⟨by have := HK1.out; omega⟩, ⟨y5⟩⟩
       ·replace c7 := Bool.eq_false_iff.mpr c7
        subst c7
        rw [if_neg (show ¬ (false = true) by decide)] at H
        obtain rfl := sI H
        have p128 : 0 ≤ (x7_1 : Int) := oD z1
        have q128 : x7_1 < (l0.length : Int) := oD z1
        obtain ⟨ad128, e128, hx128_0, hx128_1⟩ := at_T38 aX.out x7_1 p128 q128
        cases e128
        replace hx128_0 := (HB.out.cell (World.block_lt_of_cell? w _ hx128_0)).trans hx128_0
        replace hx128_1 := (HB.out.cell (World.block_lt_of_cell? w _ hx128_1)).trans hx128_1
        replace p128 := eq_true p128
        replace q128 := eq_true q128
        try go_wp2_with (first | ((with_reducible refine ar (N := 4) rfl ?_); refine au ?hg (N := 4) ?hd (cs := #[.string (⟨#[]⟩ : ByteArray), .string (⟨#[]⟩ : ByteArray)]) (t := 38) ?hr ?_; (case hd => rfl); (case hg => rfl); (case hr => first | (go_simp; done) | (go_simp; rfl)); intro az hg w28 hbox hb; have aA := aM (ak z6 hb); have aC := aM (hbox); have aE := aM ((by rw [hg]; exact (al z6) : w.heap.size ≤ az)); have aI := aM ((by rw [hg]; exact (al z6) : w.heap.size ≤ az)); clear HB; have HB := aA; have ax := aC; have bo := aE; have aW := aI; clear aA aC aE aI; clear hb hbox hg; have hcz29_0 : w28.cell? ⟨az, 0, none⟩ = some (.string (⟨#[]⟩ : ByteArray)) := (bC ax.out 0).trans rfl; have hcz29_1 : w28.cell? ⟨az, 1, none⟩ = some (.string (⟨#[]⟩ : ByteArray)) := (bC ax.out 1).trans rfl; have hfz29_0 := bF ax.out 0; have hfz29_1 := bF ax.out 1))
        have aA : Aside0 (((w28.setCell ⟨az, 0, none⟩ (.string ((rd_T38 l0 x7_1).f0))).setCell ⟨az, 1, none⟩ (.string ((rd_T38 l0 x7_1).f1))).heap[az]? = some (.cells #[.string ((rd_T38 l0 x7_1).f0), .string ((rd_T38 l0 x7_1).f1)] 38 (0, 0))) := ⟨y16⟩
        have aC : Aside0 (Below w.heap.size w ((w28.setCell ⟨az, 0, none⟩ (.string ((rd_T38 l0 x7_1).f0))).setCell ⟨az, 1, none⟩ (.string ((rd_T38 l0 x7_1).f1)))) := ⟨y5⟩
        (try clear ax)
        (try clear HB)
        generalize ((w28.setCell ⟨az, 0, none⟩ (.string ((rd_T38 l0 x7_1).f0))).setCell ⟨az, 1, none⟩ (.string ((rd_T38 l0 x7_1).f1))) = w30 at aA aC ⊢
        have ax := aA
        have HB := aC
        clear aA aC
        have aA := aM (ag ax.out)
        have aC := aM (bD HB.out)
        clear ax
        clear HB
        have ax := aA
        have HB := aC
        clear aA aC
        refine start_ (n := 30) (S := fun w' => w'.cell? ⟨az, 0, none⟩ = some (.string ((rd_T38 l0 x7_1).f0)) ∧ w'.cell? ⟨az, 1, none⟩ = some (.string ((rd_T38 l0 x7_1).f1))) (ds := []) #[false, false, false, false, false, false, false, false, false, false, false, false, false, false, false, false, false, false, false, false, false, false, false, false, false, false, false, false, false, false] z0 rfl rfl ⟨(bC ax.out 0).trans rfl, (bC ax.out 1).trans rfl⟩ (fun hHeld => ?_); refine with_tabW spec_GoodSchema.tab4 spec_GoodSchema.bits4 (fun HT_ HW_ => ?_)
        generalize w30.drew = w31 at ax HB hHeld ⊢
        refine pA 0 12 ?_
        refine tA 1 13 ?_ (hy := by rintro w' ⟨s0, s1⟩; go_simp; with_reducible rfl)
        refine pA 2 14 ?_
        refine pA 3 15 ?_
        refine pB 4 16 ?_
        refine pB 5 17 ?_
        refine pB 6 18 ?_
        refine pB 7 19 ?_
        refine pA 8 20 ?_
        refine pA 9 21 ?_
        refine pA 10 22 ?_
        refine tA 11 23 ?_ (hy := by rintro w' ⟨s0, s1⟩; go_simp; with_reducible rfl)
        refine one_ (i := 12) (N := some 24) #[true, true, true, true, true, true, true, true, true, true, true, true, true, false, false, false, false, false, false, false, false, false, false, false, false, false, false, false, false, false] rfl rfl (one_of HT_.out z0) (by decide) (fun K hK => ?_)
        refine goes_ Try.func19 z0 rfl #[.string ((rd_T38 l0 x7_1).f1)] (by rfl) rfl rfl z7 ?_
        with_reducible refine (spec_GoodExpr.calls k1 ((rd_T38 l0 x7_1).f1) false _ A6.out).mono ?_
        rintro e w32 ⟨rfl, hb⟩
        refine ⟨_, rfl, ?_⟩
        have aA := aM (ae (g := az) (o := .cells #[.string ((rd_T38 l0 x7_1).f0), .string ((rd_T38 l0 x7_1).f1)] 38 (0, 0)) (by (with_reducible repeat (first | refine ah ?_ _ | refine ag ?_ | refine ai ?_ _)); exact ax.out) hb)
        have aC := aM (ak (by repeat (first | (with_reducible first | exact HB.out | apply bA | apply pD | apply bD | refine aj ?_ aW.out) | exact HB.out)) hb)
        clear ax
        clear HB
        have ax := aA
        have HB := aC
        clear aA aC
        (try clear hb)
        (try clear hb2)
        (try clear hk)
        (try clear hi)
        refine hK.out _ _ ⟨(bC ax.out 0).trans rfl, (bC ax.out 1).trans rfl⟩ (fun hHeld => ?_)
        clear hK K
        refine norm_ (a' := ?_) ?_ ?_
        rotate_left
        ·show Act.put _ (some 24) _ = _
         simp only [Act.put, sA, sB, sC, i64_w, i32_w]
         rfl
        refine pA 13 25 ?_
        refine pA 14 26 ?_
        refine pA 15 27 ?_
        refine pB 16 28 ?_
        refine pB 17 29 ?_
        refine pB 18 30 ?_
        refine pB 19 31 ?_
        refine pB 20 32 ?_
        refine pB 21 33 ?_
        refine pB 22 34 ?_
        refine pB 23 35 ?_
        refine pB 24 36 ?_
        refine pB 25 37 ?_
        refine pB 26 38 ?_
        refine pB 27 39 ?_
        refine pB 28 40 ?_
        refine pA 29 41 ?_
        refine done_ (done_of HT_.out z0) ?_
        try go_wp2
        go_ret
        exact ⟨y2, y5⟩
      ·rw [if_neg c5] at H
       have c5b0 : (((rd_T38 l0 x7_1).f0).toList == ([45] : List UInt8)) = false := qF c5
       have c5b1 : (((rd_T38 l0 x7_1).f0).toList != ([45] : List UInt8)) = true := nT c5
       replace H := oB H
       obtain ⟨ch, cD, H⟩ := H
       try dsimp only at H
       have cn := aM cD
       clear cD
       by_cases cK : ch = true
       ·subst cK
        rw [if_pos rfl] at H
        replace H := oB H
        obtain ⟨cg, cA, H⟩ := H
        try dsimp only at H
        have cB := aM cA
        clear cA
        by_cases cI : cg = true
        ·subst cI
         rw [if_pos rfl] at H
         by_cases bV : x7_1 > 0
         ·rw [if_pos bV] at H
          have c37b0 : decide (0 < x7_1) = true := dT bV
          clear bV
          obtain ⟨aT, bl⟩ : ∃ j_ : Int, (wrap64 (x7_1 - 1)) = j_ := ⟨_, rfl⟩
          replace H : (if 0 ≤ (aT) then (if (aT) < (l0.length : Int) then (if ((Op.bytesLess (((rd_T38 l0 (aT)).f0).toList) (((rd_T38 l0 x7_1).f0).toList)) = true) then (spec_GoodSchema.l0 k1 l0 l0 (l0.length : Int) (wrap64 (x7_1 + 1))) else (some false)) else (none)) else (none)) = some r := by first | (rw [bl] at H; exact H) | (simp only [bl] at H ⊢; exact H)
          (try rw [bl] at cn)
          (try rw [bl] at cB)
          have hji38w : (IntKind.i64.wrap (x7_1 - 1)) = aT := (i64_w _).trans bl
          by_cases cH : 0 ≤ (aT)
          ·rw [if_pos cH] at H
           have c39b0 : decide (0 ≤ (aT)) = true := dT cH
           clear cH
           by_cases bX : (aT) < (l0.length : Int)
           ·rw [if_pos bX] at H
            have c40b0 : decide ((aT) < (l0.length : Int)) = true := dT bX
            clear bX
            by_cases bU : ((Op.bytesLess (((rd_T38 l0 (aT)).f0).toList) (((rd_T38 l0 x7_1).f0).toList)) = true)
            ·rw [if_pos bU] at H
             have c41b0 : (Op.bytesLess (((rd_T38 l0 (aT)).f0).toList) (((rd_T38 l0 x7_1).f0).toList)) = true := bU
             clear bU
             have H' := aM H
             clear H
             have p128 : 0 ≤ (x7_1 : Int) := oD z1
             have q128 : x7_1 < (l0.length : Int) := oD z1
             obtain ⟨ad128, e128, hx128_0, hx128_1⟩ := at_T38 aX.out x7_1 p128 q128
             cases e128
             replace hx128_0 := (HB.out.cell (World.block_lt_of_cell? w _ hx128_0)).trans hx128_0
             replace hx128_1 := (HB.out.cell (World.block_lt_of_cell? w _ hx128_1)).trans hx128_1
             replace p128 := eq_true p128
             replace q128 := eq_true q128
             try go_wp2_with (first | ((with_reducible refine ar (N := 4) rfl ?_); refine au ?hg (N := 4) ?hd (cs := #[.string (⟨#[]⟩ : ByteArray), .string (⟨#[]⟩ : ByteArray)]) (t := 38) ?hr ?_; (case hd => rfl); (case hg => rfl); (case hr => first | (go_simp; done) | (go_simp; rfl)); intro az hg w42 hbox hb; have aA := aM (ak z6 hb); have aC := aM (hbox); have aE := aM ((by rw [hg]; exact (al z6) : w.heap.size ≤ az)); have aI := aM ((by rw [hg]; exact (al z6) : w.heap.size ≤ az)); clear HB; have HB := aA; have ax := aC; have bo := aE; have aW := aI; clear aA aC aE aI; clear hb hbox hg; have hcz43_0 : w42.cell? ⟨az, 0, none⟩ = some (.string (⟨#[]⟩ : ByteArray)) := (bC ax.out 0).trans rfl; have hcz43_1 : w42.cell? ⟨az, 1, none⟩ = some (.string (⟨#[]⟩ : ByteArray)) := (bC ax.out 1).trans rfl; have hfz43_0 := bF ax.out 0; have hfz43_1 := bF ax.out 1))
             have aA : Aside0 (((w42.setCell ⟨az, 0, none⟩ (.string ((rd_T38 l0 x7_1).f0))).setCell ⟨az, 1, none⟩ (.string ((rd_T38 l0 x7_1).f1))).heap[az]? = some (.cells #[.string ((rd_T38 l0 x7_1).f0), .string ((rd_T38 l0 x7_1).f1)] 38 (0, 0))) := ⟨y16⟩
             have aC : Aside0 (Below w.heap.size w ((w42.setCell ⟨az, 0, none⟩ (.string ((rd_T38 l0 x7_1).f0))).setCell ⟨az, 1, none⟩ (.string ((rd_T38 l0 x7_1).f1)))) := ⟨y5⟩
             (try clear ax)
             (try clear HB)
             generalize ((w42.setCell ⟨az, 0, none⟩ (.string ((rd_T38 l0 x7_1).f0))).setCell ⟨az, 1, none⟩ (.string ((rd_T38 l0 x7_1).f1))) = w44 at aA aC ⊢
             have ax := aA
             have HB := aC
             clear aA aC
             have aA := aM (ag ax.out)
             have aC := aM (bD HB.out)
             clear ax
             clear HB
             have ax := aA
             have HB := aC
             clear aA aC
             have p134 : 0 ≤ ((aT) : Int) := oD z1
             have q134 : (aT) < (l0.length : Int) := oD z1
             obtain ⟨ad134, e134, hx134_0, hx134_1⟩ := at_T38 aX.out (aT) p134 q134
             have hw134_1 := hx134_1
             have hw134_0 := hx134_0
             obtain rfl : ad128 = ad134 := (by injection e134)
             replace hx134_0 := (HB.out.cell (World.block_lt_of_cell? w _ hx134_0)).trans hx134_0
             replace hx134_1 := (HB.out.cell (World.block_lt_of_cell? w _ hx134_1)).trans hx134_1
             replace p134 := eq_true p134
             replace q134 := eq_true q134
             refine start_ (n := 30) (S := fun w' => w'.cell? ⟨az, 0, none⟩ = some (.string ((rd_T38 l0 x7_1).f0)) ∧ w'.cell? ⟨az, 1, none⟩ = some (.string ((rd_T38 l0 x7_1).f1)) ∧ w'.cell? (ad128.add (((aT)).toNat * 2)) = some (.string ((rd_T38 l0 (aT)).f0)) ∧ w'.cell? ⟨(ad128.add (((aT)).toNat * 2)).block, (ad128.add (((aT)).toNat * 2)).off + 1, none⟩ = some (.string ((rd_T38 l0 (aT)).f1))) (ds := []) #[false, false, false, false, false, false, false, false, false, false, false, false, false, false, false, false, false, false, false, false, false, false, false, false, false, false, false, false, false, false] z0 rfl rfl ⟨(bC ax.out 0).trans rfl, (bC ax.out 1).trans rfl, ((HB.out.cell (World.block_lt_of_cell? w _ hw134_0)).trans hw134_0), ((HB.out.cell (World.block_lt_of_cell? w _ hw134_1)).trans hw134_1)⟩ (fun hHeld => ?_); refine with_tabW spec_GoodSchema.tab4 spec_GoodSchema.bits4 (fun HT_ HW_ => ?_)
             generalize w44.drew = w45 at ax HB hx134_0 hx134_1 hHeld ⊢
             refine pA 0 12 ?_
             refine tA 1 13 ?_ (hy := by rintro w' ⟨s0, s1, s2, s3⟩; go_simp; with_reducible rfl)
             refine pA 2 14 ?_
             refine pA 3 15 ?_
             refine pA 4 16 ?_
             refine tA 5 17 ?_ (hy := by rintro w' ⟨s0, s1, s2, s3⟩; go_simp; with_reducible rfl)
             refine one_ (i := 6) (N := some 18) #[true, true, true, true, true, true, true, false, false, false, false, false, false, false, false, false, false, false, false, false, false, false, false, false, false, false, false, false, false, false] rfl rfl (one_of HT_.out z0) (by decide) (fun K hK => ?_)
             refine goes_ Try.func18 z0 rfl #[.string ((rd_T38 l0 x7_1).f0)] (by rfl) rfl rfl z7 ?_
             with_reducible refine (spec_l1Name.calls ((rd_T38 l0 x7_1).f0) true _ cn.out).mono ?_
             rintro e w' ⟨rfl, ⟨nd, rfl⟩⟩
             refine ⟨_, rfl, ?_⟩
             refine hK.out _ _ ⟨(bC ax.out 0).trans rfl, (bC ax.out 1).trans rfl, ((HB.out.cell (World.block_lt_of_cell? w _ hw134_0)).trans hw134_0), ((HB.out.cell (World.block_lt_of_cell? w _ hw134_1)).trans hw134_1)⟩ (fun hHeld => ?_)
             clear hK K
             refine norm_ (a' := ?_) ?_ ?_
             rotate_left
             ·show Act.put _ (some 18) _ = _
              simp only [Act.put, sA, sB, sC, i64_w, i32_w]
              rfl
             refine pA 7 19 ?_
             refine pA 8 20 ?_
             refine pA 9 21 ?_
             refine pA 10 22 ?_
             refine tA 11 23 ?_ (hy := by rintro w' ⟨s0, s1, s2, s3⟩; go_simp; with_reducible rfl)
             refine one_ (i := 12) (N := some 24) #[true, true, true, true, true, true, true, true, true, true, true, true, true, false, false, false, false, false, false, false, false, false, false, false, false, false, false, false, false, false] rfl rfl (one_of HT_.out z0) (by decide) (fun K hK => ?_)
             refine goes_ Try.func19 z0 rfl #[.string ((rd_T38 l0 x7_1).f1)] (by rfl) rfl rfl z7 ?_
             with_reducible refine (spec_GoodExpr.calls k1 ((rd_T38 l0 x7_1).f1) true _ cB.out).mono ?_
             rintro e w46 ⟨rfl, hb⟩
             refine ⟨_, rfl, ?_⟩
             have aA := aM (ae (g := az) (o := .cells #[.string ((rd_T38 l0 x7_1).f0), .string ((rd_T38 l0 x7_1).f1)] 38 (0, 0)) (by (with_reducible repeat (first | refine ah ?_ _ | refine ag ?_ | refine ai ?_ _)); exact ax.out) hb)
             have aC := aM (ak (by repeat (first | (with_reducible first | exact HB.out | apply bA | apply pD | apply bD | refine aj ?_ aW.out) | exact HB.out)) hb)
             clear ax
             clear HB
             have ax := aA
             have HB := aC
             clear aA aC
             (try clear hb)
             (try clear hb2)
             (try clear hk)
             (try clear hi)
             refine hK.out _ _ ⟨(bC ax.out 0).trans rfl, (bC ax.out 1).trans rfl, ((HB.out.cell (World.block_lt_of_cell? w _ hw134_0)).trans hw134_0), ((HB.out.cell (World.block_lt_of_cell? w _ hw134_1)).trans hw134_1)⟩ (fun hHeld => ?_)
             clear hK K
             refine norm_ (a' := ?_) ?_ ?_
             rotate_left
             ·show Act.put _ (some 24) _ = _
              simp only [Act.put, sA, sB, sC, i64_w, i32_w]
              rfl
             refine pA 13 25 ?_
             refine pA 14 26 ?_
             refine pA 15 27 ?_
             refine pA 16 28 ?_
             refine pA 17 29 ?_
             refine pA 18 30 ?_
             refine pA 19 31 ?_
             refine pA 20 32 ?_
             refine pA 21 33 ?_
             refine pA 22 34 ?_
             refine pA 23 35 ?_
             refine pA 25 37 ?_
             refine tA 24 36 ?_ (hy := by rintro w' ⟨s0, s1, s2, s3⟩; go_simp; with_reducible rfl)
             refine tA 26 38 ?_ (hy := by rintro w' ⟨s0, s1, s2, s3⟩; go_simp; with_reducible rfl)
             refine pA 27 39 ?_
             refine pA 28 40 ?_
             refine pA 29 41 ?_
             refine done_ (done_of HT_.out z0) ?_
             try go_wp2
             go_roundg k1
             case measure => have := HK1.out; omega
             case rel => exact ⟨(wrap64 (x7_1 + 1)), (by first | rfl | (simp; done) | (simp [*]; done)), (by first | exact H' | (simp only [bl]; exact H') | (simp only [← bl]; exact H')), ⟨by have := HK1.out; omega⟩, ⟨y5⟩⟩
            ·rw [if_neg bU] at H
             have c41b0 : (Op.bytesLess (((rd_T38 l0 (aT)).f0).toList) (((rd_T38 l0 x7_1).f0).toList)) = false := by simpa using bU
             clear bU
             obtain rfl := sI H
             have p128 : 0 ≤ (x7_1 : Int) := oD z1
             have q128 : x7_1 < (l0.length : Int) := oD z1
             obtain ⟨ad128, e128, hx128_0, hx128_1⟩ := at_T38 aX.out x7_1 p128 q128
             cases e128
             replace hx128_0 := (HB.out.cell (World.block_lt_of_cell? w _ hx128_0)).trans hx128_0
             replace hx128_1 := (HB.out.cell (World.block_lt_of_cell? w _ hx128_1)).trans hx128_1
             replace p128 := eq_true p128
             replace q128 := eq_true q128
             try go_wp2_with (first | ((with_reducible refine ar (N := 4) rfl ?_); refine au ?hg (N := 4) ?hd (cs := #[.string (⟨#[]⟩ : ByteArray), .string (⟨#[]⟩ : ByteArray)]) (t := 38) ?hr ?_; (case hd => rfl); (case hg => rfl); (case hr => first | (go_simp; done) | (go_simp; rfl)); intro az hg w47 hbox hb; have aA := aM (ak z6 hb); have aC := aM (hbox); have aE := aM ((by rw [hg]; exact (al z6) : w.heap.size ≤ az)); have aI := aM ((by rw [hg]; exact (al z6) : w.heap.size ≤ az)); clear HB; have HB := aA; have ax := aC; have bo := aE; have aW := aI; clear aA aC aE aI; clear hb hbox hg; have hcz48_0 : w47.cell? ⟨az, 0, none⟩ = some (.string (⟨#[]⟩ : ByteArray)) := (bC ax.out 0).trans rfl; have hcz48_1 : w47.cell? ⟨az, 1, none⟩ = some (.string (⟨#[]⟩ : ByteArray)) := (bC ax.out 1).trans rfl; have hfz48_0 := bF ax.out 0; have hfz48_1 := bF ax.out 1))
             have aA : Aside0 (((w47.setCell ⟨az, 0, none⟩ (.string ((rd_T38 l0 x7_1).f0))).setCell ⟨az, 1, none⟩ (.string ((rd_T38 l0 x7_1).f1))).heap[az]? = some (.cells #[.string ((rd_T38 l0 x7_1).f0), .string ((rd_T38 l0 x7_1).f1)] 38 (0, 0))) := ⟨y16⟩
             have aC : Aside0 (Below w.heap.size w ((w47.setCell ⟨az, 0, none⟩ (.string ((rd_T38 l0 x7_1).f0))).setCell ⟨az, 1, none⟩ (.string ((rd_T38 l0 x7_1).f1)))) := ⟨y5⟩
             (try clear ax)
             (try clear HB)
             generalize ((w47.setCell ⟨az, 0, none⟩ (.string ((rd_T38 l0 x7_1).f0))).setCell ⟨az, 1, none⟩ (.string ((rd_T38 l0 x7_1).f1))) = w49 at aA aC ⊢
             have ax := aA
             have HB := aC
             clear aA aC
             have aA := aM (ag ax.out)
             have aC := aM (bD HB.out)
             clear ax
             clear HB
             have ax := aA
             have HB := aC
             clear aA aC
             have p134 : 0 ≤ ((aT) : Int) := oD z1
             have q134 : (aT) < (l0.length : Int) := oD z1
             obtain ⟨ad134, e134, hx134_0, hx134_1⟩ := at_T38 aX.out (aT) p134 q134
             have hw134_1 := hx134_1
             have hw134_0 := hx134_0
             obtain rfl : ad128 = ad134 := (by injection e134)
             replace hx134_0 := (HB.out.cell (World.block_lt_of_cell? w _ hx134_0)).trans hx134_0
             replace hx134_1 := (HB.out.cell (World.block_lt_of_cell? w _ hx134_1)).trans hx134_1
             replace p134 := eq_true p134
             replace q134 := eq_true q134
             refine start_ (n := 30) (S := fun w' => w'.cell? ⟨az, 0, none⟩ = some (.string ((rd_T38 l0 x7_1).f0)) ∧ w'.cell? ⟨az, 1, none⟩ = some (.string ((rd_T38 l0 x7_1).f1)) ∧ w'.cell? (ad128.add (((aT)).toNat * 2)) = some (.string ((rd_T38 l0 (aT)).f0)) ∧ w'.cell? ⟨(ad128.add (((aT)).toNat * 2)).block, (ad128.add (((aT)).toNat * 2)).off + 1, none⟩ = some (.string ((rd_T38 l0 (aT)).f1))) (ds := []) #[false, false, false, false, false, false, false, false, false, false, false, false, false, false, false, false, false, false, false, false, false, false, false, false, false, false, false, false, false, false] z0 rfl rfl ⟨(bC ax.out 0).trans rfl, (bC ax.out 1).trans rfl, ((HB.out.cell (World.block_lt_of_cell? w _ hw134_0)).trans hw134_0), ((HB.out.cell (World.block_lt_of_cell? w _ hw134_1)).trans hw134_1)⟩ (fun hHeld => ?_); refine with_tabW spec_GoodSchema.tab4 spec_GoodSchema.bits4 (fun HT_ HW_ => ?_)
             generalize w49.drew = w50 at ax HB hx134_0 hx134_1 hHeld ⊢
             refine pA 0 12 ?_
             refine tA 1 13 ?_ (hy := by rintro w' ⟨s0, s1, s2, s3⟩; go_simp; with_reducible rfl)
             refine pA 2 14 ?_
             refine pA 3 15 ?_
             refine pA 4 16 ?_
             refine tA 5 17 ?_ (hy := by rintro w' ⟨s0, s1, s2, s3⟩; go_simp; with_reducible rfl)
             refine one_ (i := 6) (N := some 18) #[true, true, true, true, true, true, true, false, false, false, false, false, false, false, false, false, false, false, false, false, false, false, false, false, false, false, false, false, false, false] rfl rfl (one_of HT_.out z0) (by decide) (fun K hK => ?_)
             refine goes_ Try.func18 z0 rfl #[.string ((rd_T38 l0 x7_1).f0)] (by rfl) rfl rfl z7 ?_
             with_reducible refine (spec_l1Name.calls ((rd_T38 l0 x7_1).f0) true _ cn.out).mono ?_
             rintro e w' ⟨rfl, ⟨nd, rfl⟩⟩
             refine ⟨_, rfl, ?_⟩
             refine hK.out _ _ ⟨(bC ax.out 0).trans rfl, (bC ax.out 1).trans rfl, ((HB.out.cell (World.block_lt_of_cell? w _ hw134_0)).trans hw134_0), ((HB.out.cell (World.block_lt_of_cell? w _ hw134_1)).trans hw134_1)⟩ (fun hHeld => ?_)
             clear hK K
             refine norm_ (a' := ?_) ?_ ?_
             rotate_left
             ·show Act.put _ (some 18) _ = _
              simp only [Act.put, sA, sB, sC, i64_w, i32_w]
              rfl
             refine pA 7 19 ?_
             refine pA 8 20 ?_
             refine pA 9 21 ?_
             refine pA 10 22 ?_
             refine tA 11 23 ?_ (hy := by rintro w' ⟨s0, s1, s2, s3⟩; go_simp; with_reducible rfl)
             refine one_ (i := 12) (N := some 24) #[true, true, true, true, true, true, true, true, true, true, true, true, true, false, false, false, false, false, false, false, false, false, false, false, false, false, false, false, false, false] rfl rfl (one_of HT_.out z0) (by decide) (fun K hK => ?_)
             refine goes_ Try.func19 z0 rfl #[.string ((rd_T38 l0 x7_1).f1)] (by rfl) rfl rfl z7 ?_
             with_reducible refine (spec_GoodExpr.calls k1 ((rd_T38 l0 x7_1).f1) true _ cB.out).mono ?_
             rintro e w51 ⟨rfl, hb⟩
             refine ⟨_, rfl, ?_⟩
             have aA := aM (ae (g := az) (o := .cells #[.string ((rd_T38 l0 x7_1).f0), .string ((rd_T38 l0 x7_1).f1)] 38 (0, 0)) (by (with_reducible repeat (first | refine ah ?_ _ | refine ag ?_ | refine ai ?_ _)); exact ax.out) hb)
             have aC := aM (ak (by repeat (first | (with_reducible first | exact HB.out | apply bA | apply pD | apply bD | refine aj ?_ aW.out) | exact HB.out)) hb)
             clear ax
             clear HB
             have ax := aA
             have HB := aC
             clear aA aC
             (try clear hb)
             (try clear hb2)
             (try clear hk)
             (try clear hi)
             refine hK.out _ _ ⟨(bC ax.out 0).trans rfl, (bC ax.out 1).trans rfl, ((HB.out.cell (World.block_lt_of_cell? w _ hw134_0)).trans hw134_0), ((HB.out.cell (World.block_lt_of_cell? w _ hw134_1)).trans hw134_1)⟩ (fun hHeld => ?_)
             clear hK K
             refine norm_ (a' := ?_) ?_ ?_
             rotate_left
             ·show Act.put _ (some 24) _ = _
              simp only [Act.put, sA, sB, sC, i64_w, i32_w]
              rfl
             refine pA 13 25 ?_
             refine pA 14 26 ?_
             refine pA 15 27 ?_
             refine pA 16 28 ?_
             refine pA 17 29 ?_
             refine pA 18 30 ?_
             refine pA 19 31 ?_
             refine pA 20 32 ?_
             refine pA 21 33 ?_
             refine pA 22 34 ?_
             refine pA 23 35 ?_
             refine pA 25 37 ?_
             refine tA 24 36 ?_ (hy := by rintro w' ⟨s0, s1, s2, s3⟩; go_simp; with_reducible rfl)
             refine tA 26 38 ?_ (hy := by rintro w' ⟨s0, s1, s2, s3⟩; go_simp; with_reducible rfl)
             refine pA 27 39 ?_
             refine pA 28 40 ?_
             refine pA 29 41 ?_
             refine done_ (done_of HT_.out z0) ?_
             try go_wp2
             go_ret
             exact ⟨by first | rfl | (simp [errW_none, errW_some] <;> rfl) | (simp only [← bl]; first | rfl | (simp [errW_none, errW_some] <;> rfl)) | (simp [*, errW_none, errW_some] <;> rfl), y5⟩
           ·rw [if_neg bX] at H
            exact absurd H (by simp)
          ·rw [if_neg cH] at H
           exact absurd H (by simp)
         ·rw [if_neg bV] at H
          have c37b0 : decide (0 < x7_1) = false := dF bV
          clear bV
          have H' := aM H
          clear H
          have p128 : 0 ≤ (x7_1 : Int) := oD z1
          have q128 : x7_1 < (l0.length : Int) := oD z1
          obtain ⟨ad128, e128, hx128_0, hx128_1⟩ := at_T38 aX.out x7_1 p128 q128
          cases e128
          replace hx128_0 := (HB.out.cell (World.block_lt_of_cell? w _ hx128_0)).trans hx128_0
          replace hx128_1 := (HB.out.cell (World.block_lt_of_cell? w _ hx128_1)).trans hx128_1
          replace p128 := eq_true p128
          replace q128 := eq_true q128
          try go_wp2_with (first | ((with_reducible refine ar (N := 4) rfl ?_); refine au ?hg (N := 4) ?hd (cs := #[.string (⟨#[]⟩ : ByteArray), .string (⟨#[]⟩ : ByteArray)]) (t := 38) ?hr ?_; (case hd => rfl); (case hg => rfl); (case hr => first | (go_simp; done) | (go_simp; rfl)); intro az hg w52 hbox hb; have aA := aM (ak z6 hb); have aC := aM (hbox); have aE := aM ((by rw [hg]; exact (al z6) : w.heap.size ≤ az)); have aI := aM ((by rw [hg]; exact (al z6) : w.heap.size ≤ az)); clear HB; have HB := aA; have ax := aC; have bo := aE; have aW := aI; clear aA aC aE aI; clear hb hbox hg; have hcz53_0 : w52.cell? ⟨az, 0, none⟩ = some (.string (⟨#[]⟩ : ByteArray)) := (bC ax.out 0).trans rfl; have hcz53_1 : w52.cell? ⟨az, 1, none⟩ = some (.string (⟨#[]⟩ : ByteArray)) := (bC ax.out 1).trans rfl; have hfz53_0 := bF ax.out 0; have hfz53_1 := bF ax.out 1))
          have aA : Aside0 (((w52.setCell ⟨az, 0, none⟩ (.string ((rd_T38 l0 x7_1).f0))).setCell ⟨az, 1, none⟩ (.string ((rd_T38 l0 x7_1).f1))).heap[az]? = some (.cells #[.string ((rd_T38 l0 x7_1).f0), .string ((rd_T38 l0 x7_1).f1)] 38 (0, 0))) := ⟨y16⟩
          have aC : Aside0 (Below w.heap.size w ((w52.setCell ⟨az, 0, none⟩ (.string ((rd_T38 l0 x7_1).f0))).setCell ⟨az, 1, none⟩ (.string ((rd_T38 l0 x7_1).f1)))) := ⟨y5⟩
          (try clear ax)
          (try clear HB)
          generalize ((w52.setCell ⟨az, 0, none⟩ (.string ((rd_T38 l0 x7_1).f0))).setCell ⟨az, 1, none⟩ (.string ((rd_T38 l0 x7_1).f1))) = w54 at aA aC ⊢
          have ax := aA
          have HB := aC
          clear aA aC
          have aA := aM (ag ax.out)
          have aC := aM (bD HB.out)
          clear ax
          clear HB
          have ax := aA
          have HB := aC
          clear aA aC
          refine start_ (n := 30) (S := fun w' => w'.cell? ⟨az, 0, none⟩ = some (.string ((rd_T38 l0 x7_1).f0)) ∧ w'.cell? ⟨az, 1, none⟩ = some (.string ((rd_T38 l0 x7_1).f1))) (ds := []) #[false, false, false, false, false, false, false, false, false, false, false, false, false, false, false, false, false, false, false, false, false, false, false, false, false, false, false, false, false, false] z0 rfl rfl ⟨(bC ax.out 0).trans rfl, (bC ax.out 1).trans rfl⟩ (fun hHeld => ?_); refine with_tabW spec_GoodSchema.tab4 spec_GoodSchema.bits4 (fun HT_ HW_ => ?_)
          generalize w54.drew = w55 at ax HB hHeld ⊢
          refine pA 0 12 ?_
          refine tA 1 13 ?_ (hy := by rintro w' ⟨s0, s1⟩; go_simp; with_reducible rfl)
          refine pA 2 14 ?_
          refine pA 3 15 ?_
          refine pA 4 16 ?_
          refine tA 5 17 ?_ (hy := by rintro w' ⟨s0, s1⟩; go_simp; with_reducible rfl)
          refine one_ (i := 6) (N := some 18) #[true, true, true, true, true, true, true, false, false, false, false, false, false, false, false, false, false, false, false, false, false, false, false, false, false, false, false, false, false, false] rfl rfl (one_of HT_.out z0) (by decide) (fun K hK => ?_)
          refine goes_ Try.func18 z0 rfl #[.string ((rd_T38 l0 x7_1).f0)] (by rfl) rfl rfl z7 ?_
          with_reducible refine (spec_l1Name.calls ((rd_T38 l0 x7_1).f0) true _ cn.out).mono ?_
          rintro e w' ⟨rfl, ⟨nd, rfl⟩⟩
          refine ⟨_, rfl, ?_⟩
          refine hK.out _ _ ⟨(bC ax.out 0).trans rfl, (bC ax.out 1).trans rfl⟩ (fun hHeld => ?_)
          clear hK K
          refine norm_ (a' := ?_) ?_ ?_
          rotate_left
          ·show Act.put _ (some 18) _ = _
           simp only [Act.put, sA, sB, sC, i64_w, i32_w]
           rfl
          refine pA 7 19 ?_
          refine pA 8 20 ?_
          refine pA 9 21 ?_
          refine pA 10 22 ?_
          refine tA 11 23 ?_ (hy := by rintro w' ⟨s0, s1⟩; go_simp; with_reducible rfl)
          refine one_ (i := 12) (N := some 24) #[true, true, true, true, true, true, true, true, true, true, true, true, true, false, false, false, false, false, false, false, false, false, false, false, false, false, false, false, false, false] rfl rfl (one_of HT_.out z0) (by decide) (fun K hK => ?_)
          refine goes_ Try.func19 z0 rfl #[.string ((rd_T38 l0 x7_1).f1)] (by rfl) rfl rfl z7 ?_
          with_reducible refine (spec_GoodExpr.calls k1 ((rd_T38 l0 x7_1).f1) true _ cB.out).mono ?_
          rintro e w56 ⟨rfl, hb⟩
          refine ⟨_, rfl, ?_⟩
          have aA := aM (ae (g := az) (o := .cells #[.string ((rd_T38 l0 x7_1).f0), .string ((rd_T38 l0 x7_1).f1)] 38 (0, 0)) (by (with_reducible repeat (first | refine ah ?_ _ | refine ag ?_ | refine ai ?_ _)); exact ax.out) hb)
          have aC := aM (ak (by repeat (first | (with_reducible first | exact HB.out | apply bA | apply pD | apply bD | refine aj ?_ aW.out) | exact HB.out)) hb)
          clear ax
          clear HB
          have ax := aA
          have HB := aC
          clear aA aC
          (try clear hb)
          (try clear hb2)
          (try clear hk)
          (try clear hi)
          refine hK.out _ _ ⟨(bC ax.out 0).trans rfl, (bC ax.out 1).trans rfl⟩ (fun hHeld => ?_)
          clear hK K
          refine norm_ (a' := ?_) ?_ ?_
          rotate_left
          ·show Act.put _ (some 24) _ = _
           simp only [Act.put, sA, sB, sC, i64_w, i32_w]
           rfl
          refine pA 13 25 ?_
          refine pA 14 26 ?_
          refine pA 15 27 ?_
          refine pA 16 28 ?_
          refine pA 17 29 ?_
          refine pA 18 30 ?_
          refine pB 19 31 ?_
          refine pB 20 32 ?_
          refine pB 21 33 ?_
          refine pB 22 34 ?_
          refine pB 23 35 ?_
          refine pB 24 36 ?_
          refine pB 25 37 ?_
          refine pB 26 38 ?_
          refine pB 27 39 ?_
          refine pA 28 40 ?_
          refine pA 29 41 ?_
          refine done_ (done_of HT_.out z0) ?_
          try go_wp2
          go_roundg k1
          case measure => have := HK1.out; omega
          case rel => exact ⟨(wrap64 (x7_1 + 1)), (by first | rfl | (simp; done) | (simp [*]; done)), H', ⟨by have := HK1.out; omega⟩, ⟨y5⟩⟩
        ·replace cI := Bool.eq_false_iff.mpr cI
         subst cI
         rw [if_neg (show ¬ (false = true) by decide)] at H
         obtain rfl := sI H
         have p128 : 0 ≤ (x7_1 : Int) := oD z1
         have q128 : x7_1 < (l0.length : Int) := oD z1
         obtain ⟨ad128, e128, hx128_0, hx128_1⟩ := at_T38 aX.out x7_1 p128 q128
         cases e128
         replace hx128_0 := (HB.out.cell (World.block_lt_of_cell? w _ hx128_0)).trans hx128_0
         replace hx128_1 := (HB.out.cell (World.block_lt_of_cell? w _ hx128_1)).trans hx128_1
         replace p128 := eq_true p128
         replace q128 := eq_true q128
         try go_wp2_with (first | ((with_reducible refine ar (N := 4) rfl ?_); refine au ?hg (N := 4) ?hd (cs := #[.string (⟨#[]⟩ : ByteArray), .string (⟨#[]⟩ : ByteArray)]) (t := 38) ?hr ?_; (case hd => rfl); (case hg => rfl); (case hr => first | (go_simp; done) | (go_simp; rfl)); intro az hg w57 hbox hb; have aA := aM (ak z6 hb); have aC := aM (hbox); have aE := aM ((by rw [hg]; exact (al z6) : w.heap.size ≤ az)); have aI := aM ((by rw [hg]; exact (al z6) : w.heap.size ≤ az)); clear HB; have HB := aA; have ax := aC; have bo := aE; have aW := aI; clear aA aC aE aI; clear hb hbox hg; have hcz58_0 : w57.cell? ⟨az, 0, none⟩ = some (.string (⟨#[]⟩ : ByteArray)) := (bC ax.out 0).trans rfl; have hcz58_1 : w57.cell? ⟨az, 1, none⟩ = some (.string (⟨#[]⟩ : ByteArray)) := (bC ax.out 1).trans rfl; have hfz58_0 := bF ax.out 0; have hfz58_1 := bF ax.out 1))
         have aA : Aside0 (((w57.setCell ⟨az, 0, none⟩ (.string ((rd_T38 l0 x7_1).f0))).setCell ⟨az, 1, none⟩ (.string ((rd_T38 l0 x7_1).f1))).heap[az]? = some (.cells #[.string ((rd_T38 l0 x7_1).f0), .string ((rd_T38 l0 x7_1).f1)] 38 (0, 0))) := ⟨y16⟩
         have aC : Aside0 (Below w.heap.size w ((w57.setCell ⟨az, 0, none⟩ (.string ((rd_T38 l0 x7_1).f0))).setCell ⟨az, 1, none⟩ (.string ((rd_T38 l0 x7_1).f1)))) := ⟨y5⟩
         (try clear ax)
         (try clear HB)
         generalize ((w57.setCell ⟨az, 0, none⟩ (.string ((rd_T38 l0 x7_1).f0))).setCell ⟨az, 1, none⟩ (.string ((rd_T38 l0 x7_1).f1))) = w59 at aA aC ⊢
         have ax := aA
         have HB := aC
         clear aA aC
         have aA := aM (ag ax.out)
         have aC := aM (bD HB.out)
         clear ax
         clear HB
         have ax := aA
         have HB := aC
         clear aA aC
         refine start_ (n := 30) (S := fun w' => w'.cell? ⟨az, 0, none⟩ = some (.string ((rd_T38 l0 x7_1).f0)) ∧ w'.cell? ⟨az, 1, none⟩ = some (.string ((rd_T38 l0 x7_1).f1))) (ds := []) #[false, false, false, false, false, false, false, false, false, false, false, false, false, false, false, false, false, false, false, false, false, false, false, false, false, false, false, false, false, false] z0 rfl rfl ⟨(bC ax.out 0).trans rfl, (bC ax.out 1).trans rfl⟩ (fun hHeld => ?_); refine with_tabW spec_GoodSchema.tab4 spec_GoodSchema.bits4 (fun HT_ HW_ => ?_)
         generalize w59.drew = w60 at ax HB hHeld ⊢
         refine pA 0 12 ?_
         refine tA 1 13 ?_ (hy := by rintro w' ⟨s0, s1⟩; go_simp; with_reducible rfl)
         refine pA 2 14 ?_
         refine pA 3 15 ?_
         refine pA 4 16 ?_
         refine tA 5 17 ?_ (hy := by rintro w' ⟨s0, s1⟩; go_simp; with_reducible rfl)
         refine one_ (i := 6) (N := some 18) #[true, true, true, true, true, true, true, false, false, false, false, false, false, false, false, false, false, false, false, false, false, false, false, false, false, false, false, false, false, false] rfl rfl (one_of HT_.out z0) (by decide) (fun K hK => ?_)
         refine goes_ Try.func18 z0 rfl #[.string ((rd_T38 l0 x7_1).f0)] (by rfl) rfl rfl z7 ?_
         with_reducible refine (spec_l1Name.calls ((rd_T38 l0 x7_1).f0) true _ cn.out).mono ?_
         rintro e w' ⟨rfl, ⟨nd, rfl⟩⟩
         refine ⟨_, rfl, ?_⟩
         refine hK.out _ _ ⟨(bC ax.out 0).trans rfl, (bC ax.out 1).trans rfl⟩ (fun hHeld => ?_)
         clear hK K
         refine norm_ (a' := ?_) ?_ ?_
         rotate_left
         ·show Act.put _ (some 18) _ = _
          simp only [Act.put, sA, sB, sC, i64_w, i32_w]
          rfl
         refine pA 7 19 ?_
         refine pA 8 20 ?_
         refine pA 9 21 ?_
         refine pA 10 22 ?_
         refine tA 11 23 ?_ (hy := by rintro w' ⟨s0, s1⟩; go_simp; with_reducible rfl)
         refine one_ (i := 12) (N := some 24) #[true, true, true, true, true, true, true, true, true, true, true, true, true, false, false, false, false, false, false, false, false, false, false, false, false, false, false, false, false, false] rfl rfl (one_of HT_.out z0) (by decide) (fun K hK => ?_)
         refine goes_ Try.func19 z0 rfl #[.string ((rd_T38 l0 x7_1).f1)] (by rfl) rfl rfl z7 ?_
         with_reducible refine (spec_GoodExpr.calls k1 ((rd_T38 l0 x7_1).f1) false _ cB.out).mono ?_
         rintro e w61 ⟨rfl, hb⟩
         refine ⟨_, rfl, ?_⟩
         have aA := aM (ae (g := az) (o := .cells #[.string ((rd_T38 l0 x7_1).f0), .string ((rd_T38 l0 x7_1).f1)] 38 (0, 0)) (by (with_reducible repeat (first | refine ah ?_ _ | refine ag ?_ | refine ai ?_ _)); exact ax.out) hb)
         have aC := aM (ak (by repeat (first | (with_reducible first | exact HB.out | apply bA | apply pD | apply bD | refine aj ?_ aW.out) | exact HB.out)) hb)
         clear ax
         clear HB
         have ax := aA
         have HB := aC
         clear aA aC
         (try clear hb)
         (try clear hb2)
         (try clear hk)
         (try clear hi)
         refine hK.out _ _ ⟨(bC ax.out 0).trans rfl, (bC ax.out 1).trans rfl⟩ (fun hHeld => ?_)
         clear hK K
         refine norm_ (a' := ?_) ?_ ?_
         rotate_left
         ·show Act.put _ (some 24) _ = _
          simp only [Act.put, sA, sB, sC, i64_w, i32_w]
          rfl
         refine pA 13 25 ?_
         refine pA 14 26 ?_
         refine pA 15 27 ?_
         refine pB 16 28 ?_
         refine pB 17 29 ?_
         refine pB 18 30 ?_
         refine pB 19 31 ?_
         refine pB 20 32 ?_
         refine pB 21 33 ?_
         refine pB 22 34 ?_
         refine pB 23 35 ?_
         refine pB 24 36 ?_
         refine pB 25 37 ?_
         refine pB 26 38 ?_
         refine pB 27 39 ?_
         refine pB 28 40 ?_
         refine pA 29 41 ?_
         refine done_ (done_of HT_.out z0) ?_
         try go_wp2
         go_ret
         exact ⟨y2, y5⟩
       ·replace cK := Bool.eq_false_iff.mpr cK
        subst cK
        rw [if_neg (show ¬ (false = true) by decide)] at H
        obtain rfl := sI H
        have p128 : 0 ≤ (x7_1 : Int) := oD z1
        have q128 : x7_1 < (l0.length : Int) := oD z1
        obtain ⟨ad128, e128, hx128_0, hx128_1⟩ := at_T38 aX.out x7_1 p128 q128
        cases e128
        replace hx128_0 := (HB.out.cell (World.block_lt_of_cell? w _ hx128_0)).trans hx128_0
        replace hx128_1 := (HB.out.cell (World.block_lt_of_cell? w _ hx128_1)).trans hx128_1
        replace p128 := eq_true p128
        replace q128 := eq_true q128
        try go_wp2_with (first | ((with_reducible refine ar (N := 4) rfl ?_); refine au ?hg (N := 4) ?hd (cs := #[.string (⟨#[]⟩ : ByteArray), .string (⟨#[]⟩ : ByteArray)]) (t := 38) ?hr ?_; (case hd => rfl); (case hg => rfl); (case hr => first | (go_simp; done) | (go_simp; rfl)); intro az hg w62 hbox hb; have aA := aM (ak z6 hb); have aC := aM (hbox); have aE := aM ((by rw [hg]; exact (al z6) : w.heap.size ≤ az)); have aI := aM ((by rw [hg]; exact (al z6) : w.heap.size ≤ az)); clear HB; have HB := aA; have ax := aC; have bo := aE; have aW := aI; clear aA aC aE aI; clear hb hbox hg; have hcz63_0 : w62.cell? ⟨az, 0, none⟩ = some (.string (⟨#[]⟩ : ByteArray)) := (bC ax.out 0).trans rfl; have hcz63_1 : w62.cell? ⟨az, 1, none⟩ = some (.string (⟨#[]⟩ : ByteArray)) := (bC ax.out 1).trans rfl; have hfz63_0 := bF ax.out 0; have hfz63_1 := bF ax.out 1))
        have aA : Aside0 (((w62.setCell ⟨az, 0, none⟩ (.string ((rd_T38 l0 x7_1).f0))).setCell ⟨az, 1, none⟩ (.string ((rd_T38 l0 x7_1).f1))).heap[az]? = some (.cells #[.string ((rd_T38 l0 x7_1).f0), .string ((rd_T38 l0 x7_1).f1)] 38 (0, 0))) := ⟨y16⟩
        have aC : Aside0 (Below w.heap.size w ((w62.setCell ⟨az, 0, none⟩ (.string ((rd_T38 l0 x7_1).f0))).setCell ⟨az, 1, none⟩ (.string ((rd_T38 l0 x7_1).f1)))) := ⟨y5⟩
        (try clear ax)
        (try clear HB)
        generalize ((w62.setCell ⟨az, 0, none⟩ (.string ((rd_T38 l0 x7_1).f0))).setCell ⟨az, 1, none⟩ (.string ((rd_T38 l0 x7_1).f1))) = w64 at aA aC ⊢
        have ax := aA
        have HB := aC
        clear aA aC
        have aA := aM (ag ax.out)
        have aC := aM (bD HB.out)
        clear ax
        clear HB
        have ax := aA
        have HB := aC
        clear aA aC
        refine start_ (n := 30) (S := fun w' => w'.cell? ⟨az, 0, none⟩ = some (.string ((rd_T38 l0 x7_1).f0)) ∧ w'.cell? ⟨az, 1, none⟩ = some (.string ((rd_T38 l0 x7_1).f1))) (ds := []) #[false, false, false, false, false, false, false, false, false, false, false, false, false, false, false, false, false, false, false, false, false, false, false, false, false, false, false, false, false, false] z0 rfl rfl ⟨(bC ax.out 0).trans rfl, (bC ax.out 1).trans rfl⟩ (fun hHeld => ?_); refine with_tabW spec_GoodSchema.tab4 spec_GoodSchema.bits4 (fun HT_ HW_ => ?_)
        generalize w64.drew = w65 at ax HB hHeld ⊢
        refine pA 0 12 ?_
        refine tA 1 13 ?_ (hy := by rintro w' ⟨s0, s1⟩; go_simp; with_reducible rfl)
        refine pA 2 14 ?_
        refine pA 3 15 ?_
        refine pA 4 16 ?_
        refine tA 5 17 ?_ (hy := by rintro w' ⟨s0, s1⟩; go_simp; with_reducible rfl)
        refine one_ (i := 6) (N := some 18) #[true, true, true, true, true, true, true, false, false, false, false, false, false, false, false, false, false, false, false, false, false, false, false, false, false, false, false, false, false, false] rfl rfl (one_of HT_.out z0) (by decide) (fun K hK => ?_)
        refine goes_ Try.func18 z0 rfl #[.string ((rd_T38 l0 x7_1).f0)] (by rfl) rfl rfl z7 ?_
        with_reducible refine (spec_l1Name.calls ((rd_T38 l0 x7_1).f0) false _ cn.out).mono ?_
        rintro e w' ⟨rfl, ⟨nd, rfl⟩⟩
        refine ⟨_, rfl, ?_⟩
        refine hK.out _ _ ⟨(bC ax.out 0).trans rfl, (bC ax.out 1).trans rfl⟩ (fun hHeld => ?_)
        clear hK K
        refine norm_ (a' := ?_) ?_ ?_
        rotate_left
        ·show Act.put _ (some 18) _ = _
         simp only [Act.put, sA, sB, sC, i64_w, i32_w]
         rfl
        refine pA 7 19 ?_
        refine pA 8 20 ?_
        refine pA 9 21 ?_
        refine pB 10 22 ?_
        refine pB 11 23 ?_
        refine pB 12 24 ?_
        refine pB 13 25 ?_
        refine pA 14 26 ?_
        refine pA 15 27 ?_
        refine pB 16 28 ?_
        refine pB 17 29 ?_
        refine pB 18 30 ?_
        refine pB 19 31 ?_
        refine pB 20 32 ?_
        refine pB 21 33 ?_
        refine pB 22 34 ?_
        refine pB 23 35 ?_
        refine pB 24 36 ?_
        refine pB 25 37 ?_
        refine pB 26 38 ?_
        refine pB 27 39 ?_
        refine pB 28 40 ?_
        refine pA 29 41 ?_
        refine done_ (done_of HT_.out z0) ?_
        try go_wp2
        go_ret
        exact ⟨y2, y5⟩
     ·rw [if_neg c4] at H
      exact absurd H (by simp)
    ·rw [if_neg c3] at H
     exact absurd H (by simp)
   ·rw [if_neg c2] at H
    have c2b0 : decide (x7_1 < (l0.length : Int)) = false := dF c2
    clear c2
    obtain rfl := sI H
    go_wp2
    go_ret
    exact ⟨y2, y3⟩

end Go.Proofs.Ytihjaagamihhkaa.AFnExactGoodSchema
