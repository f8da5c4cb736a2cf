-- this session's own text: written by wip/tools/ownprint.py over the kit's print
import Derived.Laws.Cover1
import Derived.Test.YtihjaagamihhkaaAFnExactReadSchemax0
import Derived.Test.YtihjaagamihhkaaAFnExactReadSchemax1
import Derived.Test.YtihjaagamihhkaaAFnExactReadSchemax2
namespace Go.Proofs.Ytihjaagamihhkaa.AFnExactReadSchema
open Go.RowKit Go.Proofs.YtihjaagamihhkaaW.PrintWords Go.Proofs.YtihjaagamihhkaaW.PrintLast Go.Proofs.YtihjaagamihhkaaW.PrintMore
attribute [local go_sem] max2_int min2_int max_two min_two max_three min_three max_four min_four   -- for this text's walks alone
set_option linter.unusedVariables false
set_option linter.unusedSimpArgs false

/-! ### spec_GoodSchema: function 7 -/
def spec_GoodSchema.l0 : Nat → List (S38) → List (S38) → Int → Int → Option (Bool)
 | 0, _, _, _, _ => none
 | k + 1, x0, x5, x6, x7 => if x7 < x6 then (if 0 ≤ x7 then (if x7 < (x5.length : Int) then (if ((rd_T38 x5 x7).f0).toList = ([45] : List UInt8) then ((spec_GoodExpr.f k ((rd_T38 x5 x7).f1)).bind fun cV => (if cV = true then (if x7 > 0 then (if 0 ≤ (wrap64 (x7 - 1)) then (if (wrap64 (x7 - 1)) < (x0.length : Int) then (if ((Op.bytesLess (((rd_T38 x0 (wrap64 (x7 - 1))).f0).toList) (((rd_T38 x5 x7).f0).toList)) = true) then (spec_GoodSchema.l0 k x0 x5 x6 (wrap64 (x7 + 1))) else (some false)) else (none)) else (none)) else (spec_GoodSchema.l0 k x0 x5 x6 (wrap64 (x7 + 1)))) else (some false))) else ((spec_l1Name.f ((rd_T38 x5 x7).f0)).bind fun cU => (if cU = true then ((spec_GoodExpr.f k ((rd_T38 x5 x7).f1)).bind fun cT => (if cT = true then (if x7 > 0 then (if 0 ≤ (wrap64 (x7 - 1)) then (if (wrap64 (x7 - 1)) < (x0.length : Int) then (if ((Op.bytesLess (((rd_T38 x0 (wrap64 (x7 - 1))).f0).toList) (((rd_T38 x5 x7).f0).toList)) = true) then (spec_GoodSchema.l0 k x0 x5 x6 (wrap64 (x7 + 1))) else (some false)) else (none)) else (none)) else (spec_GoodSchema.l0 k x0 x5 x6 (wrap64 (x7 + 1)))) else (some false))) else (some false)))) else (none)) else (none)) else (some (decide ((x0.length : Int) ≤ 7)))
def spec_GoodSchema.f (k : Nat) (l0 : List (S38)) : Option (Bool) := spec_GoodSchema.l0 k l0 l0 (l0.length : Int) 0
theorem spec_GoodSchema.mono_l : ∀ k, (∀ y0 y1 y2 y3, LeO (spec_GoodSchema.l0 k y0 y1 y2 y3) (spec_GoodSchema.l0 (k + 1) y0 y1 y2 y3))
 | 0 => fun _ _ _ _ r h => by simp [spec_GoodSchema.l0] at h
 | k + 1 => by
  have ih0 := spec_GoodSchema.mono_l k
  ·intro y0 y1 y2 y3
   unfold spec_GoodSchema.l0
   repeat' first
   | (with_reducible exact ih0 _ _ _ _)
   | (with_reducible exact spec_GoodExpr.mono _ _)
   | (with_reducible exact LeO.refl _)
   | (with_reducible exact LeO.none _)
   | (with_reducible refine LeO.ite ?_ ?_)
   | (with_reducible refine LeO.bind ?_ (fun _ => ?_))
   | exact ih0 _ _ _ _
   | exact spec_GoodExpr.mono _ _
   | exact LeO.none _
   | refine LeO.ite ?_ ?_
   | refine LeO.bind ?_ (fun _ => ?_)
theorem spec_GoodSchema.mono : ∀ a0 k, LeO (spec_GoodSchema.f k a0) (spec_GoodSchema.f (k + 1) a0) := by
 intro a0 k
 have ih0 := spec_GoodSchema.mono_l k
 unfold spec_GoodSchema.f
 repeat' first
   | (with_reducible exact ih0 _ _ _ _)
   | (with_reducible exact spec_GoodExpr.mono _ _)
   | (with_reducible exact LeO.refl _)
   | (with_reducible exact LeO.none _)
   | (with_reducible refine LeO.ite ?_ ?_)
   | (with_reducible refine LeO.bind ?_ (fun _ => ?_))
   | exact ih0 _ _ _ _
   | exact spec_GoodExpr.mono _ _
   | exact LeO.none _
   | refine LeO.ite ?_ ?_
   | refine LeO.bind ?_ (fun _ => ?_)
def spec_GoodSchema.T4 : Bool × List (List Nat × List Nat) := (true, [([], []), ([0], [0]), ([1], [1]), ([2], [2]), ([3], [3]), ([4, 3], [3, 4]), ([5, 3, 3], [3, 5]), ([6, 3], [3, 6]), ([3, 7], [3, 7]), ([8, 6], [8]), ([9], [9]), ([10, 9], [9, 10]), ([11, 9, 9], [9, 11]), ([12, 9], [9, 12]), ([9, 13], [9, 13]), ([14, 12], [14]), ([15], [15]), ([16, 15], [15, 16]), ([17, 15, 15], [15, 17]), ([18], [18]), ([18], [18]), ([20, 18], [18, 20]), ([19, 21, 18], [18, 19, 21]), ([22, 18], [18, 22]), ([23, 18], [18, 23]), ([18], [18]), ([25, 18], [18, 25]), ([24, 26, 18], [18, 24, 26]), ([18, 27, 15], [15, 18, 27]), ([15, 28], [15, 28])])
def spec_GoodSchema.B4 : List Nat := [0, 1, 3, 7, 15, 31, 63, 127, 255, 511, 1023, 2047, 4095, 8191, 16383, 32767, 65535, 131071, 262143, 524287, 524287, 1572863, 4194303, 8388607, 16777215, 524287, 34078719, 134217727, 268435455, 536870911]
theorem spec_GoodSchema.tab4 : rtab .any (opsOf Try.f7 4) = spec_GoodSchema.T4 := by kernel_rfl
theorem spec_GoodSchema.bits4 : waitsOk spec_GoodSchema.T4.2 spec_GoodSchema.B4 = true := by kernel_rfl
set_option maxHeartbeats 8000000 in
set_option maxRecDepth 100000 in
theorem spec_GoodSchema.calls (k : Nat) (A0 : Option Addr) (c0 : Nat) (l0 : List (S38)) (r : Bool) (w : World) (hr0 : Kd.C k38 w A0 l0.length l0) (hc0 : l0.length ≤ c0) (h : spec_GoodSchema.f k l0 = some r) :
  Calls Try.prog 7 #[.slice A0 l0.length c0] w fun e w' => e = .returned (.bool r) ∧ Below w.heap.size w w' := by
 have hu38 := Try.underlying38
 have bh := aM hr0
 have dR := aM hc0
 clear hr0 hc0
 have HB := aM (Below.refl w.heap.size w)
 have H : (spec_GoodSchema.l0 k l0 l0 (l0.length : Int) 0) = some r := h
 clear h
 have H' := aM H
 clear H
 go_enter Try.func7, Try.ntmps7
 go_wp2
 go_loopg [7] k (fun kq v7 w' => ∃ (x7_1 : Int), v7 = .int .i64 x7_1 ∧ Aside0 (spec_GoodSchema.l0 kq l0 l0 (l0.length : Int) x7_1 = some r) ∧ Aside0 (kq ≤ k) ∧ Aside0 (Below w.heap.size w w'))
 case atStart => exact ⟨(0), z1, H', ⟨Nat.le_refl _⟩, ⟨y3⟩⟩
 case round =>
  clear H'
  obtain ⟨x7_1, rfl, HA, HK1, HB⟩ := hrel
  cases gk with
  | zero => exact absurd HA.out (by simp [spec_GoodSchema.l0])
  | succ k1 =>
   have H := HA.out
   clear HA
   simp only [spec_GoodSchema.l0] at H
   by_cases c2 : x7_1 < (l0.length : Int)
   ·rw [if_pos c2] at H
    have c2b0 : decide (x7_1 < (l0.length : Int)) = true := dT c2
    clear c2
    by_cases c3 : 0 ≤ x7_1
    ·rw [if_pos c3] at H
     have c3b0 : decide (0 ≤ x7_1) = true := dT c3
     clear c3
     by_cases c4 : x7_1 < (l0.length : Int)
     ·rw [if_pos c4] at H
      have c4b0 : decide (x7_1 < (l0.length : Int)) = true := dT c4
      clear c4
      by_cases c5 : ((rd_T38 l0 x7_1).f0).toList = ([45] : List UInt8)
      ·rw [if_pos c5] at H
       have c5b0 : (((rd_T38 l0 x7_1).f0).toList == ([45] : List UInt8)) = true := qT c5
       have c5b1 : (((rd_T38 l0 x7_1).f0).toList != ([45] : List UInt8)) = false := nF c5
       clear c5
       replace H := oB H
       obtain ⟨cV, d3, H⟩ := H
       try dsimp only at H
       have A6 := aM d3
       clear d3
       by_cases c7 : cV = true
       ·subst c7
        rw [if_pos rfl] at H
        by_cases c8 : x7_1 > 0
        ·rw [if_pos c8] at H
         have c8b0 : decide (0 < x7_1) = true := dT c8
         clear c8
         obtain ⟨bp, b5⟩ : ∃ j_ : Int, (wrap64 (x7_1 - 1)) = j_ := ⟨_, rfl⟩
         replace H : (if 0 ≤ (bp) then (if (bp) < (l0.length : Int) then (if ((Op.bytesLess (((rd_T38 l0 (bp)).f0).toList) (((rd_T38 l0 x7_1).f0).toList)) = true) then (spec_GoodSchema.l0 k1 l0 l0 (l0.length : Int) (wrap64 (x7_1 + 1))) else (some false)) else (none)) else (none)) = some r := by first | (rw [b5] at H; exact H) | (simp only [b5] at H ⊢; exact H)
         (try rw [b5] at A6)
         have hji9w : (IntKind.i64.wrap (x7_1 - 1)) = bp := (i64_w _).trans b5
         by_cases bK : 0 ≤ (bp)
         ·rw [if_pos bK] at H
          have c10b0 : decide (0 ≤ (bp)) = true := dT bK
          clear bK
          by_cases bj : (bp) < (l0.length : Int)
          ·rw [if_pos bj] at H
           have c11b0 : decide ((bp) < (l0.length : Int)) = true := dT bj
           clear bj
           by_cases bq : ((Op.bytesLess (((rd_T38 l0 (bp)).f0).toList) (((rd_T38 l0 x7_1).f0).toList)) = true)
           ·rw [if_pos bq] at H
            have c12b0 : (Op.bytesLess (((rd_T38 l0 (bp)).f0).toList) (((rd_T38 l0 x7_1).f0).toList)) = true := bq
            clear bq
            have H' := aM H
            clear H
            have p130 : 0 ≤ (x7_1 : Int) := oD z2
            have q130 : x7_1 < (l0.length : Int) := oD z2
            obtain ⟨ad130, e130, hx130_0, hx130_1⟩ := at_T38 bh.out x7_1 p130 q130
            cases e130
            replace hx130_0 := (HB.out.cell (World.block_lt_of_cell? w _ hx130_0)).trans hx130_0
            replace hx130_1 := (HB.out.cell (World.block_lt_of_cell? w _ hx130_1)).trans hx130_1
            replace p130 := eq_true p130
            replace q130 := eq_true q130
            try go_wp2_with (first | ((with_reducible refine ar (N := 4) rfl ?_); refine au ?hg (N := 4) ?hd (cs := #[.string (⟨#[]⟩ : ByteArray), .string (⟨#[]⟩ : ByteArray)]) (t := 38) ?hr ?_; (case hd => rfl); (case hg => rfl); (case hr => first | (go_simp; done) | (go_simp; rfl)); intro az hg w13 hbox hb; have aA := aM (al z6 hb); have aC := aM (hbox); have aG := aM ((by rw [hg]; exact (am z6) : w.heap.size ≤ az)); have aN := aM ((by rw [hg]; exact (am z6) : w.heap.size ≤ az)); clear HB; have HB := aA; have ax := aC; have bx := aG; have a4 := aN; clear aA aC aG aN; clear hb hbox hg; have hcz14_0 : w13.cell? ⟨az, 0, none⟩ = some (.string (⟨#[]⟩ : ByteArray)) := (bC ax.out 0).trans rfl; have hcz14_1 : w13.cell? ⟨az, 1, none⟩ = some (.string (⟨#[]⟩ : ByteArray)) := (bC ax.out 1).trans rfl; have hfz14_0 := bF ax.out 0; have hfz14_1 := bF ax.out 1))
            have aA : Aside0 (((w13.setCell ⟨az, 0, none⟩ (.string ((rd_T38 l0 x7_1).f0))).setCell ⟨az, 1, none⟩ (.string ((rd_T38 l0 x7_1).f1))).heap[az]? = some (.cells #[.string ((rd_T38 l0 x7_1).f0), .string ((rd_T38 l0 x7_1).f1)] 38 (0, 0))) := ⟨y18⟩
            have aC : Aside0 (Below w.heap.size w ((w13.setCell ⟨az, 0, none⟩ (.string ((rd_T38 l0 x7_1).f0))).setCell ⟨az, 1, none⟩ (.string ((rd_T38 l0 x7_1).f1)))) := ⟨y6⟩
            (try clear ax)
            (try clear HB)
            generalize ((w13.setCell ⟨az, 0, none⟩ (.string ((rd_T38 l0 x7_1).f0))).setCell ⟨az, 1, none⟩ (.string ((rd_T38 l0 x7_1).f1))) = w15 at aA aC ⊢
            have ax := aA
            have HB := aC
            clear aA aC
            have aA := aM (ah ax.out)
            have aC := aM (bD HB.out)
            clear ax
            clear HB
            have ax := aA
            have HB := aC
            clear aA aC
            have p133 : 0 ≤ ((bp) : Int) := oD z2
            have q133 : (bp) < (l0.length : Int) := oD z2
            obtain ⟨ad133, e133, hx133_0, hx133_1⟩ := at_T38 bh.out (bp) p133 q133
            have hw133_1 := hx133_1
            have hw133_0 := hx133_0
            obtain rfl : ad130 = ad133 := (by injection e133)
            replace hx133_0 := (HB.out.cell (World.block_lt_of_cell? w _ hx133_0)).trans hx133_0
            replace hx133_1 := (HB.out.cell (World.block_lt_of_cell? w _ hx133_1)).trans hx133_1
            replace p133 := eq_true p133
            replace q133 := eq_true q133
            refine start_ (n := 30) (S := fun w' => w'.cell? ⟨az, 0, none⟩ = some (.string ((rd_T38 l0 x7_1).f0)) ∧ w'.cell? ⟨az, 1, none⟩ = some (.string ((rd_T38 l0 x7_1).f1)) ∧ w'.cell? (ad130.add (((bp)).toNat * 2)) = some (.string ((rd_T38 l0 (bp)).f0)) ∧ w'.cell? ⟨(ad130.add (((bp)).toNat * 2)).block, (ad130.add (((bp)).toNat * 2)).off + 1, none⟩ = some (.string ((rd_T38 l0 (bp)).f1))) (ds := []) #[false, false, false, false, false, false, false, false, false, false, false, false, false, false, false, false, false, false, false, false, false, false, false, false, false, false, false, false, false, false] z0 rfl rfl ⟨(bC ax.out 0).trans rfl, (bC ax.out 1).trans rfl, ((HB.out.cell (World.block_lt_of_cell? w _ hw133_0)).trans hw133_0), ((HB.out.cell (World.block_lt_of_cell? w _ hw133_1)).trans hw133_1)⟩ (fun hHeld => ?_); refine with_tabW spec_GoodSchema.tab4 spec_GoodSchema.bits4 (fun HT_ HW_ => ?_)
            generalize w15.drew = w16 at ax HB hx133_0 hx133_1 hHeld ⊢
            refine pA 0 12 ?_
            refine tA 1 13 ?_ (hy := by rintro w' ⟨s0, s1, s2, s3⟩; go_simp; with_reducible rfl)
            refine pA 2 14 ?_
            refine pA 3 15 ?_
            refine pB 4 16 ?_
            refine pB 5 17 ?_
            refine pB 6 18 ?_
            refine pB 7 19 ?_
            refine pA 8 20 ?_
            refine pA 9 21 ?_
            refine pA 10 22 ?_
            refine tA 11 23 ?_ (hy := by rintro w' ⟨s0, s1, s2, s3⟩; go_simp; with_reducible rfl)
            refine one_ (i := 12) (N := some 24) #[true, true, true, true, true, true, true, true, true, true, true, true, true, false, false, false, false, false, false, false, false, false, false, false, false, false, false, false, false, false] rfl rfl (one_of HT_.out z0) (by decide) (fun K hK => ?_)
            refine goes_ Try.func19 z0 rfl #[.string ((rd_T38 l0 x7_1).f1)] (by rfl) rfl rfl z7 ?_
            with_reducible refine (spec_GoodExpr.calls k1 ((rd_T38 l0 x7_1).f1) true _ A6.out).mono ?_
            rintro e w17 ⟨rfl, hb⟩
            refine ⟨_, rfl, ?_⟩
            have aA := aM (ae (g := az) (o := .cells #[.string ((rd_T38 l0 x7_1).f0), .string ((rd_T38 l0 x7_1).f1)] 38 (0, 0)) (by (with_reducible repeat (first | refine ai ?_ _ | refine ah ?_ | refine aj ?_ _)); exact ax.out) hb)
            have aC := aM (al (by repeat (first | (with_reducible first | exact HB.out | apply bA | apply pD | apply bD | refine ak ?_ a4.out) | exact HB.out)) hb)
            clear ax
            clear HB
            have ax := aA
            have HB := aC
            clear aA aC
            (try clear hb)
            (try clear hb2)
            (try clear hk)
            (try clear hi)
            refine hK.out _ _ ⟨(bC ax.out 0).trans rfl, (bC ax.out 1).trans rfl, ((HB.out.cell (World.block_lt_of_cell? w _ hw133_0)).trans hw133_0), ((HB.out.cell (World.block_lt_of_cell? w _ hw133_1)).trans hw133_1)⟩ (fun hHeld => ?_)
            clear hK K
            refine norm_ (a' := ?_) ?_ ?_
            rotate_left
            ·show Act.put _ (some 24) _ = _
             simp only [Act.put, sA, sB, sC, i64_w, i32_w]
             rfl
            refine pA 13 25 ?_
            refine pA 14 26 ?_
            refine pA 15 27 ?_
            refine pA 16 28 ?_
            refine pA 17 29 ?_
            refine pA 18 30 ?_
            refine pA 19 31 ?_
            refine pA 20 32 ?_
            refine pA 21 33 ?_
            refine pA 22 34 ?_
            refine pA 23 35 ?_
            refine pA 25 37 ?_
            refine tA 24 36 ?_ (hy := by rintro w' ⟨s0, s1, s2, s3⟩; go_simp; with_reducible rfl)
            refine tA 26 38 ?_ (hy := by rintro w' ⟨s0, s1, s2, s3⟩; go_simp; with_reducible rfl)
            refine pA 27 39 ?_
            refine pA 28 40 ?_
            refine pA 29 41 ?_
            refine done_ (done_of HT_.out z0) ?_
            try go_wp2
            go_roundg k1
            case measure => have := HK1.out; omega
            case rel => exact ⟨(wrap64 (x7_1 + 1)), z1, (by first | exact H' | (simp only [b5]; exact H') | (simp only [← b5]; exact H')), ⟨by have := HK1.out; omega⟩, ⟨y6⟩⟩
           ·rw [if_neg bq] at H
            have c12b0 : (Op.bytesLess (((rd_T38 l0 (bp)).f0).toList) (((rd_T38 l0 x7_1).f0).toList)) = false := by simpa using bq
            clear bq
            obtain rfl := sI H
            have p130 : 0 ≤ (x7_1 : Int) := oD z2
            have q130 : x7_1 < (l0.length : Int) := oD z2
            obtain ⟨ad130, e130, hx130_0, hx130_1⟩ := at_T38 bh.out x7_1 p130 q130
            cases e130
            replace hx130_0 := (HB.out.cell (World.block_lt_of_cell? w _ hx130_0)).trans hx130_0
            replace hx130_1 := (HB.out.cell (World.block_lt_of_cell? w _ hx130_1)).trans hx130_1
            replace p130 := eq_true p130
            replace q130 := eq_true q130
            try go_wp2_with (first | ((with_reducible refine ar (N := 4) rfl ?_); refine au ?hg (N := 4) ?hd (cs := #[.string (⟨#[]⟩ : ByteArray), .string (⟨#[]⟩ : ByteArray)]) (t := 38) ?hr ?_; (case hd => rfl); (case hg => rfl); (case hr => first | (go_simp; done) | (go_simp; rfl)); intro az hg w18 hbox hb; have aA := aM (al z6 hb); have aC := aM (hbox); have aG := aM ((by rw [hg]; exact (am z6) : w.heap.size ≤ az)); have aN := aM ((by rw [hg]; exact (am z6) : w.heap.size ≤ az)); clear HB; have HB := aA; have ax := aC; have bx := aG; have a4 := aN; clear aA aC aG aN; clear hb hbox hg; have hcz19_0 : w18.cell? ⟨az, 0, none⟩ = some (.string (⟨#[]⟩ : ByteArray)) := (bC ax.out 0).trans rfl; have hcz19_1 : w18.cell? ⟨az, 1, none⟩ = some (.string (⟨#[]⟩ : ByteArray)) := (bC ax.out 1).trans rfl; have hfz19_0 := bF ax.out 0; have hfz19_1 := bF ax.out 1))
            have aA : Aside0 (((w18.setCell ⟨az, 0, none⟩ (.string ((rd_T38 l0 x7_1).f0))).setCell ⟨az, 1, none⟩ (.string ((rd_T38 l0 x7_1).f1))).heap[az]? = some (.cells #[.string ((rd_T38 l0 x7_1).f0), .string ((rd_T38 l0 x7_1).f1)] 38 (0, 0))) := ⟨y18⟩
            have aC : Aside0 (Below w.heap.size w ((w18.setCell ⟨az, 0, none⟩ (.string ((rd_T38 l0 x7_1).f0))).setCell ⟨az, 1, none⟩ (.string ((rd_T38 l0 x7_1).f1)))) := ⟨y6⟩
            (try clear ax)
            (try clear HB)
            generalize ((w18.setCell ⟨az, 0, none⟩ (.string ((rd_T38 l0 x7_1).f0))).setCell ⟨az, 1, none⟩ (.string ((rd_T38 l0 x7_1).f1))) = w20 at aA aC ⊢
            have ax := aA
            have HB := aC
            clear aA aC
            have aA := aM (ah ax.out)
            have aC := aM (bD HB.out)
            clear ax
            clear HB
            have ax := aA
            have HB := aC
            clear aA aC
            have p133 : 0 ≤ ((bp) : Int) := oD z2
            have q133 : (bp) < (l0.length : Int) := oD z2
            obtain ⟨ad133, e133, hx133_0, hx133_1⟩ := at_T38 bh.out (bp) p133 q133
            have hw133_1 := hx133_1
            have hw133_0 := hx133_0
            obtain rfl : ad130 = ad133 := (by injection e133)
            replace hx133_0 := (HB.out.cell (World.block_lt_of_cell? w _ hx133_0)).trans hx133_0
            replace hx133_1 := (HB.out.cell (World.block_lt_of_cell? w _ hx133_1)).trans hx133_1
            replace p133 := eq_true p133
            replace q133 := eq_true q133
            refine start_ (n := 30) (S := fun w' => w'.cell? ⟨az, 0, none⟩ = some (.string ((rd_T38 l0 x7_1).f0)) ∧ w'.cell? ⟨az, 1, none⟩ = some (.string ((rd_T38 l0 x7_1).f1)) ∧ w'.cell? (ad130.add (((bp)).toNat * 2)) = some (.string ((rd_T38 l0 (bp)).f0)) ∧ w'.cell? ⟨(ad130.add (((bp)).toNat * 2)).block, (ad130.add (((bp)).toNat * 2)).off + 1, none⟩ = some (.string ((rd_T38 l0 (bp)).f1))) (ds := []) #[false, false, false, false, false, false, false, false, false, false, false, false, false, false, false, false, false, false, false, false, false, false, false, false, false, false, false, false, false, false] z0 rfl rfl ⟨(bC ax.out 0).trans rfl, (bC ax.out 1).trans rfl, ((HB.out.cell (World.block_lt_of_cell? w _ hw133_0)).trans hw133_0), ((HB.out.cell (World.block_lt_of_cell? w _ hw133_1)).trans hw133_1)⟩ (fun hHeld => ?_); refine with_tabW spec_GoodSchema.tab4 spec_GoodSchema.bits4 (fun HT_ HW_ => ?_)
            generalize w20.drew = w21 at ax HB hx133_0 hx133_1 hHeld ⊢
            refine pA 0 12 ?_
            refine tA 1 13 ?_ (hy := by rintro w' ⟨s0, s1, s2, s3⟩; go_simp; with_reducible rfl)
            refine pA 2 14 ?_
            refine pA 3 15 ?_
            refine pB 4 16 ?_
            refine pB 5 17 ?_
            refine pB 6 18 ?_
            refine pB 7 19 ?_
            refine pA 8 20 ?_
            refine pA 9 21 ?_
            refine pA 10 22 ?_
            refine tA 11 23 ?_ (hy := by rintro w' ⟨s0, s1, s2, s3⟩; go_simp; with_reducible rfl)
            refine one_ (i := 12) (N := some 24) #[true, true, true, true, true, true, true, true, true, true, true, true, true, false, false, false, false, false, false, false, false, false, false, false, false, false, false, false, false, false] rfl rfl (one_of HT_.out z0) (by decide) (fun K hK => ?_)
            refine goes_ Try.func19 z0 rfl #[.string ((rd_T38 l0 x7_1).f1)] (by rfl) rfl rfl z7 ?_
            with_reducible refine (spec_GoodExpr.calls k1 ((rd_T38 l0 x7_1).f1) true _ A6.out).mono ?_
            rintro e w22 ⟨rfl, hb⟩
            refine ⟨_, rfl, ?_⟩
            have aA := aM (ae (g := az) (o := .cells #[.string ((rd_T38 l0 x7_1).f0), .string ((rd_T38 l0 x7_1).f1)] 38 (0, 0)) (by (with_reducible repeat (first | refine ai ?_ _ | refine ah ?_ | refine aj ?_ _)); exact ax.out) hb)
            have aC := aM (al (by repeat (first | (with_reducible first | exact HB.out | apply bA | apply pD | apply bD | refine ak ?_ a4.out) | exact HB.out)) hb)
            clear ax
            clear HB
            have ax := aA
            have HB := aC
            clear aA aC
            (try clear hb)
            (try clear hb2)
            (try clear hk)
            (try clear hi)
            refine hK.out _ _ ⟨(bC ax.out 0).trans rfl, (bC ax.out 1).trans rfl, ((HB.out.cell (World.block_lt_of_cell? w _ hw133_0)).trans hw133_0), ((HB.out.cell (World.block_lt_of_cell? w _ hw133_1)).trans hw133_1)⟩ (fun hHeld => ?_)
            clear hK K
            refine norm_ (a' := ?_) ?_ ?_
            rotate_left
            ·show Act.put _ (some 24) _ = _
             simp only [Act.put, sA, sB, sC, i64_w, i32_w]
             rfl
            refine pA 13 25 ?_
            refine pA 14 26 ?_
            refine pA 15 27 ?_
            refine pA 16 28 ?_
            refine pA 17 29 ?_
            refine pA 18 30 ?_
            refine pA 19 31 ?_
            refine pA 20 32 ?_
            refine pA 21 33 ?_
            refine pA 22 34 ?_
            refine pA 23 35 ?_
            refine pA 25 37 ?_
            refine tA 24 36 ?_ (hy := by rintro w' ⟨s0, s1, s2, s3⟩; go_simp; with_reducible rfl)
            refine tA 26 38 ?_ (hy := by rintro w' ⟨s0, s1, s2, s3⟩; go_simp; with_reducible rfl)
            refine pA 27 39 ?_
            refine pA 28 40 ?_
            refine pA 29 41 ?_
            refine done_ (done_of HT_.out z0) ?_
            try go_wp2
            go_ret
            exact ⟨by first | rfl | (simp [errW_none, errW_some] <;> rfl) | (simp only [← b5]; first | rfl | (simp [errW_none, errW_some] <;> rfl)) | (simp [*, errW_none, errW_some] <;> rfl), y6⟩
          ·rw [if_neg bj] at H
           exact absurd H (by simp)
         ·rw [if_neg bK] at H
          exact absurd H (by simp)
        ·rw [if_neg c8] at H
         have c8b0 : decide (0 < x7_1) = false := dF c8
         clear c8
         have H' := aM H
         clear H
         have p130 : 0 ≤ (x7_1 : Int) := oD z2
         have q130 : x7_1 < (l0.length : Int) := oD z2
         obtain ⟨ad130, e130, hx130_0, hx130_1⟩ := at_T38 bh.out x7_1 p130 q130
         cases e130
         replace hx130_0 := (HB.out.cell (World.block_lt_of_cell? w _ hx130_0)).trans hx130_0
         replace hx130_1 := (HB.out.cell (World.block_lt_of_cell? w _ hx130_1)).trans hx130_1
         replace p130 := eq_true p130
         replace q130 := eq_true q130
         try go_wp2_with (first | ((with_reducible refine ar (N := 4) rfl ?_); refine au ?hg (N := 4) ?hd (cs := #[.string (⟨#[]⟩ : ByteArray), .string (⟨#[]⟩ : ByteArray)]) (t := 38) ?hr ?_; (case hd => rfl); (case hg => rfl); (case hr => first | (go_simp; done) | (go_simp; rfl)); intro az hg w23 hbox hb; have aA := aM (al z6 hb); have aC := aM (hbox); have aG := aM ((by rw [hg]; exact (am z6) : w.heap.size ≤ az)); have aN := aM ((by rw [hg]; exact (am z6) : w.heap.size ≤ az)); clear HB; have HB := aA; have ax := aC; have bx := aG; have a4 := aN; clear aA aC aG aN; clear hb hbox hg; have hcz24_0 : w23.cell? ⟨az, 0, none⟩ = some (.string (⟨#[]⟩ : ByteArray)) := (bC ax.out 0).trans rfl; have hcz24_1 : w23.cell? ⟨az, 1, none⟩ = some (.string (⟨#[]⟩ : ByteArray)) := (bC ax.out 1).trans rfl; have hfz24_0 := bF ax.out 0; have hfz24_1 := bF ax.out 1))
         have aA : Aside0 (((w23.setCell ⟨az, 0, none⟩ (.string ((rd_T38 l0 x7_1).f0))).setCell ⟨az, 1, none⟩ (.string ((rd_T38 l0 x7_1).f1))).heap[az]? = some (.cells #[.string ((rd_T38 l0 x7_1).f0), .string ((rd_T38 l0 x7_1).f1)] 38 (0, 0))) := ⟨y18⟩
         have aC : Aside0 (Below w.heap.size w ((w23.setCell ⟨az, 0, none⟩ (.string ((rd_T38 l0 x7_1).f0))).setCell ⟨az, 1, none⟩ (.string ((rd_T38 l0 x7_1).f1)))) := ⟨y6⟩
         (try clear ax)
         (try clear HB)
         generalize ((w23.setCell ⟨az, 0, none⟩ (.string ((rd_T38 l0 x7_1).f0))).setCell ⟨az, 1, none⟩ (.string ((rd_T38 l0 x7_1).f1))) = w25 at aA aC ⊢
         have ax := aA
         have HB := aC
         clear aA aC
         have aA := aM (ah ax.out)
         have aC := aM (bD HB.out)
         clear ax
         clear HB
         have ax := aA
         have HB := aC
         clear aA aC
         refine start_ (n := 30) (S := fun w' => w'.cell? ⟨az, 0, none⟩ = some (.string ((rd_T38 l0 x7_1).f0)) ∧ w'.cell? ⟨az, 1, none⟩ = some (.string ((rd_T38 l0 x7_1).f1))) (ds := []) #[false, false, false, false, false, false, false, false, false, false, false, false, false, false, false, false, false, false, false, false, false, false, false, false, false, false, false, false, false, false] z0 rfl rfl ⟨(bC ax.out 0).trans rfl, (bC ax.out 1).trans rfl⟩ (fun hHeld => ?_); refine with_tabW spec_GoodSchema.tab4 spec_GoodSchema.bits4 (fun HT_ HW_ => ?_)
         generalize w25.drew = w26 at ax HB hHeld ⊢
         refine pA 0 12 ?_
         refine tA 1 13 ?_ (hy := by rintro w' ⟨s0, s1⟩; go_simp; with_reducible rfl)
         refine pA 2 14 ?_
         refine pA 3 15 ?_
         refine pB 4 16 ?_
         refine pB 5 17 ?_
         refine pB 6 18 ?_
         refine pB 7 19 ?_
         refine pA 8 20 ?_
         refine pA 9 21 ?_
         refine pA 10 22 ?_
         refine tA 11 23 ?_ (hy := by rintro w' ⟨s0, s1⟩; go_simp; with_reducible rfl)
         refine one_ (i := 12) (N := some 24) #[true, true, true, true, true, true, true, true, true, true, true, true, true, false, false, false, false, false, false, false, false, false, false, false, false, false, false, false, false, false] rfl rfl (one_of HT_.out z0) (by decide) (fun K hK => ?_)
         refine goes_ Try.func19 z0 rfl #[.string ((rd_T38 l0 x7_1).f1)] (by rfl) rfl rfl z7 ?_
         with_reducible refine (spec_GoodExpr.calls k1 ((rd_T38 l0 x7_1).f1) true _ A6.out).mono ?_
         rintro e w27 ⟨rfl, hb⟩
         refine ⟨_, rfl, ?_⟩
         have aA := aM (ae (g := az) (o := .cells #[.string ((rd_T38 l0 x7_1).f0), .string ((rd_T38 l0 x7_1).f1)] 38 (0, 0)) (by (with_reducible repeat (first | refine ai ?_ _ | refine ah ?_ | refine aj ?_ _)); exact ax.out) hb)
         have aC := aM (al (by repeat (first | (with_reducible first | exact HB.out | apply bA | apply pD | apply bD | refine ak ?_ a4.out) | exact HB.out)) hb)
         clear ax
         clear HB
         have ax := aA
         have HB := aC
         clear aA aC
         (try clear hb)
         (try clear hb2)
         (try clear hk)
         (try clear hi)
         refine hK.out _ _ ⟨(bC ax.out 0).trans rfl, (bC ax.out 1).trans rfl⟩ (fun hHeld => ?_)
         clear hK K
         refine norm_ (a' := ?_) ?_ ?_
         rotate_left
         ·show Act.put _ (some 24) _ = _
          simp only [Act.put, sA, sB, sC, i64_w, i32_w]
          rfl
         refine pA 13 25 ?_
         refine pA 14 26 ?_
         refine pA 15 27 ?_
         refine pA 16 28 ?_
         refine pA 17 29 ?_
         refine pA 18 30 ?_
         refine pB 19 31 ?_
         refine pB 20 32 ?_
         refine pB 21 33 ?_
         refine pB 22 34 ?_
         refine pB 23 35 ?_
         refine pB 24 36 ?_
         refine pB 25 37 ?_
         refine pB 26 38 ?_
         refine pB 27 39 ?_
         refine pA 28 40 ?_
         refine pA 29 41 ?_
         refine done_ (done_of HT_.out z0) ?_
         try go_wp2
         go_roundg k1
         case measure => have := HK1.out; omega
         case rel => exact ⟨(wrap64 (x7_1 + 1)), z1, H', ⟨by have := HK1.out; omega⟩, ⟨y6⟩⟩
       ·replace c7 := Bool.eq_false_iff.mpr c7
        subst c7
        rw [if_neg (show ¬ (false = true) by decide)] at H
        obtain rfl := sI H
        have p130 : 0 ≤ (x7_1 : Int) := oD z2
        have q130 : x7_1 < (l0.length : Int) := oD z2
        obtain ⟨ad130, e130, hx130_0, hx130_1⟩ := at_T38 bh.out x7_1 p130 q130
        cases e130
        replace hx130_0 := (HB.out.cell (World.block_lt_of_cell? w _ hx130_0)).trans hx130_0
        replace hx130_1 := (HB.out.cell (World.block_lt_of_cell? w _ hx130_1)).trans hx130_1
        replace p130 := eq_true p130
        replace q130 := eq_true q130
        try go_wp2_with (first | ((with_reducible refine ar (N := 4) rfl ?_); refine au ?hg (N := 4) ?hd (cs := #[.string (⟨#[]⟩ : ByteArray), .string (⟨#[]⟩ : ByteArray)]) (t := 38) ?hr ?_; (case hd => rfl); (case hg => rfl); (case hr => first | (go_simp; done) | (go_simp; rfl)); intro az hg w28 hbox hb; have aA := aM (al z6 hb); have aC := aM (hbox); have aG := aM ((by rw [hg]; exact (am z6) : w.heap.size ≤ az)); have aN := aM ((by rw [hg]; exact (am z6) : w.heap.size ≤ az)); clear HB; have HB := aA; have ax := aC; have bx := aG; have a4 := aN; clear aA aC aG aN; clear hb hbox hg; have hcz29_0 : w28.cell? ⟨az, 0, none⟩ = some (.string (⟨#[]⟩ : ByteArray)) := (bC ax.out 0).trans rfl; have hcz29_1 : w28.cell? ⟨az, 1, none⟩ = some (.string (⟨#[]⟩ : ByteArray)) := (bC ax.out 1).trans rfl; have hfz29_0 := bF ax.out 0; have hfz29_1 := bF ax.out 1))
        have aA : Aside0 (((w28.setCell ⟨az, 0, none⟩ (.string ((rd_T38 l0 x7_1).f0))).setCell ⟨az, 1, none⟩ (.string ((rd_T38 l0 x7_1).f1))).heap[az]? = some (.cells #[.string ((rd_T38 l0 x7_1).f0), .string ((rd_T38 l0 x7_1).f1)] 38 (0, 0))) := ⟨y18⟩
        have aC : Aside0 (Below w.heap.size w ((w28.setCell ⟨az, 0, none⟩ (.string ((rd_T38 l0 x7_1).f0))).setCell ⟨az, 1, none⟩ (.string ((rd_T38 l0 x7_1).f1)))) := ⟨y6⟩
        (try clear ax)
        (try clear HB)
        generalize ((w28.setCell ⟨az, 0, none⟩ (.string ((rd_T38 l0 x7_1).f0))).setCell ⟨az, 1, none⟩ (.string ((rd_T38 l0 x7_1).f1))) = w30 at aA aC ⊢
        have ax := aA
        have HB := aC
        clear aA aC
        have aA := aM (ah ax.out)
        have aC := aM (bD HB.out)
        clear ax
        clear HB
        have ax := aA
        have HB := aC
        clear aA aC
        refine start_ (n := 30) (S := fun w' => w'.cell? ⟨az, 0, none⟩ = some (.string ((rd_T38 l0 x7_1).f0)) ∧ w'.cell? ⟨az, 1, none⟩ = some (.string ((rd_T38 l0 x7_1).f1))) (ds := []) #[false, false, false, false, false, false, false, false, false, false, false, false, false, false, false, false, false, false, false, false, false, false, false, false, false, false, false, false, false, false] z0 rfl rfl ⟨(bC ax.out 0).trans rfl, (bC ax.out 1).trans rfl⟩ (fun hHeld => ?_); refine with_tabW spec_GoodSchema.tab4 spec_GoodSchema.bits4 (fun HT_ HW_ => ?_)
        generalize w30.drew = w31 at ax HB hHeld ⊢
        refine pA 0 12 ?_
        refine tA 1 13 ?_ (hy := by rintro w' ⟨s0, s1⟩; go_simp; with_reducible rfl)
        refine pA 2 14 ?_
        refine pA 3 15 ?_
        refine pB 4 16 ?_
        refine pB 5 17 ?_
        refine pB 6 18 ?_
        refine pB 7 19 ?_
        refine pA 8 20 ?_
        refine pA 9 21 ?_
        refine pA 10 22 ?_
        refine tA 11 23 ?_ (hy := by rintro w' ⟨s0, s1⟩; go_simp; with_reducible rfl)
        refine one_ (i := 12) (N := some 24) #[true, true, true, true, true, true, true, true, true, true, true, true, true, false, false, false, false, false, false, false, false, false, false, false, false, false, false, false, false, false] rfl rfl (one_of HT_.out z0) (by decide) (fun K hK => ?_)
        refine goes_ Try.func19 z0 rfl #[.string ((rd_T38 l0 x7_1).f1)] (by rfl) rfl rfl z7 ?_
        with_reducible refine (spec_GoodExpr.calls k1 ((rd_T38 l0 x7_1).f1) false _ A6.out).mono ?_
        rintro e w32 ⟨rfl, hb⟩
        refine ⟨_, rfl, ?_⟩
        have aA := aM (ae (g := az) (o := .cells #[.string ((rd_T38 l0 x7_1).f0), .string ((rd_T38 l0 x7_1).f1)] 38 (0, 0)) (by (with_reducible repeat (first | refine ai ?_ _ | refine ah ?_ | refine aj ?_ _)); exact ax.out) hb)
        have aC := aM (al (by repeat (first | (with_reducible first | exact HB.out | apply bA | apply pD | apply bD | refine ak ?_ a4.out) | exact HB.out)) hb)
        clear ax
        clear HB
        have ax := aA
        have HB := aC
        clear aA aC
        (try clear hb)
        (try clear hb2)
        (try clear hk)
        (try clear hi)
        refine hK.out _ _ ⟨(bC ax.out 0).trans rfl, (bC ax.out 1).trans rfl⟩ (fun hHeld => ?_)
        clear hK K
        refine norm_ (a' := ?_) ?_ ?_
        rotate_left
        ·show Act.put _ (some 24) _ = _
         simp only [Act.put, sA, sB, sC, i64_w, i32_w]
         rfl
        refine pA 13 25 ?_
        refine pA 14 26 ?_
        refine pA 15 27 ?_
        refine pB 16 28 ?_
        refine pB 17 29 ?_
        refine pB 18 30 ?_
        refine pB 19 31 ?_
        refine pB 20 32 ?_
        refine pB 21 33 ?_
        refine pB 22 34 ?_
        refine pB 23 35 ?_
        refine pB 24 36 ?_
        refine pB 25 37 ?_
        refine pB 26 38 ?_
        refine pB 27 39 ?_
        refine pB 28 40 ?_
        refine pA 29 41 ?_
        refine done_ (done_of HT_.out z0) ?_
        try go_wp2
        go_ret
        exact ⟨y2, y6⟩
      ·rw [if_neg c5] at H
       have c5b0 : (((rd_T38 l0 x7_1).f0).toList == ([45] : List UInt8)) = false := qF c5
       have c5b1 : (((rd_T38 l0 x7_1).f0).toList != ([45] : List UInt8)) = true := nT c5
       replace H := oB H
       obtain ⟨cU, dA, H⟩ := H
       try dsimp only at H
       have de := aM dA
       clear dA
       by_cases cC : cU = true
       ·subst cC
        rw [if_pos rfl] at H
        replace H := oB H
        obtain ⟨cT, dx, H⟩ := H
        try dsimp only at H
        have dy := aM dx
        clear dx
        by_cases cy : cT = true
        ·subst cy
         rw [if_pos rfl] at H
         by_cases bY : x7_1 > 0
         ·rw [if_pos bY] at H
          have c37b0 : decide (0 < x7_1) = true := dT bY
          clear bY
          obtain ⟨aW, bu⟩ : ∃ j_ : Int, (wrap64 (x7_1 - 1)) = j_ := ⟨_, rfl⟩
          replace H : (if 0 ≤ (aW) then (if (aW) < (l0.length : Int) then (if ((Op.bytesLess (((rd_T38 l0 (aW)).f0).toList) (((rd_T38 l0 x7_1).f0).toList)) = true) then (spec_GoodSchema.l0 k1 l0 l0 (l0.length : Int) (wrap64 (x7_1 + 1))) else (some false)) else (none)) else (none)) = some r := by first | (rw [bu] at H; exact H) | (simp only [bu] at H ⊢; exact H)
          (try rw [bu] at de)
          (try rw [bu] at dy)
          have hji38w : (IntKind.i64.wrap (x7_1 - 1)) = aW := (i64_w _).trans bu
          by_cases dI : 0 ≤ (aW)
          ·rw [if_pos dI] at H
           have c39b0 : decide (0 ≤ (aW)) = true := dT dI
           clear dI
           by_cases b4 : (aW) < (l0.length : Int)
           ·rw [if_pos b4] at H
            have c40b0 : decide ((aW) < (l0.length : Int)) = true := dT b4
            clear b4
            by_cases b3 : ((Op.bytesLess (((rd_T38 l0 (aW)).f0).toList) (((rd_T38 l0 x7_1).f0).toList)) = true)
            ·rw [if_pos b3] at H
             have c41b0 : (Op.bytesLess (((rd_T38 l0 (aW)).f0).toList) (((rd_T38 l0 x7_1).f0).toList)) = true := b3
             clear b3
             have H' := aM H
             clear H
             have p130 : 0 ≤ (x7_1 : Int) := oD z2
             have q130 : x7_1 < (l0.length : Int) := oD z2
             obtain ⟨ad130, e130, hx130_0, hx130_1⟩ := at_T38 bh.out x7_1 p130 q130
             cases e130
             replace hx130_0 := (HB.out.cell (World.block_lt_of_cell? w _ hx130_0)).trans hx130_0
             replace hx130_1 := (HB.out.cell (World.block_lt_of_cell? w _ hx130_1)).trans hx130_1
             replace p130 := eq_true p130
             replace q130 := eq_true q130
             try go_wp2_with (first | ((with_reducible refine ar (N := 4) rfl ?_); refine au ?hg (N := 4) ?hd (cs := #[.string (⟨#[]⟩ : ByteArray), .string (⟨#[]⟩ : ByteArray)]) (t := 38) ?hr ?_; (case hd => rfl); (case hg => rfl); (case hr => first | (go_simp; done) | (go_simp; rfl)); intro az hg w42 hbox hb; have aA := aM (al z6 hb); have aC := aM (hbox); have aG := aM ((by rw [hg]; exact (am z6) : w.heap.size ≤ az)); have aN := aM ((by rw [hg]; exact (am z6) : w.heap.size ≤ az)); clear HB; have HB := aA; have ax := aC; have bx := aG; have a4 := aN; clear aA aC aG aN; clear hb hbox hg; have hcz43_0 : w42.cell? ⟨az, 0, none⟩ = some (.string (⟨#[]⟩ : ByteArray)) := (bC ax.out 0).trans rfl; have hcz43_1 : w42.cell? ⟨az, 1, none⟩ = some (.string (⟨#[]⟩ : ByteArray)) := (bC ax.out 1).trans rfl; have hfz43_0 := bF ax.out 0; have hfz43_1 := bF ax.out 1))
             have aA : Aside0 (((w42.setCell ⟨az, 0, none⟩ (.string ((rd_T38 l0 x7_1).f0))).setCell ⟨az, 1, none⟩ (.string ((rd_T38 l0 x7_1).f1))).heap[az]? = some (.cells #[.string ((rd_T38 l0 x7_1).f0), .string ((rd_T38 l0 x7_1).f1)] 38 (0, 0))) := ⟨y18⟩
             have aC : Aside0 (Below w.heap.size w ((w42.setCell ⟨az, 0, none⟩ (.string ((rd_T38 l0 x7_1).f0))).setCell ⟨az, 1, none⟩ (.string ((rd_T38 l0 x7_1).f1)))) := ⟨y6⟩
             (try clear ax)
             (try clear HB)
             generalize ((w42.setCell ⟨az, 0, none⟩ (.string ((rd_T38 l0 x7_1).f0))).setCell ⟨az, 1, none⟩ (.string ((rd_T38 l0 x7_1).f1))) = w44 at aA aC ⊢
             have ax := aA
             have HB := aC
             clear aA aC
             have aA := aM (ah ax.out)
             have aC := aM (bD HB.out)
             clear ax
             clear HB
             have ax := aA
             have HB := aC
             clear aA aC
             have p136 : 0 ≤ ((aW) : Int) := oD z2
             have q136 : (aW) < (l0.length : Int) := oD z2
             obtain ⟨ad136, e136, hx136_0, hx136_1⟩ := at_T38 bh.out (aW) p136 q136
             have hw136_1 := hx136_1
             have hw136_0 := hx136_0
             obtain rfl : ad130 = ad136 := (by injection e136)
             replace hx136_0 := (HB.out.cell (World.block_lt_of_cell? w _ hx136_0)).trans hx136_0
             replace hx136_1 := (HB.out.cell (World.block_lt_of_cell? w _ hx136_1)).trans hx136_1
             replace p136 := eq_true p136
             replace q136 := eq_true q136
             refine start_ (n := 30) (S := fun w' => w'.cell? ⟨az, 0, none⟩ = some (.string ((rd_T38 l0 x7_1).f0)) ∧ w'.cell? ⟨az, 1, none⟩ = some (.string ((rd_T38 l0 x7_1).f1)) ∧ w'.cell? (ad130.add (((aW)).toNat * 2)) = some (.string ((rd_T38 l0 (aW)).f0)) ∧ w'.cell? ⟨(ad130.add (((aW)).toNat * 2)).block, (ad130.add (((aW)).toNat * 2)).off + 1, none⟩ = some (.string ((rd_T38 l0 (aW)).f1))) (ds := []) #[false, false, false, false, false, false, false, false, false, false, false, false, false, false, false, false, false, false, false, false, false, false, false, false, false, false, false, false, false, false] z0 rfl rfl ⟨(bC ax.out 0).trans rfl, (bC ax.out 1).trans rfl, ((HB.out.cell (World.block_lt_of_cell? w _ hw136_0)).trans hw136_0), ((HB.out.cell (World.block_lt_of_cell? w _ hw136_1)).trans hw136_1)⟩ (fun hHeld => ?_); refine with_tabW spec_GoodSchema.tab4 spec_GoodSchema.bits4 (fun HT_ HW_ => ?_)
             generalize w44.drew = w45 at ax HB hx136_0 hx136_1 hHeld ⊢
             refine pA 0 12 ?_
             refine tA 1 13 ?_ (hy := by rintro w' ⟨s0, s1, s2, s3⟩; go_simp; with_reducible rfl)
             refine pA 2 14 ?_
             refine pA 3 15 ?_
             refine pA 4 16 ?_
             refine tA 5 17 ?_ (hy := by rintro w' ⟨s0, s1, s2, s3⟩; go_simp; with_reducible rfl)
             refine one_ (i := 6) (N := some 18) #[true, true, true, true, true, true, true, false, false, false, false, false, false, false, false, false, false, false, false, false, false, false, false, false, false, false, false, false, false, false] rfl rfl (one_of HT_.out z0) (by decide) (fun K hK => ?_)
             refine goes_ Try.func18 z0 rfl #[.string ((rd_T38 l0 x7_1).f0)] (by rfl) rfl rfl z7 ?_
             with_reducible refine (spec_l1Name.calls ((rd_T38 l0 x7_1).f0) true _ de.out).mono ?_
             rintro e w' ⟨rfl, ⟨nd, rfl⟩⟩
             refine ⟨_, rfl, ?_⟩
             refine hK.out _ _ ⟨(bC ax.out 0).trans rfl, (bC ax.out 1).trans rfl, ((HB.out.cell (World.block_lt_of_cell? w _ hw136_0)).trans hw136_0), ((HB.out.cell (World.block_lt_of_cell? w _ hw136_1)).trans hw136_1)⟩ (fun hHeld => ?_)
             clear hK K
             refine norm_ (a' := ?_) ?_ ?_
             rotate_left
             ·show Act.put _ (some 18) _ = _
              simp only [Act.put, sA, sB, sC, i64_w, i32_w]
              rfl
             refine pA 7 19 ?_
             refine pA 8 20 ?_
             refine pA 9 21 ?_
             refine pA 10 22 ?_
             refine tA 11 23 ?_ (hy := by rintro w' ⟨s0, s1, s2, s3⟩; go_simp; with_reducible rfl)
             refine one_ (i := 12) (N := some 24) #[true, true, true, true, true, true, true, true, true, true, true, true, true, false, false, false, false, false, false, false, false, false, false, false, false, false, false, false, false, false] rfl rfl (one_of HT_.out z0) (by decide) (fun K hK => ?_)
             refine goes_ Try.func19 z0 rfl #[.string ((rd_T38 l0 x7_1).f1)] (by rfl) rfl rfl z7 ?_
             with_reducible refine (spec_GoodExpr.calls k1 ((rd_T38 l0 x7_1).f1) true _ dy.out).mono ?_
             rintro e w46 ⟨rfl, hb⟩
             refine ⟨_, rfl, ?_⟩
             have aA := aM (ae (g := az) (o := .cells #[.string ((rd_T38 l0 x7_1).f0), .string ((rd_T38 l0 x7_1).f1)] 38 (0, 0)) (by (with_reducible repeat (first | refine ai ?_ _ | refine ah ?_ | refine aj ?_ _)); exact ax.out) hb)
             have aC := aM (al (by repeat (first | (with_reducible first | exact HB.out | apply bA | apply pD | apply bD | refine ak ?_ a4.out) | exact HB.out)) hb)
             clear ax
             clear HB
             have ax := aA
             have HB := aC
             clear aA aC
             (try clear hb)
             (try clear hb2)
             (try clear hk)
             (try clear hi)
             refine hK.out _ _ ⟨(bC ax.out 0).trans rfl, (bC ax.out 1).trans rfl, ((HB.out.cell (World.block_lt_of_cell? w _ hw136_0)).trans hw136_0), ((HB.out.cell (World.block_lt_of_cell? w _ hw136_1)).trans hw136_1)⟩ (fun hHeld => ?_)
             clear hK K
             refine norm_ (a' := ?_) ?_ ?_
             rotate_left
             ·show Act.put _ (some 24) _ = _
              simp only [Act.put, sA, sB, sC, i64_w, i32_w]
              rfl
             refine pA 13 25 ?_
             refine pA 14 26 ?_
             refine pA 15 27 ?_
             refine pA 16 28 ?_
             refine pA 17 29 ?_
             refine pA 18 30 ?_
             refine pA 19 31 ?_
             refine pA 20 32 ?_
             refine pA 21 33 ?_
             refine pA 22 34 ?_
             refine pA 23 35 ?_
             refine pA 25 37 ?_
             refine tA 24 36 ?_ (hy := by rintro w' ⟨s0, s1, s2, s3⟩; go_simp; with_reducible rfl)
             refine tA 26 38 ?_ (hy := by rintro w' ⟨s0, s1, s2, s3⟩; go_simp; with_reducible rfl)
             refine pA 27 39 ?_
             refine pA 28 40 ?_
             refine pA 29 41 ?_
             refine done_ (done_of HT_.out z0) ?_
             try go_wp2
             go_roundg k1
             case measure => have := HK1.out; omega
             case rel => exact ⟨(wrap64 (x7_1 + 1)), z1, (by first | exact H' | (simp only [bu]; exact H') | (simp only [← bu]; exact H')), ⟨by have := HK1.out; omega⟩, ⟨y6⟩⟩
            ·rw [if_neg b3] at H
             have c41b0 : (Op.bytesLess (((rd_T38 l0 (aW)).f0).toList) (((rd_T38 l0 x7_1).f0).toList)) = false := by simpa using b3
             clear b3
             obtain rfl := sI H
             have p130 : 0 ≤ (x7_1 : Int) := oD z2
             have q130 : x7_1 < (l0.length : Int) := oD z2
             obtain ⟨ad130, e130, hx130_0, hx130_1⟩ := at_T38 bh.out x7_1 p130 q130
             cases e130
             replace hx130_0 := (HB.out.cell (World.block_lt_of_cell? w _ hx130_0)).trans hx130_0
             replace hx130_1 := (HB.out.cell (World.block_lt_of_cell? w _ hx130_1)).trans hx130_1
             replace p130 := eq_true p130
             replace q130 := eq_true q130
             try go_wp2_with (first | ((with_reducible refine ar (N := 4) rfl ?_); refine au ?hg (N := 4) ?hd (cs := #[.string (⟨#[]⟩ : ByteArray), .string (⟨#[]⟩ : ByteArray)]) (t := 38) ?hr ?_; (case hd => rfl); (case hg => rfl); (case hr => first | (go_simp; done) | (go_simp; rfl)); intro az hg w47 hbox hb; have aA := aM (al z6 hb); have aC := aM (hbox); have aG := aM ((by rw [hg]; exact (am z6) : w.heap.size ≤ az)); have aN := aM ((by rw [hg]; exact (am z6) : w.heap.size ≤ az)); clear HB; have HB := aA; have ax := aC; have bx := aG; have a4 := aN; clear aA aC aG aN; clear hb hbox hg; have hcz48_0 : w47.cell? ⟨az, 0, none⟩ = some (.string (⟨#[]⟩ : ByteArray)) := (bC ax.out 0).trans rfl; have hcz48_1 : w47.cell? ⟨az, 1, none⟩ = some (.string (⟨#[]⟩ : ByteArray)) := (bC ax.out 1).trans rfl; have hfz48_0 := bF ax.out 0; have hfz48_1 := bF ax.out 1))
             have aA : Aside0 (((w47.setCell ⟨az, 0, none⟩ (.string ((rd_T38 l0 x7_1).f0))).setCell ⟨az, 1, none⟩ (.string ((rd_T38 l0 x7_1).f1))).heap[az]? = some (.cells #[.string ((rd_T38 l0 x7_1).f0), .string ((rd_T38 l0 x7_1).f1)] 38 (0, 0))) := ⟨y18⟩
             have aC : Aside0 (Below w.heap.size w ((w47.setCell ⟨az, 0, none⟩ (.string ((rd_T38 l0 x7_1).f0))).setCell ⟨az, 1, none⟩ (.string ((rd_T38 l0 x7_1).f1)))) := ⟨y6⟩
             (try clear ax)
             (try clear HB)
             generalize ((w47.setCell ⟨az, 0, none⟩ (.string ((rd_T38 l0 x7_1).f0))).setCell ⟨az, 1, none⟩ (.string ((rd_T38 l0 x7_1).f1))) = w49 at aA aC ⊢
             have ax := aA
             have HB := aC
             clear aA aC
             have aA := aM (ah ax.out)
             have aC := aM (bD HB.out)
             clear ax
             clear HB
             have ax := aA
             have HB := aC
             clear aA aC
             have p136 : 0 ≤ ((aW) : Int) := oD z2
             have q136 : (aW) < (l0.length : Int) := oD z2
             obtain ⟨ad136, e136, hx136_0, hx136_1⟩ := at_T38 bh.out (aW) p136 q136
             have hw136_1 := hx136_1
             have hw136_0 := hx136_0
             obtain rfl : ad130 = ad136 := (by injection e136)
             replace hx136_0 := (HB.out.cell (World.block_lt_of_cell? w _ hx136_0)).trans hx136_0
             replace hx136_1 := (HB.out.cell (World.block_lt_of_cell? w _ hx136_1)).trans hx136_1
             replace p136 := eq_true p136
             replace q136 := eq_true q136
             refine start_ (n := 30) (S := fun w' => w'.cell? ⟨az, 0, none⟩ = some (.string ((rd_T38 l0 x7_1).f0)) ∧ w'.cell? ⟨az, 1, none⟩ = some (.string ((rd_T38 l0 x7_1).f1)) ∧ w'.cell? (ad130.add (((aW)).toNat * 2)) = some (.string ((rd_T38 l0 (aW)).f0)) ∧ w'.cell? ⟨(ad130.add (((aW)).toNat * 2)).block, (ad130.add (((aW)).toNat * 2)).off + 1, none⟩ = some (.string ((rd_T38 l0 (aW)).f1))) (ds := []) #[false, false, false, false, false, false, false, false, false, false, false, false, false, false, false, false, false, false, false, false, false, false, false, false, false, false, false, false, false, false] z0 rfl rfl ⟨(bC ax.out 0).trans rfl, (bC ax.out 1).trans rfl, ((HB.out.cell (World.block_lt_of_cell? w _ hw136_0)).trans hw136_0), ((HB.out.cell (World.block_lt_of_cell? w _ hw136_1)).trans hw136_1)⟩ (fun hHeld => ?_); refine with_tabW spec_GoodSchema.tab4 spec_GoodSchema.bits4 (fun HT_ HW_ => ?_)
             generalize w49.drew = w50 at ax HB hx136_0 hx136_1 hHeld ⊢
             refine pA 0 12 ?_
             refine tA 1 13 ?_ (hy := by rintro w' ⟨s0, s1, s2, s3⟩; go_simp; with_reducible rfl)
             refine pA 2 14 ?_
             refine pA 3 15 ?_
             refine pA 4 16 ?_
             refine tA 5 17 ?_ (hy := by rintro w' ⟨s0, s1, s2, s3⟩; go_simp; with_reducible rfl)
             refine one_ (i := 6) (N := some 18) #[true, true, true, true, true, true, true, false, false, false, false, false, false, false, false, false, false, false, false, false, false, false, false, false, false, false, false, false, false, false] rfl rfl (one_of HT_.out z0) (by decide) (fun K hK => ?_)
             refine goes_ Try.func18 z0 rfl #[.string ((rd_T38 l0 x7_1).f0)] (by rfl) rfl rfl z7 ?_
             with_reducible refine (spec_l1Name.calls ((rd_T38 l0 x7_1).f0) true _ de.out).mono ?_
             rintro e w' ⟨rfl, ⟨nd, rfl⟩⟩
             refine ⟨_, rfl, ?_⟩
             refine hK.out _ _ ⟨(bC ax.out 0).trans rfl, (bC ax.out 1).trans rfl, ((HB.out.cell (World.block_lt_of_cell? w _ hw136_0)).trans hw136_0), ((HB.out.cell (World.block_lt_of_cell? w _ hw136_1)).trans hw136_1)⟩ (fun hHeld => ?_)
             clear hK K
             refine norm_ (a' := ?_) ?_ ?_
             rotate_left
             ·show Act.put _ (some 18) _ = _
              simp only [Act.put, sA, sB, sC, i64_w, i32_w]
              rfl
             refine pA 7 19 ?_
             refine pA 8 20 ?_
             refine pA 9 21 ?_
             refine pA 10 22 ?_
             refine tA 11 23 ?_ (hy := by rintro w' ⟨s0, s1, s2, s3⟩; go_simp; with_reducible rfl)
             refine one_ (i := 12) (N := some 24) #[true, true, true, true, true, true, true, true, true, true, true, true, true, false, false, false, false, false, false, false, false, false, false, false, false, false, false, false, false, false] rfl rfl (one_of HT_.out z0) (by decide) (fun K hK => ?_)
             refine goes_ Try.func19 z0 rfl #[.string ((rd_T38 l0 x7_1).f1)] (by rfl) rfl rfl z7 ?_
             with_reducible refine (spec_GoodExpr.calls k1 ((rd_T38 l0 x7_1).f1) true _ dy.out).mono ?_
             rintro e w51 ⟨rfl, hb⟩
             refine ⟨_, rfl, ?_⟩
             have aA := aM (ae (g := az) (o := .cells #[.string ((rd_T38 l0 x7_1).f0), .string ((rd_T38 l0 x7_1).f1)] 38 (0, 0)) (by (with_reducible repeat (first | refine ai ?_ _ | refine ah ?_ | refine aj ?_ _)); exact ax.out) hb)
             have aC := aM (al (by repeat (first | (with_reducible first | exact HB.out | apply bA | apply pD | apply bD | refine ak ?_ a4.out) | exact HB.out)) hb)
             clear ax
             clear HB
             have ax := aA
             have HB := aC
             clear aA aC
             (try clear hb)
             (try clear hb2)
             (try clear hk)
             (try clear hi)
             refine hK.out _ _ ⟨(bC ax.out 0).trans rfl, (bC ax.out 1).trans rfl, ((HB.out.cell (World.block_lt_of_cell? w _ hw136_0)).trans hw136_0), ((HB.out.cell (World.block_lt_of_cell? w _ hw136_1)).trans hw136_1)⟩ (fun hHeld => ?_)
             clear hK K
             refine norm_ (a' := ?_) ?_ ?_
             rotate_left
             ·show Act.put _ (some 24) _ = _
              simp only [Act.put, sA, sB, sC, i64_w, i32_w]
              rfl
             refine pA 13 25 ?_
             refine pA 14 26 ?_
             refine pA 15 27 ?_
             refine pA 16 28 ?_
             refine pA 17 29 ?_
             refine pA 18 30 ?_
             refine pA 19 31 ?_
             refine pA 20 32 ?_
             refine pA 21 33 ?_
             refine pA 22 34 ?_
             refine pA 23 35 ?_
             refine pA 25 37 ?_
             refine tA 24 36 ?_ (hy := by rintro w' ⟨s0, s1, s2, s3⟩; go_simp; with_reducible rfl)
             refine tA 26 38 ?_ (hy := by rintro w' ⟨s0, s1, s2, s3⟩; go_simp; with_reducible rfl)
             refine pA 27 39 ?_
             refine pA 28 40 ?_
             refine pA 29 41 ?_
             refine done_ (done_of HT_.out z0) ?_
             try go_wp2
             go_ret
             exact ⟨by first | rfl | (simp [errW_none, errW_some] <;> rfl) | (simp only [← bu]; first | rfl | (simp [errW_none, errW_some] <;> rfl)) | (simp [*, errW_none, errW_some] <;> rfl), y6⟩
           ·rw [if_neg b4] at H
            exact absurd H (by simp)
          ·rw [if_neg dI] at H
           exact absurd H (by simp)
         ·rw [if_neg bY] at H
          have c37b0 : decide (0 < x7_1) = false := dF bY
          clear bY
          have H' := aM H
          clear H
          have p130 : 0 ≤ (x7_1 : Int) := oD z2
          have q130 : x7_1 < (l0.length : Int) := oD z2
          obtain ⟨ad130, e130, hx130_0, hx130_1⟩ := at_T38 bh.out x7_1 p130 q130
          cases e130
          replace hx130_0 := (HB.out.cell (World.block_lt_of_cell? w _ hx130_0)).trans hx130_0
          replace hx130_1 := (HB.out.cell (World.block_lt_of_cell? w _ hx130_1)).trans hx130_1
          replace p130 := eq_true p130
          replace q130 := eq_true q130
          try go_wp2_with (first | ((with_reducible refine ar (N := 4) rfl ?_); refine au ?hg (N := 4) ?hd (cs := #[.string (⟨#[]⟩ : ByteArray), .string (⟨#[]⟩ : ByteArray)]) (t := 38) ?hr ?_; (case hd => rfl); (case hg => rfl); (case hr => first | (go_simp; done) | (go_simp; rfl)); intro az hg w52 hbox hb; have aA := aM (al z6 hb); have aC := aM (hbox); have aG := aM ((by rw [hg]; exact (am z6) : w.heap.size ≤ az)); have aN := aM ((by rw [hg]; exact (am z6) : w.heap.size ≤ az)); clear HB; have HB := aA; have ax := aC; have bx := aG; have a4 := aN; clear aA aC aG aN; clear hb hbox hg; have hcz53_0 : w52.cell? ⟨az, 0, none⟩ = some (.string (⟨#[]⟩ : ByteArray)) := (bC ax.out 0).trans rfl; have hcz53_1 : w52.cell? ⟨az, 1, none⟩ = some (.string (⟨#[]⟩ : ByteArray)) := (bC ax.out 1).trans rfl; have hfz53_0 := bF ax.out 0; have hfz53_1 := bF ax.out 1))
          have aA : Aside0 (((w52.setCell ⟨az, 0, none⟩ (.string ((rd_T38 l0 x7_1).f0))).setCell ⟨az, 1, none⟩ (.string ((rd_T38 l0 x7_1).f1))).heap[az]? = some (.cells #[.string ((rd_T38 l0 x7_1).f0), .string ((rd_T38 l0 x7_1).f1)] 38 (0, 0))) := ⟨y18⟩
          have aC : Aside0 (Below w.heap.size w ((w52.setCell ⟨az, 0, none⟩ (.string ((rd_T38 l0 x7_1).f0))).setCell ⟨az, 1, none⟩ (.string ((rd_T38 l0 x7_1).f1)))) := ⟨y6⟩
          (try clear ax)
          (try clear HB)
          generalize ((w52.setCell ⟨az, 0, none⟩ (.string ((rd_T38 l0 x7_1).f0))).setCell ⟨az, 1, none⟩ (.string ((rd_T38 l0 x7_1).f1))) = w54 at aA aC ⊢
          have ax := aA
          have HB := aC
          clear aA aC
          have aA := aM (ah ax.out)
          have aC := aM (bD HB.out)
          clear ax
          clear HB
          have ax := aA
          have HB := aC
          clear aA aC
          refine start_ (n := 30) (S := fun w' => w'.cell? ⟨az, 0, none⟩ = some (.string ((rd_T38 l0 x7_1).f0)) ∧ w'.cell? ⟨az, 1, none⟩ = some (.string ((rd_T38 l0 x7_1).f1))) (ds := []) #[false, false, false, false, false, false, false, false, false, false, false, false, false, false, false, false, false, false, false, false, false, false, false, false, false, false, false, false, false, false] z0 rfl rfl ⟨(bC ax.out 0).trans rfl, (bC ax.out 1).trans rfl⟩ (fun hHeld => ?_); refine with_tabW spec_GoodSchema.tab4 spec_GoodSchema.bits4 (fun HT_ HW_ => ?_)
          generalize w54.drew = w55 at ax HB hHeld ⊢
          refine pA 0 12 ?_
          refine tA 1 13 ?_ (hy := by rintro w' ⟨s0, s1⟩; go_simp; with_reducible rfl)
          refine pA 2 14 ?_
          refine pA 3 15 ?_
          refine pA 4 16 ?_
          refine tA 5 17 ?_ (hy := by rintro w' ⟨s0, s1⟩; go_simp; with_reducible rfl)
          refine one_ (i := 6) (N := some 18) #[true, true, true, true, true, true, true, false, false, false, false, false, false, false, false, false, false, false, false, false, false, false, false, false, false, false, false, false, false, false] rfl rfl (one_of HT_.out z0) (by decide) (fun K hK => ?_)
          refine goes_ Try.func18 z0 rfl #[.string ((rd_T38 l0 x7_1).f0)] (by rfl) rfl rfl z7 ?_
          with_reducible refine (spec_l1Name.calls ((rd_T38 l0 x7_1).f0) true _ de.out).mono ?_
          rintro e w' ⟨rfl, ⟨nd, rfl⟩⟩
          refine ⟨_, rfl, ?_⟩
          refine hK.out _ _ ⟨(bC ax.out 0).trans rfl, (bC ax.out 1).trans rfl⟩ (fun hHeld => ?_)
          clear hK K
          refine norm_ (a' := ?_) ?_ ?_
          rotate_left
          ·show Act.put _ (some 18) _ = _
           simp only [Act.put, sA, sB, sC, i64_w, i32_w]
           rfl
          refine pA 7 19 ?_
          refine pA 8 20 ?_
          refine pA 9 21 ?_
          refine pA 10 22 ?_
          refine tA 11 23 ?_ (hy := by rintro w' ⟨s0, s1⟩; go_simp; with_reducible rfl)
          refine one_ (i := 12) (N := some 24) #[true, true, true, true, true, true, true, true, true, true, true, true, true, false, false, false, false, false, false, false, false, false, false, false, false, false, false, false, false, false] rfl rfl (one_of HT_.out z0) (by decide) (fun K hK => ?_)
          refine goes_ Try.func19 z0 rfl #[.string ((rd_T38 l0 x7_1).f1)] (by rfl) rfl rfl z7 ?_
          with_reducible refine (spec_GoodExpr.calls k1 ((rd_T38 l0 x7_1).f1) true _ dy.out).mono ?_
          rintro e w56 ⟨rfl, hb⟩
          refine ⟨_, rfl, ?_⟩
          have aA := aM (ae (g := az) (o := .cells #[.string ((rd_T38 l0 x7_1).f0), .string ((rd_T38 l0 x7_1).f1)] 38 (0, 0)) (by (with_reducible repeat (first | refine ai ?_ _ | refine ah ?_ | refine aj ?_ _)); exact ax.out) hb)
          have aC := aM (al (by repeat (first | (with_reducible first | exact HB.out | apply bA | apply pD | apply bD | refine ak ?_ a4.out) | exact HB.out)) hb)
          clear ax
          clear HB
          have ax := aA
          have HB := aC
          clear aA aC
          (try clear hb)
          (try clear hb2)
          (try clear hk)
          (try clear hi)
          refine hK.out _ _ ⟨(bC ax.out 0).trans rfl, (bC ax.out 1).trans rfl⟩ (fun hHeld => ?_)
          clear hK K
          refine norm_ (a' := ?_) ?_ ?_
          rotate_left
          ·show Act.put _ (some 24) _ = _
           simp only [Act.put, sA, sB, sC, i64_w, i32_w]
           rfl
          refine pA 13 25 ?_
          refine pA 14 26 ?_
          refine pA 15 27 ?_
          refine pA 16 28 ?_
          refine pA 17 29 ?_
          refine pA 18 30 ?_
          refine pB 19 31 ?_
          refine pB 20 32 ?_
          refine pB 21 33 ?_
          refine pB 22 34 ?_
          refine pB 23 35 ?_
          refine pB 24 36 ?_
          refine pB 25 37 ?_
          refine pB 26 38 ?_
          refine pB 27 39 ?_
          refine pA 28 40 ?_
          refine pA 29 41 ?_
          refine done_ (done_of HT_.out z0) ?_
          try go_wp2
          go_roundg k1
          case measure => have := HK1.out; omega
          case rel => exact ⟨(wrap64 (x7_1 + 1)), z1, H', ⟨by have := HK1.out; omega⟩, ⟨y6⟩⟩
        ·replace cy := Bool.eq_false_iff.mpr cy
         subst cy
         rw [if_neg (show ¬ (false = true) by decide)] at H
         obtain rfl := sI H
         have p130 : 0 ≤ (x7_1 : Int) := oD z2
         have q130 : x7_1 < (l0.length : Int) := oD z2
         obtain ⟨ad130, e130, hx130_0, hx130_1⟩ := at_T38 bh.out x7_1 p130 q130
         cases e130
         replace hx130_0 := (HB.out.cell (World.block_lt_of_cell? w _ hx130_0)).trans hx130_0
         replace hx130_1 := (HB.out.cell (World.block_lt_of_cell? w _ hx130_1)).trans hx130_1
         replace p130 := eq_true p130
         replace q130 := eq_true q130
         try go_wp2_with (first | ((with_reducible refine ar (N := 4) rfl ?_); refine au ?hg (N := 4) ?hd (cs := #[.string (⟨#[]⟩ : ByteArray), .string (⟨#[]⟩ : ByteArray)]) (t := 38) ?hr ?_; (case hd => rfl); (case hg => rfl); (case hr => first | (go_simp; done) | (go_simp; rfl)); intro az hg w57 hbox hb; have aA := aM (al z6 hb); have aC := aM (hbox); have aG := aM ((by rw [hg]; exact (am z6) : w.heap.size ≤ az)); have aN := aM ((by rw [hg]; exact (am z6) : w.heap.size ≤ az)); clear HB; have HB := aA; have ax := aC; have bx := aG; have a4 := aN; clear aA aC aG aN; clear hb hbox hg; have hcz58_0 : w57.cell? ⟨az, 0, none⟩ = some (.string (⟨#[]⟩ : ByteArray)) := (bC ax.out 0).trans rfl; have hcz58_1 : w57.cell? ⟨az, 1, none⟩ = some (.string (⟨#[]⟩ : ByteArray)) := (bC ax.out 1).trans rfl; have hfz58_0 := bF ax.out 0; have hfz58_1 := bF ax.out 1))
         have aA : Aside0 (((w57.setCell ⟨az, 0, none⟩ (.string ((rd_T38 l0 x7_1).f0))).setCell ⟨az, 1, none⟩ (.string ((rd_T38 l0 x7_1).f1))).heap[az]? = some (.cells #[.string ((rd_T38 l0 x7_1).f0), .string ((rd_T38 l0 x7_1).f1)] 38 (0, 0))) := ⟨y18⟩
         have aC : Aside0 (Below w.heap.size w ((w57.setCell ⟨az, 0, none⟩ (.string ((rd_T38 l0 x7_1).f0))).setCell ⟨az, 1, none⟩ (.string ((rd_T38 l0 x7_1).f1)))) := ⟨y6⟩
         (try clear ax)
         (try clear HB)
         generalize ((w57.setCell ⟨az, 0, none⟩ (.string ((rd_T38 l0 x7_1).f0))).setCell ⟨az, 1, none⟩ (.string ((rd_T38 l0 x7_1).f1))) = w59 at aA aC ⊢
         have ax := aA
         have HB := aC
         clear aA aC
         have aA := aM (ah ax.out)
         have aC := aM (bD HB.out)
         clear ax
         clear HB
         have ax := aA
         have HB := aC
         clear aA aC
         refine start_ (n := 30) (S := fun w' => w'.cell? ⟨az, 0, none⟩ = some (.string ((rd_T38 l0 x7_1).f0)) ∧ w'.cell? ⟨az, 1, none⟩ = some (.string ((rd_T38 l0 x7_1).f1))) (ds := []) #[false, false, false, false, false, false, false, false, false, false, false, false, false, false, false, false, false, false, false, false, false, false, false, false, false, false, false, false, false, false] z0 rfl rfl ⟨(bC ax.out 0).trans rfl, (bC ax.out 1).trans rfl⟩ (fun hHeld => ?_); refine with_tabW spec_GoodSchema.tab4 spec_GoodSchema.bits4 (fun HT_ HW_ => ?_)
         generalize w59.drew = w60 at ax HB hHeld ⊢
         refine pA 0 12 ?_
         refine tA 1 13 ?_ (hy := by rintro w' ⟨s0, s1⟩; go_simp; with_reducible rfl)
         refine pA 2 14 ?_
         refine pA 3 15 ?_
         refine pA 4 16 ?_
         refine tA 5 17 ?_ (hy := by rintro w' ⟨s0, s1⟩; go_simp; with_reducible rfl)
         refine one_ (i := 6) (N := some 18) #[true, true, true, true, true, true, true, false, false, false, false, false, false, false, false, false, false, false, false, false, false, false, false, false, false, false, false, false, false, false] rfl rfl (one_of HT_.out z0) (by decide) (fun K hK => ?_)
         refine goes_ Try.func18 z0 rfl #[.string ((rd_T38 l0 x7_1).f0)] (by rfl) rfl rfl z7 ?_
         with_reducible refine (spec_l1Name.calls ((rd_T38 l0 x7_1).f0) true _ de.out).mono ?_
         rintro e w' ⟨rfl, ⟨nd, rfl⟩⟩
         refine ⟨_, rfl, ?_⟩
         refine hK.out _ _ ⟨(bC ax.out 0).trans rfl, (bC ax.out 1).trans rfl⟩ (fun hHeld => ?_)
         clear hK K
         refine norm_ (a' := ?_) ?_ ?_
         rotate_left
         ·show Act.put _ (some 18) _ = _
          simp only [Act.put, sA, sB, sC, i64_w, i32_w]
          rfl
         refine pA 7 19 ?_
         refine pA 8 20 ?_
         refine pA 9 21 ?_
         refine pA 10 22 ?_
         refine tA 11 23 ?_ (hy := by rintro w' ⟨s0, s1⟩; go_simp; with_reducible rfl)
         refine one_ (i := 12) (N := some 24) #[true, true, true, true, true, true, true, true, true, true, true, true, true, false, false, false, false, false, false, false, false, false, false, false, false, false, false, false, false, false] rfl rfl (one_of HT_.out z0) (by decide) (fun K hK => ?_)
         refine goes_ Try.func19 z0 rfl #[.string ((rd_T38 l0 x7_1).f1)] (by rfl) rfl rfl z7 ?_
         with_reducible refine (spec_GoodExpr.calls k1 ((rd_T38 l0 x7_1).f1) false _ dy.out).mono ?_
         rintro e w61 ⟨rfl, hb⟩
         refine ⟨_, rfl, ?_⟩
         have aA := aM (ae (g := az) (o := .cells #[.string ((rd_T38 l0 x7_1).f0), .string ((rd_T38 l0 x7_1).f1)] 38 (0, 0)) (by (with_reducible repeat (first | refine ai ?_ _ | refine ah ?_ | refine aj ?_ _)); exact ax.out) hb)
         have aC := aM (al (by repeat (first | (with_reducible first | exact HB.out | apply bA | apply pD | apply bD | refine ak ?_ a4.out) | exact HB.out)) hb)
         clear ax
         clear HB
         have ax := aA
         have HB := aC
         clear aA aC
         (try clear hb)
         (try clear hb2)
         (try clear hk)
         (try clear hi)
         refine hK.out _ _ ⟨(bC ax.out 0).trans rfl, (bC ax.out 1).trans rfl⟩ (fun hHeld => ?_)
         clear hK K
         refine norm_ (a' := ?_) ?_ ?_
         rotate_left
         ·show Act.put _ (some 24) _ = _
          simp only [Act.put, sA, sB, sC, i64_w, i32_w]
          rfl
         refine pA 13 25 ?_
         refine pA 14 26 ?_
         refine pA 15 27 ?_
         refine pB 16 28 ?_
         refine pB 17 29 ?_
         refine pB 18 30 ?_
         refine pB 19 31 ?_
         refine pB 20 32 ?_
         refine pB 21 33 ?_
         refine pB 22 34 ?_
         refine pB 23 35 ?_
         refine pB 24 36 ?_
         refine pB 25 37 ?_
         refine pB 26 38 ?_
         refine pB 27 39 ?_
         refine pB 28 40 ?_
         refine pA 29 41 ?_
         refine done_ (done_of HT_.out z0) ?_
         try go_wp2
         go_ret
         exact ⟨y2, y6⟩
       ·replace cC := Bool.eq_false_iff.mpr cC
        subst cC
        rw [if_neg (show ¬ (false = true) by decide)] at H
        obtain rfl := sI H
        have p130 : 0 ≤ (x7_1 : Int) := oD z2
        have q130 : x7_1 < (l0.length : Int) := oD z2
        obtain ⟨ad130, e130, hx130_0, hx130_1⟩ := at_T38 bh.out x7_1 p130 q130
        cases e130
        replace hx130_0 := (HB.out.cell (World.block_lt_of_cell? w _ hx130_0)).trans hx130_0
        replace hx130_1 := (HB.out.cell (World.block_lt_of_cell? w _ hx130_1)).trans hx130_1
        replace p130 := eq_true p130
        replace q130 := eq_true q130
        try go_wp2_with (first | ((with_reducible refine ar (N := 4) rfl ?_); refine au ?hg (N := 4) ?hd (cs := #[.string (⟨#[]⟩ : ByteArray), .string (⟨#[]⟩ : ByteArray)]) (t := 38) ?hr ?_; (case hd => rfl); (case hg => rfl); (case hr => first | (go_simp; done) | (go_simp; rfl)); intro az hg w62 hbox hb; have aA := aM (al z6 hb); have aC := aM (hbox); have aG := aM ((by rw [hg]; exact (am z6) : w.heap.size ≤ az)); have aN := aM ((by rw [hg]; exact (am z6) : w.heap.size ≤ az)); clear HB; have HB := aA; have ax := aC; have bx := aG; have a4 := aN; clear aA aC aG aN; clear hb hbox hg; have hcz63_0 : w62.cell? ⟨az, 0, none⟩ = some (.string (⟨#[]⟩ : ByteArray)) := (bC ax.out 0).trans rfl; have hcz63_1 : w62.cell? ⟨az, 1, none⟩ = some (.string (⟨#[]⟩ : ByteArray)) := (bC ax.out 1).trans rfl; have hfz63_0 := bF ax.out 0; have hfz63_1 := bF ax.out 1))
        have aA : Aside0 (((w62.setCell ⟨az, 0, none⟩ (.string ((rd_T38 l0 x7_1).f0))).setCell ⟨az, 1, none⟩ (.string ((rd_T38 l0 x7_1).f1))).heap[az]? = some (.cells #[.string ((rd_T38 l0 x7_1).f0), .string ((rd_T38 l0 x7_1).f1)] 38 (0, 0))) := ⟨y18⟩
        have aC : Aside0 (Below w.heap.size w ((w62.setCell ⟨az, 0, none⟩ (.string ((rd_T38 l0 x7_1).f0))).setCell ⟨az, 1, none⟩ (.string ((rd_T38 l0 x7_1).f1)))) := ⟨y6⟩
        (try clear ax)
        (try clear HB)
        generalize ((w62.setCell ⟨az, 0, none⟩ (.string ((rd_T38 l0 x7_1).f0))).setCell ⟨az, 1, none⟩ (.string ((rd_T38 l0 x7_1).f1))) = w64 at aA aC ⊢
        have ax := aA
        have HB := aC
        clear aA aC
        have aA := aM (ah ax.out)
        have aC := aM (bD HB.out)
        clear ax
        clear HB
        have ax := aA
        have HB := aC
        clear aA aC
        refine start_ (n := 30) (S := fun w' => w'.cell? ⟨az, 0, none⟩ = some (.string ((rd_T38 l0 x7_1).f0)) ∧ w'.cell? ⟨az, 1, none⟩ = some (.string ((rd_T38 l0 x7_1).f1))) (ds := []) #[false, false, false, false, false, false, false, false, false, false, false, false, false, false, false, false, false, false, false, false, false, false, false, false, false, false, false, false, false, false] z0 rfl rfl ⟨(bC ax.out 0).trans rfl, (bC ax.out 1).trans rfl⟩ (fun hHeld => ?_); refine with_tabW spec_GoodSchema.tab4 spec_GoodSchema.bits4 (fun HT_ HW_ => ?_)
        generalize w64.drew = w65 at ax HB hHeld ⊢
        refine pA 0 12 ?_
        refine tA 1 13 ?_ (hy := by rintro w' ⟨s0, s1⟩; go_simp; with_reducible rfl)
        refine pA 2 14 ?_
        refine pA 3 15 ?_
        refine pA 4 16 ?_
        refine tA 5 17 ?_ (hy := by rintro w' ⟨s0, s1⟩; go_simp; with_reducible rfl)
        refine one_ (i := 6) (N := some 18) #[true, true, true, true, true, true, true, false, false, false, false, false, false, false, false, false, false, false, false, false, false, false, false, false, false, false, false, false, false, false] rfl rfl (one_of HT_.out z0) (by decide) (fun K hK => ?_)
        refine goes_ Try.func18 z0 rfl #[.string ((rd_T38 l0 x7_1).f0)] (by rfl) rfl rfl z7 ?_
        with_reducible refine (spec_l1Name.calls ((rd_T38 l0 x7_1).f0) false _ de.out).mono ?_
        rintro e w' ⟨rfl, ⟨nd, rfl⟩⟩
        refine ⟨_, rfl, ?_⟩
        refine hK.out _ _ ⟨(bC ax.out 0).trans rfl, (bC ax.out 1).trans rfl⟩ (fun hHeld => ?_)
        clear hK K
        refine norm_ (a' := ?_) ?_ ?_
        rotate_left
        ·show Act.put _ (some 18) _ = _
         simp only [Act.put, sA, sB, sC, i64_w, i32_w]
         rfl
        refine pA 7 19 ?_
        refine pA 8 20 ?_
        refine pA 9 21 ?_
        refine pB 10 22 ?_
        refine pB 11 23 ?_
        refine pB 12 24 ?_
        refine pB 13 25 ?_
        refine pA 14 26 ?_
        refine pA 15 27 ?_
        refine pB 16 28 ?_
        refine pB 17 29 ?_
        refine pB 18 30 ?_
        refine pB 19 31 ?_
        refine pB 20 32 ?_
        refine pB 21 33 ?_
        refine pB 22 34 ?_
        refine pB 23 35 ?_
        refine pB 24 36 ?_
        refine pB 25 37 ?_
        refine pB 26 38 ?_
        refine pB 27 39 ?_
        refine pB 28 40 ?_
        refine pA 29 41 ?_
        refine done_ (done_of HT_.out z0) ?_
        try go_wp2
        go_ret
        exact ⟨y2, y6⟩
     ·rw [if_neg c4] at H
      exact absurd H (by simp)
    ·rw [if_neg c3] at H
     exact absurd H (by simp)
   ·rw [if_neg c2] at H
    have c2b0 : decide (x7_1 < (l0.length : Int)) = false := dF c2
    clear c2
    obtain rfl := sI H
    go_wp2
    go_ret
    exact ⟨y2, y3⟩

end Go.Proofs.Ytihjaagamihhkaa.AFnExactReadSchema
