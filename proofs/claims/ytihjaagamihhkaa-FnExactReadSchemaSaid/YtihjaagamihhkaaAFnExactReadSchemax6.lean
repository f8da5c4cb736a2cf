-- this session's own text: written by wip/tools/ownprint.py over the kit's print
import Derived.Laws.Cover1
import Derived.Test.YtihjaagamihhkaaAFnExactReadSchemax0
import Derived.Test.YtihjaagamihhkaaAFnExactReadSchemax4
import Derived.Test.YtihjaagamihhkaaAFnExactReadSchemax5
namespace Go.Proofs.Ytihjaagamihhkaa.AFnExactReadSchema
open Go.RowKit Go.Proofs.YtihjaagamihhkaaW.PrintWords Go.Proofs.YtihjaagamihhkaaW.PrintLast Go.Proofs.YtihjaagamihhkaaW.PrintMore
attribute [local go_sem] max2_int min2_int max_two min_two max_three min_three max_four min_four   -- for this text's walks alone
set_option linter.unusedVariables false
set_option linter.unusedSimpArgs false

/-! ### impl_GoodSchema: function 9 -/
def impl_GoodSchema.l0 : Nat → List (S38) → List (S38) → Int → Int → Option (Bool)
 | 0, _, _, _, _ => none
 | k + 1, x0, x8, x9, x10 => if x10 < x9 then (if 0 ≤ x10 then (if x10 < (x8.length : Int) then (if ((rd_T38 x8 x10).f0).toList = ([45] : List UInt8) then ((impl_GoodExpr.f k ((rd_T38 x8 x10).f1)).bind fun cR => (if cR = true then (if x10 > 0 then (if 0 ≤ (wrap64 (x10 - 1)) then (if (wrap64 (x10 - 1)) < (x0.length : Int) then (if ((Op.bytesLess (((rd_T38 x0 (wrap64 (x10 - 1))).f0).toList) (((rd_T38 x8 x10).f0).toList)) = true) then (impl_GoodSchema.l0 k x0 x8 x9 (wrap64 (x10 + 1))) else (some false)) else (none)) else (none)) else (impl_GoodSchema.l0 k x0 x8 x9 (wrap64 (x10 + 1)))) else (some false))) else ((impl_isNameText.f ((rd_T38 x8 x10).f0)).bind fun cQ => (if cQ = true then ((impl_GoodExpr.f k ((rd_T38 x8 x10).f1)).bind fun cP => (if cP = true then (if x10 > 0 then (if 0 ≤ (wrap64 (x10 - 1)) then (if (wrap64 (x10 - 1)) < (x0.length : Int) then (if ((Op.bytesLess (((rd_T38 x0 (wrap64 (x10 - 1))).f0).toList) (((rd_T38 x8 x10).f0).toList)) = true) then (impl_GoodSchema.l0 k x0 x8 x9 (wrap64 (x10 + 1))) else (some false)) else (none)) else (none)) else (impl_GoodSchema.l0 k x0 x8 x9 (wrap64 (x10 + 1)))) else (some false))) else (some false)))) else (none)) else (none)) else (some true)
def impl_GoodSchema.f (k : Nat) (l0 : List (S38)) : Option (Bool) := if (l0.length : Int) > 7 then (some false) else (impl_GoodSchema.l0 k l0 l0 (l0.length : Int) 0)
theorem impl_GoodSchema.mono_l : ∀ k, (∀ y0 y1 y2 y3, LeO (impl_GoodSchema.l0 k y0 y1 y2 y3) (impl_GoodSchema.l0 (k + 1) y0 y1 y2 y3))
 | 0 => fun _ _ _ _ r h => by simp [impl_GoodSchema.l0] at h
 | k + 1 => by
  have ih0 := impl_GoodSchema.mono_l k
  ·intro y0 y1 y2 y3
   unfold impl_GoodSchema.l0
   repeat' first
   | (with_reducible exact ih0 _ _ _ _)
   | (with_reducible exact impl_GoodExpr.mono _ _)
   | (with_reducible exact LeO.refl _)
   | (with_reducible exact LeO.none _)
   | (with_reducible refine LeO.ite ?_ ?_)
   | (with_reducible refine LeO.bind ?_ (fun _ => ?_))
   | exact ih0 _ _ _ _
   | exact impl_GoodExpr.mono _ _
   | exact LeO.none _
   | refine LeO.ite ?_ ?_
   | refine LeO.bind ?_ (fun _ => ?_)
theorem impl_GoodSchema.mono : ∀ a0 k, LeO (impl_GoodSchema.f k a0) (impl_GoodSchema.f (k + 1) a0) := by
 intro a0 k
 have ih0 := impl_GoodSchema.mono_l k
 unfold impl_GoodSchema.f
 repeat' first
   | (with_reducible exact ih0 _ _ _ _)
   | (with_reducible exact impl_GoodExpr.mono _ _)
   | (with_reducible exact LeO.refl _)
   | (with_reducible exact LeO.none _)
   | (with_reducible refine LeO.ite ?_ ?_)
   | (with_reducible refine LeO.bind ?_ (fun _ => ?_))
   | exact ih0 _ _ _ _
   | exact impl_GoodExpr.mono _ _
   | exact LeO.none _
   | refine LeO.ite ?_ ?_
   | refine LeO.bind ?_ (fun _ => ?_)
def impl_GoodSchema.T6 : Bool × List (List Nat × List Nat) := (true, [([], []), ([0], [0]), ([1], [1]), ([2], [2]), ([3], [3]), ([4, 3], [3, 4]), ([5, 3, 3], [3, 5]), ([6, 3], [3, 6]), ([3, 7], [3, 7]), ([8, 6], [8]), ([9], [9]), ([10, 9], [9, 10]), ([11, 9, 9], [9, 11]), ([12, 9], [9, 12]), ([9, 13], [9, 13]), ([14, 12], [14]), ([15], [15]), ([16, 15], [15, 16]), ([17, 15, 15], [15, 17]), ([18], [18]), ([18], [18]), ([20, 18], [18, 20]), ([19, 21, 18], [18, 19, 21]), ([22, 18], [18, 22]), ([23, 18], [18, 23]), ([18], [18]), ([25, 18], [18, 25]), ([24, 26, 18], [18, 24, 26]), ([18, 27, 15], [15, 18, 27]), ([15, 28], [15, 28])])
def impl_GoodSchema.B6 : List Nat := [0, 1, 3, 7, 15, 31, 63, 127, 255, 511, 1023, 2047, 4095, 8191, 16383, 32767, 65535, 131071, 262143, 524287, 524287, 1572863, 4194303, 8388607, 16777215, 524287, 34078719, 134217727, 268435455, 536870911]
theorem impl_GoodSchema.tab6 : rtab .any (opsOf Try.f9 6) = impl_GoodSchema.T6 := by kernel_rfl
theorem impl_GoodSchema.bits6 : waitsOk impl_GoodSchema.T6.2 impl_GoodSchema.B6 = true := by kernel_rfl
set_option maxHeartbeats 8000000 in
set_option maxRecDepth 100000 in
theorem impl_GoodSchema.calls (k : Nat) (A0 : Option Addr) (c0 : Nat) (l0 : List (S38)) (r : Bool) (w : World) (hr0 : Kd.C k38 w A0 l0.length l0) (hc0 : l0.length ≤ c0) (h : impl_GoodSchema.f k l0 = some r) :
  Calls Try.prog 9 #[.slice A0 l0.length c0] w fun e w' => e = .returned (.bool r) ∧ Below w.heap.size w w' := by
 have hu38 := Try.underlying38
 have bh := aM hr0
 have dR := aM hc0
 clear hr0 hc0
 have HB := aM (Below.refl w.heap.size w)
 have H : (if (l0.length : Int) > 7 then (some false) else (impl_GoodSchema.l0 k l0 l0 (l0.length : Int) 0)) = some r := h
 clear h
 by_cases c2 : (l0.length : Int) > 7
 ·rw [if_pos c2] at H
  have c2b0 : decide (7 < (l0.length : Int)) = true := dT c2
  have c2b1 : decide (7 < l0.length) = true := dT (by omega)
  clear c2
  obtain rfl := sI H
  go_enter Try.func9, Try.ntmps9
  go_wp2
  go_ret
  exact ⟨y2, y3⟩
 ·rw [if_neg c2] at H
  have c2b0 : decide (7 < (l0.length : Int)) = false := dF c2
  have c2b1 : decide (7 < l0.length) = false := dF (by omega)
  clear c2
  have H' := aM H
  clear H
  go_enter Try.func9, Try.ntmps9
  go_wp2
  go_loopg [10] k (fun kq v10 w' => ∃ (x10_1 : Int), v10 = .int .i64 x10_1 ∧ Aside0 (impl_GoodSchema.l0 kq l0 l0 (l0.length : Int) x10_1 = some r) ∧ Aside0 (kq ≤ k) ∧ Aside0 (Below w.heap.size w w'))
  case atStart => exact ⟨(0), z1, H', ⟨Nat.le_refl _⟩, ⟨y3⟩⟩
  case round =>
   clear H'
   try clear c2
   try clear c2b0
   try clear c2b1
   try clear p2
   obtain ⟨x10_1, rfl, HA, HK1, HB⟩ := hrel
   cases gk with
   | zero => exact absurd HA.out (by simp [impl_GoodSchema.l0])
   | succ k1 =>
    have H := HA.out
    clear HA
    simp only [impl_GoodSchema.l0] at H
    by_cases c3 : x10_1 < (l0.length : Int)
    ·rw [if_pos c3] at H
     have c3b0 : decide (x10_1 < (l0.length : Int)) = true := dT c3
     clear c3
     by_cases c4 : 0 ≤ x10_1
     ·rw [if_pos c4] at H
      have c4b0 : decide (0 ≤ x10_1) = true := dT c4
      clear c4
      by_cases c5 : x10_1 < (l0.length : Int)
      ·rw [if_pos c5] at H
       have c5b0 : decide (x10_1 < (l0.length : Int)) = true := dT c5
       clear c5
       by_cases c6 : ((rd_T38 l0 x10_1).f0).toList = ([45] : List UInt8)
       ·rw [if_pos c6] at H
        have c6b0 : (((rd_T38 l0 x10_1).f0).toList == ([45] : List UInt8)) = true := qT c6
        have c6b1 : (((rd_T38 l0 x10_1).f0).toList != ([45] : List UInt8)) = false := nF c6
        clear c6
        replace H := oB H
        obtain ⟨cR, cw, H⟩ := H
        try dsimp only at H
        have A7 := aM cw
        clear cw
        by_cases c8 : cR = true
        ·subst c8
         rw [if_pos rfl] at H
         by_cases c9 : x10_1 > 0
         ·rw [if_pos c9] at H
          have c9b0 : decide (0 < x10_1) = true := dT c9
          clear c9
          obtain ⟨aY, bE⟩ : ∃ j_ : Int, (wrap64 (x10_1 - 1)) = j_ := ⟨_, rfl⟩
          replace H : (if 0 ≤ (aY) then (if (aY) < (l0.length : Int) then (if ((Op.bytesLess (((rd_T38 l0 (aY)).f0).toList) (((rd_T38 l0 x10_1).f0).toList)) = true) then (impl_GoodSchema.l0 k1 l0 l0 (l0.length : Int) (wrap64 (x10_1 + 1))) else (some false)) else (none)) else (none)) = some r := by first | (rw [bE] at H; exact H) | (simp only [bE] at H ⊢; exact H)
          (try rw [bE] at A7)
          have hji10w : (IntKind.i64.wrap (x10_1 - 1)) = aY := (i64_w _).trans bE
          by_cases bj : 0 ≤ (aY)
          ·rw [if_pos bj] at H
           have c11b0 : decide (0 ≤ (aY)) = true := dT bj
           clear bj
           by_cases bq : (aY) < (l0.length : Int)
           ·rw [if_pos bq] at H
            have c12b0 : decide ((aY) < (l0.length : Int)) = true := dT bq
            clear bq
            by_cases bG : ((Op.bytesLess (((rd_T38 l0 (aY)).f0).toList) (((rd_T38 l0 x10_1).f0).toList)) = true)
            ·rw [if_pos bG] at H
             have c13b0 : (Op.bytesLess (((rd_T38 l0 (aY)).f0).toList) (((rd_T38 l0 x10_1).f0).toList)) = true := bG
             clear bG
             have H' := aM H
             clear H
             have p145 : 0 ≤ (x10_1 : Int) := oD z2
             have q145 : x10_1 < (l0.length : Int) := oD z2
             obtain ⟨ad145, e145, hx145_0, hx145_1⟩ := at_T38 bh.out x10_1 p145 q145
             cases e145
             replace hx145_0 := (HB.out.cell (World.block_lt_of_cell? w _ hx145_0)).trans hx145_0
             replace hx145_1 := (HB.out.cell (World.block_lt_of_cell? w _ hx145_1)).trans hx145_1
             replace p145 := eq_true p145
             replace q145 := eq_true q145
             try go_wp2_with (first | ((with_reducible refine ar (N := 4) rfl ?_); refine au ?hg (N := 4) ?hd (cs := #[.string (⟨#[]⟩ : ByteArray), .string (⟨#[]⟩ : ByteArray)]) (t := 38) ?hr ?_; (case hd => rfl); (case hg => rfl); (case hr => first | (go_simp; done) | (go_simp; rfl)); intro ay hg w14 hbox hb; have aA := aM (al z6 hb); have aC := aM (hbox); have aG := aM ((by rw [hg]; exact (am z6) : w.heap.size ≤ ay)); have aN := aM ((by rw [hg]; exact (am z6) : w.heap.size ≤ ay)); clear HB; have HB := aA; have aw := aC; have bw := aG; have a3 := aN; clear aA aC aG aN; clear hb hbox hg; have hcz15_0 : w14.cell? ⟨ay, 0, none⟩ = some (.string (⟨#[]⟩ : ByteArray)) := (bC aw.out 0).trans rfl; have hcz15_1 : w14.cell? ⟨ay, 1, none⟩ = some (.string (⟨#[]⟩ : ByteArray)) := (bC aw.out 1).trans rfl; have hfz15_0 := bF aw.out 0; have hfz15_1 := bF aw.out 1))
             have aA : Aside0 (((w14.setCell ⟨ay, 0, none⟩ (.string ((rd_T38 l0 x10_1).f0))).setCell ⟨ay, 1, none⟩ (.string ((rd_T38 l0 x10_1).f1))).heap[ay]? = some (.cells #[.string ((rd_T38 l0 x10_1).f0), .string ((rd_T38 l0 x10_1).f1)] 38 (0, 0))) := ⟨y19⟩
             have aC : Aside0 (Below w.heap.size w ((w14.setCell ⟨ay, 0, none⟩ (.string ((rd_T38 l0 x10_1).f0))).setCell ⟨ay, 1, none⟩ (.string ((rd_T38 l0 x10_1).f1)))) := ⟨y7⟩
             (try clear aw)
             (try clear HB)
             generalize ((w14.setCell ⟨ay, 0, none⟩ (.string ((rd_T38 l0 x10_1).f0))).setCell ⟨ay, 1, none⟩ (.string ((rd_T38 l0 x10_1).f1))) = w16 at aA aC ⊢
             have aw := aA
             have HB := aC
             clear aA aC
             have aA := aM (ah aw.out)
             have aC := aM (bD HB.out)
             clear aw
             clear HB
             have aw := aA
             have HB := aC
             clear aA aC
             have p148 : 0 ≤ ((aY) : Int) := oD z2
             have q148 : (aY) < (l0.length : Int) := oD z2
             obtain ⟨ad148, e148, hx148_0, hx148_1⟩ := at_T38 bh.out (aY) p148 q148
             have hw148_1 := hx148_1
             have hw148_0 := hx148_0
             obtain rfl : ad145 = ad148 := (by injection e148)
             replace hx148_0 := (HB.out.cell (World.block_lt_of_cell? w _ hx148_0)).trans hx148_0
             replace hx148_1 := (HB.out.cell (World.block_lt_of_cell? w _ hx148_1)).trans hx148_1
             replace p148 := eq_true p148
             replace q148 := eq_true q148
             refine start_ (n := 30) (S := fun w' => w'.cell? ⟨ay, 0, none⟩ = some (.string ((rd_T38 l0 x10_1).f0)) ∧ w'.cell? ⟨ay, 1, none⟩ = some (.string ((rd_T38 l0 x10_1).f1)) ∧ w'.cell? (ad145.add (((aY)).toNat * 2)) = some (.string ((rd_T38 l0 (aY)).f0)) ∧ w'.cell? ⟨(ad145.add (((aY)).toNat * 2)).block, (ad145.add (((aY)).toNat * 2)).off + 1, none⟩ = some (.string ((rd_T38 l0 (aY)).f1))) (ds := []) #[false, false, false, false, false, false, false, false, false, false, false, false, false, false, false, false, false, false, false, false, false, false, false, false, false, false, false, false, false, false] z0 rfl rfl ⟨(bC aw.out 0).trans rfl, (bC aw.out 1).trans rfl, ((HB.out.cell (World.block_lt_of_cell? w _ hw148_0)).trans hw148_0), ((HB.out.cell (World.block_lt_of_cell? w _ hw148_1)).trans hw148_1)⟩ (fun hHeld => ?_); refine with_tabW impl_GoodSchema.tab6 impl_GoodSchema.bits6 (fun HT_ HW_ => ?_)
             generalize w16.drew = w17 at aw HB hx148_0 hx148_1 hHeld ⊢
             refine pA 0 15 ?_
             refine tA 1 16 ?_ (hy := by rintro w' ⟨s0, s1, s2, s3⟩; go_simp; with_reducible rfl)
             refine pA 2 17 ?_
             refine pA 3 18 ?_
             refine pB 4 19 ?_
             refine pB 5 20 ?_
             refine pB 6 21 ?_
             refine pB 7 22 ?_
             refine pA 8 23 ?_
             refine pA 9 24 ?_
             refine pA 10 25 ?_
             refine tA 11 26 ?_ (hy := by rintro w' ⟨s0, s1, s2, s3⟩; go_simp; with_reducible rfl)
             refine one_ (i := 12) (N := some 27) #[true, true, true, true, true, true, true, true, true, true, true, true, true, false, false, false, false, false, false, false, false, false, false, false, false, false, false, false, false, false] rfl rfl (one_of HT_.out z0) (by decide) (fun K hK => ?_)
             refine goes_ Try.func22 z0 rfl #[.string ((rd_T38 l0 x10_1).f1)] (by rfl) rfl rfl z7 ?_
             with_reducible refine (impl_GoodExpr.calls k1 ((rd_T38 l0 x10_1).f1) true _ A7.out).mono ?_
             rintro e w18 ⟨rfl, hb⟩
             refine ⟨_, rfl, ?_⟩
             have aA := aM (ae (g := ay) (o := .cells #[.string ((rd_T38 l0 x10_1).f0), .string ((rd_T38 l0 x10_1).f1)] 38 (0, 0)) (by (with_reducible repeat (first | refine ai ?_ _ | refine ah ?_ | refine aj ?_ _)); exact aw.out) hb)
             have aC := aM (al (by repeat (first | (with_reducible first | exact HB.out | apply bA | apply pD | apply bD | refine ak ?_ a3.out) | exact HB.out)) hb)
             clear aw
             clear HB
             have aw := aA
             have HB := aC
             clear aA aC
             (try clear hb)
             (try clear hb2)
             (try clear hk)
             (try clear hi)
             refine hK.out _ _ ⟨(bC aw.out 0).trans rfl, (bC aw.out 1).trans rfl, ((HB.out.cell (World.block_lt_of_cell? w _ hw148_0)).trans hw148_0), ((HB.out.cell (World.block_lt_of_cell? w _ hw148_1)).trans hw148_1)⟩ (fun hHeld => ?_)
             clear hK K
             refine norm_ (a' := ?_) ?_ ?_
             rotate_left
             ·show Act.put _ (some 27) _ = _
              simp only [Act.put, sA, sB, sC, i64_w, i32_w]
              rfl
             refine pA 13 28 ?_
             refine pA 14 29 ?_
             refine pA 15 30 ?_
             refine pA 16 31 ?_
             refine pA 17 32 ?_
             refine pA 18 33 ?_
             refine pA 19 34 ?_
             refine pA 20 35 ?_
             refine pA 21 36 ?_
             refine pA 22 37 ?_
             refine pA 23 38 ?_
             refine pA 25 40 ?_
             refine tA 24 39 ?_ (hy := by rintro w' ⟨s0, s1, s2, s3⟩; go_simp; with_reducible rfl)
             refine tA 26 41 ?_ (hy := by rintro w' ⟨s0, s1, s2, s3⟩; go_simp; with_reducible rfl)
             refine pA 27 42 ?_
             refine pA 28 43 ?_
             refine pA 29 44 ?_
             refine done_ (done_of HT_.out z0) ?_
             try go_wp2
             go_roundg k1
             case measure => have := HK1.out; omega
             case rel => exact ⟨(wrap64 (x10_1 + 1)), z1, (by first | exact H' | (simp only [bE]; exact H') | (simp only [← bE]; exact H')), ⟨by have := HK1.out; omega⟩, ⟨y7⟩⟩
            ·rw [if_neg bG] at H
             have c13b0 : (Op.bytesLess (((rd_T38 l0 (aY)).f0).toList) (((rd_T38 l0 x10_1).f0).toList)) = false := by simpa using bG
             clear bG
             obtain rfl := sI H
             have p145 : 0 ≤ (x10_1 : Int) := oD z2
             have q145 : x10_1 < (l0.length : Int) := oD z2
             obtain ⟨ad145, e145, hx145_0, hx145_1⟩ := at_T38 bh.out x10_1 p145 q145
             cases e145
             replace hx145_0 := (HB.out.cell (World.block_lt_of_cell? w _ hx145_0)).trans hx145_0
             replace hx145_1 := (HB.out.cell (World.block_lt_of_cell? w _ hx145_1)).trans hx145_1
             replace p145 := eq_true p145
             replace q145 := eq_true q145
             try go_wp2_with (first | ((with_reducible refine ar (N := 4) rfl ?_); refine au ?hg (N := 4) ?hd (cs := #[.string (⟨#[]⟩ : ByteArray), .string (⟨#[]⟩ : ByteArray)]) (t := 38) ?hr ?_; (case hd => rfl); (case hg => rfl); (case hr => first | (go_simp; done) | (go_simp; rfl)); intro ay hg w19 hbox hb; have aA := aM (al z6 hb); have aC := aM (hbox); have aG := aM ((by rw [hg]; exact (am z6) : w.heap.size ≤ ay)); have aN := aM ((by rw [hg]; exact (am z6) : w.heap.size ≤ ay)); clear HB; have HB := aA; have aw := aC; have bw := aG; have a3 := aN; clear aA aC aG aN; clear hb hbox hg; have hcz20_0 : w19.cell? ⟨ay, 0, none⟩ = some (.string (⟨#[]⟩ : ByteArray)) := (bC aw.out 0).trans rfl; have hcz20_1 : w19.cell? ⟨ay, 1, none⟩ = some (.string (⟨#[]⟩ : ByteArray)) := (bC aw.out 1).trans rfl; have hfz20_0 := bF aw.out 0; have hfz20_1 := bF aw.out 1))
             have aA : Aside0 (((w19.setCell ⟨ay, 0, none⟩ (.string ((rd_T38 l0 x10_1).f0))).setCell ⟨ay, 1, none⟩ (.string ((rd_T38 l0 x10_1).f1))).heap[ay]? = some (.cells #[.string ((rd_T38 l0 x10_1).f0), .string ((rd_T38 l0 x10_1).f1)] 38 (0, 0))) := ⟨y19⟩
             have aC : Aside0 (Below w.heap.size w ((w19.setCell ⟨ay, 0, none⟩ (.string ((rd_T38 l0 x10_1).f0))).setCell ⟨ay, 1, none⟩ (.string ((rd_T38 l0 x10_1).f1)))) := ⟨y7⟩
             (try clear aw)
             (try clear HB)
             generalize ((w19.setCell ⟨ay, 0, none⟩ (.string ((rd_T38 l0 x10_1).f0))).setCell ⟨ay, 1, none⟩ (.string ((rd_T38 l0 x10_1).f1))) = w21 at aA aC ⊢
             have aw := aA
             have HB := aC
             clear aA aC
             have aA := aM (ah aw.out)
             have aC := aM (bD HB.out)
             clear aw
             clear HB
             have aw := aA
             have HB := aC
             clear aA aC
             have p148 : 0 ≤ ((aY) : Int) := oD z2
             have q148 : (aY) < (l0.length : Int) := oD z2
             obtain ⟨ad148, e148, hx148_0, hx148_1⟩ := at_T38 bh.out (aY) p148 q148
             have hw148_1 := hx148_1
             have hw148_0 := hx148_0
             obtain rfl : ad145 = ad148 := (by injection e148)
             replace hx148_0 := (HB.out.cell (World.block_lt_of_cell? w _ hx148_0)).trans hx148_0
             replace hx148_1 := (HB.out.cell (World.block_lt_of_cell? w _ hx148_1)).trans hx148_1
             replace p148 := eq_true p148
             replace q148 := eq_true q148
             refine start_ (n := 30) (S := fun w' => w'.cell? ⟨ay, 0, none⟩ = some (.string ((rd_T38 l0 x10_1).f0)) ∧ w'.cell? ⟨ay, 1, none⟩ = some (.string ((rd_T38 l0 x10_1).f1)) ∧ w'.cell? (ad145.add (((aY)).toNat * 2)) = some (.string ((rd_T38 l0 (aY)).f0)) ∧ w'.cell? ⟨(ad145.add (((aY)).toNat * 2)).block, (ad145.add (((aY)).toNat * 2)).off + 1, none⟩ = some (.string ((rd_T38 l0 (aY)).f1))) (ds := []) #[false, false, false, false, false, false, false, false, false, false, false, false, false, false, false, false, false, false, false, false, false, false, false, false, false, false, false, false, false, false] z0 rfl rfl ⟨(bC aw.out 0).trans rfl, (bC aw.out 1).trans rfl, ((HB.out.cell (World.block_lt_of_cell? w _ hw148_0)).trans hw148_0), ((HB.out.cell (World.block_lt_of_cell? w _ hw148_1)).trans hw148_1)⟩ (fun hHeld => ?_); refine with_tabW impl_GoodSchema.tab6 impl_GoodSchema.bits6 (fun HT_ HW_ => ?_)
             generalize w21.drew = w22 at aw HB hx148_0 hx148_1 hHeld ⊢
             refine pA 0 15 ?_
             refine tA 1 16 ?_ (hy := by rintro w' ⟨s0, s1, s2, s3⟩; go_simp; with_reducible rfl)
             refine pA 2 17 ?_
             refine pA 3 18 ?_
             refine pB 4 19 ?_
             refine pB 5 20 ?_
             refine pB 6 21 ?_
             refine pB 7 22 ?_
             refine pA 8 23 ?_
             refine pA 9 24 ?_
             refine pA 10 25 ?_
             refine tA 11 26 ?_ (hy := by rintro w' ⟨s0, s1, s2, s3⟩; go_simp; with_reducible rfl)
             refine one_ (i := 12) (N := some 27) #[true, true, true, true, true, true, true, true, true, true, true, true, true, false, false, false, false, false, false, false, false, false, false, false, false, false, false, false, false, false] rfl rfl (one_of HT_.out z0) (by decide) (fun K hK => ?_)
             refine goes_ Try.func22 z0 rfl #[.string ((rd_T38 l0 x10_1).f1)] (by rfl) rfl rfl z7 ?_
             with_reducible refine (impl_GoodExpr.calls k1 ((rd_T38 l0 x10_1).f1) true _ A7.out).mono ?_
             rintro e w23 ⟨rfl, hb⟩
             refine ⟨_, rfl, ?_⟩
             have aA := aM (ae (g := ay) (o := .cells #[.string ((rd_T38 l0 x10_1).f0), .string ((rd_T38 l0 x10_1).f1)] 38 (0, 0)) (by (with_reducible repeat (first | refine ai ?_ _ | refine ah ?_ | refine aj ?_ _)); exact aw.out) hb)
             have aC := aM (al (by repeat (first | (with_reducible first | exact HB.out | apply bA | apply pD | apply bD | refine ak ?_ a3.out) | exact HB.out)) hb)
             clear aw
             clear HB
             have aw := aA
             have HB := aC
             clear aA aC
             (try clear hb)
             (try clear hb2)
             (try clear hk)
             (try clear hi)
             refine hK.out _ _ ⟨(bC aw.out 0).trans rfl, (bC aw.out 1).trans rfl, ((HB.out.cell (World.block_lt_of_cell? w _ hw148_0)).trans hw148_0), ((HB.out.cell (World.block_lt_of_cell? w _ hw148_1)).trans hw148_1)⟩ (fun hHeld => ?_)
             clear hK K
             refine norm_ (a' := ?_) ?_ ?_
             rotate_left
             ·show Act.put _ (some 27) _ = _
              simp only [Act.put, sA, sB, sC, i64_w, i32_w]
              rfl
             refine pA 13 28 ?_
             refine pA 14 29 ?_
             refine pA 15 30 ?_
             refine pA 16 31 ?_
             refine pA 17 32 ?_
             refine pA 18 33 ?_
             refine pA 19 34 ?_
             refine pA 20 35 ?_
             refine pA 21 36 ?_
             refine pA 22 37 ?_
             refine pA 23 38 ?_
             refine pA 25 40 ?_
             refine tA 24 39 ?_ (hy := by rintro w' ⟨s0, s1, s2, s3⟩; go_simp; with_reducible rfl)
             refine tA 26 41 ?_ (hy := by rintro w' ⟨s0, s1, s2, s3⟩; go_simp; with_reducible rfl)
             refine pA 27 42 ?_
             refine pA 28 43 ?_
             refine pA 29 44 ?_
             refine done_ (done_of HT_.out z0) ?_
             try go_wp2
             go_ret
             exact ⟨by first | rfl | (simp [errW_none, errW_some] <;> rfl) | (simp only [← bE]; first | rfl | (simp [errW_none, errW_some] <;> rfl)) | (simp [*, errW_none, errW_some] <;> rfl), y7⟩
           ·rw [if_neg bq] at H
            exact absurd H (by simp)
          ·rw [if_neg bj] at H
           exact absurd H (by simp)
         ·rw [if_neg c9] at H
          have c9b0 : decide (0 < x10_1) = false := dF c9
          clear c9
          have H' := aM H
          clear H
          have p145 : 0 ≤ (x10_1 : Int) := oD z2
          have q145 : x10_1 < (l0.length : Int) := oD z2
          obtain ⟨ad145, e145, hx145_0, hx145_1⟩ := at_T38 bh.out x10_1 p145 q145
          cases e145
          replace hx145_0 := (HB.out.cell (World.block_lt_of_cell? w _ hx145_0)).trans hx145_0
          replace hx145_1 := (HB.out.cell (World.block_lt_of_cell? w _ hx145_1)).trans hx145_1
          replace p145 := eq_true p145
          replace q145 := eq_true q145
          try go_wp2_with (first | ((with_reducible refine ar (N := 4) rfl ?_); refine au ?hg (N := 4) ?hd (cs := #[.string (⟨#[]⟩ : ByteArray), .string (⟨#[]⟩ : ByteArray)]) (t := 38) ?hr ?_; (case hd => rfl); (case hg => rfl); (case hr => first | (go_simp; done) | (go_simp; rfl)); intro ay hg w24 hbox hb; have aA := aM (al z6 hb); have aC := aM (hbox); have aG := aM ((by rw [hg]; exact (am z6) : w.heap.size ≤ ay)); have aN := aM ((by rw [hg]; exact (am z6) : w.heap.size ≤ ay)); clear HB; have HB := aA; have aw := aC; have bw := aG; have a3 := aN; clear aA aC aG aN; clear hb hbox hg; have hcz25_0 : w24.cell? ⟨ay, 0, none⟩ = some (.string (⟨#[]⟩ : ByteArray)) := (bC aw.out 0).trans rfl; have hcz25_1 : w24.cell? ⟨ay, 1, none⟩ = some (.string (⟨#[]⟩ : ByteArray)) := (bC aw.out 1).trans rfl; have hfz25_0 := bF aw.out 0; have hfz25_1 := bF aw.out 1))
          have aA : Aside0 (((w24.setCell ⟨ay, 0, none⟩ (.string ((rd_T38 l0 x10_1).f0))).setCell ⟨ay, 1, none⟩ (.string ((rd_T38 l0 x10_1).f1))).heap[ay]? = some (.cells #[.string ((rd_T38 l0 x10_1).f0), .string ((rd_T38 l0 x10_1).f1)] 38 (0, 0))) := ⟨y19⟩
          have aC : Aside0 (Below w.heap.size w ((w24.setCell ⟨ay, 0, none⟩ (.string ((rd_T38 l0 x10_1).f0))).setCell ⟨ay, 1, none⟩ (.string ((rd_T38 l0 x10_1).f1)))) := ⟨y7⟩
          (try clear aw)
          (try clear HB)
          generalize ((w24.setCell ⟨ay, 0, none⟩ (.string ((rd_T38 l0 x10_1).f0))).setCell ⟨ay, 1, none⟩ (.string ((rd_T38 l0 x10_1).f1))) = w26 at aA aC ⊢
          have aw := aA
          have HB := aC
          clear aA aC
          have aA := aM (ah aw.out)
          have aC := aM (bD HB.out)
          clear aw
          clear HB
          have aw := aA
          have HB := aC
          clear aA aC
          refine start_ (n := 30) (S := fun w' => w'.cell? ⟨ay, 0, none⟩ = some (.string ((rd_T38 l0 x10_1).f0)) ∧ w'.cell? ⟨ay, 1, none⟩ = some (.string ((rd_T38 l0 x10_1).f1))) (ds := []) #[false, false, false, false, false, false, false, false, false, false, false, false, false, false, false, false, false, false, false, false, false, false, false, false, false, false, false, false, false, false] z0 rfl rfl ⟨(bC aw.out 0).trans rfl, (bC aw.out 1).trans rfl⟩ (fun hHeld => ?_); refine with_tabW impl_GoodSchema.tab6 impl_GoodSchema.bits6 (fun HT_ HW_ => ?_)
          generalize w26.drew = w27 at aw HB hHeld ⊢
          refine pA 0 15 ?_
          refine tA 1 16 ?_ (hy := by rintro w' ⟨s0, s1⟩; go_simp; with_reducible rfl)
          refine pA 2 17 ?_
          refine pA 3 18 ?_
          refine pB 4 19 ?_
          refine pB 5 20 ?_
          refine pB 6 21 ?_
          refine pB 7 22 ?_
          refine pA 8 23 ?_
          refine pA 9 24 ?_
          refine pA 10 25 ?_
          refine tA 11 26 ?_ (hy := by rintro w' ⟨s0, s1⟩; go_simp; with_reducible rfl)
          refine one_ (i := 12) (N := some 27) #[true, true, true, true, true, true, true, true, true, true, true, true, true, false, false, false, false, false, false, false, false, false, false, false, false, false, false, false, false, false] rfl rfl (one_of HT_.out z0) (by decide) (fun K hK => ?_)
          refine goes_ Try.func22 z0 rfl #[.string ((rd_T38 l0 x10_1).f1)] (by rfl) rfl rfl z7 ?_
          with_reducible refine (impl_GoodExpr.calls k1 ((rd_T38 l0 x10_1).f1) true _ A7.out).mono ?_
          rintro e w28 ⟨rfl, hb⟩
          refine ⟨_, rfl, ?_⟩
          have aA := aM (ae (g := ay) (o := .cells #[.string ((rd_T38 l0 x10_1).f0), .string ((rd_T38 l0 x10_1).f1)] 38 (0, 0)) (by (with_reducible repeat (first | refine ai ?_ _ | refine ah ?_ | refine aj ?_ _)); exact aw.out) hb)
          have aC := aM (al (by repeat (first | (with_reducible first | exact HB.out | apply bA | apply pD | apply bD | refine ak ?_ a3.out) | exact HB.out)) hb)
          clear aw
          clear HB
          have aw := aA
          have HB := aC
          clear aA aC
          (try clear hb)
          (try clear hb2)
          (try clear hk)
          (try clear hi)
          refine hK.out _ _ ⟨(bC aw.out 0).trans rfl, (bC aw.out 1).trans rfl⟩ (fun hHeld => ?_)
          clear hK K
          refine norm_ (a' := ?_) ?_ ?_
          rotate_left
          ·show Act.put _ (some 27) _ = _
           simp only [Act.put, sA, sB, sC, i64_w, i32_w]
           rfl
          refine pA 13 28 ?_
          refine pA 14 29 ?_
          refine pA 15 30 ?_
          refine pA 16 31 ?_
          refine pA 17 32 ?_
          refine pA 18 33 ?_
          refine pB 19 34 ?_
          refine pB 20 35 ?_
          refine pB 21 36 ?_
          refine pB 22 37 ?_
          refine pB 23 38 ?_
          refine pB 24 39 ?_
          refine pB 25 40 ?_
          refine pB 26 41 ?_
          refine pB 27 42 ?_
          refine pA 28 43 ?_
          refine pA 29 44 ?_
          refine done_ (done_of HT_.out z0) ?_
          try go_wp2
          go_roundg k1
          case measure => have := HK1.out; omega
          case rel => exact ⟨(wrap64 (x10_1 + 1)), z1, H', ⟨by have := HK1.out; omega⟩, ⟨y7⟩⟩
        ·replace c8 := Bool.eq_false_iff.mpr c8
         subst c8
         rw [if_neg (show ¬ (false = true) by decide)] at H
         obtain rfl := sI H
         have p145 : 0 ≤ (x10_1 : Int) := oD z2
         have q145 : x10_1 < (l0.length : Int) := oD z2
         obtain ⟨ad145, e145, hx145_0, hx145_1⟩ := at_T38 bh.out x10_1 p145 q145
         cases e145
         replace hx145_0 := (HB.out.cell (World.block_lt_of_cell? w _ hx145_0)).trans hx145_0
         replace hx145_1 := (HB.out.cell (World.block_lt_of_cell? w _ hx145_1)).trans hx145_1
         replace p145 := eq_true p145
         replace q145 := eq_true q145
         try go_wp2_with (first | ((with_reducible refine ar (N := 4) rfl ?_); refine au ?hg (N := 4) ?hd (cs := #[.string (⟨#[]⟩ : ByteArray), .string (⟨#[]⟩ : ByteArray)]) (t := 38) ?hr ?_; (case hd => rfl); (case hg => rfl); (case hr => first | (go_simp; done) | (go_simp; rfl)); intro ay hg w29 hbox hb; have aA := aM (al z6 hb); have aC := aM (hbox); have aG := aM ((by rw [hg]; exact (am z6) : w.heap.size ≤ ay)); have aN := aM ((by rw [hg]; exact (am z6) : w.heap.size ≤ ay)); clear HB; have HB := aA; have aw := aC; have bw := aG; have a3 := aN; clear aA aC aG aN; clear hb hbox hg; have hcz30_0 : w29.cell? ⟨ay, 0, none⟩ = some (.string (⟨#[]⟩ : ByteArray)) := (bC aw.out 0).trans rfl; have hcz30_1 : w29.cell? ⟨ay, 1, none⟩ = some (.string (⟨#[]⟩ : ByteArray)) := (bC aw.out 1).trans rfl; have hfz30_0 := bF aw.out 0; have hfz30_1 := bF aw.out 1))
         have aA : Aside0 (((w29.setCell ⟨ay, 0, none⟩ (.string ((rd_T38 l0 x10_1).f0))).setCell ⟨ay, 1, none⟩ (.string ((rd_T38 l0 x10_1).f1))).heap[ay]? = some (.cells #[.string ((rd_T38 l0 x10_1).f0), .string ((rd_T38 l0 x10_1).f1)] 38 (0, 0))) := ⟨y19⟩
         have aC : Aside0 (Below w.heap.size w ((w29.setCell ⟨ay, 0, none⟩ (.string ((rd_T38 l0 x10_1).f0))).setCell ⟨ay, 1, none⟩ (.string ((rd_T38 l0 x10_1).f1)))) := ⟨y7⟩
         (try clear aw)
         (try clear HB)
         generalize ((w29.setCell ⟨ay, 0, none⟩ (.string ((rd_T38 l0 x10_1).f0))).setCell ⟨ay, 1, none⟩ (.string ((rd_T38 l0 x10_1).f1))) = w31 at aA aC ⊢
         have aw := aA
         have HB := aC
         clear aA aC
         have aA := aM (ah aw.out)
         have aC := aM (bD HB.out)
         clear aw
         clear HB
         have aw := aA
         have HB := aC
         clear aA aC
         refine start_ (n := 30) (S := fun w' => w'.cell? ⟨ay, 0, none⟩ = some (.string ((rd_T38 l0 x10_1).f0)) ∧ w'.cell? ⟨ay, 1, none⟩ = some (.string ((rd_T38 l0 x10_1).f1))) (ds := []) #[false, false, false, false, false, false, false, false, false, false, false, false, false, false, false, false, false, false, false, false, false, false, false, false, false, false, false, false, false, false] z0 rfl rfl ⟨(bC aw.out 0).trans rfl, (bC aw.out 1).trans rfl⟩ (fun hHeld => ?_); refine with_tabW impl_GoodSchema.tab6 impl_GoodSchema.bits6 (fun HT_ HW_ => ?_)
         generalize w31.drew = w32 at aw HB hHeld ⊢
         refine pA 0 15 ?_
         refine tA 1 16 ?_ (hy := by rintro w' ⟨s0, s1⟩; go_simp; with_reducible rfl)
         refine pA 2 17 ?_
         refine pA 3 18 ?_
         refine pB 4 19 ?_
         refine pB 5 20 ?_
         refine pB 6 21 ?_
         refine pB 7 22 ?_
         refine pA 8 23 ?_
         refine pA 9 24 ?_
         refine pA 10 25 ?_
         refine tA 11 26 ?_ (hy := by rintro w' ⟨s0, s1⟩; go_simp; with_reducible rfl)
         refine one_ (i := 12) (N := some 27) #[true, true, true, true, true, true, true, true, true, true, true, true, true, false, false, false, false, false, false, false, false, false, false, false, false, false, false, false, false, false] rfl rfl (one_of HT_.out z0) (by decide) (fun K hK => ?_)
         refine goes_ Try.func22 z0 rfl #[.string ((rd_T38 l0 x10_1).f1)] (by rfl) rfl rfl z7 ?_
         with_reducible refine (impl_GoodExpr.calls k1 ((rd_T38 l0 x10_1).f1) false _ A7.out).mono ?_
         rintro e w33 ⟨rfl, hb⟩
         refine ⟨_, rfl, ?_⟩
         have aA := aM (ae (g := ay) (o := .cells #[.string ((rd_T38 l0 x10_1).f0), .string ((rd_T38 l0 x10_1).f1)] 38 (0, 0)) (by (with_reducible repeat (first | refine ai ?_ _ | refine ah ?_ | refine aj ?_ _)); exact aw.out) hb)
         have aC := aM (al (by repeat (first | (with_reducible first | exact HB.out | apply bA | apply pD | apply bD | refine ak ?_ a3.out) | exact HB.out)) hb)
         clear aw
         clear HB
         have aw := aA
         have HB := aC
         clear aA aC
         (try clear hb)
         (try clear hb2)
         (try clear hk)
         (try clear hi)
         refine hK.out _ _ ⟨(bC aw.out 0).trans rfl, (bC aw.out 1).trans rfl⟩ (fun hHeld => ?_)
         clear hK K
         refine norm_ (a' := ?_) ?_ ?_
         rotate_left
         ·show Act.put _ (some 27) _ = _
          simp only [Act.put, sA, sB, sC, i64_w, i32_w]
          rfl
         refine pA 13 28 ?_
         refine pA 14 29 ?_
         refine pA 15 30 ?_
         refine pB 16 31 ?_
         refine pB 17 32 ?_
         refine pB 18 33 ?_
         refine pB 19 34 ?_
         refine pB 20 35 ?_
         refine pB 21 36 ?_
         refine pB 22 37 ?_
         refine pB 23 38 ?_
         refine pB 24 39 ?_
         refine pB 25 40 ?_
         refine pB 26 41 ?_
         refine pB 27 42 ?_
         refine pB 28 43 ?_
         refine pA 29 44 ?_
         refine done_ (done_of HT_.out z0) ?_
         try go_wp2
         go_ret
         exact ⟨y2, y7⟩
       ·rw [if_neg c6] at H
        have c6b0 : (((rd_T38 l0 x10_1).f0).toList == ([45] : List UInt8)) = false := qF c6
        have c6b1 : (((rd_T38 l0 x10_1).f0).toList != ([45] : List UInt8)) = true := nT c6
        replace H := oB H
        obtain ⟨cQ, dz, H⟩ := H
        try dsimp only at H
        have dd := aM dz
        clear dz
        by_cases dJ : cQ = true
        ·subst dJ
         rw [if_pos rfl] at H
         replace H := oB H
         obtain ⟨cP, dv, H⟩ := H
         try dsimp only at H
         have dw := aM dv
         clear dv
         by_cases bY : cP = true
         ·subst bY
          rw [if_pos rfl] at H
          by_cases cm : x10_1 > 0
          ·rw [if_pos cm] at H
           have c38b0 : decide (0 < x10_1) = true := dT cm
           clear cm
           obtain ⟨aV, br⟩ : ∃ j_ : Int, (wrap64 (x10_1 - 1)) = j_ := ⟨_, rfl⟩
           replace H : (if 0 ≤ (aV) then (if (aV) < (l0.length : Int) then (if ((Op.bytesLess (((rd_T38 l0 (aV)).f0).toList) (((rd_T38 l0 x10_1).f0).toList)) = true) then (impl_GoodSchema.l0 k1 l0 l0 (l0.length : Int) (wrap64 (x10_1 + 1))) else (some false)) else (none)) else (none)) = some r := by first | (rw [br] at H; exact H) | (simp only [br] at H ⊢; exact H)
           (try rw [br] at dd)
           (try rw [br] at dw)
           have hji39w : (IntKind.i64.wrap (x10_1 - 1)) = aV := (i64_w _).trans br
           by_cases b4 : 0 ≤ (aV)
           ·rw [if_pos b4] at H
            have c40b0 : decide (0 ≤ (aV)) = true := dT b4
            clear b4
            by_cases b3 : (aV) < (l0.length : Int)
            ·rw [if_pos b3] at H
             have c41b0 : decide ((aV) < (l0.length : Int)) = true := dT b3
             clear b3
             by_cases bH : ((Op.bytesLess (((rd_T38 l0 (aV)).f0).toList) (((rd_T38 l0 x10_1).f0).toList)) = true)
             ·rw [if_pos bH] at H
              have c42b0 : (Op.bytesLess (((rd_T38 l0 (aV)).f0).toList) (((rd_T38 l0 x10_1).f0).toList)) = true := bH
              clear bH
              have H' := aM H
              clear H
              have p145 : 0 ≤ (x10_1 : Int) := oD z2
              have q145 : x10_1 < (l0.length : Int) := oD z2
              obtain ⟨ad145, e145, hx145_0, hx145_1⟩ := at_T38 bh.out x10_1 p145 q145
              cases e145
              replace hx145_0 := (HB.out.cell (World.block_lt_of_cell? w _ hx145_0)).trans hx145_0
              replace hx145_1 := (HB.out.cell (World.block_lt_of_cell? w _ hx145_1)).trans hx145_1
              replace p145 := eq_true p145
              replace q145 := eq_true q145
              try go_wp2_with (first | ((with_reducible refine ar (N := 4) rfl ?_); refine au ?hg (N := 4) ?hd (cs := #[.string (⟨#[]⟩ : ByteArray), .string (⟨#[]⟩ : ByteArray)]) (t := 38) ?hr ?_; (case hd => rfl); (case hg => rfl); (case hr => first | (go_simp; done) | (go_simp; rfl)); intro ay hg w43 hbox hb; have aA := aM (al z6 hb); have aC := aM (hbox); have aG := aM ((by rw [hg]; exact (am z6) : w.heap.size ≤ ay)); have aN := aM ((by rw [hg]; exact (am z6) : w.heap.size ≤ ay)); clear HB; have HB := aA; have aw := aC; have bw := aG; have a3 := aN; clear aA aC aG aN; clear hb hbox hg; have hcz44_0 : w43.cell? ⟨ay, 0, none⟩ = some (.string (⟨#[]⟩ : ByteArray)) := (bC aw.out 0).trans rfl; have hcz44_1 : w43.cell? ⟨ay, 1, none⟩ = some (.string (⟨#[]⟩ : ByteArray)) := (bC aw.out 1).trans rfl; have hfz44_0 := bF aw.out 0; have hfz44_1 := bF aw.out 1))
              have aA : Aside0 (((w43.setCell ⟨ay, 0, none⟩ (.string ((rd_T38 l0 x10_1).f0))).setCell ⟨ay, 1, none⟩ (.string ((rd_T38 l0 x10_1).f1))).heap[ay]? = some (.cells #[.string ((rd_T38 l0 x10_1).f0), .string ((rd_T38 l0 x10_1).f1)] 38 (0, 0))) := ⟨y19⟩
              have aC : Aside0 (Below w.heap.size w ((w43.setCell ⟨ay, 0, none⟩ (.string ((rd_T38 l0 x10_1).f0))).setCell ⟨ay, 1, none⟩ (.string ((rd_T38 l0 x10_1).f1)))) := ⟨y7⟩
              (try clear aw)
              (try clear HB)
              generalize ((w43.setCell ⟨ay, 0, none⟩ (.string ((rd_T38 l0 x10_1).f0))).setCell ⟨ay, 1, none⟩ (.string ((rd_T38 l0 x10_1).f1))) = w45 at aA aC ⊢
              have aw := aA
              have HB := aC
              clear aA aC
              have aA := aM (ah aw.out)
              have aC := aM (bD HB.out)
              clear aw
              clear HB
              have aw := aA
              have HB := aC
              clear aA aC
              have p151 : 0 ≤ ((aV) : Int) := oD z2
              have q151 : (aV) < (l0.length : Int) := oD z2
              obtain ⟨ad151, e151, hx151_0, hx151_1⟩ := at_T38 bh.out (aV) p151 q151
              have hw151_1 := hx151_1
              have hw151_0 := hx151_0
              obtain rfl : ad145 = ad151 := (by injection e151)
              replace hx151_0 := (HB.out.cell (World.block_lt_of_cell? w _ hx151_0)).trans hx151_0
              replace hx151_1 := (HB.out.cell (World.block_lt_of_cell? w _ hx151_1)).trans hx151_1
              replace p151 := eq_true p151
              replace q151 := eq_true q151
              refine start_ (n := 30) (S := fun w' => w'.cell? ⟨ay, 0, none⟩ = some (.string ((rd_T38 l0 x10_1).f0)) ∧ w'.cell? ⟨ay, 1, none⟩ = some (.string ((rd_T38 l0 x10_1).f1)) ∧ w'.cell? (ad145.add (((aV)).toNat * 2)) = some (.string ((rd_T38 l0 (aV)).f0)) ∧ w'.cell? ⟨(ad145.add (((aV)).toNat * 2)).block, (ad145.add (((aV)).toNat * 2)).off + 1, none⟩ = some (.string ((rd_T38 l0 (aV)).f1))) (ds := []) #[false, false, false, false, false, false, false, false, false, false, false, false, false, false, false, false, false, false, false, false, false, false, false, false, false, false, false, false, false, false] z0 rfl rfl ⟨(bC aw.out 0).trans rfl, (bC aw.out 1).trans rfl, ((HB.out.cell (World.block_lt_of_cell? w _ hw151_0)).trans hw151_0), ((HB.out.cell (World.block_lt_of_cell? w _ hw151_1)).trans hw151_1)⟩ (fun hHeld => ?_); refine with_tabW impl_GoodSchema.tab6 impl_GoodSchema.bits6 (fun HT_ HW_ => ?_)
              generalize w45.drew = w46 at aw HB hx151_0 hx151_1 hHeld ⊢
              refine pA 0 15 ?_
              refine tA 1 16 ?_ (hy := by rintro w' ⟨s0, s1, s2, s3⟩; go_simp; with_reducible rfl)
              refine pA 2 17 ?_
              refine pA 3 18 ?_
              refine pA 4 19 ?_
              refine tA 5 20 ?_ (hy := by rintro w' ⟨s0, s1, s2, s3⟩; go_simp; with_reducible rfl)
              refine one_ (i := 6) (N := some 21) #[true, true, true, true, true, true, true, false, false, false, false, false, false, false, false, false, false, false, false, false, false, false, false, false, false, false, false, false, false, false] rfl rfl (one_of HT_.out z0) (by decide) (fun K hK => ?_)
              refine goes_ Try.func21 z0 rfl #[.string ((rd_T38 l0 x10_1).f0)] (by rfl) rfl rfl z7 ?_
              with_reducible refine (impl_isNameText.calls ((rd_T38 l0 x10_1).f0) true _ dd.out).mono ?_
              rintro e w' ⟨rfl, ⟨nd, rfl⟩⟩
              refine ⟨_, rfl, ?_⟩
              refine hK.out _ _ ⟨(bC aw.out 0).trans rfl, (bC aw.out 1).trans rfl, ((HB.out.cell (World.block_lt_of_cell? w _ hw151_0)).trans hw151_0), ((HB.out.cell (World.block_lt_of_cell? w _ hw151_1)).trans hw151_1)⟩ (fun hHeld => ?_)
              clear hK K
              refine norm_ (a' := ?_) ?_ ?_
              rotate_left
              ·show Act.put _ (some 21) _ = _
               simp only [Act.put, sA, sB, sC, i64_w, i32_w]
               rfl
              refine pA 7 22 ?_
              refine pA 8 23 ?_
              refine pA 9 24 ?_
              refine pA 10 25 ?_
              refine tA 11 26 ?_ (hy := by rintro w' ⟨s0, s1, s2, s3⟩; go_simp; with_reducible rfl)
              refine one_ (i := 12) (N := some 27) #[true, true, true, true, true, true, true, true, true, true, true, true, true, false, false, false, false, false, false, false, false, false, false, false, false, false, false, false, false, false] rfl rfl (one_of HT_.out z0) (by decide) (fun K hK => ?_)
              refine goes_ Try.func22 z0 rfl #[.string ((rd_T38 l0 x10_1).f1)] (by rfl) rfl rfl z7 ?_
              with_reducible refine (impl_GoodExpr.calls k1 ((rd_T38 l0 x10_1).f1) true _ dw.out).mono ?_
              rintro e w47 ⟨rfl, hb⟩
              refine ⟨_, rfl, ?_⟩
              have aA := aM (ae (g := ay) (o := .cells #[.string ((rd_T38 l0 x10_1).f0), .string ((rd_T38 l0 x10_1).f1)] 38 (0, 0)) (by (with_reducible repeat (first | refine ai ?_ _ | refine ah ?_ | refine aj ?_ _)); exact aw.out) hb)
              have aC := aM (al (by repeat (first | (with_reducible first | exact HB.out | apply bA | apply pD | apply bD | refine ak ?_ a3.out) | exact HB.out)) hb)
              clear aw
              clear HB
              have aw := aA
              have HB := aC
              clear aA aC
              (try clear hb)
              (try clear hb2)
              (try clear hk)
              (try clear hi)
              refine hK.out _ _ ⟨(bC aw.out 0).trans rfl, (bC aw.out 1).trans rfl, ((HB.out.cell (World.block_lt_of_cell? w _ hw151_0)).trans hw151_0), ((HB.out.cell (World.block_lt_of_cell? w _ hw151_1)).trans hw151_1)⟩ (fun hHeld => ?_)
              clear hK K
              refine norm_ (a' := ?_) ?_ ?_
              rotate_left
              ·show Act.put _ (some 27) _ = _
               simp only [Act.put, sA, sB, sC, i64_w, i32_w]
               rfl
              refine pA 13 28 ?_
              refine pA 14 29 ?_
              refine pA 15 30 ?_
              refine pA 16 31 ?_
              refine pA 17 32 ?_
              refine pA 18 33 ?_
              refine pA 19 34 ?_
              refine pA 20 35 ?_
              refine pA 21 36 ?_
              refine pA 22 37 ?_
              refine pA 23 38 ?_
              refine pA 25 40 ?_
              refine tA 24 39 ?_ (hy := by rintro w' ⟨s0, s1, s2, s3⟩; go_simp; with_reducible rfl)
              refine tA 26 41 ?_ (hy := by rintro w' ⟨s0, s1, s2, s3⟩; go_simp; with_reducible rfl)
              refine pA 27 42 ?_
              refine pA 28 43 ?_
              refine pA 29 44 ?_
              refine done_ (done_of HT_.out z0) ?_
              try go_wp2
              go_roundg k1
              case measure => have := HK1.out; omega
              case rel => exact ⟨(wrap64 (x10_1 + 1)), z1, (by first | exact H' | (simp only [br]; exact H') | (simp only [← br]; exact H')), ⟨by have := HK1.out; omega⟩, ⟨y7⟩⟩
             ·rw [if_neg bH] at H
              have c42b0 : (Op.bytesLess (((rd_T38 l0 (aV)).f0).toList) (((rd_T38 l0 x10_1).f0).toList)) = false := by simpa using bH
              clear bH
              obtain rfl := sI H
              have p145 : 0 ≤ (x10_1 : Int) := oD z2
              have q145 : x10_1 < (l0.length : Int) := oD z2
              obtain ⟨ad145, e145, hx145_0, hx145_1⟩ := at_T38 bh.out x10_1 p145 q145
              cases e145
              replace hx145_0 := (HB.out.cell (World.block_lt_of_cell? w _ hx145_0)).trans hx145_0
              replace hx145_1 := (HB.out.cell (World.block_lt_of_cell? w _ hx145_1)).trans hx145_1
              replace p145 := eq_true p145
              replace q145 := eq_true q145
              try go_wp2_with (first | ((with_reducible refine ar (N := 4) rfl ?_); refine au ?hg (N := 4) ?hd (cs := #[.string (⟨#[]⟩ : ByteArray), .string (⟨#[]⟩ : ByteArray)]) (t := 38) ?hr ?_; (case hd => rfl); (case hg => rfl); (case hr => first | (go_simp; done) | (go_simp; rfl)); intro ay hg w48 hbox hb; have aA := aM (al z6 hb); have aC := aM (hbox); have aG := aM ((by rw [hg]; exact (am z6) : w.heap.size ≤ ay)); have aN := aM ((by rw [hg]; exact (am z6) : w.heap.size ≤ ay)); clear HB; have HB := aA; have aw := aC; have bw := aG; have a3 := aN; clear aA aC aG aN; clear hb hbox hg; have hcz49_0 : w48.cell? ⟨ay, 0, none⟩ = some (.string (⟨#[]⟩ : ByteArray)) := (bC aw.out 0).trans rfl; have hcz49_1 : w48.cell? ⟨ay, 1, none⟩ = some (.string (⟨#[]⟩ : ByteArray)) := (bC aw.out 1).trans rfl; have hfz49_0 := bF aw.out 0; have hfz49_1 := bF aw.out 1))
              have aA : Aside0 (((w48.setCell ⟨ay, 0, none⟩ (.string ((rd_T38 l0 x10_1).f0))).setCell ⟨ay, 1, none⟩ (.string ((rd_T38 l0 x10_1).f1))).heap[ay]? = some (.cells #[.string ((rd_T38 l0 x10_1).f0), .string ((rd_T38 l0 x10_1).f1)] 38 (0, 0))) := ⟨y19⟩
              have aC : Aside0 (Below w.heap.size w ((w48.setCell ⟨ay, 0, none⟩ (.string ((rd_T38 l0 x10_1).f0))).setCell ⟨ay, 1, none⟩ (.string ((rd_T38 l0 x10_1).f1)))) := ⟨y7⟩
              (try clear aw)
              (try clear HB)
              generalize ((w48.setCell ⟨ay, 0, none⟩ (.string ((rd_T38 l0 x10_1).f0))).setCell ⟨ay, 1, none⟩ (.string ((rd_T38 l0 x10_1).f1))) = w50 at aA aC ⊢
              have aw := aA
              have HB := aC
              clear aA aC
              have aA := aM (ah aw.out)
              have aC := aM (bD HB.out)
              clear aw
              clear HB
              have aw := aA
              have HB := aC
              clear aA aC
              have p151 : 0 ≤ ((aV) : Int) := oD z2
              have q151 : (aV) < (l0.length : Int) := oD z2
              obtain ⟨ad151, e151, hx151_0, hx151_1⟩ := at_T38 bh.out (aV) p151 q151
              have hw151_1 := hx151_1
              have hw151_0 := hx151_0
              obtain rfl : ad145 = ad151 := (by injection e151)
              replace hx151_0 := (HB.out.cell (World.block_lt_of_cell? w _ hx151_0)).trans hx151_0
              replace hx151_1 := (HB.out.cell (World.block_lt_of_cell? w _ hx151_1)).trans hx151_1
              replace p151 := eq_true p151
              replace q151 := eq_true q151
              refine start_ (n := 30) (S := fun w' => w'.cell? ⟨ay, 0, none⟩ = some (.string ((rd_T38 l0 x10_1).f0)) ∧ w'.cell? ⟨ay, 1, none⟩ = some (.string ((rd_T38 l0 x10_1).f1)) ∧ w'.cell? (ad145.add (((aV)).toNat * 2)) = some (.string ((rd_T38 l0 (aV)).f0)) ∧ w'.cell? ⟨(ad145.add (((aV)).toNat * 2)).block, (ad145.add (((aV)).toNat * 2)).off + 1, none⟩ = some (.string ((rd_T38 l0 (aV)).f1))) (ds := []) #[false, false, false, false, false, false, false, false, false, false, false, false, false, false, false, false, false, false, false, false, false, false, false, false, false, false, false, false, false, false] z0 rfl rfl ⟨(bC aw.out 0).trans rfl, (bC aw.out 1).trans rfl, ((HB.out.cell (World.block_lt_of_cell? w _ hw151_0)).trans hw151_0), ((HB.out.cell (World.block_lt_of_cell? w _ hw151_1)).trans hw151_1)⟩ (fun hHeld => ?_); refine with_tabW impl_GoodSchema.tab6 impl_GoodSchema.bits6 (fun HT_ HW_ => ?_)
              generalize w50.drew = w51 at aw HB hx151_0 hx151_1 hHeld ⊢
              refine pA 0 15 ?_
              refine tA 1 16 ?_ (hy := by rintro w' ⟨s0, s1, s2, s3⟩; go_simp; with_reducible rfl)
              refine pA 2 17 ?_
              refine pA 3 18 ?_
              refine pA 4 19 ?_
              refine tA 5 20 ?_ (hy := by rintro w' ⟨s0, s1, s2, s3⟩; go_simp; with_reducible rfl)
              refine one_ (i := 6) (N := some 21) #[true, true, true, true, true, true, true, false, false, false, false, false, false, false, false, false, false, false, false, false, false, false, false, false, false, false, false, false, false, false] rfl rfl (one_of HT_.out z0) (by decide) (fun K hK => ?_)
              refine goes_ Try.func21 z0 rfl #[.string ((rd_T38 l0 x10_1).f0)] (by rfl) rfl rfl z7 ?_
              with_reducible refine (impl_isNameText.calls ((rd_T38 l0 x10_1).f0) true _ dd.out).mono ?_
              rintro e w' ⟨rfl, ⟨nd, rfl⟩⟩
              refine ⟨_, rfl, ?_⟩
              refine hK.out _ _ ⟨(bC aw.out 0).trans rfl, (bC aw.out 1).trans rfl, ((HB.out.cell (World.block_lt_of_cell? w _ hw151_0)).trans hw151_0), ((HB.out.cell (World.block_lt_of_cell? w _ hw151_1)).trans hw151_1)⟩ (fun hHeld => ?_)
              clear hK K
              refine norm_ (a' := ?_) ?_ ?_
              rotate_left
              ·show Act.put _ (some 21) _ = _
               simp only [Act.put, sA, sB, sC, i64_w, i32_w]
               rfl
              refine pA 7 22 ?_
              refine pA 8 23 ?_
              refine pA 9 24 ?_
              refine pA 10 25 ?_
              refine tA 11 26 ?_ (hy := by rintro w' ⟨s0, s1, s2, s3⟩; go_simp; with_reducible rfl)
              refine one_ (i := 12) (N := some 27) #[true, true, true, true, true, true, true, true, true, true, true, true, true, false, false, false, false, false, false, false, false, false, false, false, false, false, false, false, false, false] rfl rfl (one_of HT_.out z0) (by decide) (fun K hK => ?_)
              refine goes_ Try.func22 z0 rfl #[.string ((rd_T38 l0 x10_1).f1)] (by rfl) rfl rfl z7 ?_
              with_reducible refine (impl_GoodExpr.calls k1 ((rd_T38 l0 x10_1).f1) true _ dw.out).mono ?_
              rintro e w52 ⟨rfl, hb⟩
              refine ⟨_, rfl, ?_⟩
              have aA := aM (ae (g := ay) (o := .cells #[.string ((rd_T38 l0 x10_1).f0), .string ((rd_T38 l0 x10_1).f1)] 38 (0, 0)) (by (with_reducible repeat (first | refine ai ?_ _ | refine ah ?_ | refine aj ?_ _)); exact aw.out) hb)
              have aC := aM (al (by repeat (first | (with_reducible first | exact HB.out | apply bA | apply pD | apply bD | refine ak ?_ a3.out) | exact HB.out)) hb)
              clear aw
              clear HB
              have aw := aA
              have HB := aC
              clear aA aC
              (try clear hb)
              (try clear hb2)
              (try clear hk)
              (try clear hi)
              refine hK.out _ _ ⟨(bC aw.out 0).trans rfl, (bC aw.out 1).trans rfl, ((HB.out.cell (World.block_lt_of_cell? w _ hw151_0)).trans hw151_0), ((HB.out.cell (World.block_lt_of_cell? w _ hw151_1)).trans hw151_1)⟩ (fun hHeld => ?_)
              clear hK K
              refine norm_ (a' := ?_) ?_ ?_
              rotate_left
              ·show Act.put _ (some 27) _ = _
               simp only [Act.put, sA, sB, sC, i64_w, i32_w]
               rfl
              refine pA 13 28 ?_
              refine pA 14 29 ?_
              refine pA 15 30 ?_
              refine pA 16 31 ?_
              refine pA 17 32 ?_
              refine pA 18 33 ?_
              refine pA 19 34 ?_
              refine pA 20 35 ?_
              refine pA 21 36 ?_
              refine pA 22 37 ?_
              refine pA 23 38 ?_
              refine pA 25 40 ?_
              refine tA 24 39 ?_ (hy := by rintro w' ⟨s0, s1, s2, s3⟩; go_simp; with_reducible rfl)
              refine tA 26 41 ?_ (hy := by rintro w' ⟨s0, s1, s2, s3⟩; go_simp; with_reducible rfl)
              refine pA 27 42 ?_
              refine pA 28 43 ?_
              refine pA 29 44 ?_
              refine done_ (done_of HT_.out z0) ?_
              try go_wp2
              go_ret
              exact ⟨by first | rfl | (simp [errW_none, errW_some] <;> rfl) | (simp only [← br]; first | rfl | (simp [errW_none, errW_some] <;> rfl)) | (simp [*, errW_none, errW_some] <;> rfl), y7⟩
            ·rw [if_neg b3] at H
             exact absurd H (by simp)
           ·rw [if_neg b4] at H
            exact absurd H (by simp)
          ·rw [if_neg cm] at H
           have c38b0 : decide (0 < x10_1) = false := dF cm
           clear cm
           have H' := aM H
           clear H
           have p145 : 0 ≤ (x10_1 : Int) := oD z2
           have q145 : x10_1 < (l0.length : Int) := oD z2
           obtain ⟨ad145, e145, hx145_0, hx145_1⟩ := at_T38 bh.out x10_1 p145 q145
           cases e145
           replace hx145_0 := (HB.out.cell (World.block_lt_of_cell? w _ hx145_0)).trans hx145_0
           replace hx145_1 := (HB.out.cell (World.block_lt_of_cell? w _ hx145_1)).trans hx145_1
           replace p145 := eq_true p145
           replace q145 := eq_true q145
           try go_wp2_with (first | ((with_reducible refine ar (N := 4) rfl ?_); refine au ?hg (N := 4) ?hd (cs := #[.string (⟨#[]⟩ : ByteArray), .string (⟨#[]⟩ : ByteArray)]) (t := 38) ?hr ?_; (case hd => rfl); (case hg => rfl); (case hr => first | (go_simp; done) | (go_simp; rfl)); intro ay hg w53 hbox hb; have aA := aM (al z6 hb); have aC := aM (hbox); have aG := aM ((by rw [hg]; exact (am z6) : w.heap.size ≤ ay)); have aN := aM ((by rw [hg]; exact (am z6) : w.heap.size ≤ ay)); clear HB; have HB := aA; have aw := aC; have bw := aG; have a3 := aN; clear aA aC aG aN; clear hb hbox hg; have hcz54_0 : w53.cell? ⟨ay, 0, none⟩ = some (.string (⟨#[]⟩ : ByteArray)) := (bC aw.out 0).trans rfl; have hcz54_1 : w53.cell? ⟨ay, 1, none⟩ = some (.string (⟨#[]⟩ : ByteArray)) := (bC aw.out 1).trans rfl; have hfz54_0 := bF aw.out 0; have hfz54_1 := bF aw.out 1))
           have aA : Aside0 (((w53.setCell ⟨ay, 0, none⟩ (.string ((rd_T38 l0 x10_1).f0))).setCell ⟨ay, 1, none⟩ (.string ((rd_T38 l0 x10_1).f1))).heap[ay]? = some (.cells #[.string ((rd_T38 l0 x10_1).f0), .string ((rd_T38 l0 x10_1).f1)] 38 (0, 0))) := ⟨y19⟩
           have aC : Aside0 (Below w.heap.size w ((w53.setCell ⟨ay, 0, none⟩ (.string ((rd_T38 l0 x10_1).f0))).setCell ⟨ay, 1, none⟩ (.string ((rd_T38 l0 x10_1).f1)))) := ⟨y7⟩
           (try clear aw)
           (try clear HB)
           generalize ((w53.setCell ⟨ay, 0, none⟩ (.string ((rd_T38 l0 x10_1).f0))).setCell ⟨ay, 1, none⟩ (.string ((rd_T38 l0 x10_1).f1))) = w55 at aA aC ⊢
           have aw := aA
           have HB := aC
           clear aA aC
           have aA := aM (ah aw.out)
           have aC := aM (bD HB.out)
           clear aw
           clear HB
           have aw := aA
           have HB := aC
           clear aA aC
           refine start_ (n := 30) (S := fun w' => w'.cell? ⟨ay, 0, none⟩ = some (.string ((rd_T38 l0 x10_1).f0)) ∧ w'.cell? ⟨ay, 1, none⟩ = some (.string ((rd_T38 l0 x10_1).f1))) (ds := []) #[false, false, false, false, false, false, false, false, false, false, false, false, false, false, false, false, false, false, false, false, false, false, false, false, false, false, false, false, false, false] z0 rfl rfl ⟨(bC aw.out 0).trans rfl, (bC aw.out 1).trans rfl⟩ (fun hHeld => ?_); refine with_tabW impl_GoodSchema.tab6 impl_GoodSchema.bits6 (fun HT_ HW_ => ?_)
           generalize w55.drew = w56 at aw HB hHeld ⊢
           refine pA 0 15 ?_
           refine tA 1 16 ?_ (hy := by rintro w' ⟨s0, s1⟩; go_simp; with_reducible rfl)
           refine pA 2 17 ?_
           refine pA 3 18 ?_
           refine pA 4 19 ?_
           refine tA 5 20 ?_ (hy := by rintro w' ⟨s0, s1⟩; go_simp; with_reducible rfl)
           refine one_ (i := 6) (N := some 21) #[true, true, true, true, true, true, true, false, false, false, false, false, false, false, false, false, false, false, false, false, false, false, false, false, false, false, false, false, false, false] rfl rfl (one_of HT_.out z0) (by decide) (fun K hK => ?_)
           refine goes_ Try.func21 z0 rfl #[.string ((rd_T38 l0 x10_1).f0)] (by rfl) rfl rfl z7 ?_
           with_reducible refine (impl_isNameText.calls ((rd_T38 l0 x10_1).f0) true _ dd.out).mono ?_
           rintro e w' ⟨rfl, ⟨nd, rfl⟩⟩
           refine ⟨_, rfl, ?_⟩
           refine hK.out _ _ ⟨(bC aw.out 0).trans rfl, (bC aw.out 1).trans rfl⟩ (fun hHeld => ?_)
           clear hK K
           refine norm_ (a' := ?_) ?_ ?_
           rotate_left
           ·show Act.put _ (some 21) _ = _
            simp only [Act.put, sA, sB, sC, i64_w, i32_w]
            rfl
           refine pA 7 22 ?_
           refine pA 8 23 ?_
           refine pA 9 24 ?_
           refine pA 10 25 ?_
           refine tA 11 26 ?_ (hy := by rintro w' ⟨s0, s1⟩; go_simp; with_reducible rfl)
           refine one_ (i := 12) (N := some 27) #[true, true, true, true, true, true, true, true, true, true, true, true, true, false, false, false, false, false, false, false, false, false, false, false, false, false, false, false, false, false] rfl rfl (one_of HT_.out z0) (by decide) (fun K hK => ?_)
           refine goes_ Try.func22 z0 rfl #[.string ((rd_T38 l0 x10_1).f1)] (by rfl) rfl rfl z7 ?_
           with_reducible refine (impl_GoodExpr.calls k1 ((rd_T38 l0 x10_1).f1) true _ dw.out).mono ?_
           rintro e w57 ⟨rfl, hb⟩
           refine ⟨_, rfl, ?_⟩
           have aA := aM (ae (g := ay) (o := .cells #[.string ((rd_T38 l0 x10_1).f0), .string ((rd_T38 l0 x10_1).f1)] 38 (0, 0)) (by (with_reducible repeat (first | refine ai ?_ _ | refine ah ?_ | refine aj ?_ _)); exact aw.out) hb)
           have aC := aM (al (by repeat (first | (with_reducible first | exact HB.out | apply bA | apply pD | apply bD | refine ak ?_ a3.out) | exact HB.out)) hb)
           clear aw
           clear HB
           have aw := aA
           have HB := aC
           clear aA aC
           (try clear hb)
           (try clear hb2)
           (try clear hk)
           (try clear hi)
           refine hK.out _ _ ⟨(bC aw.out 0).trans rfl, (bC aw.out 1).trans rfl⟩ (fun hHeld => ?_)
           clear hK K
           refine norm_ (a' := ?_) ?_ ?_
           rotate_left
           ·show Act.put _ (some 27) _ = _
            simp only [Act.put, sA, sB, sC, i64_w, i32_w]
            rfl
           refine pA 13 28 ?_
           refine pA 14 29 ?_
           refine pA 15 30 ?_
           refine pA 16 31 ?_
           refine pA 17 32 ?_
           refine pA 18 33 ?_
           refine pB 19 34 ?_
           refine pB 20 35 ?_
           refine pB 21 36 ?_
           refine pB 22 37 ?_
           refine pB 23 38 ?_
           refine pB 24 39 ?_
           refine pB 25 40 ?_
           refine pB 26 41 ?_
           refine pB 27 42 ?_
           refine pA 28 43 ?_
           refine pA 29 44 ?_
           refine done_ (done_of HT_.out z0) ?_
           try go_wp2
           go_roundg k1
           case measure => have := HK1.out; omega
           case rel => exact ⟨(wrap64 (x10_1 + 1)), z1, H', ⟨by have := HK1.out; omega⟩, ⟨y7⟩⟩
         ·replace bY := Bool.eq_false_iff.mpr bY
          subst bY
          rw [if_neg (show ¬ (false = true) by decide)] at H
          obtain rfl := sI H
          have p145 : 0 ≤ (x10_1 : Int) := oD z2
          have q145 : x10_1 < (l0.length : Int) := oD z2
          obtain ⟨ad145, e145, hx145_0, hx145_1⟩ := at_T38 bh.out x10_1 p145 q145
          cases e145
          replace hx145_0 := (HB.out.cell (World.block_lt_of_cell? w _ hx145_0)).trans hx145_0
          replace hx145_1 := (HB.out.cell (World.block_lt_of_cell? w _ hx145_1)).trans hx145_1
          replace p145 := eq_true p145
          replace q145 := eq_true q145
          try go_wp2_with (first | ((with_reducible refine ar (N := 4) rfl ?_); refine au ?hg (N := 4) ?hd (cs := #[.string (⟨#[]⟩ : ByteArray), .string (⟨#[]⟩ : ByteArray)]) (t := 38) ?hr ?_; (case hd => rfl); (case hg => rfl); (case hr => first | (go_simp; done) | (go_simp; rfl)); intro ay hg w58 hbox hb; have aA := aM (al z6 hb); have aC := aM (hbox); have aG := aM ((by rw [hg]; exact (am z6) : w.heap.size ≤ ay)); have aN := aM ((by rw [hg]; exact (am z6) : w.heap.size ≤ ay)); clear HB; have HB := aA; have aw := aC; have bw := aG; have a3 := aN; clear aA aC aG aN; clear hb hbox hg; have hcz59_0 : w58.cell? ⟨ay, 0, none⟩ = some (.string (⟨#[]⟩ : ByteArray)) := (bC aw.out 0).trans rfl; have hcz59_1 : w58.cell? ⟨ay, 1, none⟩ = some (.string (⟨#[]⟩ : ByteArray)) := (bC aw.out 1).trans rfl; have hfz59_0 := bF aw.out 0; have hfz59_1 := bF aw.out 1))
          have aA : Aside0 (((w58.setCell ⟨ay, 0, none⟩ (.string ((rd_T38 l0 x10_1).f0))).setCell ⟨ay, 1, none⟩ (.string ((rd_T38 l0 x10_1).f1))).heap[ay]? = some (.cells #[.string ((rd_T38 l0 x10_1).f0), .string ((rd_T38 l0 x10_1).f1)] 38 (0, 0))) := ⟨y19⟩
          have aC : Aside0 (Below w.heap.size w ((w58.setCell ⟨ay, 0, none⟩ (.string ((rd_T38 l0 x10_1).f0))).setCell ⟨ay, 1, none⟩ (.string ((rd_T38 l0 x10_1).f1)))) := ⟨y7⟩
          (try clear aw)
          (try clear HB)
          generalize ((w58.setCell ⟨ay, 0, none⟩ (.string ((rd_T38 l0 x10_1).f0))).setCell ⟨ay, 1, none⟩ (.string ((rd_T38 l0 x10_1).f1))) = w60 at aA aC ⊢
          have aw := aA
          have HB := aC
          clear aA aC
          have aA := aM (ah aw.out)
          have aC := aM (bD HB.out)
          clear aw
          clear HB
          have aw := aA
          have HB := aC
          clear aA aC
          refine start_ (n := 30) (S := fun w' => w'.cell? ⟨ay, 0, none⟩ = some (.string ((rd_T38 l0 x10_1).f0)) ∧ w'.cell? ⟨ay, 1, none⟩ = some (.string ((rd_T38 l0 x10_1).f1))) (ds := []) #[false, false, false, false, false, false, false, false, false, false, false, false, false, false, false, false, false, false, false, false, false, false, false, false, false, false, false, false, false, false] z0 rfl rfl ⟨(bC aw.out 0).trans rfl, (bC aw.out 1).trans rfl⟩ (fun hHeld => ?_); refine with_tabW impl_GoodSchema.tab6 impl_GoodSchema.bits6 (fun HT_ HW_ => ?_)
          generalize w60.drew = w61 at aw HB hHeld ⊢
          refine pA 0 15 ?_
          refine tA 1 16 ?_ (hy := by rintro w' ⟨s0, s1⟩; go_simp; with_reducible rfl)
          refine pA 2 17 ?_
          refine pA 3 18 ?_
          refine pA 4 19 ?_
          refine tA 5 20 ?_ (hy := by rintro w' ⟨s0, s1⟩; go_simp; with_reducible rfl)
          refine one_ (i := 6) (N := some 21) #[true, true, true, true, true, true, true, false, false, false, false, false, false, false, false, false, false, false, false, false, false, false, false, false, false, false, false, false, false, false] rfl rfl (one_of HT_.out z0) (by decide) (fun K hK => ?_)
          refine goes_ Try.func21 z0 rfl #[.string ((rd_T38 l0 x10_1).f0)] (by rfl) rfl rfl z7 ?_
          with_reducible refine (impl_isNameText.calls ((rd_T38 l0 x10_1).f0) true _ dd.out).mono ?_
          rintro e w' ⟨rfl, ⟨nd, rfl⟩⟩
          refine ⟨_, rfl, ?_⟩
          refine hK.out _ _ ⟨(bC aw.out 0).trans rfl, (bC aw.out 1).trans rfl⟩ (fun hHeld => ?_)
          clear hK K
          refine norm_ (a' := ?_) ?_ ?_
          rotate_left
          ·show Act.put _ (some 21) _ = _
           simp only [Act.put, sA, sB, sC, i64_w, i32_w]
           rfl
          refine pA 7 22 ?_
          refine pA 8 23 ?_
          refine pA 9 24 ?_
          refine pA 10 25 ?_
          refine tA 11 26 ?_ (hy := by rintro w' ⟨s0, s1⟩; go_simp; with_reducible rfl)
          refine one_ (i := 12) (N := some 27) #[true, true, true, true, true, true, true, true, true, true, true, true, true, false, false, false, false, false, false, false, false, false, false, false, false, false, false, false, false, false] rfl rfl (one_of HT_.out z0) (by decide) (fun K hK => ?_)
          refine goes_ Try.func22 z0 rfl #[.string ((rd_T38 l0 x10_1).f1)] (by rfl) rfl rfl z7 ?_
          with_reducible refine (impl_GoodExpr.calls k1 ((rd_T38 l0 x10_1).f1) false _ dw.out).mono ?_
          rintro e w62 ⟨rfl, hb⟩
          refine ⟨_, rfl, ?_⟩
          have aA := aM (ae (g := ay) (o := .cells #[.string ((rd_T38 l0 x10_1).f0), .string ((rd_T38 l0 x10_1).f1)] 38 (0, 0)) (by (with_reducible repeat (first | refine ai ?_ _ | refine ah ?_ | refine aj ?_ _)); exact aw.out) hb)
          have aC := aM (al (by repeat (first | (with_reducible first | exact HB.out | apply bA | apply pD | apply bD | refine ak ?_ a3.out) | exact HB.out)) hb)
          clear aw
          clear HB
          have aw := aA
          have HB := aC
          clear aA aC
          (try clear hb)
          (try clear hb2)
          (try clear hk)
          (try clear hi)
          refine hK.out _ _ ⟨(bC aw.out 0).trans rfl, (bC aw.out 1).trans rfl⟩ (fun hHeld => ?_)
          clear hK K
          refine norm_ (a' := ?_) ?_ ?_
          rotate_left
          ·show Act.put _ (some 27) _ = _
           simp only [Act.put, sA, sB, sC, i64_w, i32_w]
           rfl
          refine pA 13 28 ?_
          refine pA 14 29 ?_
          refine pA 15 30 ?_
          refine pB 16 31 ?_
          refine pB 17 32 ?_
          refine pB 18 33 ?_
          refine pB 19 34 ?_
          refine pB 20 35 ?_
          refine pB 21 36 ?_
          refine pB 22 37 ?_
          refine pB 23 38 ?_
          refine pB 24 39 ?_
          refine pB 25 40 ?_
          refine pB 26 41 ?_
          refine pB 27 42 ?_
          refine pB 28 43 ?_
          refine pA 29 44 ?_
          refine done_ (done_of HT_.out z0) ?_
          try go_wp2
          go_ret
          exact ⟨y2, y7⟩
        ·replace dJ := Bool.eq_false_iff.mpr dJ
         subst dJ
         rw [if_neg (show ¬ (false = true) by decide)] at H
         obtain rfl := sI H
         have p145 : 0 ≤ (x10_1 : Int) := oD z2
         have q145 : x10_1 < (l0.length : Int) := oD z2
         obtain ⟨ad145, e145, hx145_0, hx145_1⟩ := at_T38 bh.out x10_1 p145 q145
         cases e145
         replace hx145_0 := (HB.out.cell (World.block_lt_of_cell? w _ hx145_0)).trans hx145_0
         replace hx145_1 := (HB.out.cell (World.block_lt_of_cell? w _ hx145_1)).trans hx145_1
         replace p145 := eq_true p145
         replace q145 := eq_true q145
         try go_wp2_with (first | ((with_reducible refine ar (N := 4) rfl ?_); refine au ?hg (N := 4) ?hd (cs := #[.string (⟨#[]⟩ : ByteArray), .string (⟨#[]⟩ : ByteArray)]) (t := 38) ?hr ?_; (case hd => rfl); (case hg => rfl); (case hr => first | (go_simp; done) | (go_simp; rfl)); intro ay hg w63 hbox hb; have aA := aM (al z6 hb); have aC := aM (hbox); have aG := aM ((by rw [hg]; exact (am z6) : w.heap.size ≤ ay)); have aN := aM ((by rw [hg]; exact (am z6) : w.heap.size ≤ ay)); clear HB; have HB := aA; have aw := aC; have bw := aG; have a3 := aN; clear aA aC aG aN; clear hb hbox hg; have hcz64_0 : w63.cell? ⟨ay, 0, none⟩ = some (.string (⟨#[]⟩ : ByteArray)) := (bC aw.out 0).trans rfl; have hcz64_1 : w63.cell? ⟨ay, 1, none⟩ = some (.string (⟨#[]⟩ : ByteArray)) := (bC aw.out 1).trans rfl; have hfz64_0 := bF aw.out 0; have hfz64_1 := bF aw.out 1))
         have aA : Aside0 (((w63.setCell ⟨ay, 0, none⟩ (.string ((rd_T38 l0 x10_1).f0))).setCell ⟨ay, 1, none⟩ (.string ((rd_T38 l0 x10_1).f1))).heap[ay]? = some (.cells #[.string ((rd_T38 l0 x10_1).f0), .string ((rd_T38 l0 x10_1).f1)] 38 (0, 0))) := ⟨y19⟩
         have aC : Aside0 (Below w.heap.size w ((w63.setCell ⟨ay, 0, none⟩ (.string ((rd_T38 l0 x10_1).f0))).setCell ⟨ay, 1, none⟩ (.string ((rd_T38 l0 x10_1).f1)))) := ⟨y7⟩
         (try clear aw)
         (try clear HB)
         generalize ((w63.setCell ⟨ay, 0, none⟩ (.string ((rd_T38 l0 x10_1).f0))).setCell ⟨ay, 1, none⟩ (.string ((rd_T38 l0 x10_1).f1))) = w65 at aA aC ⊢
         have aw := aA
         have HB := aC
         clear aA aC
         have aA := aM (ah aw.out)
         have aC := aM (bD HB.out)
         clear aw
         clear HB
         have aw := aA
         have HB := aC
         clear aA aC
         refine start_ (n := 30) (S := fun w' => w'.cell? ⟨ay, 0, none⟩ = some (.string ((rd_T38 l0 x10_1).f0)) ∧ w'.cell? ⟨ay, 1, none⟩ = some (.string ((rd_T38 l0 x10_1).f1))) (ds := []) #[false, false, false, false, false, false, false, false, false, false, false, false, false, false, false, false, false, false, false, false, false, false, false, false, false, false, false, false, false, false] z0 rfl rfl ⟨(bC aw.out 0).trans rfl, (bC aw.out 1).trans rfl⟩ (fun hHeld => ?_); refine with_tabW impl_GoodSchema.tab6 impl_GoodSchema.bits6 (fun HT_ HW_ => ?_)
         generalize w65.drew = w66 at aw HB hHeld ⊢
         refine pA 0 15 ?_
         refine tA 1 16 ?_ (hy := by rintro w' ⟨s0, s1⟩; go_simp; with_reducible rfl)
         refine pA 2 17 ?_
         refine pA 3 18 ?_
         refine pA 4 19 ?_
         refine tA 5 20 ?_ (hy := by rintro w' ⟨s0, s1⟩; go_simp; with_reducible rfl)
         refine one_ (i := 6) (N := some 21) #[true, true, true, true, true, true, true, false, false, false, false, false, false, false, false, false, false, false, false, false, false, false, false, false, false, false, false, false, false, false] rfl rfl (one_of HT_.out z0) (by decide) (fun K hK => ?_)
         refine goes_ Try.func21 z0 rfl #[.string ((rd_T38 l0 x10_1).f0)] (by rfl) rfl rfl z7 ?_
         with_reducible refine (impl_isNameText.calls ((rd_T38 l0 x10_1).f0) false _ dd.out).mono ?_
         rintro e w' ⟨rfl, ⟨nd, rfl⟩⟩
         refine ⟨_, rfl, ?_⟩
         refine hK.out _ _ ⟨(bC aw.out 0).trans rfl, (bC aw.out 1).trans rfl⟩ (fun hHeld => ?_)
         clear hK K
         refine norm_ (a' := ?_) ?_ ?_
         rotate_left
         ·show Act.put _ (some 21) _ = _
          simp only [Act.put, sA, sB, sC, i64_w, i32_w]
          rfl
         refine pA 7 22 ?_
         refine pA 8 23 ?_
         refine pA 9 24 ?_
         refine pB 10 25 ?_
         refine pB 11 26 ?_
         refine pB 12 27 ?_
         refine pB 13 28 ?_
         refine pA 14 29 ?_
         refine pA 15 30 ?_
         refine pB 16 31 ?_
         refine pB 17 32 ?_
         refine pB 18 33 ?_
         refine pB 19 34 ?_
         refine pB 20 35 ?_
         refine pB 21 36 ?_
         refine pB 22 37 ?_
         refine pB 23 38 ?_
         refine pB 24 39 ?_
         refine pB 25 40 ?_
         refine pB 26 41 ?_
         refine pB 27 42 ?_
         refine pB 28 43 ?_
         refine pA 29 44 ?_
         refine done_ (done_of HT_.out z0) ?_
         try go_wp2
         go_ret
         exact ⟨y2, y7⟩
      ·rw [if_neg c5] at H
       exact absurd H (by simp)
     ·rw [if_neg c4] at H
      exact absurd H (by simp)
    ·rw [if_neg c3] at H
     have c3b0 : decide (x10_1 < (l0.length : Int)) = false := dF c3
     clear c3
     obtain rfl := sI H
     go_wp2
     go_ret
     exact ⟨y2, y3⟩

end Go.Proofs.Ytihjaagamihhkaa.AFnExactReadSchema
