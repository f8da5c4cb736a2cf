-- this session's own text: written by wip/tools/ownprint.py over the kit's print
import Derived.Test.YtifllccpfiobfaaAFnExactMergeThreex0
import Derived.Test.YtifllccpfiobfaaAFnExactMergeThreex1
import Derived.Test.YtifllccpfiobfaaAFnExactMergeThreex3
import Derived.Test.YtifllccpfiobfaaAFnExactMergeThreex4
namespace Go.Proofs.Ytifllccpfiobfaa.AFnExactMergeThree
open Go.RowKit Go.Proofs.YtifllccpfiobfaaW.PrintWords Go.Proofs.YtifllccpfiobfaaW.PrintLast Go.Proofs.YtifllccpfiobfaaW.PrintMore
attribute [local go_sem] max2_int min2_int max_two min_two max_three min_three max_four min_four   -- for this text's walks alone
set_option linter.unusedVariables false
set_option linter.unusedSimpArgs false

/-! ### spec_GoodOp: function 40 -/
def spec_GoodOp.l0 : Nat → List (S44) → List (S44) → Int → Int → Option (Bool)
 | 0, _, _, _, _ => none
 | k + 1, x0, x10, x11, x12 => if x12 < x11 then (if 0 ≤ x12 then (if x12 < (x10.length : Int) then ((spec_l3Part.f k ((rd_T44 x10 x12).f0) ((rd_T44 x10 x12).f1) ((rd_T44 x10 x12).f2)).bind fun l5 => (if l5 = true then (spec_GoodOp.l0 k x0 x10 x11 (wrap64 (x12 + 1))) else (some false))) else (none)) else (none)) else ((spec_l3Sizes.f k x0).bind fun lJ => (if lJ.1 ≤ 300 then (some (decide (lJ.2 ≤ 300))) else (some false)))
def spec_GoodOp.f (k : Nat) (l0 : List (S44)) : Option (Bool) := if (l0.length : Int) > 60 then (some false) else (spec_GoodOp.l0 k l0 l0 (l0.length : Int) 0)
theorem spec_GoodOp.mono_l : ∀ k, (∀ y0 y1 y2 y3, LeO (spec_GoodOp.l0 k y0 y1 y2 y3) (spec_GoodOp.l0 (k + 1) y0 y1 y2 y3))
 | 0 => fun _ _ _ _ r h => by simp [spec_GoodOp.l0] at h
 | k + 1 => by
  have ih0 := spec_GoodOp.mono_l k
  ·intro y0 y1 y2 y3
   unfold spec_GoodOp.l0
   repeat' first
   | (with_reducible exact ih0 _ _ _ _)
   | (with_reducible exact spec_l3Part.mono _ _ _ _)
   | (with_reducible exact spec_l3Sizes.mono _ _)
   | (with_reducible exact LeO.refl _)
   | (with_reducible exact LeO.none _)
   | (with_reducible refine LeO.ite ?_ ?_)
   | (with_reducible refine LeO.bind ?_ (fun _ => ?_))
   | exact ih0 _ _ _ _
   | exact spec_l3Part.mono _ _ _ _
   | exact spec_l3Sizes.mono _ _
   | exact LeO.none _
   | refine LeO.ite ?_ ?_
   | refine LeO.bind ?_ (fun _ => ?_)
theorem spec_GoodOp.mono : ∀ a0 k, LeO (spec_GoodOp.f k a0) (spec_GoodOp.f (k + 1) a0) := by
 intro a0 k
 have ih0 := spec_GoodOp.mono_l k
 unfold spec_GoodOp.f
 repeat' first
   | (with_reducible exact ih0 _ _ _ _)
   | (with_reducible exact spec_l3Part.mono _ _ _ _)
   | (with_reducible exact spec_l3Sizes.mono _ _)
   | (with_reducible exact LeO.refl _)
   | (with_reducible exact LeO.none _)
   | (with_reducible refine LeO.ite ?_ ?_)
   | (with_reducible refine LeO.bind ?_ (fun _ => ?_))
   | exact ih0 _ _ _ _
   | exact spec_l3Part.mono _ _ _ _
   | exact spec_l3Sizes.mono _ _
   | exact LeO.none _
   | refine LeO.ite ?_ ?_
   | refine LeO.bind ?_ (fun _ => ?_)
set_option maxHeartbeats 8000000 in
set_option maxRecDepth 100000 in
theorem spec_GoodOp.calls (k : Nat) (A0 : Option Addr) (c0 : Nat) (l0 : List (S44)) (r : Bool) (w : World) (hr0 : Kd.C k44 w A0 l0.length l0) (hc0 : l0.length ≤ c0) (h : spec_GoodOp.f k l0 = some r) :
  Calls Try.prog 40 #[.slice A0 l0.length c0] w fun e w' => e = .returned (.bool r) ∧ Below w.heap.size w w' := by
 have hu44 := Try.underlying44
 have bG := aM hr0
 have b8 := aM hc0
 clear hr0 hc0
 have HB := aM (Below.refl w.heap.size w)
 have H : (if (l0.length : Int) > 60 then (some false) else (spec_GoodOp.l0 k l0 l0 (l0.length : Int) 0)) = some r := h
 clear h
 by_cases c2 : (l0.length : Int) > 60
 ·rw [if_pos c2] at H
  have c2b0 : decide (60 < (l0.length : Int)) = true := dT c2
  have c2b1 : decide (60 < l0.length) = true := dT (by omega)
  clear c2
  obtain rfl := sI H
  go_enter Try.func40, Try.ntmps40
  go_wp2
  go_ret
  exact ⟨y4, y5⟩
 ·rw [if_neg c2] at H
  have c2b0 : decide (60 < (l0.length : Int)) = false := dF c2
  have c2b1 : decide (60 < l0.length) = false := dF (by omega)
  clear c2
  have H' := aM H
  clear H
  go_enter Try.func40, Try.ntmps40
  go_wp2
  go_loopg [12] k (fun kq v12 w' => ∃ (x12_1 : Int), v12 = .int .i64 x12_1 ∧ Aside0 (spec_GoodOp.l0 kq l0 l0 (l0.length : Int) x12_1 = some r) ∧ Aside0 (kq ≤ k) ∧ Aside0 (Below w.heap.size w w'))
  case atStart => exact ⟨(0), z1, H', ⟨Nat.le_refl _⟩, ⟨y5⟩⟩
  case round =>
   clear H'
   try clear c2
   try clear c2b0
   try clear c2b1
   try clear p2
   obtain ⟨x12_1, rfl, HA, HK1, HB⟩ := hrel
   cases gk with
   | zero => exact absurd HA.out (by simp [spec_GoodOp.l0])
   | succ k1 =>
    have H := HA.out
    clear HA
    simp only [spec_GoodOp.l0] at H
    by_cases c3 : x12_1 < (l0.length : Int)
    ·rw [if_pos c3] at H
     have c3b0 : decide (x12_1 < (l0.length : Int)) = true := dT c3
     clear c3
     by_cases c4 : 0 ≤ x12_1
     ·rw [if_pos c4] at H
      have c4b0 : decide (0 ≤ x12_1) = true := dT c4
      clear c4
      by_cases c5 : x12_1 < (l0.length : Int)
      ·rw [if_pos c5] at H
       have c5b0 : decide (x12_1 < (l0.length : Int)) = true := dT c5
       clear c5
       replace H := oB H
       obtain ⟨l5, ez, H⟩ := H
       try dsimp only at H
       have A6 := aM ez
       clear ez
       by_cases c7 : l5 = true
       ·subst c7
        rw [if_pos rfl] at H
        have H' := aM H
        clear H
        have p183 : 0 ≤ (x12_1 : Int) := oD z2
        have q183 : x12_1 < (l0.length : Int) := oD z2
        obtain ⟨ad183, e183, hx183_0, hx183_1, hx183_2⟩ := at_T44 bG.out x12_1 p183 q183
        cases e183
        replace hx183_0 := (HB.out.cell (World.block_lt_of_cell? w _ hx183_0)).trans hx183_0
        replace hx183_1 := (HB.out.cell (World.block_lt_of_cell? w _ hx183_1)).trans hx183_1
        replace hx183_2 := (HB.out.cell (World.block_lt_of_cell? w _ hx183_2)).trans hx183_2
        replace p183 := eq_true p183
        replace q183 := eq_true q183
        go_wp2_with (first | ((with_reducible refine aD (N := 4) rfl ?_); refine aE ?hg (N := 4) ?hd (cs := #[.int .i64 0, .string (⟨#[]⟩ : ByteArray), .string (⟨#[]⟩ : ByteArray)]) (t := 44) ?hr ?_; (case hd => rfl); (case hg => rfl); (case hr => first | (go_simp; done) | (go_simp; rfl)); intro du hg w8 hbox hb; have aT := aM (ap z9 hb); have aU := aM (hbox); have aX := aM ((by rw [hg]; exact (aq z9) : w.heap.size ≤ du)); have a5 := aM ((by rw [hg]; exact (aq z9) : w.heap.size ≤ du)); clear HB; have HB := aT; have cu := aU; have GW184 := aX; have ic := a5; clear aT aU aX a5; clear hb hbox hg; have cZ : w8.cell? ⟨du, 0, none⟩ = some (.int .i64 0) := (bC cu.out 0).trans rfl; have cY : w8.cell? ⟨du, 1, none⟩ = some (.string (⟨#[]⟩ : ByteArray)) := (bC cu.out 1).trans rfl; have cX : w8.cell? ⟨du, 2, none⟩ = some (.string (⟨#[]⟩ : ByteArray)) := (bC cu.out 2).trans rfl; have cW := bF cu.out 0; have cV := bF cu.out 1; have cU := bF cu.out 2) | ((with_reducible refine aC (f := 51) rfl ?_); refine aG (some 17) rfl rfl Try.func51 z0 rfl #[.agg #[.int .i64 ((rd_T44 l0 x12_1).f0), .string ((rd_T44 l0 x12_1).f1), .string ((rd_T44 l0 x12_1).f2)]] rfl z10 ?_; (with_reducible refine (spec_l3Part.calls k1 ((rd_T44 l0 x12_1).f0) ((rd_T44 l0 x12_1).f1) ((rd_T44 l0 x12_1).f2) true _ A6.out).mono ?_); rintro e w10 ⟨rfl, hb⟩; refine ⟨_, rfl, ?_⟩; have aT := aM (blk_below (g := du) (o := .cells #[.int .i64 ((rd_T44 l0 x12_1).f0), .string ((rd_T44 l0 x12_1).f1), .string ((rd_T44 l0 x12_1).f2)] 44 (0, 0)) (by (with_reducible repeat (first | refine al ?_ _ | refine ak ?_ | refine am ?_ _)); refine blk_put (cs := #[.int .i64 ((rd_T44 l0 x12_1).f0), .string ((rd_T44 l0 x12_1).f1), .string (⟨#[]⟩ : ByteArray)]) ?_ 2 _ rfl; (with_reducible repeat (first | refine al ?_ _ | refine ak ?_ | refine am ?_ _)); refine blk_put (cs := #[.int .i64 ((rd_T44 l0 x12_1).f0), .string (⟨#[]⟩ : ByteArray), .string (⟨#[]⟩ : ByteArray)]) ?_ 1 _ rfl; (with_reducible repeat (first | refine al ?_ _ | refine ak ?_ | refine am ?_ _)); refine blk_put (cs := #[.int .i64 0, .string (⟨#[]⟩ : ByteArray), .string (⟨#[]⟩ : ByteArray)]) ?_ 0 _ rfl; (with_reducible repeat (first | refine al ?_ _ | refine ak ?_ | refine am ?_ _)); exact cu.out) hb); have aU := aM (ap (by repeat (first | (with_reducible first | exact HB.out | apply bA | apply pD | apply bD | refine ao ?_ ic.out) | exact HB.out)) hb); clear cu; clear HB; have cu := aT; have HB := aU; clear aT aU; (try clear hb); (try clear hb2); (try clear hk); (try clear hi)))
        go_roundg k1
        case measure => have := HK1.out; omega
        case rel => exact ⟨(wrap64 (x12_1 + 1)), z1, H', ⟨y0⟩, ⟨by repeat (first | (with_reducible first | exact HB.out | apply bA | apply pD | apply bD | refine ao ?_ ic.out) | exact HB.out)⟩⟩
       ·replace c7 := Bool.eq_false_iff.mpr c7
        subst c7
        rw [if_neg (show ¬ (false = true) by decide)] at H
        obtain rfl := sI H
        have p183 : 0 ≤ (x12_1 : Int) := oD z2
        have q183 : x12_1 < (l0.length : Int) := oD z2
        obtain ⟨ad183, e183, hx183_0, hx183_1, hx183_2⟩ := at_T44 bG.out x12_1 p183 q183
        cases e183
        replace hx183_0 := (HB.out.cell (World.block_lt_of_cell? w _ hx183_0)).trans hx183_0
        replace hx183_1 := (HB.out.cell (World.block_lt_of_cell? w _ hx183_1)).trans hx183_1
        replace hx183_2 := (HB.out.cell (World.block_lt_of_cell? w _ hx183_2)).trans hx183_2
        replace p183 := eq_true p183
        replace q183 := eq_true q183
        go_wp2_with (first | ((with_reducible refine aD (N := 4) rfl ?_); refine aE ?hg (N := 4) ?hd (cs := #[.int .i64 0, .string (⟨#[]⟩ : ByteArray), .string (⟨#[]⟩ : ByteArray)]) (t := 44) ?hr ?_; (case hd => rfl); (case hg => rfl); (case hr => first | (go_simp; done) | (go_simp; rfl)); intro du hg w11 hbox hb; have aT := aM (ap z9 hb); have aU := aM (hbox); have aX := aM ((by rw [hg]; exact (aq z9) : w.heap.size ≤ du)); have a5 := aM ((by rw [hg]; exact (aq z9) : w.heap.size ≤ du)); clear HB; have HB := aT; have cu := aU; have GW184 := aX; have ic := a5; clear aT aU aX a5; clear hb hbox hg; have gI : w11.cell? ⟨du, 0, none⟩ = some (.int .i64 0) := (bC cu.out 0).trans rfl; have gH : w11.cell? ⟨du, 1, none⟩ = some (.string (⟨#[]⟩ : ByteArray)) := (bC cu.out 1).trans rfl; have gG : w11.cell? ⟨du, 2, none⟩ = some (.string (⟨#[]⟩ : ByteArray)) := (bC cu.out 2).trans rfl; have gi := bF cu.out 0; have gh := bF cu.out 1; have gg := bF cu.out 2) | ((with_reducible refine aC (f := 51) rfl ?_); refine aG (some 17) rfl rfl Try.func51 z0 rfl #[.agg #[.int .i64 ((rd_T44 l0 x12_1).f0), .string ((rd_T44 l0 x12_1).f1), .string ((rd_T44 l0 x12_1).f2)]] rfl z10 ?_; (with_reducible refine (spec_l3Part.calls k1 ((rd_T44 l0 x12_1).f0) ((rd_T44 l0 x12_1).f1) ((rd_T44 l0 x12_1).f2) false _ A6.out).mono ?_); rintro e w13 ⟨rfl, hb⟩; refine ⟨_, rfl, ?_⟩; have aT := aM (blk_below (g := du) (o := .cells #[.int .i64 ((rd_T44 l0 x12_1).f0), .string ((rd_T44 l0 x12_1).f1), .string ((rd_T44 l0 x12_1).f2)] 44 (0, 0)) (by (with_reducible repeat (first | refine al ?_ _ | refine ak ?_ | refine am ?_ _)); refine blk_put (cs := #[.int .i64 ((rd_T44 l0 x12_1).f0), .string ((rd_T44 l0 x12_1).f1), .string (⟨#[]⟩ : ByteArray)]) ?_ 2 _ rfl; (with_reducible repeat (first | refine al ?_ _ | refine ak ?_ | refine am ?_ _)); refine blk_put (cs := #[.int .i64 ((rd_T44 l0 x12_1).f0), .string (⟨#[]⟩ : ByteArray), .string (⟨#[]⟩ : ByteArray)]) ?_ 1 _ rfl; (with_reducible repeat (first | refine al ?_ _ | refine ak ?_ | refine am ?_ _)); refine blk_put (cs := #[.int .i64 0, .string (⟨#[]⟩ : ByteArray), .string (⟨#[]⟩ : ByteArray)]) ?_ 0 _ rfl; (with_reducible repeat (first | refine al ?_ _ | refine ak ?_ | refine am ?_ _)); exact cu.out) hb); have aU := aM (ap (by repeat (first | (with_reducible first | exact HB.out | apply bA | apply pD | apply bD | refine ao ?_ ic.out) | exact HB.out)) hb); clear cu; clear HB; have cu := aT; have HB := aU; clear aT aU; (try clear hb); (try clear hb2); (try clear hk); (try clear hi)))
        go_ret
        exact ⟨y4, by repeat (first | (with_reducible first | exact HB.out | apply bA | apply pD | apply bD | refine ao ?_ ic.out) | exact HB.out)⟩
      ·rw [if_neg c5] at H
       exact absurd H (by simp)
     ·rw [if_neg c4] at H
      exact absurd H (by simp)
    ·rw [if_neg c3] at H
     have c3b0 : decide (x12_1 < (l0.length : Int)) = false := dF c3
     clear c3
     replace H := oB H
     obtain ⟨⟨kw, mJ⟩, nl, H⟩ := H
     try dsimp only at H
     have nV := aM nl
     clear nl
     by_cases ck : kw ≤ 300
     ·rw [if_pos ck] at H
      have c15b0 : decide (kw ≤ 300) = true := dT ck
      clear ck
      obtain rfl := sI H
      go_wp2_with (first | ((with_reducible refine aC (f := 52) rfl ?_); refine aG (some 22) rfl rfl Try.func52 z0 rfl #[.slice A0 l0.length c0] rfl z10 ?_; (with_reducible refine (spec_l3Sizes.calls k1 _ _ l0 kw mJ _ ?side1 ?side2 nV.out).mono ?_); (case side1 => repeat (first | exact (au bG.out HB.out) | (with_reducible refine av ?_ _) | (with_reducible refine aw ?_ _) | (with_reducible refine ay ?_))); (case side2 => exact b8.out); rintro e w16 ⟨rfl, hb⟩; refine ⟨_, rfl, ?_⟩; have aT := aM (ap z9 hb); clear HB; have HB := aT; clear aT; (try clear hb); (try clear hb2); (try clear hk); (try clear hi)))
      go_ret
      exact ⟨y4, y5⟩
     ·rw [if_neg ck] at H
      have c15b0 : decide (kw ≤ 300) = false := dF ck
      clear ck
      obtain rfl := sI H
      go_wp2_with (first | ((with_reducible refine aC (f := 52) rfl ?_); refine aG (some 22) rfl rfl Try.func52 z0 rfl #[.slice A0 l0.length c0] rfl z10 ?_; (with_reducible refine (spec_l3Sizes.calls k1 _ _ l0 kw mJ _ ?side1 ?side2 nV.out).mono ?_); (case side1 => repeat (first | exact (au bG.out HB.out) | (with_reducible refine av ?_ _) | (with_reducible refine aw ?_ _) | (with_reducible refine ay ?_))); (case side2 => exact b8.out); rintro e w17 ⟨rfl, hb⟩; refine ⟨_, rfl, ?_⟩; have aT := aM (ap z9 hb); clear HB; have HB := aT; clear aT; (try clear hb); (try clear hb2); (try clear hk); (try clear hi)))
      go_ret
      exact ⟨y4, y5⟩

/-! ### spec_DiffOps: function 15 -/
def spec_DiffOps.f (k : Nat) (a0 : ByteArray) (a1 : ByteArray) : Option ((List (S44)) × Bool) := (spec_l9Texts.f k a0 a1).bind fun kv => (if kv = true then ((spec_l9Diff.f k a0 a1).bind fun eK => ((spec_GoodOp.f k eK).bind fun ku => (if ku = true then (some (eK, true)) else (some (([] : List (S44)), false))))) else (some (([] : List (S44)), false)))
theorem spec_DiffOps.mono : ∀ a0 a1 k, LeO (spec_DiffOps.f k a0 a1) (spec_DiffOps.f (k + 1) a0 a1) := by
 intro a0 a1 k
 unfold spec_DiffOps.f
 repeat' first
   | (with_reducible exact spec_GoodOp.mono _ _)
   | (with_reducible exact spec_l9Diff.mono _ _ _)
   | (with_reducible exact spec_l9Texts.mono _ _ _)
   | (with_reducible exact LeO.refl _)
   | (with_reducible exact LeO.none _)
   | (with_reducible refine LeO.ite ?_ ?_)
   | (with_reducible refine LeO.bind ?_ (fun _ => ?_))
   | exact spec_GoodOp.mono _ _
   | exact spec_l9Diff.mono _ _ _
   | exact spec_l9Texts.mono _ _ _
   | exact LeO.none _
   | refine LeO.ite ?_ ?_
   | refine LeO.bind ?_ (fun _ => ?_)
set_option maxHeartbeats 8000000 in
set_option maxRecDepth 100000 in
theorem spec_DiffOps.calls (k : Nat) (a0 : ByteArray) (a1 : ByteArray) (r1 : List (S44)) (r2 : Bool) (w : World) (h : spec_DiffOps.f k a0 a1 = some (r1, r2)) :
  Calls Try.prog 15 #[.string a0, .string a1] w fun e w' => ∃ v0_ : Value, e = .returned (.tuple #[v0_, .bool r2]) ∧ Kd.R k44 44 w' w.heap.size (fun _ => True) v0_ r1 ∧ Below w.heap.size w w' := by
 have HB := aM (Below.refl w.heap.size w)
 have H : ((spec_l9Texts.f k a0 a1).bind fun kv => (if kv = true then ((spec_l9Diff.f k a0 a1).bind fun eK => ((spec_GoodOp.f k eK).bind fun ku => (if ku = true then (some (eK, true)) else (some (([] : List (S44)), false))))) else (some (([] : List (S44)), false)))) = some (r1, r2) := h
 clear h
 replace H := oB H
 obtain ⟨kv, eF, H⟩ := H
 try dsimp only at H
 have A3 := aM eF
 clear eF
 by_cases c4 : kv = true
 ·subst c4
  rw [if_pos rfl] at H
  replace H := oB H
  obtain ⟨eK, ft, H⟩ := H
  try dsimp only at H
  have A5 := aM ft
  clear ft
  replace H := oB H
  obtain ⟨ku, ez, H⟩ := H
  try dsimp only at H
  have A6 := aM ez
  clear ez
  by_cases c7 : ku = true
  ·subst c7
   rw [if_pos rfl] at H
   simp only [Option.some.injEq, Prod.mk.injEq] at H
   obtain ⟨rfl, rfl⟩ := H
   go_enter Try.func15, Try.ntmps15
   go_wp2_with (first | ((with_reducible refine aC (f := 7) rfl ?_); refine aG (some 9) rfl rfl Try.func7 z0 rfl #[.string a0, .string a1] rfl z10 ?_; (with_reducible refine (spec_l9Texts.calls k a0 a1 true _ A3.out).mono ?_); rintro e w' ⟨rfl, ⟨nd, rfl⟩⟩; refine ⟨_, rfl, ?_⟩) | ((with_reducible refine aC (f := 39) rfl ?_); refine aG (some 13) rfl rfl Try.func39 z0 rfl #[.string a0, .string a1] rfl z10 ?_; (with_reducible refine (spec_l9Diff.calls k a0 a1 eK _ A5.out).mono ?_); rintro e w8 ⟨v190, rfl, ho0, hb⟩; refine ⟨_, rfl, ?_⟩; have aT := aM (aH ho0 (aq z9)); have aU := aM (ap z9 hb); clear HB; have df := aT; have HB := aU; clear aT aU; (try clear hb); (try clear hb2); (try clear hk); (try clear hi); (try clear ho0); obtain ⟨lf, lb, eo9⟩ := Kd.R_slice df.out; subst eo9) | ((with_reducible refine aC (f := 40) rfl ?_); refine aG (some 15) rfl rfl Try.func40 z0 rfl #[.slice lf eK.length lb] rfl z10 ?_; (with_reducible refine (spec_GoodOp.calls k _ _ eK true _ ?side1 ?side2 A6.out).mono ?_); (case side1 => repeat (first | exact (ag df.out).2.2 | (with_reducible refine av ?_ _) | (with_reducible refine aw ?_ _) | (with_reducible refine ay ?_))); (case side2 => exact (ag df.out).2.1); rintro e w10 ⟨rfl, hb⟩; refine ⟨_, rfl, ?_⟩; have aT := aM (ae (by (with_reducible repeat (first | apply ac | apply ab | apply aa)); exact df.out) hb); have aU := aM (ap z9 hb); clear df; clear HB; have df := aT; have HB := aU; clear aT aU; (try clear hb); (try clear hb2); (try clear hk); (try clear hi)))
   go_ret2
   exact ⟨_, y4, by (with_reducible repeat (first | apply ac | apply ab | apply aa)); exact df.out, y5⟩
  ·replace c7 := Bool.eq_false_iff.mpr c7
   subst c7
   rw [if_neg (show ¬ (false = true) by decide)] at H
   simp only [Option.some.injEq, Prod.mk.injEq] at H
   obtain ⟨rfl, rfl⟩ := H
   go_enter Try.func15, Try.ntmps15
   go_wp2_with (first | ((with_reducible refine aC (f := 7) rfl ?_); refine aG (some 9) rfl rfl Try.func7 z0 rfl #[.string a0, .string a1] rfl z10 ?_; (with_reducible refine (spec_l9Texts.calls k a0 a1 true _ A3.out).mono ?_); rintro e w' ⟨rfl, ⟨nd, rfl⟩⟩; refine ⟨_, rfl, ?_⟩) | ((with_reducible refine aC (f := 39) rfl ?_); refine aG (some 13) rfl rfl Try.func39 z0 rfl #[.string a0, .string a1] rfl z10 ?_; (with_reducible refine (spec_l9Diff.calls k a0 a1 eK _ A5.out).mono ?_); rintro e w11 ⟨v190, rfl, ho0, hb⟩; refine ⟨_, rfl, ?_⟩; have aT := aM (aH ho0 (aq z9)); have aU := aM (ap z9 hb); clear HB; have df := aT; have HB := aU; clear aT aU; (try clear hb); (try clear hb2); (try clear hk); (try clear hi); (try clear ho0); obtain ⟨Ao12, co12, eo12⟩ := Kd.R_slice df.out; subst eo12) | ((with_reducible refine aC (f := 40) rfl ?_); refine aG (some 15) rfl rfl Try.func40 z0 rfl #[.slice Ao12 eK.length co12] rfl z10 ?_; (with_reducible refine (spec_GoodOp.calls k _ _ eK false _ ?side1 ?side2 A6.out).mono ?_); (case side1 => repeat (first | exact (ag df.out).2.2 | (with_reducible refine av ?_ _) | (with_reducible refine aw ?_ _) | (with_reducible refine ay ?_))); (case side2 => exact (ag df.out).2.1); rintro e w13 ⟨rfl, hb⟩; refine ⟨_, rfl, ?_⟩; have aT := aM (ae (by (with_reducible repeat (first | apply ac | apply ab | apply aa)); exact df.out) hb); have aU := aM (ap z9 hb); clear df; clear HB; have df := aT; have HB := aU; clear aT aU; (try clear hb); (try clear hb2); (try clear hk); (try clear hi)))
   go_ret2
   exact ⟨_, y4, y21, y5⟩
 ·replace c4 := Bool.eq_false_iff.mpr c4
  subst c4
  rw [if_neg (show ¬ (false = true) by decide)] at H
  simp only [Option.some.injEq, Prod.mk.injEq] at H
  obtain ⟨rfl, rfl⟩ := H
  go_enter Try.func15, Try.ntmps15
  go_wp2_with (first | ((with_reducible refine aC (f := 7) rfl ?_); refine aG (some 9) rfl rfl Try.func7 z0 rfl #[.string a0, .string a1] rfl z10 ?_; (with_reducible refine (spec_l9Texts.calls k a0 a1 false _ A3.out).mono ?_); rintro e w' ⟨rfl, ⟨nd, rfl⟩⟩; refine ⟨_, rfl, ?_⟩))
  go_ret2
  exact ⟨_, y4, y21, y5⟩

/-! ### spec_l4Bytes: function 44 -/
def spec_l4Bytes.l0 : Nat → List Int → List (S44) → Int → Int → Option (List Int)
 | 0, _, _, _, _ => none
 | k + 1, x3, x6, x7, x8 => if x8 < x7 then (if 0 ≤ x8 then (if x8 < (x6.length : Int) then (if 0 ≤ ((rd_T44 x6 x8).f0) then (if x3.length + ((rd_T44 x6 x8).f0 : Int).toNat < 140737488355328 then ((some (x3 ++ List.replicate ((rd_T44 x6 x8).f0 : Int).toNat 0 : List Int)).bind fun y195 => (if y195.length + ((rd_T44 x6 x8).f2).size < 140737488355328 then (spec_l4Bytes.l0 k (y195 ++ bytesOf ((rd_T44 x6 x8).f2)) x6 x7 (wrap64 (x8 + 1))) else (none))) else (none)) else (none)) else (none)) else (none)) else (some x3)
def spec_l4Bytes.f (k : Nat) (l0 : List (S44)) : Option (List Int) := spec_l4Bytes.l0 k ([] : List Int) l0 (l0.length : Int) 0
theorem spec_l4Bytes.mono_l : ∀ k, (∀ y0 y1 y2 y3, LeO (spec_l4Bytes.l0 k y0 y1 y2 y3) (spec_l4Bytes.l0 (k + 1) y0 y1 y2 y3))
 | 0 => fun _ _ _ _ r h => by simp [spec_l4Bytes.l0] at h
 | k + 1 => by
  have ih0 := spec_l4Bytes.mono_l k
  ·intro y0 y1 y2 y3
   unfold spec_l4Bytes.l0
   repeat' first
   | (with_reducible exact ih0 _ _ _ _)
   | (with_reducible exact LeO.refl _)
   | (with_reducible exact LeO.none _)
   | (with_reducible refine LeO.ite ?_ ?_)
   | (with_reducible refine LeO.bind ?_ (fun _ => ?_))
   | exact ih0 _ _ _ _
   | exact LeO.none _
   | refine LeO.ite ?_ ?_
   | refine LeO.bind ?_ (fun _ => ?_)
theorem spec_l4Bytes.mono : ∀ a0 k, LeO (spec_l4Bytes.f k a0) (spec_l4Bytes.f (k + 1) a0) := by
 intro a0 k
 have ih0 := spec_l4Bytes.mono_l k
 unfold spec_l4Bytes.f
 repeat' first
   | (with_reducible exact ih0 _ _ _ _)
   | (with_reducible exact LeO.refl _)
   | (with_reducible exact LeO.none _)
   | (with_reducible refine LeO.ite ?_ ?_)
   | (with_reducible refine LeO.bind ?_ (fun _ => ?_))
   | exact ih0 _ _ _ _
   | exact LeO.none _
   | refine LeO.ite ?_ ?_
   | refine LeO.bind ?_ (fun _ => ?_)
set_option maxHeartbeats 8000000 in
set_option maxRecDepth 100000 in
theorem spec_l4Bytes.calls (k : Nat) (A0 : Option Addr) (c0 : Nat) (l0 : List (S44)) (r : List Int) (w : World) (hr0 : Kd.C k44 w A0 l0.length l0) (hc0 : l0.length ≤ c0) (h : spec_l4Bytes.f k l0 = some r) :
  Calls Try.prog 44 #[.slice A0 l0.length c0] w fun e w' => ∃ v0_ : Value, e = .returned (v0_) ∧ Kd.R (Kd.int .u8) 5 w' w.heap.size (fun _ => True) v0_ r ∧ Below w.heap.size w w' := by
 have hu44 := Try.underlying44
 have bG := aM hr0
 have b8 := aM hc0
 clear hr0 hc0
 have HB := aM (Below.refl w.heap.size w)
 have H : (spec_l4Bytes.l0 k ([] : List Int) l0 (l0.length : Int) 0) = some r := h
 clear h
 have H' := aM H
 clear H
 go_enter Try.func44, Try.ntmps44
 go_wp2
 go_loopg [3, 8] k (fun kq v3 v8 w' => ∃ (x3_1 : List Int) (x8_1 : Int), v8 = .int .i64 x8_1 ∧ Aside0 (spec_l4Bytes.l0 kq x3_1 l0 (l0.length : Int) x8_1 = some r) ∧ Aside0 (kq ≤ k) ∧ Aside0 (Kd.R (Kd.int .u8) 5 w' w.heap.size (fun _ => True) v3 x3_1) ∧ Aside0 (Below w.heap.size w w'))
 case atStart => exact ⟨(([] : List Int)), (0), z1, H', ⟨Nat.le_refl _⟩, ⟨y21⟩, ⟨y5⟩⟩
 case round =>
  clear H'
  obtain ⟨x3_1, x8_1, rfl, HA, HK1, bY, HB⟩ := hrel
  cases gk with
  | zero => exact absurd HA.out (by simp [spec_l4Bytes.l0])
  | succ k1 =>
   have H := HA.out
   clear HA
   simp only [spec_l4Bytes.l0] at H
   by_cases c2 : x8_1 < (l0.length : Int)
   ·rw [if_pos c2] at H
    have c2b0 : decide (x8_1 < (l0.length : Int)) = true := dT c2
    clear c2
    by_cases c3 : 0 ≤ x8_1
    ·rw [if_pos c3] at H
     have c3b0 : decide (0 ≤ x8_1) = true := dT c3
     clear c3
     by_cases c4 : x8_1 < (l0.length : Int)
     ·rw [if_pos c4] at H
      have c4b0 : decide (x8_1 < (l0.length : Int)) = true := dT c4
      clear c4
      by_cases c5 : 0 ≤ ((rd_T44 l0 x8_1).f0)
      ·rw [if_pos c5] at H
       have c5b0 := eq_true c5
       have c5b1 : decide (0 ≤ ((rd_T44 l0 x8_1).f0)) = true := dT c5
       clear c5
       by_cases c6 : x3_1.length + ((rd_T44 l0 x8_1).f0 : Int).toNat < 140737488355328
       ·rw [if_pos c6] at H
        have LMc6 := aM c6
        clear c6
        obtain ⟨y195, hy195⟩ : ∃ y_ : List Int, y_ = (x3_1 ++ List.replicate ((rd_T44 l0 x8_1).f0 : Int).toNat 0) := ⟨_, rfl⟩
        replace H : (if y195.length + ((rd_T44 l0 x8_1).f2).size < 140737488355328 then (spec_l4Bytes.l0 k1 (y195 ++ bytesOf ((rd_T44 l0 x8_1).f2)) l0 (l0.length : Int) (wrap64 (x8_1 + 1))) else (none)) = some r := by first | (rw [hy195]; with_reducible exact H) | (have H2_ := (Option.bind_some _ _).symm.trans H; rw [hy195]; with_reducible exact H2_) | (have H2_ := (Option.bind_some _ _).symm.trans H; with_reducible exact H2_) | with_reducible exact H | (rw [hy195]; exact H) | exact H
        have Ny195 := aM hy195
        clear hy195
        by_cases c7 : y195.length + ((rd_T44 l0 x8_1).f2).size < 140737488355328
        ·rw [if_pos c7] at H
         have LMc7 := aM c7
         clear c7
         obtain ⟨y198, hy198⟩ : ∃ y_ : List Int, y_ = (y195 ++ bytesOf ((rd_T44 l0 x8_1).f2)) := ⟨_, rfl⟩
         replace H : (spec_l4Bytes.l0 k1 y198 l0 (l0.length : Int) (wrap64 (x8_1 + 1))) = some r := by first | (rw [hy198]; with_reducible exact H) | (have H2_ := (Option.bind_some _ _).symm.trans H; rw [hy198]; with_reducible exact H2_) | (have H2_ := (Option.bind_some _ _).symm.trans H; with_reducible exact H2_) | with_reducible exact H | (rw [hy198]; exact H) | exact H
         have Ny198 := aM hy198
         clear hy198
         have H' := aM H
         clear H
         have p193 : 0 ≤ (x8_1 : Int) := oD z2
         have q193 : x8_1 < (l0.length : Int) := oD z2
         obtain ⟨ad193, e193, hx193_0, hx193_1, hx193_2⟩ := at_T44 bG.out x8_1 p193 q193
         cases e193
         replace hx193_0 := (HB.out.cell (World.block_lt_of_cell? w _ hx193_0)).trans hx193_0
         replace hx193_1 := (HB.out.cell (World.block_lt_of_cell? w _ hx193_1)).trans hx193_1
         replace hx193_2 := (HB.out.cell (World.block_lt_of_cell? w _ hx193_2)).trans hx193_2
         replace p193 := eq_true p193
         replace q193 := eq_true q193
         go_wp2_with (first | ((with_reducible refine aD (N := 5) rfl ?_); refine aE ?hg (N := 5) ?hd (cs := #[.int .i64 0, .string (⟨#[]⟩ : ByteArray), .string (⟨#[]⟩ : ByteArray)]) (t := 44) ?hr ?_; (case hd => rfl); (case hg => rfl); (case hr => first | (go_simp; done) | (go_simp; rfl)); intro dt hg w8 hbox hb; have aT := aM (ae (by (with_reducible repeat (first | apply ac | apply ab | apply aa)); exact bY.out) hb); have aU := aM (ap z9 hb); have aX := aM (hbox); have a5 := aM ((by rw [hg]; exact (aq z9) : w.heap.size ≤ dt)); have bf := aM ((by rw [hg]; exact (aq z9) : w.heap.size ≤ dt)); clear bY; clear HB; have bY := aT; have HB := aU; have cj := aX; have GW194 := a5; have ib := bf; clear aT aU aX a5 bf; clear hb hbox hg; have cZ : w8.cell? ⟨dt, 0, none⟩ = some (.int .i64 0) := (bC cj.out 0).trans rfl; have cY : w8.cell? ⟨dt, 1, none⟩ = some (.string (⟨#[]⟩ : ByteArray)) := (bC cj.out 1).trans rfl; have cX : w8.cell? ⟨dt, 2, none⟩ = some (.string (⟨#[]⟩ : ByteArray)) := (bC cj.out 2).trans rfl; have cW := bF cj.out 0; have cV := bF cj.out 1; have cU := bF cj.out 2) | (at_builtin; refine Kd.R_append_zeros (Kd.int .u8) (w0 := w) w.heap.size rfl (.tmp 12) (.tmp 14) 55 3 5 (.int .u8 0) 1 rfl Try.underlying55 Try.underlying3 info5 rfl (by decide) (by omega) u3 x3_1 0 ((rd_T44 l0 x8_1).f0 : Int) (fun _ => True) rfl rfl rfl ?aF ?aO (oD z2) ?aB ?aS ?aL ?_; (case aB => exact (by repeat (first | (with_reducible first | exact HB.out | apply bA | apply pD | apply bD | refine ao ?_ ib.out) | exact HB.out))); (case aF => exact (fun _ _ => trivial)); (case aO => exact (by (with_reducible repeat (first | apply ac | apply ab | apply aa)); exact af (Kd.R_far (p := ⟨dt, 2, none⟩) (Kd.R_far (p := ⟨dt, 1, none⟩) (Kd.R_far (p := ⟨dt, 0, none⟩) (Kd.R_types bY.out cj.out (by decide)) (fun _ hk => hk.2) (.int .i64 ((rd_T44 l0 x8_1).f0))) (fun _ hk => hk.2) (.string ((rd_T44 l0 x8_1).f1))) (fun _ hk => hk.2) (.string ((rd_T44 l0 x8_1).f2))) (fun _ hk => trivial))); (case aS => exact (aq (by repeat (first | (with_reducible first | exact HB.out | apply bA | apply pD | apply bD | refine ao ?_ ib.out) | exact HB.out)))); (case aL => have := LMc6.out; omega); intro v196 w10 ho hb hg hat; rw [← Ny195.out] at ho; have aT := aM (blk_grown (g := dt) (o := .cells #[.int .i64 ((rd_T44 l0 x8_1).f0), .string ((rd_T44 l0 x8_1).f1), .string ((rd_T44 l0 x8_1).f2)] 44 (0, 0)) (by (with_reducible repeat (first | refine al ?_ _ | refine ak ?_ | refine am ?_ _)); refine blk_put (cs := #[.int .i64 ((rd_T44 l0 x8_1).f0), .string ((rd_T44 l0 x8_1).f1), .string (⟨#[]⟩ : ByteArray)]) ?_ 2 _ rfl; (with_reducible repeat (first | refine al ?_ _ | refine ak ?_ | refine am ?_ _)); refine blk_put (cs := #[.int .i64 ((rd_T44 l0 x8_1).f0), .string (⟨#[]⟩ : ByteArray), .string (⟨#[]⟩ : ByteArray)]) ?_ 1 _ rfl; (with_reducible repeat (first | refine al ?_ _ | refine ak ?_ | refine am ?_ _)); refine blk_put (cs := #[.int .i64 0, .string (⟨#[]⟩ : ByteArray), .string (⟨#[]⟩ : ByteArray)]) ?_ 0 _ rfl; (with_reducible repeat (first | refine al ?_ _ | refine ak ?_ | refine am ?_ _)); exact cj.out) hg (aA bY.out cj.out (by decide))); have aU := aM (hb); have aX := aM (ho); clear cj; clear HB; clear bY; have cj := aT; have HB := aU; have kR := aX; clear aT aU aX; clear ho hb hg hat; have gL : w10.cell? ⟨dt, 0, none⟩ = some (.int .i64 ((rd_T44 l0 x8_1).f0)) := (bC cj.out 0).trans rfl; have gK : w10.cell? ⟨dt, 1, none⟩ = some (.string ((rd_T44 l0 x8_1).f1)) := (bC cj.out 1).trans rfl; have gJ : w10.cell? ⟨dt, 2, none⟩ = some (.string ((rd_T44 l0 x8_1).f2)) := (bC cj.out 2).trans rfl; have gn := bF cj.out 0; have gl := bF cj.out 1; have gj := bF cj.out 2) | (at_builtin; refine print_append_str (w0 := w) w.heap.size rfl (.tmp 16) _ 55 9 5 rfl Try.underlying55 Try.underlying9 info5 v196 y195 ((rd_T44 l0 x8_1).f2) rfl rfl ?aO ?aB ?aS ?aL ?_; (case aB => exact (by repeat (first | (with_reducible first | exact HB.out | apply bA | apply pD | apply bD | refine ao ?_ ib.out) | exact HB.out))); (case aO => exact (Kd.own_of_R (by (with_reducible repeat (first | apply ac | apply ab | apply aa)); exact kR.out))); (case aS => exact (aq (by repeat (first | (with_reducible first | exact HB.out | apply bA | apply pD | apply bD | refine ao ?_ ib.out) | exact HB.out)))); (case aL => have := LMc7.out; omega); intro v199 w12 ho0 hb hg; have ho := Kd.R_of_own (h1 := fun _ => rfl) (ok := fun _ => True) ho0 (fun _ _ => trivial); clear ho0; have hat := True.intro; rw [← Ny198.out] at ho; change Kd.R (Kd.int .u8) 5 w12 w.heap.size (fun _ => True) v199 y198 at ho; have aT := aM (blk_grown (g := dt) (o := .cells #[.int .i64 ((rd_T44 l0 x8_1).f0), .string ((rd_T44 l0 x8_1).f1), .string ((rd_T44 l0 x8_1).f2)] 44 (0, 0)) (by (with_reducible repeat (first | refine al ?_ _ | refine ak ?_ | refine am ?_ _)); exact cj.out) hg (aA kR.out cj.out (by decide))); have aU := aM (hb); have aX := aM (ho); clear cj; clear HB; clear kR; have cj := aT; have HB := aU; have HO200 := aX; clear aT aU aX; clear ho hb hg hat))
         go_roundg k1
         case measure => have := HK1.out; omega
         case rel => exact ⟨(y198), (wrap64 (x8_1 + 1)), z1, H', ⟨y0⟩, ⟨by (with_reducible repeat (first | apply ac | apply ab | apply aa)); exact HO200.out⟩, ⟨by repeat (first | (with_reducible first | exact HB.out | apply bA | apply pD | apply bD | refine ao ?_ ib.out) | exact HB.out)⟩⟩
        ·rw [if_neg c7] at H
         exact absurd H (by simp)
       ·rw [if_neg c6] at H
        exact absurd H (by simp)
      ·rw [if_neg c5] at H
       exact absurd H (by simp)
     ·rw [if_neg c4] at H
      exact absurd H (by simp)
    ·rw [if_neg c3] at H
     exact absurd H (by simp)
   ·rw [if_neg c2] at H
    have c2b0 : decide (x8_1 < (l0.length : Int)) = false := dF c2
    clear c2
    obtain rfl := sI H
    go_wp2
    go_ret
    exact ⟨_, y4, y7, y5⟩

/-! ### spec_l4Same: function 42 -/
def spec_l4Same.l0 : Nat → List Int → List Int → Int → Int → Option (Bool × Bool)
 | 0, _, _, _, _ => none
 | k + 1, x6, x7, x19, x20 => if x20 < x19 then (if 0 ≤ x20 then (if x20 < (x6.length : Int) then (if (rd x6 x20) = 0 then (spec_l4Same.l0 k x6 x7 x19 (wrap64 (x20 + 1))) else (if x20 < (x7.length : Int) then (if (rd x7 x20) = 0 then (spec_l4Same.l0 k x6 x7 x19 (wrap64 (x20 + 1))) else (if (rd x6 x20) = (rd x7 x20) then (spec_l4Same.l0 k x6 x7 x19 (wrap64 (x20 + 1))) else (some (false, true)))) else (none))) else (none)) else (none)) else (some (true, true))
def spec_l4Same.f (k : Nat) (l0 : List (S44)) (l1 : List (S44)) : Option (Bool × Bool) := (spec_l4Bytes.f k l0).bind fun bM => ((spec_l4Bytes.f k l1).bind fun bU => (if (bM.length : Int) = (bU.length : Int) then (spec_l4Same.l0 k bM bU (bM.length : Int) 0) else (some (false, false))))
theorem spec_l4Same.mono_l : ∀ k, (∀ y0 y1 y2 y3, LeO (spec_l4Same.l0 k y0 y1 y2 y3) (spec_l4Same.l0 (k + 1) y0 y1 y2 y3))
 | 0 => fun _ _ _ _ r h => by simp [spec_l4Same.l0] at h
 | k + 1 => by
  have ih0 := spec_l4Same.mono_l k
  ·intro y0 y1 y2 y3
   unfold spec_l4Same.l0
   repeat' first
   | (with_reducible exact ih0 _ _ _ _)
   | (with_reducible exact spec_l4Bytes.mono _ _)
   | (with_reducible exact LeO.refl _)
   | (with_reducible exact LeO.none _)
   | (with_reducible refine LeO.ite ?_ ?_)
   | (with_reducible refine LeO.bind ?_ (fun _ => ?_))
   | exact ih0 _ _ _ _
   | exact spec_l4Bytes.mono _ _
   | exact LeO.none _
   | refine LeO.ite ?_ ?_
   | refine LeO.bind ?_ (fun _ => ?_)
theorem spec_l4Same.mono : ∀ a0 a1 k, LeO (spec_l4Same.f k a0 a1) (spec_l4Same.f (k + 1) a0 a1) := by
 intro a0 a1 k
 have ih0 := spec_l4Same.mono_l k
 unfold spec_l4Same.f
 repeat' first
   | (with_reducible exact ih0 _ _ _ _)
   | (with_reducible exact spec_l4Bytes.mono _ _)
   | (with_reducible exact LeO.refl _)
   | (with_reducible exact LeO.none _)
   | (with_reducible refine LeO.ite ?_ ?_)
   | (with_reducible refine LeO.bind ?_ (fun _ => ?_))
   | exact ih0 _ _ _ _
   | exact spec_l4Bytes.mono _ _
   | exact LeO.none _
   | refine LeO.ite ?_ ?_
   | refine LeO.bind ?_ (fun _ => ?_)
set_option maxHeartbeats 8000000 in
set_option maxRecDepth 100000 in
theorem spec_l4Same.calls (k : Nat) (A0 : Option Addr) (c0 : Nat) (l0 : List (S44)) (A1 : Option Addr) (c1 : Nat) (l1 : List (S44)) (r1 : Bool) (r2 : Bool) (w : World) (hr0 : Kd.C k44 w A0 l0.length l0) (hc0 : l0.length ≤ c0) (hr1 : Kd.C k44 w A1 l1.length l1) (hc1 : l1.length ≤ c1) (h : spec_l4Same.f k l0 l1 = some (r1, r2)) :
  Calls Try.prog 42 #[.slice A0 l0.length c0, .slice A1 l1.length c1] w fun e w' => e = .returned (.tuple #[.bool r1, .bool r2]) ∧ Below w.heap.size w w' := by
 have bG := aM hr0
 have b8 := aM hc0
 clear hr0 hc0
 have cz := aM hr1
 have dg := aM hc1
 clear hr1 hc1
 have HB := aM (Below.refl w.heap.size w)
 have H : ((spec_l4Bytes.f k l0).bind fun bM => ((spec_l4Bytes.f k l1).bind fun bU => (if (bM.length : Int) = (bU.length : Int) then (spec_l4Same.l0 k bM bU (bM.length : Int) 0) else (some (false, false))))) = some (r1, r2) := h
 clear h
 replace H := oB H
 obtain ⟨bM, eF, H⟩ := H
 try dsimp only at H
 have A3 := aM eF
 clear eF
 replace H := oB H
 obtain ⟨bU, eE, H⟩ := H
 try dsimp only at H
 have A4 := aM eE
 clear eE
 by_cases c5 : (bM.length : Int) = (bU.length : Int)
 ·rw [if_pos c5] at H
  have c5b0 : ((bM.length : Int) == (bU.length : Int)) = true := qT c5
  have c5b1 : ((bM.length : Int) != (bU.length : Int)) = false := nF c5
  have c5b2 : (bM.length == bU.length) = true := by first | simpa using c5 | (simp at c5 ⊢; omega)
  clear c5
  have H' := aM H
  clear H
  go_enter Try.func42, Try.ntmps42
  go_wp2_with (first | (go_at_call 44; (with_reducible refine (spec_l4Bytes.calls k _ _ l0 bM _ ?side1 ?side2 A3.out).mono ?_); (case side1 => repeat (first | exact bG.out | (with_reducible refine av ?_ _) | (with_reducible refine aw ?_ _) | (with_reducible refine ay ?_))); (case side2 => exact b8.out); rintro e w6 ⟨v202, rfl, ho0, hb⟩; have aT := aM (aH ho0 (aq z9)); have aU := aM (ap z9 hb); clear HB; have bE := aT; have HB := aU; clear aT aU; (try clear hb); (try clear hb2); (try clear hk); (try clear hi); (try clear ho0)) | (go_at_call 44; (with_reducible refine (spec_l4Bytes.calls k _ _ l1 bU _ ?side1 ?side2 A4.out).mono ?_); (case side1 => repeat (first | exact (au cz.out HB.out) | (with_reducible refine av ?_ _) | (with_reducible refine aw ?_ _) | (with_reducible refine ay ?_))); (case side2 => exact dg.out); rintro e w7 ⟨v205, rfl, ho0, hb⟩; have aT := aM (Kd.R_elder' (by (with_reducible repeat (first | apply ac | apply ab | apply aa)); exact bE.out) (ai ho0) hb); have aU := aM (aH (ah ho0 (aj (by (with_reducible repeat (first | apply ac | apply ab | apply aa)); exact bE.out))) (aq z9)); have aX := aM (ap z9 hb); clear bE; clear HB; have bE := aT; have dQ := aU; have HB := aX; clear aT aU aX; (try clear hb); (try clear hb2); (try clear hk); (try clear hi); (try clear ho0); obtain ⟨lS, lc, eo8⟩ := Kd.R_slice bE.out; subst eo8; obtain ⟨lf, lb, eo9⟩ := Kd.R_slice dQ.out; subst eo9))
  repeat (go_quiet (first | (go_at_call 44; (with_reducible refine (spec_l4Bytes.calls k _ _ l0 bM _ ?side1 ?side2 A3.out).mono ?_); (case side1 => repeat (first | exact bG.out | (with_reducible refine av ?_ _) | (with_reducible refine aw ?_ _) | (with_reducible refine ay ?_))); (case side2 => exact b8.out); rintro e w6 ⟨v202, rfl, ho0, hb⟩; have aT := aM (aH ho0 (aq z9)); have aU := aM (ap z9 hb); clear HB; have bE := aT; have HB := aU; clear aT aU; (try clear hb); (try clear hb2); (try clear hk); (try clear hi); (try clear ho0)) | (go_at_call 44; (with_reducible refine (spec_l4Bytes.calls k _ _ l1 bU _ ?side1 ?side2 A4.out).mono ?_); (case side1 => repeat (first | exact (au cz.out HB.out) | (with_reducible refine av ?_ _) | (with_reducible refine aw ?_ _) | (with_reducible refine ay ?_))); (case side2 => exact dg.out); rintro e w7 ⟨v205, rfl, ho0, hb⟩; have aT := aM (Kd.R_elder' (by (with_reducible repeat (first | apply ac | apply ab | apply aa)); exact bE.out) (ai ho0) hb); have aU := aM (aH (ah ho0 (aj (by (with_reducible repeat (first | apply ac | apply ab | apply aa)); exact bE.out))) (aq z9)); have aX := aM (ap z9 hb); clear bE; clear HB; have bE := aT; have dQ := aU; have HB := aX; clear aT aU aX; (try clear hb); (try clear hb2); (try clear hk); (try clear hi); (try clear ho0); obtain ⟨lS, lc, eo8⟩ := Kd.R_slice bE.out; subst eo8; obtain ⟨lf, lb, eo9⟩ := Kd.R_slice dQ.out; subst eo9)); try go_wp2_with (first | (go_at_call 44; (with_reducible refine (spec_l4Bytes.calls k _ _ l0 bM _ ?side1 ?side2 A3.out).mono ?_); (case side1 => repeat (first | exact bG.out | (with_reducible refine av ?_ _) | (with_reducible refine aw ?_ _) | (with_reducible refine ay ?_))); (case side2 => exact b8.out); rintro e w6 ⟨v202, rfl, ho0, hb⟩; have aT := aM (aH ho0 (aq z9)); have aU := aM (ap z9 hb); clear HB; have bE := aT; have HB := aU; clear aT aU; (try clear hb); (try clear hb2); (try clear hk); (try clear hi); (try clear ho0)) | (go_at_call 44; (with_reducible refine (spec_l4Bytes.calls k _ _ l1 bU _ ?side1 ?side2 A4.out).mono ?_); (case side1 => repeat (first | exact (au cz.out HB.out) | (with_reducible refine av ?_ _) | (with_reducible refine aw ?_ _) | (with_reducible refine ay ?_))); (case side2 => exact dg.out); rintro e w7 ⟨v205, rfl, ho0, hb⟩; have aT := aM (Kd.R_elder' (by (with_reducible repeat (first | apply ac | apply ab | apply aa)); exact bE.out) (ai ho0) hb); have aU := aM (aH (ah ho0 (aj (by (with_reducible repeat (first | apply ac | apply ab | apply aa)); exact bE.out))) (aq z9)); have aX := aM (ap z9 hb); clear bE; clear HB; have bE := aT; have dQ := aU; have HB := aX; clear aT aU aX; (try clear hb); (try clear hb2); (try clear hk); (try clear hi); (try clear ho0); obtain ⟨lS, lc, eo8⟩ := Kd.R_slice bE.out; subst eo8; obtain ⟨lf, lb, eo9⟩ := Kd.R_slice dQ.out; subst eo9)))
  go_loopg [20] k (fun kq v20 w' => ∃ (x20_1 : Int), v20 = .int .i64 x20_1 ∧ Aside0 (spec_l4Same.l0 kq bM bU (bM.length : Int) x20_1 = some (r1, r2)) ∧ Aside0 (kq ≤ k) ∧ Aside0 (Kd.R (Kd.int .u8) 5 w' w.heap.size (fun k_ => some k_ ≠ ((.slice lf bU.length lb) : Value).ownBlock) (.slice lS bM.length lc) bM) ∧ Aside0 (Kd.R (Kd.int .u8) 5 w' w.heap.size (fun k_ => some k_ ≠ ((.slice lS bM.length lc) : Value).ownBlock) (.slice lf bU.length lb) bU) ∧ Aside0 (Below w.heap.size w w'))
  case atStart => exact ⟨(0), z1, H', ⟨Nat.le_refl _⟩, ⟨by (with_reducible repeat (first | apply ac | apply ab | apply aa)); exact af bE.out (fun _ hk => hk.2)⟩, ⟨by (with_reducible repeat (first | apply ac | apply ab | apply aa)); exact af dQ.out (fun _ hk => hk.2)⟩, ⟨y5⟩⟩
  case round =>
   clear H'
   try clear c1
   try clear p2
   try clear c4
   try clear c5
   try clear c5b0
   try clear c5b1
   try clear c5b2
   obtain ⟨x20_1, rfl, HA, HK1, a4, fi, HB⟩ := hrel
   cases gk with
   | zero => exact absurd HA.out (by simp [spec_l4Same.l0])
   | succ k1 =>
    have H := HA.out
    clear HA
    simp only [spec_l4Same.l0] at H
    by_cases bz : x20_1 < (bM.length : Int)
    ·rw [if_pos bz] at H
     have c10b0 : decide (x20_1 < (bM.length : Int)) = true := dT bz
     clear bz
     by_cases bV : 0 ≤ x20_1
     ·rw [if_pos bV] at H
      have c11b0 : decide (0 ≤ x20_1) = true := dT bV
      clear bV
      by_cases cd : x20_1 < (bM.length : Int)
      ·rw [if_pos cd] at H
       have c12b0 : decide (x20_1 < (bM.length : Int)) = true := dT cd
       clear cd
       by_cases bR : (rd bM x20_1) = 0
       ·rw [if_pos bR] at H
        have c13b0 : ((rd bM x20_1) == 0) = true := qT bR
        have c13b1 : ((rd bM x20_1) != 0) = false := nF bR
        clear bR
        have H' := aM H
        clear H
        have p207 : 0 ≤ (x20_1 : Int) := oD z2
        have q207 : x20_1 < (bM.length : Int) := oD z2
        obtain ⟨ad207, e207, hx207_0⟩ := Kd.at_int (ag a4.out).2.2 x20_1 p207 q207
        cases e207
        replace p207 := eq_true p207
        replace q207 := eq_true q207
        go_wp2
        repeat (go_quiet (fail); try go_wp2)
        go_roundg k1
        case measure => have := HK1.out; omega
        case rel => exact ⟨(wrap64 (x20_1 + 1)), z1, H', ⟨y0⟩, ⟨y11⟩, ⟨y8⟩, ⟨y5⟩⟩
       ·rw [if_neg bR] at H
        have c13b0 : ((rd bM x20_1) == 0) = false := qF bR
        have c13b1 : ((rd bM x20_1) != 0) = true := nT bR
        by_cases ce : x20_1 < (bU.length : Int)
        ·rw [if_pos ce] at H
         have c14b0 : decide (x20_1 < (bU.length : Int)) = true := dT ce
         clear ce
         by_cases ck : (rd bU x20_1) = 0
         ·rw [if_pos ck] at H
          have c15b0 : ((rd bU x20_1) == 0) = true := qT ck
          have c15b1 : ((rd bU x20_1) != 0) = false := nF ck
          clear ck
          have H' := aM H
          clear H
          have p207 : 0 ≤ (x20_1 : Int) := oD z2
          have q207 : x20_1 < (bM.length : Int) := oD z2
          obtain ⟨ad207, e207, hx207_0⟩ := Kd.at_int (ag a4.out).2.2 x20_1 p207 q207
          cases e207
          replace p207 := eq_true p207
          replace q207 := eq_true q207
          have p208 : 0 ≤ (x20_1 : Int) := oD z2
          have q208 : x20_1 < (bU.length : Int) := oD z2
          obtain ⟨ad208, e208, hx208_0⟩ := Kd.at_int (ag fi.out).2.2 x20_1 p208 q208
          cases e208
          replace p208 := eq_true p208
          replace q208 := eq_true q208
          go_wp2
          repeat (go_quiet (fail); try go_wp2)
          go_roundg k1
          case measure => have := HK1.out; omega
          case rel => exact ⟨(wrap64 (x20_1 + 1)), z1, H', ⟨y0⟩, ⟨y11⟩, ⟨y8⟩, ⟨y5⟩⟩
         ·rw [if_neg ck] at H
          have c15b0 : ((rd bU x20_1) == 0) = false := qF ck
          have c15b1 : ((rd bU x20_1) != 0) = true := nT ck
          by_cases cG : (rd bM x20_1) = (rd bU x20_1)
          ·rw [if_pos cG] at H
           have c16b0 : ((rd bM x20_1) == (rd bU x20_1)) = true := qT cG
           have c16b1 : ((rd bM x20_1) != (rd bU x20_1)) = false := nF cG
           clear cG
           have H' := aM H
           clear H
           have p207 : 0 ≤ (x20_1 : Int) := oD z2
           have q207 : x20_1 < (bM.length : Int) := oD z2
           obtain ⟨ad207, e207, hx207_0⟩ := Kd.at_int (ag a4.out).2.2 x20_1 p207 q207
           cases e207
           replace p207 := eq_true p207
           replace q207 := eq_true q207
           have p208 : 0 ≤ (x20_1 : Int) := oD z2
           have q208 : x20_1 < (bU.length : Int) := oD z2
           obtain ⟨ad208, e208, hx208_0⟩ := Kd.at_int (ag fi.out).2.2 x20_1 p208 q208
           cases e208
           replace p208 := eq_true p208
           replace q208 := eq_true q208
           have p209 : 0 ≤ (x20_1 : Int) := oD z2
           have q209 : x20_1 < (bM.length : Int) := oD z2
           obtain ⟨ad209, e209, hx209_0⟩ := Kd.at_int (ag a4.out).2.2 x20_1 p209 q209
           obtain rfl : ad207 = ad209 := (by injection e209)
           replace p209 := eq_true p209
           replace q209 := eq_true q209
           have p210 : 0 ≤ (x20_1 : Int) := oD z2
           have q210 : x20_1 < (bU.length : Int) := oD z2
           obtain ⟨ad210, e210, hx210_0⟩ := Kd.at_int (ag fi.out).2.2 x20_1 p210 q210
           obtain rfl : ad208 = ad210 := (by injection e210)
           replace p210 := eq_true p210
           replace q210 := eq_true q210
           go_wp2
           repeat (go_quiet (fail); try go_wp2)
           go_roundg k1
           case measure => have := HK1.out; omega
           case rel => exact ⟨(wrap64 (x20_1 + 1)), z1, H', ⟨y0⟩, ⟨y11⟩, ⟨y8⟩, ⟨y5⟩⟩
          ·rw [if_neg cG] at H
           have c16b0 : ((rd bM x20_1) == (rd bU x20_1)) = false := qF cG
           have c16b1 : ((rd bM x20_1) != (rd bU x20_1)) = true := nT cG
           simp only [Option.some.injEq, Prod.mk.injEq] at H
           obtain ⟨rfl, rfl⟩ := H
           have p207 : 0 ≤ (x20_1 : Int) := oD z2
           have q207 : x20_1 < (bM.length : Int) := oD z2
           obtain ⟨ad207, e207, hx207_0⟩ := Kd.at_int (ag a4.out).2.2 x20_1 p207 q207
           cases e207
           replace p207 := eq_true p207
           replace q207 := eq_true q207
           have p208 : 0 ≤ (x20_1 : Int) := oD z2
           have q208 : x20_1 < (bU.length : Int) := oD z2
           obtain ⟨ad208, e208, hx208_0⟩ := Kd.at_int (ag fi.out).2.2 x20_1 p208 q208
           cases e208
           replace p208 := eq_true p208
           replace q208 := eq_true q208
           have p209 : 0 ≤ (x20_1 : Int) := oD z2
           have q209 : x20_1 < (bM.length : Int) := oD z2
           obtain ⟨ad209, e209, hx209_0⟩ := Kd.at_int (ag a4.out).2.2 x20_1 p209 q209
           obtain rfl : ad207 = ad209 := (by injection e209)
           replace p209 := eq_true p209
           replace q209 := eq_true q209
           have p210 : 0 ≤ (x20_1 : Int) := oD z2
           have q210 : x20_1 < (bU.length : Int) := oD z2
           obtain ⟨ad210, e210, hx210_0⟩ := Kd.at_int (ag fi.out).2.2 x20_1 p210 q210
           obtain rfl : ad208 = ad210 := (by injection e210)
           replace p210 := eq_true p210
           replace q210 := eq_true q210
           go_wp2
           repeat (go_quiet (fail); try go_wp2)
           go_ret2
           exact ⟨y4, y5⟩
        ·rw [if_neg ce] at H
         exact absurd H (by simp)
      ·rw [if_neg cd] at H
       exact absurd H (by simp)
     ·rw [if_neg bV] at H
      exact absurd H (by simp)
    ·rw [if_neg bz] at H
     have c10b0 : decide (x20_1 < (bM.length : Int)) = false := dF bz
     clear bz
     simp only [Option.some.injEq, Prod.mk.injEq] at H
     obtain ⟨rfl, rfl⟩ := H
     go_wp2
     repeat (go_quiet (fail); try go_wp2)
     go_ret2
     exact ⟨y4, y5⟩
 ·rw [if_neg c5] at H
  have c5b0 : ((bM.length : Int) == (bU.length : Int)) = false := qF c5
  have c5b1 : ((bM.length : Int) != (bU.length : Int)) = true := nT c5
  have c5b2 : (bM.length == bU.length) = false := by first | simpa using c5 | (simp at c5 ⊢; omega)
  simp only [Option.some.injEq, Prod.mk.injEq] at H
  obtain ⟨rfl, rfl⟩ := H
  go_enter Try.func42, Try.ntmps42
  go_wp2_with (first | (go_at_call 44; (with_reducible refine (spec_l4Bytes.calls k _ _ l0 bM _ ?side1 ?side2 A3.out).mono ?_); (case side1 => repeat (first | exact bG.out | (with_reducible refine av ?_ _) | (with_reducible refine aw ?_ _) | (with_reducible refine ay ?_))); (case side2 => exact b8.out); rintro e w17 ⟨v202, rfl, ho0, hb⟩; have aT := aM (aH ho0 (aq z9)); have aU := aM (ap z9 hb); clear HB; have bE := aT; have HB := aU; clear aT aU; (try clear hb); (try clear hb2); (try clear hk); (try clear hi); (try clear ho0)) | (go_at_call 44; (with_reducible refine (spec_l4Bytes.calls k _ _ l1 bU _ ?side1 ?side2 A4.out).mono ?_); (case side1 => repeat (first | exact (au cz.out HB.out) | (with_reducible refine av ?_ _) | (with_reducible refine aw ?_ _) | (with_reducible refine ay ?_))); (case side2 => exact dg.out); rintro e w18 ⟨v205, rfl, ho0, hb⟩; have aT := aM (Kd.R_elder' (by (with_reducible repeat (first | apply ac | apply ab | apply aa)); exact bE.out) (ai ho0) hb); have aU := aM (aH (ah ho0 (aj (by (with_reducible repeat (first | apply ac | apply ab | apply aa)); exact bE.out))) (aq z9)); have aX := aM (ap z9 hb); clear bE; clear HB; have bE := aT; have dQ := aU; have HB := aX; clear aT aU aX; (try clear hb); (try clear hb2); (try clear hk); (try clear hi); (try clear ho0); obtain ⟨ig, hO, eo19⟩ := Kd.R_slice bE.out; subst eo19; obtain ⟨jY, jR, eo20⟩ := Kd.R_slice dQ.out; subst eo20))
  repeat (go_quiet (first | (go_at_call 44; (with_reducible refine (spec_l4Bytes.calls k _ _ l0 bM _ ?side1 ?side2 A3.out).mono ?_); (case side1 => repeat (first | exact bG.out | (with_reducible refine av ?_ _) | (with_reducible refine aw ?_ _) | (with_reducible refine ay ?_))); (case side2 => exact b8.out); rintro e w17 ⟨v202, rfl, ho0, hb⟩; have aT := aM (aH ho0 (aq z9)); have aU := aM (ap z9 hb); clear HB; have bE := aT; have HB := aU; clear aT aU; (try clear hb); (try clear hb2); (try clear hk); (try clear hi); (try clear ho0)) | (go_at_call 44; (with_reducible refine (spec_l4Bytes.calls k _ _ l1 bU _ ?side1 ?side2 A4.out).mono ?_); (case side1 => repeat (first | exact (au cz.out HB.out) | (with_reducible refine av ?_ _) | (with_reducible refine aw ?_ _) | (with_reducible refine ay ?_))); (case side2 => exact dg.out); rintro e w18 ⟨v205, rfl, ho0, hb⟩; have aT := aM (Kd.R_elder' (by (with_reducible repeat (first | apply ac | apply ab | apply aa)); exact bE.out) (ai ho0) hb); have aU := aM (aH (ah ho0 (aj (by (with_reducible repeat (first | apply ac | apply ab | apply aa)); exact bE.out))) (aq z9)); have aX := aM (ap z9 hb); clear bE; clear HB; have bE := aT; have dQ := aU; have HB := aX; clear aT aU aX; (try clear hb); (try clear hb2); (try clear hk); (try clear hi); (try clear ho0); obtain ⟨ig, hO, eo19⟩ := Kd.R_slice bE.out; subst eo19; obtain ⟨jY, jR, eo20⟩ := Kd.R_slice dQ.out; subst eo20)); try go_wp2_with (first | (go_at_call 44; (with_reducible refine (spec_l4Bytes.calls k _ _ l0 bM _ ?side1 ?side2 A3.out).mono ?_); (case side1 => repeat (first | exact bG.out | (with_reducible refine av ?_ _) | (with_reducible refine aw ?_ _) | (with_reducible refine ay ?_))); (case side2 => exact b8.out); rintro e w17 ⟨v202, rfl, ho0, hb⟩; have aT := aM (aH ho0 (aq z9)); have aU := aM (ap z9 hb); clear HB; have bE := aT; have HB := aU; clear aT aU; (try clear hb); (try clear hb2); (try clear hk); (try clear hi); (try clear ho0)) | (go_at_call 44; (with_reducible refine (spec_l4Bytes.calls k _ _ l1 bU _ ?side1 ?side2 A4.out).mono ?_); (case side1 => repeat (first | exact (au cz.out HB.out) | (with_reducible refine av ?_ _) | (with_reducible refine aw ?_ _) | (with_reducible refine ay ?_))); (case side2 => exact dg.out); rintro e w18 ⟨v205, rfl, ho0, hb⟩; have aT := aM (Kd.R_elder' (by (with_reducible repeat (first | apply ac | apply ab | apply aa)); exact bE.out) (ai ho0) hb); have aU := aM (aH (ah ho0 (aj (by (with_reducible repeat (first | apply ac | apply ab | apply aa)); exact bE.out))) (aq z9)); have aX := aM (ap z9 hb); clear bE; clear HB; have bE := aT; have dQ := aU; have HB := aX; clear aT aU aX; (try clear hb); (try clear hb2); (try clear hk); (try clear hi); (try clear ho0); obtain ⟨ig, hO, eo19⟩ := Kd.R_slice bE.out; subst eo19; obtain ⟨jY, jR, eo20⟩ := Kd.R_slice dQ.out; subst eo20)))
  go_ret2
  exact ⟨y4, y5⟩

/-! ### spec_l3Normal: function 53 -/
def spec_l3Normal.l0 : Nat → List (S44) → List (S44) → Int → Int → Option ((List (S44)))
 | 0, _, _, _, _ => none
 | k + 1, x3, x6, x7, x8 => if x8 < x7 then (if 0 ≤ x8 then (if x8 < (x6.length : Int) then ((spec_l3Add.f k x3 ((rd_T44 x6 x8).f0) ((rd_T44 x6 x8).f1) ((rd_T44 x6 x8).f2)).bind fun ls => (spec_l3Normal.l0 k ls x6 x7 (wrap64 (x8 + 1)))) else (none)) else (none)) else (some x3)
def spec_l3Normal.f (k : Nat) (l0 : List (S44)) : Option ((List (S44))) := spec_l3Normal.l0 k ([] : List (S44)) l0 (l0.length : Int) 0
theorem spec_l3Normal.mono_l : ∀ k, (∀ y0 y1 y2 y3, LeO (spec_l3Normal.l0 k y0 y1 y2 y3) (spec_l3Normal.l0 (k + 1) y0 y1 y2 y3))
 | 0 => fun _ _ _ _ r h => by simp [spec_l3Normal.l0] at h
 | k + 1 => by
  have ih0 := spec_l3Normal.mono_l k
  ·intro y0 y1 y2 y3
   unfold spec_l3Normal.l0
   repeat' first
   | (with_reducible exact ih0 _ _ _ _)
   | (with_reducible exact spec_l3Add.mono _ _ _ _ _)
   | (with_reducible exact LeO.refl _)
   | (with_reducible exact LeO.none _)
   | (with_reducible refine LeO.ite ?_ ?_)
   | (with_reducible refine LeO.bind ?_ (fun _ => ?_))
   | exact ih0 _ _ _ _
   | exact spec_l3Add.mono _ _ _ _ _
   | exact LeO.none _
   | refine LeO.ite ?_ ?_
   | refine LeO.bind ?_ (fun _ => ?_)
theorem spec_l3Normal.mono : ∀ a0 k, LeO (spec_l3Normal.f k a0) (spec_l3Normal.f (k + 1) a0) := by
 intro a0 k
 have ih0 := spec_l3Normal.mono_l k
 unfold spec_l3Normal.f
 repeat' first
   | (with_reducible exact ih0 _ _ _ _)
   | (with_reducible exact spec_l3Add.mono _ _ _ _ _)
   | (with_reducible exact LeO.refl _)
   | (with_reducible exact LeO.none _)
   | (with_reducible refine LeO.ite ?_ ?_)
   | (with_reducible refine LeO.bind ?_ (fun _ => ?_))
   | exact ih0 _ _ _ _
   | exact spec_l3Add.mono _ _ _ _ _
   | exact LeO.none _
   | refine LeO.ite ?_ ?_
   | refine LeO.bind ?_ (fun _ => ?_)
set_option maxHeartbeats 8000000 in
set_option maxRecDepth 100000 in
theorem spec_l3Normal.calls (k : Nat) (A0 : Option Addr) (c0 : Nat) (l0 : List (S44)) (r : List (S44)) (w : World) (hr0 : Kd.C k44 w A0 l0.length l0) (hc0 : l0.length ≤ c0) (h : spec_l3Normal.f k l0 = some r) :
  Calls Try.prog 53 #[.slice A0 l0.length c0] w fun e w' => ∃ v0_ : Value, e = .returned (v0_) ∧ Kd.R k44 44 w' w.heap.size (fun _ => True) v0_ r ∧ Below w.heap.size w w' := by
 have hu44 := Try.underlying44
 have bG := aM hr0
 have b8 := aM hc0
 clear hr0 hc0
 have HB := aM (Below.refl w.heap.size w)
 have H : (spec_l3Normal.l0 k ([] : List (S44)) l0 (l0.length : Int) 0) = some r := h
 clear h
 have H' := aM H
 clear H
 go_enter Try.func53, Try.ntmps53
 go_wp2
 go_loopg [3, 8] k (fun kq v3 v8 w' => ∃ (x3_1 : List (S44)) (x8_1 : Int), v8 = .int .i64 x8_1 ∧ Aside0 (spec_l3Normal.l0 kq x3_1 l0 (l0.length : Int) x8_1 = some r) ∧ Aside0 (kq ≤ k) ∧ Aside0 (Kd.R k44 44 w' w.heap.size (fun _ => True) v3 x3_1) ∧ Aside0 (Below w.heap.size w w'))
 case atStart => exact ⟨(([] : List (S44))), (0), z1, H', ⟨Nat.le_refl _⟩, ⟨y21⟩, ⟨y5⟩⟩
 case round =>
  clear H'
  obtain ⟨x3_1, x8_1, rfl, HA, HK1, bY, HB⟩ := hrel
  cases gk with
  | zero => exact absurd HA.out (by simp [spec_l3Normal.l0])
  | succ k1 =>
   have H := HA.out
   clear HA
   simp only [spec_l3Normal.l0] at H
   by_cases c2 : x8_1 < (l0.length : Int)
   ·rw [if_pos c2] at H
    have c2b0 : decide (x8_1 < (l0.length : Int)) = true := dT c2
    clear c2
    by_cases c3 : 0 ≤ x8_1
    ·rw [if_pos c3] at H
     have c3b0 : decide (0 ≤ x8_1) = true := dT c3
     clear c3
     by_cases c4 : x8_1 < (l0.length : Int)
     ·rw [if_pos c4] at H
      have c4b0 : decide (x8_1 < (l0.length : Int)) = true := dT c4
      clear c4
      replace H := oB H
      obtain ⟨ls, ft, H⟩ := H
      try dsimp only at H
      have A5 := aM ft
      clear ft
      have H' := aM H
      clear H
      have p211 : 0 ≤ (x8_1 : Int) := oD z2
      have q211 : x8_1 < (l0.length : Int) := oD z2
      obtain ⟨ad211, e211, hx211_0, hx211_1, hx211_2⟩ := at_T44 bG.out x8_1 p211 q211
      cases e211
      replace hx211_0 := (HB.out.cell (World.block_lt_of_cell? w _ hx211_0)).trans hx211_0
      replace hx211_1 := (HB.out.cell (World.block_lt_of_cell? w _ hx211_1)).trans hx211_1
      replace hx211_2 := (HB.out.cell (World.block_lt_of_cell? w _ hx211_2)).trans hx211_2
      replace p211 := eq_true p211
      replace q211 := eq_true q211
      go_wp2_with (first | ((with_reducible refine aD (N := 5) rfl ?_); refine aE ?hg (N := 5) ?hd (cs := #[.int .i64 0, .string (⟨#[]⟩ : ByteArray), .string (⟨#[]⟩ : ByteArray)]) (t := 44) ?hr ?_; (case hd => rfl); (case hg => rfl); (case hr => first | (go_simp; done) | (go_simp; rfl)); intro cm hg w6 hbox hb; have aT := aM (ae (Kd.R_elderB (by (with_reducible repeat (first | apply ac | apply ab | apply aa)); exact bY.out) cm (Nat.le_of_eq hg.symm)) hb); have aU := aM (ap z9 hb); have aX := aM (hbox); have a5 := aM ((by rw [hg]; exact (aq z9) : w.heap.size ≤ cm)); have bf := aM ((by rw [hg]; exact (aq z9) : w.heap.size ≤ cm)); clear bY; clear HB; have bY := aT; have HB := aU; have cr := aX; have GW212 := a5; have kZ := bf; clear aT aU aX a5 bf; clear hb hbox hg; have hcz7_0 : w6.cell? ⟨cm, 0, none⟩ = some (.int .i64 0) := (bC cr.out 0).trans rfl; have hcz7_1 : w6.cell? ⟨cm, 1, none⟩ = some (.string (⟨#[]⟩ : ByteArray)) := (bC cr.out 1).trans rfl; have hcz7_2 : w6.cell? ⟨cm, 2, none⟩ = some (.string (⟨#[]⟩ : ByteArray)) := (bC cr.out 2).trans rfl; have hfz7_0 := bF cr.out 0; have hfz7_1 := bF cr.out 1; have hfz7_2 := bF cr.out 2) | ((with_reducible refine gate_store (t := 44) (p := 5) rfl ?_); refine store_event (t := 44) (p := 5) (v := ?vo_w8) (w1 := (((w6.setCell ⟨cm, 0, none⟩ (.int .i64 ((rd_T44 l0 x8_1).f0))).setCell ⟨cm, 1, none⟩ (.string ((rd_T44 l0 x8_1).f1))).setCell ⟨cm, 2, none⟩ (.string ((rd_T44 l0 x8_1).f2)))) ?hg ?ho ?hn ?hr ?_; (case ho => rfl); (case hg => rfl); (case hn => rfl); (case hr => first | (go_simp; done) | (go_simp; rfl) | ((try simp only [aI] at *); go_simp; first | done | rfl)); intro w8 hw; have aT : Aside0 (Kd.R k44 44 w8 w.heap.size (fun k_ => k_ ≠ cm) u3 x3_1) := ⟨(by rw [hw]; exact (by (with_reducible repeat (first | apply ac | apply ab | apply aa)); exact af (Kd.R_far (p := ⟨cm, 2, none⟩) (Kd.R_far (p := ⟨cm, 1, none⟩) (Kd.R_far (p := ⟨cm, 0, none⟩) (af bY.out (fun k_ hk => (⟨hk, hk.2⟩ : _ ∧ k_ ≠ cm))) (fun _ hk => hk.2) (.int .i64 ((rd_T44 l0 x8_1).f0))) (fun _ hk => hk.2) (.string ((rd_T44 l0 x8_1).f1))) (fun _ hk => hk.2) (.string ((rd_T44 l0 x8_1).f2))) (fun _ hk => hk.1.2)))⟩; have aU : Aside0 (w8.heap[cm]? = some (.cells #[.int .i64 ((rd_T44 l0 x8_1).f0), .string ((rd_T44 l0 x8_1).f1), .string ((rd_T44 l0 x8_1).f2)] 44 (0, 0))) := ⟨(by rw [hw]; exact (by (with_reducible repeat (first | refine al ?_ _ | refine ak ?_ | refine am ?_ _)); refine blk_put (cs := #[.int .i64 ((rd_T44 l0 x8_1).f0), .string ((rd_T44 l0 x8_1).f1), .string (⟨#[]⟩ : ByteArray)]) ?_ 2 _ rfl; (with_reducible repeat (first | refine al ?_ _ | refine ak ?_ | refine am ?_ _)); refine blk_put (cs := #[.int .i64 ((rd_T44 l0 x8_1).f0), .string (⟨#[]⟩ : ByteArray), .string (⟨#[]⟩ : ByteArray)]) ?_ 1 _ rfl; (with_reducible repeat (first | refine al ?_ _ | refine ak ?_ | refine am ?_ _)); refine blk_put (cs := #[.int .i64 0, .string (⟨#[]⟩ : ByteArray), .string (⟨#[]⟩ : ByteArray)]) ?_ 0 _ rfl; (with_reducible repeat (first | refine al ?_ _ | refine ak ?_ | refine am ?_ _)); exact cr.out))⟩; have aX : Aside0 (Below w.heap.size w w8) := ⟨(by rw [hw]; exact (by repeat (first | (with_reducible first | exact HB.out | apply bA | apply pD | apply bD | refine ao ?_ kZ.out) | exact HB.out)))⟩; clear hw; clear bY; clear cr; clear HB; have bY := aT; have cr := aU; have HB := aX; clear aT aU aX; have cZ : w8.cell? ⟨cm, 0, none⟩ = some (.int .i64 ((rd_T44 l0 x8_1).f0)) := (bC cr.out 0).trans rfl; have cY : w8.cell? ⟨cm, 1, none⟩ = some (.string ((rd_T44 l0 x8_1).f1)) := (bC cr.out 1).trans rfl; have cX : w8.cell? ⟨cm, 2, none⟩ = some (.string ((rd_T44 l0 x8_1).f2)) := (bC cr.out 2).trans rfl; have cW := bF cr.out 0; have cV := bF cr.out 1; have cU := bF cr.out 2; obtain ⟨mq, ma, eo10⟩ := Kd.R_slice bY.out; subst eo10) | ((with_reducible refine aC (f := 50) rfl ?_); refine aG (some 14) rfl rfl Try.func50 z0 rfl #[.slice mq x3_1.length ma, .agg #[.int .i64 ((rd_T44 l0 x8_1).f0), .string ((rd_T44 l0 x8_1).f1), .string ((rd_T44 l0 x8_1).f2)]] rfl z10 ?_; (with_reducible refine (spec_l3Add.calls k1 (fun k_ => some k_ = (.slice mq x3_1.length ma : Value).ownBlock) (.slice mq x3_1.length ma) x3_1 ((rd_T44 l0 x8_1).f0) ((rd_T44 l0 x8_1).f1) ((rd_T44 l0 x8_1).f2) ls w _ ?side1 ?side2 A5.out).mono ?_); (case side1 => repeat (first | (with_reducible first | exact HB.out | apply bA | apply pD | apply bD | refine ao ?_ kZ.out) | exact HB.out)); (case side2 => exact Kd.R_tight rfl bY.out); rintro e w11 ⟨v214, rfl, ho0, hb, hkp⟩; refine ⟨_, rfl, ?_⟩; have aT := aM (blk_kept (by (with_reducible repeat (first | refine al ?_ _ | refine ak ?_ | refine am ?_ _)); exact cr.out) hkp (fun hs_ => (fun e_ => (Kd.R_away bY.out (fun _ hk => hk)) e_) hs_)); have aU := aM (af (ok' := fun k_ => k_ ≠ cm) ho0 (fun k_ hk_ => Or.elim hk_ (fun hs_ => fun e_ => (Kd.R_away bY.out (fun _ hk => hk)) (by rw [← e_]; exact hs_)) (fun hn_ => (Kd.freshB (g := cm) (o := .cells #[.int .i64 ((rd_T44 l0 x8_1).f0), .string ((rd_T44 l0 x8_1).f1), .string ((rd_T44 l0 x8_1).f2)] 44 (0, 0)) (by (with_reducible repeat (first | refine al ?_ _ | refine ak ?_ | refine am ?_ _)); exact cr.out) k_ hn_)))); have aX := aM (hb); clear cr; clear HB; clear bY; have cr := aT; have HO215 := aU; have HB := aX; clear aT aU aX; (try clear hb); (try clear hkp); (try clear ho0)))
      go_roundg k1
      case measure => have := HK1.out; omega
      case rel => exact ⟨(ls), (wrap64 (x8_1 + 1)), z1, H', ⟨y0⟩, ⟨by (with_reducible repeat (first | apply ac | apply ab | apply aa)); exact af HO215.out (fun _ hk => trivial)⟩, ⟨by repeat (first | (with_reducible first | exact HB.out | apply bA | apply pD | apply bD | refine ao ?_ kZ.out) | exact HB.out)⟩⟩
     ·rw [if_neg c4] at H
      exact absurd H (by simp)
    ·rw [if_neg c3] at H
     exact absurd H (by simp)
   ·rw [if_neg c2] at H
    have c2b0 : decide (x8_1 < (l0.length : Int)) = false := dF c2
    clear c2
    obtain rfl := sI H
    go_wp2
    go_ret
    exact ⟨_, y4, y7, y5⟩

/-! ### spec_l3R_done: function 54, by hand -/

/-! ### spec_l3R_size: function 56, by hand -/

/-! ### spec_l3R_take: function 55, by hand -/

end Go.Proofs.Ytifllccpfiobfaa.AFnExactMergeThree
