-- this session's own text: written by wip/tools/ownprint.py over the kit's print
import Derived.Test.YtmigfgcpdelnfaaAFnCommandsx0
import Derived.Test.YtmigfgcpdelnfaaAFnCommandsx7
import Derived.Test.YtmigfgcpdelnfaaAFnCommandsx8
import Derived.Test.YtmigfgcpdelnfaaAFnCommandsx12
import Derived.Test.YtmigfgcpdelnfaaAFnCommandsx13
import Derived.Test.YtmigfgcpdelnfaaAFnCommandsx14
import Derived.Test.YtmigfgcpdelnfaaAFnCommandsx19
namespace Go.Proofs.Ytmigfgcpdelnfaa.AFnCommands
open Go.RowKit Go.Proofs.YtmigfgcpdelnfaaW.PrintWords Go.Proofs.YtmigfgcpdelnfaaW.PrintLast Go.Proofs.YtmigfgcpdelnfaaW.PrintMore
attribute [local go_sem] max2_int min2_int max_two min_two max_three min_three max_four min_four   -- for this text's walks alone
set_option linter.unusedVariables false
set_option linter.unusedSimpArgs false

/-! ### laws_FnCommands: function 8 -/
mutual
def laws_FnCommands.j0 : Nat → ByteArray → List (S61) → Bool → ByteArray → Bool → Int → Int → Bool → Option (Bool)
 | 0, _, _, _, _, _, _, _, _ => none
 | k + 1, x3, x5, x6, x9, x10, x13, x14, x82 => if x82 = true then (some false) else (if x10 = true then (if (wrap64 (x13 + x14)) > (x3.size : Int) then (laws_FnCommands.j1 k x3 x5 x6 x9 true) else (if (wrap64 (x13 + x14)) > (x9.size : Int) then (laws_FnCommands.j1 k x3 x5 x6 x9 true) else (if 0 ≤ x13 then (if x13 ≤ (x3.size : Int) then (if x13 ≤ (x9.size : Int) then (if (x3.extract 0 (x13 : Int).toNat).toList = (x9.extract 0 (x13 : Int).toNat).toList then (if 0 ≤ (wrap64 ((x3.size : Int) - x14)) then (if (wrap64 ((x3.size : Int) - x14)) ≤ (x3.size : Int) then (if 0 ≤ (wrap64 ((x9.size : Int) - x14)) then (if (wrap64 ((x9.size : Int) - x14)) ≤ (x9.size : Int) then (if (x3.extract ((wrap64 ((x3.size : Int) - x14)) : Int).toNat x3.size).toList = (x9.extract ((wrap64 ((x9.size : Int) - x14)) : Int).toNat x9.size).toList then ((impl_GoodDoc.f k x9).bind fun k8 => (laws_FnCommands.j1 k x3 x5 x6 x9 (!k8))) else (laws_FnCommands.j1 k x3 x5 x6 x9 true)) else (none)) else (none)) else (none)) else (none)) else (laws_FnCommands.j1 k x3 x5 x6 x9 true)) else (none)) else (none)) else (none)))) else (if x9.toList = ([] : List UInt8) then (some (!x6)) else (some false)))
def laws_FnCommands.j1 : Nat → ByteArray → List (S61) → Bool → ByteArray → Bool → Option (Bool)
 | 0, _, _, _, _, _ => none
 | k + 1, x3, x5, x6, x9, x133 => if x133 = true then (some false) else (if x6 = true then ((impl_ApplyOp.f k x5 x3).bind fun r7 => ((impl_NormalOp.f k x5).bind fun r0 => (if r7.2 = true then (if r7.1.toList = x9.toList then (if r0.2 = true then ((laws_sameOps.f k r0.1 x5).bind fun sx => (some sx)) else (some false)) else (some false)) else (some false)))) else (some true))
end
def laws_FnCommands.f (k : Nat) (l0 : List Int) : Option (Bool) := if (l0.length : Int) > 1048576 then (some true) else ((spec_DrawCompileCommand.f k l0).bind fun bh => ((impl_CompileCommand.f k bh.1 bh.2.1 bh.2.2.1 bh.2.2.2.1 bh.2.2.2.2).bind fun cr => ((spec_CompileCommand.f k bh.1 bh.2.1 bh.2.2.1 bh.2.2.2.1 bh.2.2.2.2).bind fun lK => ((impl_DoCommand.f k bh.1 bh.2.1 bh.2.2.1 bh.2.2.2.1 bh.2.2.2.2).bind fun cq => ((spec_DoCommand.f k bh.1 bh.2.1 bh.2.2.1 bh.2.2.2.1 bh.2.2.2.2).bind fun i7 => ((impl_ReachOf.f k bh.1 bh.2.1 bh.2.2.1 bh.2.2.2.1 bh.2.2.2.2).bind fun cz => (if (cr.2 != lK.2) = true then (laws_FnCommands.j0 k bh.1 cr.1 cr.2 cq.1 cq.2 cz.1 cz.2.1 true) else ((laws_sameOps.f k cr.1 lK.1).bind fun pm => (if pm = true then (if (cq.2 != i7.2) = true then (laws_FnCommands.j0 k bh.1 cr.1 cr.2 cq.1 cq.2 cz.1 cz.2.1 true) else (if cq.1.toList = i7.1.toList then (laws_FnCommands.j0 k bh.1 cr.1 cr.2 cq.1 cq.2 cz.1 cz.2.1 (cz.2.2 != i7.2)) else (laws_FnCommands.j0 k bh.1 cr.1 cr.2 cq.1 cq.2 cz.1 cz.2.1 true))) else (laws_FnCommands.j0 k bh.1 cr.1 cr.2 cq.1 cq.2 cz.1 cz.2.1 true))))))))))
theorem laws_FnCommands.mono_l : ∀ k, (∀ y0 y1 y2 y3 y4 y5 y6 y7, LeO (laws_FnCommands.j0 k y0 y1 y2 y3 y4 y5 y6 y7) (laws_FnCommands.j0 (k + 1) y0 y1 y2 y3 y4 y5 y6 y7)) ∧ (∀ y0 y1 y2 y3 y4, LeO (laws_FnCommands.j1 k y0 y1 y2 y3 y4) (laws_FnCommands.j1 (k + 1) y0 y1 y2 y3 y4))
 | 0 => ⟨fun _ _ _ _ _ _ _ _ r h => by simp [laws_FnCommands.j0] at h, fun _ _ _ _ _ r h => by simp [laws_FnCommands.j1] at h⟩
 | k + 1 => by
  obtain ⟨ih0, ih1⟩ := laws_FnCommands.mono_l k
  refine ⟨?_, ?_⟩
  ·intro y0 y1 y2 y3 y4 y5 y6 y7
   unfold laws_FnCommands.j0
   repeat' first
   | (with_reducible exact ih0 _ _ _ _ _ _ _ _)
   | (with_reducible exact ih1 _ _ _ _ _)
   | (with_reducible exact impl_ApplyOp.mono _ _ _)
   | (with_reducible exact impl_CompileCommand.mono _ _ _ _ _ _)
   | (with_reducible exact impl_DoCommand.mono _ _ _ _ _ _)
   | (with_reducible exact impl_GoodDoc.mono _ _)
   | (with_reducible exact impl_NormalOp.mono _ _)
   | (with_reducible exact impl_ReachOf.mono _ _ _ _ _ _)
   | (with_reducible exact laws_sameOps.mono _ _ _)
   | (with_reducible exact spec_CompileCommand.mono _ _ _ _ _ _)
   | (with_reducible exact spec_DoCommand.mono _ _ _ _ _ _)
   | (with_reducible exact spec_DrawCompileCommand.mono _ _)
   | (with_reducible exact LeO.refl _)
   | (with_reducible exact LeO.none _)
   | (with_reducible refine LeO.ite ?_ ?_)
   | (with_reducible refine LeO.bind ?_ (fun _ => ?_))
  ·intro y0 y1 y2 y3 y4
   unfold laws_FnCommands.j1
   repeat' first
   | (with_reducible exact ih0 _ _ _ _ _ _ _ _)
   | (with_reducible exact ih1 _ _ _ _ _)
   | (with_reducible exact impl_ApplyOp.mono _ _ _)
   | (with_reducible exact impl_CompileCommand.mono _ _ _ _ _ _)
   | (with_reducible exact impl_DoCommand.mono _ _ _ _ _ _)
   | (with_reducible exact impl_GoodDoc.mono _ _)
   | (with_reducible exact impl_NormalOp.mono _ _)
   | (with_reducible exact impl_ReachOf.mono _ _ _ _ _ _)
   | (with_reducible exact laws_sameOps.mono _ _ _)
   | (with_reducible exact spec_CompileCommand.mono _ _ _ _ _ _)
   | (with_reducible exact spec_DoCommand.mono _ _ _ _ _ _)
   | (with_reducible exact spec_DrawCompileCommand.mono _ _)
   | (with_reducible exact LeO.refl _)
   | (with_reducible exact LeO.none _)
   | (with_reducible refine LeO.ite ?_ ?_)
   | (with_reducible refine LeO.bind ?_ (fun _ => ?_))
theorem laws_FnCommands.mono : ∀ a0 k, LeO (laws_FnCommands.f k a0) (laws_FnCommands.f (k + 1) a0) := by
 intro a0 k
 obtain ⟨ih0, ih1⟩ := laws_FnCommands.mono_l k
 unfold laws_FnCommands.f
 repeat' first
   | (with_reducible exact ih0 _ _ _ _ _ _ _ _)
   | (with_reducible exact ih1 _ _ _ _ _)
   | (with_reducible exact impl_ApplyOp.mono _ _ _)
   | (with_reducible exact impl_CompileCommand.mono _ _ _ _ _ _)
   | (with_reducible exact impl_DoCommand.mono _ _ _ _ _ _)
   | (with_reducible exact impl_GoodDoc.mono _ _)
   | (with_reducible exact impl_NormalOp.mono _ _)
   | (with_reducible exact impl_ReachOf.mono _ _ _ _ _ _)
   | (with_reducible exact laws_sameOps.mono _ _ _)
   | (with_reducible exact spec_CompileCommand.mono _ _ _ _ _ _)
   | (with_reducible exact spec_DoCommand.mono _ _ _ _ _ _)
   | (with_reducible exact spec_DrawCompileCommand.mono _ _)
   | (with_reducible exact LeO.refl _)
   | (with_reducible exact LeO.none _)
   | (with_reducible refine LeO.ite ?_ ?_)
   | (with_reducible refine LeO.bind ?_ (fun _ => ?_))
def laws_FnCommands.T13 : Bool × List (List Nat × List Nat) := (true, [([], []), ([], []), ([0, 1], [0, 1]), ([], []), ([3], [3]), ([2, 4], [2, 4]), ([5], [5]), ([6], [6]), ([6], [6]), ([7, 8, 6], [6, 7, 8]), ([6], [6]), ([10, 6], [6, 10]), ([9, 11, 6], [6, 9, 11]), ([6, 12], [6, 12]), ([13, 6], [13]), ([14], [14]), ([14], [14]), ([15, 16, 14], [14, 15, 16]), ([14], [14]), ([14], [14]), ([18, 19, 14], [14, 18, 19]), ([17, 20, 14], [14, 17, 20]), ([14, 21], [14, 21]), ([22, 14], [22]), ([23], [23]), ([23], [23]), ([25, 23], [23, 25]), ([23], [23]), ([26, 27, 23], [23, 26, 27]), ([24, 28, 23], [23, 24, 28]), ([23], [23]), ([23], [23]), ([31, 23], [23, 31]), ([23], [23]), ([32, 33, 23], [23, 32, 33]), ([30, 34, 23], [23, 30, 34]), ([29, 35, 23], [23, 29, 35]), ([23, 36], [23, 36]), ([37, 23], [37]), ([38], [38]), ([39, 38, 38], [38, 39]), ([40, 38], [38, 40]), ([38, 41], [38, 41])])
def laws_FnCommands.B13 : List Nat := [0, 0, 3, 0, 8, 31, 63, 127, 127, 511, 127, 1151, 4095, 8191, 16383, 32767, 32767, 131071, 32767, 32767, 819199, 2097151, 4194303, 8388607, 16777215, 16777215, 50331647, 16777215, 251658239, 536870911, 16777215, 16777215, 2164260863, 16777215, 15049162751, 33302773759, 68719476735, 137438953471, 274877906943, 549755813887, 1099511627775, 2199023255551, 4398046511103]
theorem laws_FnCommands.tab13 : rtab .any (opsOf Try.f8 13) = laws_FnCommands.T13 := by kernel_rfl
theorem laws_FnCommands.bits13 : waitsOk laws_FnCommands.T13.2 laws_FnCommands.B13 = true := by kernel_rfl
set_option maxHeartbeats 8000000 in
set_option maxRecDepth 100000 in
theorem laws_FnCommands.calls (k : Nat) (A0 : Option Addr) (c0 : Nat) (l0 : List Int) (r : Bool) (HRT : Aside0 (r = true)) (w : World) (hr0 : Kd.C (Kd.int .u8) w A0 l0.length l0) (hc0 : l0.length ≤ c0) (h : laws_FnCommands.f k l0 = some r) :
  Calls Try.prog 8 #[.slice A0 l0.length c0] w fun e w' => e = .returned (.bool r) ∧ Below w.heap.size w w' := by
 have hu29 := Try.underlying29
 have d9 := aM hr0
 have fq := aM hc0
 clear hr0 hc0
 have HB := aM (Below.refl w.heap.size w)
 have H : (if (l0.length : Int) > 1048576 then (some true) else ((spec_DrawCompileCommand.f k l0).bind fun bh => ((impl_CompileCommand.f k bh.1 bh.2.1 bh.2.2.1 bh.2.2.2.1 bh.2.2.2.2).bind fun cr => ((spec_CompileCommand.f k bh.1 bh.2.1 bh.2.2.1 bh.2.2.2.1 bh.2.2.2.2).bind fun lK => ((impl_DoCommand.f k bh.1 bh.2.1 bh.2.2.1 bh.2.2.2.1 bh.2.2.2.2).bind fun cq => ((spec_DoCommand.f k bh.1 bh.2.1 bh.2.2.1 bh.2.2.2.1 bh.2.2.2.2).bind fun i7 => ((impl_ReachOf.f k bh.1 bh.2.1 bh.2.2.1 bh.2.2.2.1 bh.2.2.2.2).bind fun cz => (if (cr.2 != lK.2) = true then (laws_FnCommands.j0 k bh.1 cr.1 cr.2 cq.1 cq.2 cz.1 cz.2.1 true) else ((laws_sameOps.f k cr.1 lK.1).bind fun pm => (if pm = true then (if (cq.2 != i7.2) = true then (laws_FnCommands.j0 k bh.1 cr.1 cr.2 cq.1 cq.2 cz.1 cz.2.1 true) else (if cq.1.toList = i7.1.toList then (laws_FnCommands.j0 k bh.1 cr.1 cr.2 cq.1 cq.2 cz.1 cz.2.1 (cz.2.2 != i7.2)) else (laws_FnCommands.j0 k bh.1 cr.1 cr.2 cq.1 cq.2 cz.1 cz.2.1 true))) else (laws_FnCommands.j0 k bh.1 cr.1 cr.2 cq.1 cq.2 cz.1 cz.2.1 true))))))))))) = some r := h
 clear h
 by_cases c2 : (l0.length : Int) > 1048576
 ·rw [if_pos c2] at H
  have c2b0 : decide (1048576 < (l0.length : Int)) = true := dT c2
  have c2b1 : decide (1048576 < l0.length) = true := dT (by omega)
  clear c2
  first | (cases H.trans (congrArg some HRT.out); done) | skip
  all_goals
   obtain rfl := sI H
   go_enter Try.func8, Try.ntmps8
   go_wp2
   go_ret
   exact ⟨y4, y5⟩
 ·rw [if_neg c2] at H
  have c2b0 : decide (1048576 < (l0.length : Int)) = false := dF c2
  have c2b1 : decide (1048576 < l0.length) = false := dF (by omega)
  clear c2
  obtain ⟨⟨bP, cA, cD, cH, cX⟩, A3, H⟩ := oA_ H
  try dsimp only at H
  obtain ⟨⟨df, fX⟩, A4, H⟩ := oA_ H
  try dsimp only at H
  obtain ⟨⟨pn, kv⟩, A5, H⟩ := oA_ H
  try dsimp only at H
  obtain ⟨⟨bK, iU⟩, A6, H⟩ := oA_ H
  try dsimp only at H
  obtain ⟨⟨oX, jT⟩, A7, H⟩ := oA_ H
  try dsimp only at H
  obtain ⟨⟨dC, gb, tZ⟩, A8, H⟩ := oA_ H
  try dsimp only at H
  have wu := aM H
  clear H
  go_enter Try.func8, Try.ntmps8
  go_upto_region 9 with (first | ((with_reducible refine av (f := 24) rfl ?_); refine ay (some 25) rfl rfl Try.func24 z0 rfl #[.slice A0 l0.length c0] rfl z15 ?_; (with_reducible refine (spec_DrawCompileCommand.calls k _ _ l0 bP cA cD cH cX _ ?side1 ?side2 A3.out).mono ?_); (case side1 => exact y43); (case side2 => exact fq.out); rintro e w10 ⟨rfl, hb⟩; refine ⟨_, rfl, ?_⟩; replace HB := aM (ao z14 hb); (try clear hb)) | ((with_reducible refine aw (N := 4) rfl ?_); (try (refine gate_guard (by rfl) ?_; dsimp only)); refine ax ?hg (N := 4) ?hd (cs := #[.int .i64 0, .int .i64 0, .int .i64 0, .string ⟨#[]⟩]) (t := 29) ?hr ?_; (case hd => rfl); (case hg => rfl); (case hr => first | (go_simp; done) | (go_simp; rfl)); intro bM hg w11 hbox hb; have a5 := aM (hbox); have GW588 := aM ((by rw [hg]; exact (ap z14) : w.heap.size ≤ bM)); have GE588 := aM ((by rw [hg]; exact (ap z14) : w.heap.size ≤ bM)); replace HB := aM (ao z14 hb); clear hb hbox hg; obtain ⟨kV, kU, kT, oQ, kK, kJ, kI, n0⟩ := cc4 a5.out) | ((with_reducible refine av (f := 20) rfl ?_); refine ay (some 31) rfl rfl Try.func20 z0 rfl #[.string bP, .agg #[.int .i64 cA, .int .i64 cD, .int .i64 cH, .string cX]] rfl z15 ?_; (with_reducible refine (impl_CompileCommand.calls k bP cA cD cH cX df fX _ A4.out).mono ?_); rintro e w13 ⟨v590, rfl, ho0, hb⟩; refine ⟨_, rfl, ?_⟩; have cu := aM (az ho0 (ap z21)); replace a5 := aM (ae (g := bM) (o := .cells #[.int .i64 cA, .int .i64 cD, .int .i64 cH, .string cX] 29 (0, 0)) (by (with_reducible repeat (first | refine aj ?_ _ | refine ai ?_ | refine ak ?_ _)); refine al (cs := #[.int .i64 cA, .int .i64 cD, .int .i64 cH, .string ⟨#[]⟩]) ?_ 3 _ rfl; (with_reducible repeat (first | refine aj ?_ _ | refine ai ?_ | refine ak ?_ _)); refine al (cs := #[.int .i64 cA, .int .i64 cD, .int .i64 0, .string ⟨#[]⟩]) ?_ 2 _ rfl; (with_reducible repeat (first | refine aj ?_ _ | refine ai ?_ | refine ak ?_ _)); refine al (cs := #[.int .i64 cA, .int .i64 0, .int .i64 0, .string ⟨#[]⟩]) ?_ 1 _ rfl; (with_reducible repeat (first | refine aj ?_ _ | refine ai ?_ | refine ak ?_ _)); refine al (cs := #[.int .i64 0, .int .i64 0, .int .i64 0, .string ⟨#[]⟩]) ?_ 0 _ rfl; (with_reducible repeat (first | refine aj ?_ _ | refine ai ?_ | refine ak ?_ _)); exact a5.out) hb); replace HB := aM (ao z21 hb); (try clear hb); (try clear ho0); obtain ⟨cW, cV, cU, e9, cQ, cP, cO, eY⟩ := cc4 a5.out) | ((with_reducible refine av (f := 19) rfl ?_); refine ay (some 37) rfl rfl Try.func19 z0 rfl #[.string bP, .agg #[.int .i64 cA, .int .i64 cD, .int .i64 cH, .string cX]] rfl z15 ?_; (with_reducible refine (spec_CompileCommand.calls k bP cA cD cH cX pn kv _ A5.out).mono ?_); rintro e w15 ⟨v594, rfl, ho0, hb⟩; refine ⟨_, rfl, ?_⟩; have cI := aM (az (Kd.R_new' ho0 (Kd.R_lt (kR_ cu.out))) (ap z21)); replace cu := aM (Kd.R_elder' (kR_ cu.out) (Kd.R_base ho0) hb); replace a5 := aM (bK_ a5.out hb); replace HB := aM (ao z21 hb); (try clear hb); (try clear ho0); obtain ⟨oP, oO, oN, oM, nZ, nY, nX, nW⟩ := cc4 a5.out) | ((with_reducible refine av (f := 14) rfl ?_); refine ay (some 43) rfl rfl Try.func14 z0 rfl #[.string bP, .agg #[.int .i64 cA, .int .i64 cD, .int .i64 cH, .string cX]] rfl z15 ?_; (with_reducible refine (impl_DoCommand.calls k bP cA cD cH cX bK iU _ A6.out).mono ?_); rintro e w17 ⟨rfl, hb⟩; refine ⟨_, rfl, ?_⟩; replace cu := aM (af (kR_ cu.out) hb); replace cI := aM (af (kR_ cI.out) hb); replace a5 := aM (bK_ a5.out hb); replace HB := aM (ao z21 hb); (try clear hb); obtain ⟨d6, d5, d4, d3, dV, dU, dS, dR⟩ := cc4 a5.out) | ((with_reducible refine av (f := 12) rfl ?_); refine ay (some 49) rfl rfl Try.func12 z0 rfl #[.string bP, .agg #[.int .i64 cA, .int .i64 cD, .int .i64 cH, .string cX]] rfl z15 ?_; (with_reducible refine (spec_DoCommand.calls k bP cA cD cH cX oX jT _ A7.out).mono ?_); rintro e w19 ⟨rfl, hb⟩; refine ⟨_, rfl, ?_⟩; replace cu := aM (af (kR_ cu.out) hb); replace cI := aM (af (kR_ cI.out) hb); replace a5 := aM (bK_ a5.out hb); replace HB := aM (ao z21 hb); (try clear hb); obtain ⟨d2, d1, dZ, e8, dQ, dP, dO, eX⟩ := cc4 a5.out) | ((with_reducible refine av (f := 16) rfl ?_); refine ay (some 55) rfl rfl Try.func16 z0 rfl #[.string bP, .agg #[.int .i64 cA, .int .i64 cD, .int .i64 cH, .string cX]] rfl z15 ?_; (with_reducible refine (impl_ReachOf.calls k bP cA cD cH cX dC gb tZ _ A8.out).mono ?_); rintro e w21 ⟨rfl, hb⟩; refine ⟨_, rfl, ?_⟩; replace cu := aM (af (kR_ cu.out) hb); replace cI := aM (af (kR_ cI.out) hb); replace a5 := aM (bK_ a5.out hb); replace HB := aM (ao z21 hb); (try clear hb)))
  (try simp only [Act.put, sA, sB, sC])
  go_cut [82] (fun v82 wc => ∃ (kq : Nat) (x82_8 : Bool), v82 = .bool x82_8 ∧ Aside0 (laws_FnCommands.j0 kq bP df fX bK iU dC gb x82_8 = some r) ∧ Aside0 (kq ≤ k) ∧ Aside0 (Kd.R k61 61 wc w.heap.size (fun _ => True) v590 df) ∧ Aside0 (wc.heap[bM]? = some (.cells #[.int .i64 cA, .int .i64 cD, .int .i64 cH, .string cX] 29 (0, 0))) ∧ Aside0 (Below w.heap.size w wc))
  case first =>
   have H := wu.out
   clear wu
   by_cases eD : (fX != kv) = true
   ·rw [if_pos eD] at H
    have c22b0 : (fX != kv) = true := eD
    (try (have c22b1 : decide (fX = kv) = false := by simpa using eD))
    (try (have c22b2 : (fX == kv) = false := by simpa using eD))
    (try (have c22b3 : ¬ (fX = kv) := by simpa using eD))
    clear eD
    (first | rw [c22b0] | (simp only [i64_w, i32_w]; rw [c22b0]) | skip)
    have H' := aM H
    clear H
    go_wp2
    go_meet
    case rel => exact ⟨_, (true), z1, H', ⟨y0⟩, ⟨y27⟩, ⟨y13⟩, ⟨y23⟩⟩
   ·rw [if_neg eD] at H
    have c22b0 : (fX != kv) = false := by simpa using eD
    (try (have c22b1 : decide (fX = kv) = true := by simpa using eD))
    (try (have c22b2 : (fX == kv) = true := by simpa using eD))
    clear eD
    (first | rw [c22b0] | (simp only [i64_w, i32_w]; rw [c22b0]) | skip)
    obtain ⟨pm, tN, H⟩ := oA_ H
    try dsimp only at H
    by_cases f6 : pm = true
    ·subst f6
     rw [if_pos rfl] at H
     by_cases d7 : (iU != jT) = true
     ·rw [if_pos d7] at H
      have c25b0 : (iU != jT) = true := d7
      (try (have c25b1 : decide (iU = jT) = false := by simpa using d7))
      (try (have c25b2 : (iU == jT) = false := by simpa using d7))
      (try (have c25b3 : ¬ (iU = jT) := by simpa using d7))
      clear d7
      have H' := aM H
      clear H
      obtain ⟨Ao26, co26, eo26⟩ := Kd.R_slice cu.out
      subst eo26
      obtain ⟨Ao27, co27, eo27⟩ := Kd.R_slice cI.out
      subst eo27
      go_wp2_with (first | (go_at_call 25; (with_reducible refine (laws_sameOps.calls k _ _ df _ _ pn true _ ?side1 ?side2 ?side3 ?side4 tN.out).mono ?_); (case side1 => exact y48); (case side2 => exact (ah cu.out).2.1); (case side3 => exact y49); (case side4 => exact (ah cI.out).2.1); rintro e w' ⟨rfl, ⟨nd, rfl⟩⟩))
      go_meet
      case rel => exact ⟨_, (true), z1, H', ⟨y0⟩, ⟨y27⟩, ⟨y13⟩, ⟨y23⟩⟩
     ·rw [if_neg d7] at H
      have c25b0 : (iU != jT) = false := by simpa using d7
      (try (have c25b1 : decide (iU = jT) = true := by simpa using d7))
      (try (have c25b2 : (iU == jT) = true := by simpa using d7))
      clear d7
      by_cases f5 : bK.toList = oX.toList
      ·rw [if_pos f5] at H
       have c28b0 : (bK.toList == oX.toList) = true := qT f5
       have c28b1 : (bK.toList != oX.toList) = false := nF f5
       clear f5
       have H' := aM H
       clear H
       obtain ⟨qX, qg, eo29⟩ := Kd.R_slice cu.out
       subst eo29
       obtain ⟨Ao30, co30, eo30⟩ := Kd.R_slice cI.out
       subst eo30
       go_wp2_with (first | (go_at_call 25; (with_reducible refine (laws_sameOps.calls k _ _ df _ _ pn true _ ?side1 ?side2 ?side3 ?side4 tN.out).mono ?_); (case side1 => exact y48); (case side2 => exact (ah cu.out).2.1); (case side3 => exact y49); (case side4 => exact (ah cI.out).2.1); rintro e w' ⟨rfl, ⟨nd, rfl⟩⟩))
       all_goals (try (exfalso; rename_i h_; rw [c28b0] at h_; cases h_; done))
       go_meet
       case rel => exact ⟨_, ((tZ != jT)), z1, H', ⟨y0⟩, ⟨y27⟩, ⟨y13⟩, ⟨y23⟩⟩
      ·rw [if_neg f5] at H
       have c28b0 : (bK.toList == oX.toList) = false := qF f5
       have c28b1 : (bK.toList != oX.toList) = true := nT f5
       have H' := aM H
       clear H
       obtain ⟨Ao31, co31, eo31⟩ := Kd.R_slice cu.out
       subst eo31
       obtain ⟨Ao32, co32, eo32⟩ := Kd.R_slice cI.out
       subst eo32
       go_wp2_with (first | (go_at_call 25; (with_reducible refine (laws_sameOps.calls k _ _ df _ _ pn true _ ?side1 ?side2 ?side3 ?side4 tN.out).mono ?_); (case side1 => exact y48); (case side2 => exact (ah cu.out).2.1); (case side3 => exact y49); (case side4 => exact (ah cI.out).2.1); rintro e w' ⟨rfl, ⟨nd, rfl⟩⟩))
       all_goals (try (exfalso; rename_i h_; rw [c28b0] at h_; cases h_; done))
       go_meet
       case rel => exact ⟨_, (true), z1, H', ⟨y0⟩, ⟨y27⟩, ⟨y13⟩, ⟨y23⟩⟩
    ·replace f6 := Bool.eq_false_iff.mpr f6
     subst f6
     rw [if_neg nF_] at H
     have H' := aM H
     clear H
     obtain ⟨Ao33, co33, eo33⟩ := Kd.R_slice cu.out
     subst eo33
     obtain ⟨Ao34, co34, eo34⟩ := Kd.R_slice cI.out
     subst eo34
     go_wp2_with (first | (go_at_call 25; (with_reducible refine (laws_sameOps.calls k _ _ df _ _ pn false _ ?side1 ?side2 ?side3 ?side4 tN.out).mono ?_); (case side1 => exact y48); (case side2 => exact (ah cu.out).2.1); (case side3 => exact y49); (case side4 => exact (ah cI.out).2.1); rintro e w' ⟨rfl, ⟨nd, rfl⟩⟩))
     go_meet
     case rel => exact ⟨_, (true), z1, H', ⟨y0⟩, ⟨y27⟩, ⟨y13⟩, ⟨y23⟩⟩
  case rest =>
   clear wu
   try clear c2
   try clear c2b0
   try clear c2b1
   try clear kV
   try clear kU
   try clear kT
   try clear oQ
   try clear cW
   try clear cV
   try clear cU
   try clear e9
   try clear oP
   try clear oO
   try clear oN
   try clear oM
   try clear d6
   try clear d5
   try clear d4
   try clear d3
   try clear d2
   try clear d1
   try clear dZ
   try clear e8
   try clear kK
   try clear kJ
   try clear kI
   try clear n0
   try clear cQ
   try clear cP
   try clear cO
   try clear eY
   try clear nZ
   try clear nY
   try clear nX
   try clear nW
   try clear dV
   try clear dU
   try clear dS
   try clear dR
   try clear dQ
   try clear dP
   try clear dO
   try clear eX
   obtain ⟨kq, x82_8, rfl, HA, vm, bm, a5, HB⟩ := hcut
   cases kq with
   | zero => exact absurd HA.out (by simp [laws_FnCommands.j0])
   | succ kj8 =>
    have H := HA.out
    clear HA
    simp only [laws_FnCommands.j0] at H
    by_cases iR : x82_8 = true
    ·subst iR
     rw [if_pos rfl] at H
     first | (cases H.trans (congrArg some HRT.out); done) | skip
     all_goals
      obtain rfl := sI H
      go_wp2
      go_ret
      exact ⟨y4, y23⟩
    ·replace iR := Bool.eq_false_iff.mpr iR
     subst iR
     rw [if_neg nF_] at H
     by_cases l7 : iU = true
     ·subst l7
      rw [if_pos rfl] at H
      have tw := aM H
      clear H
      go_upto_region 13 with (fail)
      go_cut [133] (fun v133 wc => ∃ (kq : Nat) (x133_36 : Bool), v133 = .bool x133_36 ∧ Aside0 (laws_FnCommands.j1 kq bP df fX bK x133_36 = some r) ∧ Aside0 (kq ≤ kj8) ∧ Aside0 (Kd.R k61 61 wc w.heap.size (fun _ => True) v590 df) ∧ Aside0 (wc.heap[bM]? = some (.cells #[.int .i64 cA, .int .i64 cD, .int .i64 cH, .string cX] 29 (0, 0))) ∧ Aside0 (Below w.heap.size w wc))
      case first =>
       have H := tw.out
       clear tw
       by_cases f4 : (wrap64 (dC + gb)) > (bP.size : Int)
       ·rw [if_pos f4] at H
        have c38b0 : decide ((bP.size : Int) < (wrap64 (dC + gb))) = true := dT f4
        clear f4
        (first | rw [c38b0] | (simp only [i64_w, i32_w]; rw [c38b0]) | skip)
        have H' := aM H
        clear H
        try go_wp2
        replace bm := aM (aa bm.out)
        replace a5 := aM (ai a5.out)
        replace HB := aM (bD HB.out)
        refine start_ (n := 43) (S := fun w' => True) (ds := []) #[false, false, false, false, false, false, false, false, false, false, false, false, false, false, false, false, false, false, false, false, false, false, false, false, false, false, false, false, false, false, false, false, false, false, false, false, false, false, false, false, false, false, false] z0 rfl rfl trivial (fun hHeld => ?_); refine with_tabW laws_FnCommands.tab13 laws_FnCommands.bits13 (fun HT_ HW_ => ?_)
        generalize wc.drew = w39 at bm a5 HB hHeld ⊢
        refine pA 0 91 ?_
        refine pA 1 92 ?_
        refine pA 2 93 ?_
        refine pA 3 94 ?_
        refine pA 4 95 ?_
        refine pA 5 96 ?_
        refine pA 6 97 ?_
        refine pB 7 98 ?_
        refine pB 8 99 ?_
        refine pB 9 100 ?_
        refine pB 10 101 ?_
        refine pB 11 102 ?_
        refine pB 12 103 ?_
        refine pA 13 104 ?_
        refine pA 14 105 ?_
        refine pB 15 106 ?_
        refine pB 16 107 ?_
        refine pB 17 108 ?_
        refine pB 18 109 ?_
        refine pB 19 110 ?_
        refine pB 20 111 ?_
        refine pB 21 112 ?_
        refine pA 22 113 ?_
        refine pA 23 114 ?_
        refine pB 24 115 ?_
        refine pB 25 116 ?_
        refine pB 26 117 ?_
        refine pB 27 118 ?_
        refine pB 28 119 ?_
        refine pB 29 120 ?_
        refine pB 30 121 ?_
        refine pB 31 122 ?_
        refine pB 32 123 ?_
        refine pB 33 124 ?_
        refine pB 34 125 ?_
        refine pB 35 126 ?_
        refine pB 36 127 ?_
        refine pA 37 128 ?_
        refine pA 38 129 ?_
        refine pB 39 130 ?_
        refine pB 40 131 ?_
        refine pB 41 132 ?_
        refine pA 42 133 ?_
        refine done_ (done_of HT_.out z0) ?_
        try go_wp2
        go_meet
        case rel => exact ⟨_, (true), z1, H', ⟨by have := vm.out; first | omega | exact Nat.le_refl _⟩, ⟨y6⟩, ⟨y13⟩, ⟨y23⟩⟩
       ·rw [if_neg f4] at H
        have c38b0 : decide ((bP.size : Int) < (wrap64 (dC + gb))) = false := dF f4
        clear f4
        (first | rw [c38b0] | (simp only [i64_w, i32_w]; rw [c38b0]) | skip)
        by_cases jZ : (wrap64 (dC + gb)) > (bK.size : Int)
        ·rw [if_pos jZ] at H
         have c40b0 : decide ((bK.size : Int) < (wrap64 (dC + gb))) = true := dT jZ
         clear jZ
         have H' := aM H
         clear H
         try go_wp2
         replace bm := aM (aa bm.out)
         replace a5 := aM (ai a5.out)
         replace HB := aM (bD HB.out)
         refine start_ (n := 43) (S := fun w' => True) (ds := []) #[false, false, false, false, false, false, false, false, false, false, false, false, false, false, false, false, false, false, false, false, false, false, false, false, false, false, false, false, false, false, false, false, false, false, false, false, false, false, false, false, false, false, false] z0 rfl rfl trivial (fun hHeld => ?_); refine with_tabW laws_FnCommands.tab13 laws_FnCommands.bits13 (fun HT_ HW_ => ?_)
         generalize wc.drew = w41 at bm a5 HB hHeld ⊢
         refine pA 0 91 ?_
         refine pA 1 92 ?_
         refine pA 2 93 ?_
         refine pA 3 94 ?_
         refine pA 4 95 ?_
         refine pA 5 96 ?_
         refine pA 6 97 ?_
         refine pA 7 98 ?_
         refine pA 8 99 ?_
         refine pA 9 100 ?_
         refine pA 10 101 ?_
         refine pA 11 102 ?_
         refine pA 12 103 ?_
         refine pA 13 104 ?_
         refine pA 14 105 ?_
         refine pB 15 106 ?_
         refine pB 16 107 ?_
         refine pB 17 108 ?_
         refine pB 18 109 ?_
         refine pB 19 110 ?_
         refine pB 20 111 ?_
         refine pB 21 112 ?_
         refine pA 22 113 ?_
         refine pA 23 114 ?_
         refine pB 24 115 ?_
         refine pB 25 116 ?_
         refine pB 26 117 ?_
         refine pB 27 118 ?_
         refine pB 28 119 ?_
         refine pB 29 120 ?_
         refine pB 30 121 ?_
         refine pB 31 122 ?_
         refine pB 32 123 ?_
         refine pB 33 124 ?_
         refine pB 34 125 ?_
         refine pB 35 126 ?_
         refine pB 36 127 ?_
         refine pA 37 128 ?_
         refine pA 38 129 ?_
         refine pB 39 130 ?_
         refine pB 40 131 ?_
         refine pB 41 132 ?_
         refine pA 42 133 ?_
         refine done_ (done_of HT_.out z0) ?_
         try go_wp2
         go_meet
         case rel => exact ⟨_, (true), z1, H', ⟨by have := vm.out; first | omega | exact Nat.le_refl _⟩, ⟨y6⟩, ⟨y13⟩, ⟨y23⟩⟩
        ·rw [if_neg jZ] at H
         have c40b0 : decide ((bK.size : Int) < (wrap64 (dC + gb))) = false := dF jZ
         clear jZ
         by_cases ph : 0 ≤ dC
         ·rw [if_pos ph] at H
          have c42b0 := eq_true ph
          have c42b1 : decide (0 ≤ dC) = true := dT ph
          clear ph
          by_cases hF : dC ≤ (bP.size : Int)
          ·rw [if_pos hF] at H
           have c43b0 := eq_true hF
           have c43b1 : decide (dC ≤ (bP.size : Int)) = true := dT hF
           clear hF
           have c44b0 := eq_true (oD z2 : 0 ≤ dC)
           by_cases i6 : dC ≤ (bK.size : Int)
           ·rw [if_pos i6] at H
            have c45b0 := eq_true i6
            have c45b1 : decide (dC ≤ (bK.size : Int)) = true := dT i6
            clear i6
            by_cases eI : (bP.extract 0 (dC : Int).toNat).toList = (bK.extract 0 (dC : Int).toNat).toList
            ·rw [if_pos eI] at H
             have c46b0 : ((bP.extract 0 (dC : Int).toNat).toList == (bK.extract 0 (dC : Int).toNat).toList) = true := qT eI
             have c46b1 : ((bP.extract 0 (dC : Int).toNat).toList != (bK.extract 0 (dC : Int).toNat).toList) = false := nF eI
             clear eI
             obtain ⟨gu, i1⟩ : ∃ j_ : Int, (wrap64 ((bP.size : Int) - gb)) = j_ := ⟨_, rfl⟩
             replace H : (if 0 ≤ (gu) then (if (gu) ≤ (bP.size : Int) then (if 0 ≤ (wrap64 ((bK.size : Int) - gb)) then (if (wrap64 ((bK.size : Int) - gb)) ≤ (bK.size : Int) then (if (bP.extract ((gu) : Int).toNat bP.size).toList = (bK.extract ((wrap64 ((bK.size : Int) - gb)) : Int).toNat bK.size).toList then ((impl_GoodDoc.f kj8 bK).bind fun k8 => (laws_FnCommands.j1 kj8 bP df fX bK (!k8))) else (laws_FnCommands.j1 kj8 bP df fX bK true)) else (none)) else (none)) else (none)) else (none)) = some r := by first | (rw [i1] at H; exact H) | (simp only [i1] at H ⊢; exact H)
             have hji47w : (IntKind.i64.wrap ((bP.size : Int) - gb)) = gu := (i64_w _).trans i1
             by_cases rZ : 0 ≤ (gu)
             ·rw [if_pos rZ] at H
              have c48b0 := eq_true rZ
              have c48b1 : decide (0 ≤ (gu)) = true := dT rZ
              clear rZ
              by_cases tT : (gu) ≤ (bP.size : Int)
              ·rw [if_pos tT] at H
               have c49b0 := eq_true tT
               have c49b1 : decide ((gu) ≤ (bP.size : Int)) = true := dT tT
               clear tT
               obtain ⟨hJ, iZ⟩ : ∃ j_ : Int, (wrap64 ((bK.size : Int) - gb)) = j_ := ⟨_, rfl⟩
               replace H : (if 0 ≤ (hJ) then (if (hJ) ≤ (bK.size : Int) then (if (bP.extract ((gu) : Int).toNat bP.size).toList = (bK.extract ((hJ) : Int).toNat bK.size).toList then ((impl_GoodDoc.f kj8 bK).bind fun k8 => (laws_FnCommands.j1 kj8 bP df fX bK (!k8))) else (laws_FnCommands.j1 kj8 bP df fX bK true)) else (none)) else (none)) = some r := by first | (rw [iZ] at H; exact H) | (simp only [iZ] at H ⊢; exact H)
               have hji50w : (IntKind.i64.wrap ((bK.size : Int) - gb)) = hJ := (i64_w _).trans iZ
               by_cases oV : 0 ≤ (hJ)
               ·rw [if_pos oV] at H
                have c51b0 := eq_true oV
                have c51b1 : decide (0 ≤ (hJ)) = true := dT oV
                clear oV
                by_cases iQ : (hJ) ≤ (bK.size : Int)
                ·rw [if_pos iQ] at H
                 have c52b0 := eq_true iQ
                 have c52b1 : decide ((hJ) ≤ (bK.size : Int)) = true := dT iQ
                 clear iQ
                 by_cases fm : (bP.extract ((gu) : Int).toNat bP.size).toList = (bK.extract ((hJ) : Int).toNat bK.size).toList
                 ·rw [if_pos fm] at H
                  have c53b0 : ((bP.extract ((gu) : Int).toNat bP.size).toList == (bK.extract ((hJ) : Int).toNat bK.size).toList) = true := qT fm
                  have c53b1 : ((bP.extract ((gu) : Int).toNat bP.size).toList != (bK.extract ((hJ) : Int).toNat bK.size).toList) = false := nF fm
                  clear fm
                  obtain ⟨k8, A54, H⟩ := oA_ H
                  try dsimp only at H
                  have H' := aM H
                  clear H
                  try go_wp2
                  replace bm := aM (aa bm.out)
                  replace a5 := aM (ai a5.out)
                  replace HB := aM (bD HB.out)
                  refine start_ (n := 43) (S := fun w' => True) (ds := []) #[false, false, false, false, false, false, false, false, false, false, false, false, false, false, false, false, false, false, false, false, false, false, false, false, false, false, false, false, false, false, false, false, false, false, false, false, false, false, false, false, false, false, false] z0 rfl rfl trivial (fun hHeld => ?_); refine with_tabW laws_FnCommands.tab13 laws_FnCommands.bits13 (fun HT_ HW_ => ?_)
                  generalize wc.drew = w55 at bm a5 HB hHeld ⊢
                  refine pA 0 91 ?_
                  refine pA 1 92 ?_
                  refine pA 2 93 ?_
                  refine pA 3 94 ?_
                  refine pA 4 95 ?_
                  refine pA 5 96 ?_
                  refine pA 6 97 ?_
                  refine pA 7 98 ?_
                  refine pA 8 99 ?_
                  refine pA 9 100 ?_
                  refine pA 10 101 ?_
                  refine pA 11 102 ?_
                  refine pA 12 103 ?_
                  refine pA 13 104 ?_
                  refine pA 14 105 ?_
                  refine pA 15 106 ?_
                  refine pA 16 107 ?_
                  refine pA 17 108 ?_
                  refine pA 18 109 ?_
                  refine pA 19 110 ?_
                  refine pA 20 111 ?_
                  refine pA 21 112 ?_
                  refine pA 22 113 ?_
                  refine pA 23 114 ?_
                  refine pA 24 115 ?_
                  refine pA 25 116 ?_
                  refine pA 26 117 ?_
                  refine pA 27 118 ?_
                  refine pA 28 119 ?_
                  refine pA 29 120 ?_
                  refine pA 30 121 ?_
                  refine pA 31 122 ?_
                  refine pA 32 123 ?_
                  refine pA 33 124 ?_
                  refine pA 34 125 ?_
                  refine pA 35 126 ?_
                  refine pA 36 127 ?_
                  refine pA 37 128 ?_
                  refine pA 38 129 ?_
                  refine pA 39 130 ?_
                  refine one_ (i := 40) (N := some 131) #[true, true, true, true, true, true, true, true, true, true, true, true, true, true, true, true, true, true, true, true, true, true, true, true, true, true, true, true, true, true, true, true, true, true, true, true, true, true, true, true, true, false, false] rfl rfl (one_of HT_.out z0) (by decide) (fun K hK => ?_)
                  refine goes_ Try.func18 z0 rfl #[.string bK] (by rfl) rfl rfl z15 ?_
                  with_reducible refine (impl_GoodDoc.calls kj8 bK k8 _ A54.out).mono ?_
                  rintro e w56 ⟨rfl, hb⟩
                  refine ⟨_, rfl, ?_⟩
                  replace bm := aM (af (kR_ bm.out) hb)
                  replace a5 := aM (bK_ a5.out hb)
                  replace HB := aM (ao z21 hb)
                  (try clear hb)
                  skip
                  skip
                  skip
                  refine hK.out _ _ trivial (fun hHeld => ?_)
                  clear hK K
                  refine norm_ (a' := ?_) ?_ ?_
                  rotate_left
                  ·show Act.put _ (some 131) _ = _
                   simp only [Act.put, sA, sB, sC, i64_w, i32_w]
                   rfl
                  refine pA 41 132 ?_
                  refine pA 42 133 ?_
                  refine done_ (done_of HT_.out z0) ?_
                  try go_wp2
                  go_meet
                  case rel => exact ⟨_, (!k8), z1, (by first | exact H' | (simp only [i1, iZ]; exact H') | (simp only [← i1, ← iZ]; exact H')), ⟨by have := vm.out; first | omega | exact Nat.le_refl _⟩, ⟨y6⟩, ⟨y13⟩, ⟨y23⟩⟩
                 ·rw [if_neg fm] at H
                  have c53b0 : ((bP.extract ((gu) : Int).toNat bP.size).toList == (bK.extract ((hJ) : Int).toNat bK.size).toList) = false := qF fm
                  have c53b1 : ((bP.extract ((gu) : Int).toNat bP.size).toList != (bK.extract ((hJ) : Int).toNat bK.size).toList) = true := nT fm
                  have H' := aM H
                  clear H
                  try go_wp2
                  replace bm := aM (aa bm.out)
                  replace a5 := aM (ai a5.out)
                  replace HB := aM (bD HB.out)
                  refine start_ (n := 43) (S := fun w' => True) (ds := []) #[false, false, false, false, false, false, false, false, false, false, false, false, false, false, false, false, false, false, false, false, false, false, false, false, false, false, false, false, false, false, false, false, false, false, false, false, false, false, false, false, false, false, false] z0 rfl rfl trivial (fun hHeld => ?_); refine with_tabW laws_FnCommands.tab13 laws_FnCommands.bits13 (fun HT_ HW_ => ?_)
                  generalize wc.drew = w57 at bm a5 HB hHeld ⊢
                  refine pA 0 91 ?_
                  refine pA 1 92 ?_
                  refine pA 2 93 ?_
                  refine pA 3 94 ?_
                  refine pA 4 95 ?_
                  refine pA 5 96 ?_
                  refine pA 6 97 ?_
                  refine pA 7 98 ?_
                  refine pA 8 99 ?_
                  refine pA 9 100 ?_
                  refine pA 10 101 ?_
                  refine pA 11 102 ?_
                  refine pA 12 103 ?_
                  refine pA 13 104 ?_
                  refine pA 14 105 ?_
                  refine pA 15 106 ?_
                  refine pA 16 107 ?_
                  refine pA 17 108 ?_
                  refine pA 18 109 ?_
                  refine pA 19 110 ?_
                  refine pA 20 111 ?_
                  refine pA 21 112 ?_
                  refine pA 22 113 ?_
                  refine pA 23 114 ?_
                  refine pA 24 115 ?_
                  refine pA 25 116 ?_
                  refine pA 26 117 ?_
                  refine pA 27 118 ?_
                  refine pA 28 119 ?_
                  refine pA 29 120 ?_
                  refine pA 30 121 ?_
                  refine pA 31 122 ?_
                  refine pA 32 123 ?_
                  refine pA 33 124 ?_
                  refine pA 34 125 ?_
                  refine pA 35 126 ?_
                  refine pA 36 127 ?_
                  refine pA 37 128 ?_
                  refine pA 38 129 ?_
                  refine pB 39 130 ?_
                  refine pB 40 131 ?_
                  refine pB 41 132 ?_
                  refine pA 42 133 ?_
                  refine done_ (done_of HT_.out z0) ?_
                  try go_wp2
                  go_meet
                  case rel => exact ⟨_, (true), z1, (by first | exact H' | (simp only [i1, iZ]; exact H') | (simp only [← i1, ← iZ]; exact H')), ⟨by have := vm.out; first | omega | exact Nat.le_refl _⟩, ⟨y6⟩, ⟨y13⟩, ⟨y23⟩⟩
                ·rw [if_neg iQ] at H
                 exact absurd H (by simp)
               ·rw [if_neg oV] at H
                exact absurd H (by simp)
              ·rw [if_neg tT] at H
               exact absurd H (by simp)
             ·rw [if_neg rZ] at H
              exact absurd H (by simp)
            ·rw [if_neg eI] at H
             have c46b0 : ((bP.extract 0 (dC : Int).toNat).toList == (bK.extract 0 (dC : Int).toNat).toList) = false := qF eI
             have c46b1 : ((bP.extract 0 (dC : Int).toNat).toList != (bK.extract 0 (dC : Int).toNat).toList) = true := nT eI
             have H' := aM H
             clear H
             try go_wp2
             replace bm := aM (aa bm.out)
             replace a5 := aM (ai a5.out)
             replace HB := aM (bD HB.out)
             refine start_ (n := 43) (S := fun w' => True) (ds := []) #[false, false, false, false, false, false, false, false, false, false, false, false, false, false, false, false, false, false, false, false, false, false, false, false, false, false, false, false, false, false, false, false, false, false, false, false, false, false, false, false, false, false, false] z0 rfl rfl trivial (fun hHeld => ?_); refine with_tabW laws_FnCommands.tab13 laws_FnCommands.bits13 (fun HT_ HW_ => ?_)
             generalize wc.drew = w58 at bm a5 HB hHeld ⊢
             refine pA 0 91 ?_
             refine pA 1 92 ?_
             refine pA 2 93 ?_
             refine pA 3 94 ?_
             refine pA 4 95 ?_
             refine pA 5 96 ?_
             refine pA 6 97 ?_
             refine pA 7 98 ?_
             refine pA 8 99 ?_
             refine pA 9 100 ?_
             refine pA 10 101 ?_
             refine pA 11 102 ?_
             refine pA 12 103 ?_
             refine pA 13 104 ?_
             refine pA 14 105 ?_
             refine pA 15 106 ?_
             refine pA 16 107 ?_
             refine pA 17 108 ?_
             refine pA 18 109 ?_
             refine pA 19 110 ?_
             refine pA 20 111 ?_
             refine pA 21 112 ?_
             refine pA 22 113 ?_
             refine pA 23 114 ?_
             refine pB 24 115 ?_
             refine pB 25 116 ?_
             refine pB 26 117 ?_
             refine pB 27 118 ?_
             refine pB 28 119 ?_
             refine pB 29 120 ?_
             refine pB 30 121 ?_
             refine pB 31 122 ?_
             refine pB 32 123 ?_
             refine pB 33 124 ?_
             refine pB 34 125 ?_
             refine pB 35 126 ?_
             refine pB 36 127 ?_
             refine pA 37 128 ?_
             refine pA 38 129 ?_
             refine pB 39 130 ?_
             refine pB 40 131 ?_
             refine pB 41 132 ?_
             refine pA 42 133 ?_
             refine done_ (done_of HT_.out z0) ?_
             try go_wp2
             go_meet
             case rel => exact ⟨_, (true), z1, H', ⟨by have := vm.out; first | omega | exact Nat.le_refl _⟩, ⟨y6⟩, ⟨y13⟩, ⟨y23⟩⟩
           ·rw [if_neg i6] at H
            exact absurd H (by simp)
          ·rw [if_neg hF] at H
           exact absurd H (by simp)
         ·rw [if_neg ph] at H
          exact absurd H (by simp)
      case rest =>
       clear tw
       obtain ⟨kq, x133_36, rfl, HA, HJ36, bm, a5, HB⟩ := hcut
       cases kq with
       | zero => exact absurd HA.out (by simp [laws_FnCommands.j1])
       | succ kj36 =>
        have H := HA.out
        clear HA
        simp only [laws_FnCommands.j1] at H
        by_cases k4 : x133_36 = true
        ·subst k4
         rw [if_pos rfl] at H
         first | (cases H.trans (congrArg some HRT.out); done) | skip
         all_goals
          obtain rfl := sI H
          go_wp2
          go_ret
          exact ⟨y4, y23⟩
        ·replace k4 := Bool.eq_false_iff.mpr k4
         subst k4
         rw [if_neg nF_] at H
         by_cases ie : fX = true
         ·subst ie
          rw [if_pos rfl] at H
          obtain ⟨⟨ku, t607⟩, tW, H⟩ := oA_ H
          try dsimp only at H
          obtain ⟨⟨pl, sy⟩, tV, H⟩ := oA_ H
          try dsimp only at H
          by_cases oU : t607 = true
          ·subst oU
           rw [if_pos rfl] at H
           by_cases pg : ku.toList = bK.toList
           ·rw [if_pos pg] at H
            have c64b0 : (ku.toList == bK.toList) = true := qT pg
            have c64b1 : (ku.toList != bK.toList) = false := nF pg
            clear pg
            by_cases pf : sy = true
            ·subst pf
             rw [if_pos rfl] at H
             obtain ⟨sx, A66, H⟩ := oA_ H
             try dsimp only at H
             first | (cases H.trans (congrArg some HRT.out); done) | skip
             all_goals
              obtain rfl := sI H
              obtain ⟨vt, uZ, eo67⟩ := Kd.R_slice bm.out
              subst eo67
              go_wp2_with (first | ((with_reducible refine av (f := 26) rfl ?_); refine ay (some 139) rfl rfl Try.func26 z0 rfl #[.slice vt df.length uZ, .string bP] rfl z15 ?_; (with_reducible refine (impl_ApplyOp.calls kj36 _ _ df bP ku true _ ?side1 ?side2 tW.out).mono ?_); (case side1 => exact y50); (case side2 => exact (ah bm.out).2.1); rintro e w68 ⟨rfl, hb⟩; refine ⟨_, rfl, ?_⟩; replace bm := aM (af (kR_ bm.out) hb); replace a5 := aM (bK_ a5.out hb); replace HB := aM (ao z21 hb); (try clear hb)) | ((with_reducible refine av (f := 27) rfl ?_); refine ay (some 144) rfl rfl Try.func27 z0 rfl #[.slice vt df.length uZ] rfl z15 ?_; (with_reducible refine (impl_NormalOp.calls kj36 _ _ df pl true _ ?side1 ?side2 tV.out).mono ?_); (case side1 => exact y50); (case side2 => exact (ah bm.out).2.1); rintro e w69 ⟨v610, rfl, ho0, hb⟩; refine ⟨_, rfl, ?_⟩; have kj := aM (az (Kd.R_new' ho0 (Kd.R_lt (kR_ bm.out))) (ap z21)); replace bm := aM (Kd.R_elder' (kR_ bm.out) (Kd.R_base ho0) hb); replace a5 := aM (bK_ a5.out hb); replace HB := aM (ao z21 hb); (try clear hb); (try clear ho0); obtain ⟨Ao70, co70, eo70⟩ := Kd.R_slice kj.out; subst eo70) | (go_at_call 25; (with_reducible refine (laws_sameOps.calls kj36 _ _ pl _ _ df sx _ ?side1 ?side2 ?side3 ?side4 A66.out).mono ?_); (case side1 => repeat (first | exact (ah kj.out).2.2 | (with_reducible refine aq ?_ _) | (with_reducible refine ar ?_ _) | (with_reducible refine au ?_))); (case side2 => exact (ah kj.out).2.1); (case side3 => exact y50); (case side4 => exact (ah bm.out).2.1); rintro e w' ⟨rfl, ⟨nd, rfl⟩⟩))
              all_goals (try (exfalso; rename_i h_; rw [c64b0] at h_; cases h_; done))
              go_ret
              exact ⟨y4, y23⟩
            ·replace pf := Bool.eq_false_iff.mpr pf
             subst pf
             rw [if_neg nF_] at H
             first | (cases H.trans (congrArg some HRT.out); done) | skip
             all_goals
              obtain rfl := sI H
              obtain ⟨vr, uY, eo71⟩ := Kd.R_slice bm.out
              subst eo71
              go_wp2_with (first | ((with_reducible refine av (f := 26) rfl ?_); refine ay (some 139) rfl rfl Try.func26 z0 rfl #[.slice vr df.length uY, .string bP] rfl z15 ?_; (with_reducible refine (impl_ApplyOp.calls kj36 _ _ df bP ku true _ ?side1 ?side2 tW.out).mono ?_); (case side1 => exact y50); (case side2 => exact (ah bm.out).2.1); rintro e w72 ⟨rfl, hb⟩; refine ⟨_, rfl, ?_⟩; replace bm := aM (af (kR_ bm.out) hb); replace a5 := aM (bK_ a5.out hb); replace HB := aM (ao z21 hb); (try clear hb)) | ((with_reducible refine av (f := 27) rfl ?_); refine ay (some 144) rfl rfl Try.func27 z0 rfl #[.slice vr df.length uY] rfl z15 ?_; (with_reducible refine (impl_NormalOp.calls kj36 _ _ df pl false _ ?side1 ?side2 tV.out).mono ?_); (case side1 => exact y50); (case side2 => exact (ah bm.out).2.1); rintro e w73 ⟨v610, rfl, ho0, hb⟩; refine ⟨_, rfl, ?_⟩; have kj := aM (az (Kd.R_new' ho0 (Kd.R_lt (kR_ bm.out))) (ap z21)); replace bm := aM (Kd.R_elder' (kR_ bm.out) (Kd.R_base ho0) hb); replace a5 := aM (bK_ a5.out hb); replace HB := aM (ao z21 hb); (try clear hb); (try clear ho0)))
              all_goals (try (exfalso; rename_i h_; rw [c64b0] at h_; cases h_; done))
              go_ret
              exact ⟨y4, y23⟩
           ·rw [if_neg pg] at H
            have c64b0 : (ku.toList == bK.toList) = false := qF pg
            have c64b1 : (ku.toList != bK.toList) = true := nT pg
            first | (cases H.trans (congrArg some HRT.out); done) | skip
            all_goals
             obtain rfl := sI H
             obtain ⟨vq, uX, eo74⟩ := Kd.R_slice bm.out
             subst eo74
             go_wp2_with (first | ((with_reducible refine av (f := 26) rfl ?_); refine ay (some 139) rfl rfl Try.func26 z0 rfl #[.slice vq df.length uX, .string bP] rfl z15 ?_; (with_reducible refine (impl_ApplyOp.calls kj36 _ _ df bP ku true _ ?side1 ?side2 tW.out).mono ?_); (case side1 => exact y50); (case side2 => exact (ah bm.out).2.1); rintro e w75 ⟨rfl, hb⟩; refine ⟨_, rfl, ?_⟩; replace bm := aM (af (kR_ bm.out) hb); replace a5 := aM (bK_ a5.out hb); replace HB := aM (ao z21 hb); (try clear hb)) | ((with_reducible refine av (f := 27) rfl ?_); refine ay (some 144) rfl rfl Try.func27 z0 rfl #[.slice vq df.length uX] rfl z15 ?_; (with_reducible refine (impl_NormalOp.calls kj36 _ _ df pl sy _ ?side1 ?side2 tV.out).mono ?_); (case side1 => exact y50); (case side2 => exact (ah bm.out).2.1); rintro e w76 ⟨v610, rfl, ho0, hb⟩; refine ⟨_, rfl, ?_⟩; have kj := aM (az (Kd.R_new' ho0 (Kd.R_lt (kR_ bm.out))) (ap z21)); replace bm := aM (Kd.R_elder' (kR_ bm.out) (Kd.R_base ho0) hb); replace a5 := aM (bK_ a5.out hb); replace HB := aM (ao z21 hb); (try clear hb); (try clear ho0)))
             all_goals (try (exfalso; rename_i h_; rw [c64b0] at h_; cases h_; done))
             go_ret
             exact ⟨y4, y23⟩
          ·replace oU := Bool.eq_false_iff.mpr oU
           subst oU
           rw [if_neg nF_] at H
           first | (cases H.trans (congrArg some HRT.out); done) | skip
           all_goals
            obtain rfl := sI H
            obtain ⟨vp, uW, eo77⟩ := Kd.R_slice bm.out
            subst eo77
            go_wp2_with (first | ((with_reducible refine av (f := 26) rfl ?_); refine ay (some 139) rfl rfl Try.func26 z0 rfl #[.slice vp df.length uW, .string bP] rfl z15 ?_; (with_reducible refine (impl_ApplyOp.calls kj36 _ _ df bP ku false _ ?side1 ?side2 tW.out).mono ?_); (case side1 => exact y50); (case side2 => exact (ah bm.out).2.1); rintro e w78 ⟨rfl, hb⟩; refine ⟨_, rfl, ?_⟩; replace bm := aM (af (kR_ bm.out) hb); replace a5 := aM (bK_ a5.out hb); replace HB := aM (ao z21 hb); (try clear hb)) | ((with_reducible refine av (f := 27) rfl ?_); refine ay (some 144) rfl rfl Try.func27 z0 rfl #[.slice vp df.length uW] rfl z15 ?_; (with_reducible refine (impl_NormalOp.calls kj36 _ _ df pl sy _ ?side1 ?side2 tV.out).mono ?_); (case side1 => exact y50); (case side2 => exact (ah bm.out).2.1); rintro e w79 ⟨v610, rfl, ho0, hb⟩; refine ⟨_, rfl, ?_⟩; have kj := aM (az (Kd.R_new' ho0 (Kd.R_lt (kR_ bm.out))) (ap z21)); replace bm := aM (Kd.R_elder' (kR_ bm.out) (Kd.R_base ho0) hb); replace a5 := aM (bK_ a5.out hb); replace HB := aM (ao z21 hb); (try clear hb); (try clear ho0)))
            go_ret
            exact ⟨y4, y23⟩
         ·replace ie := Bool.eq_false_iff.mpr ie
          subst ie
          rw [if_neg nF_] at H
          first | (cases H.trans (congrArg some HRT.out); done) | skip
          all_goals
           obtain rfl := sI H
           go_wp2
           go_ret
           exact ⟨y4, y23⟩
     ·replace l7 := Bool.eq_false_iff.mpr l7
      subst l7
      rw [if_neg nF_] at H
      by_cases kX : bK.toList = ([] : List UInt8)
      ·rw [if_pos kX] at H
       have c80b0 : (bK.toList == ([] : List UInt8)) = true := qT kX
       have c80b1 : (bK.toList != ([] : List UInt8)) = false := nF kX
       clear kX
       first | (cases H.trans (congrArg some HRT.out); done) | skip
       all_goals
        obtain rfl := sI H
        go_wp2
        all_goals (try (exfalso; rename_i h_; rw [c80b0] at h_; cases h_; done))
        go_ret
        exact ⟨y4, y23⟩
      ·rw [if_neg kX] at H
       have c80b0 : (bK.toList == ([] : List UInt8)) = false := qF kX
       have c80b1 : (bK.toList != ([] : List UInt8)) = true := nT kX
       first | (cases H.trans (congrArg some HRT.out); done) | skip
       all_goals
        obtain rfl := sI H
        go_wp2
        all_goals (try (exfalso; rename_i h_; rw [c80b0] at h_; cases h_; done))
        go_ret
        exact ⟨y4, y23⟩

/-- THE ONE PURE STATEMENT of laws_FnCommands: yours. -/
def laws_FnCommands.Pure : Prop := ∀ (l0 : List Int), l0.length ≤ maxLen → l0.length * 1 ≤ 140737488351232 → (∀ x ∈ l0, (Lit.int .u8 x).wf = true) → ∃ k, laws_FnCommands.f k l0 = some true
theorem laws_FnCommands.walk (P : laws_FnCommands.Pure) (a0 : Option Addr) (len0 cap0 : Nat) (z0 : List Int) (w : World) (w0 : (a0 = none ∧ len0 = 0 ∧ cap0 = 0 ∧ z0 = []) ∨ ∃ x, a0 = some x ∧ len0 ≤ cap0 ∧ cap0 ≤ maxLen ∧ z0.length = cap0 ∧ (∀ i, i < z0.length → w.cell? (x.add i) = some (.int .u8 (z0.getD i 0))) ∧ ∀ n ∈ z0, (Lit.int .u8 n).wf = true) (y0 : len0 * 1 ≤ 140737488351232) :
  Calls Try.prog 8 #[.slice a0 len0 cap0] w fun e w' => e = .returned (.bool true) ∧ Below w.heap.size w w' := by
 obtain ⟨l0, rfl, hr0, hm0, hw0, hc0⟩ := ReadsInt.ofRowC w0
 obtain ⟨k, h⟩ := P l0 hm0 y0 hw0
 refine (laws_FnCommands.calls k _ _ l0 true ⟨rfl⟩ w (Kd.C_of_reads (d := (0 : Int)) (h1 := fun _ => rfl) hr0) hc0 h).mono ?_
 rintro e w' ⟨rfl, hd⟩
 exact ⟨rfl, hd⟩

end Go.Proofs.Ytmigfgcpdelnfaa.AFnCommands
