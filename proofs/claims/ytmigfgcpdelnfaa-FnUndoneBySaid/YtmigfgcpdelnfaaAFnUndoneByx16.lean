-- this session's own text: written by wip/tools/ownprint.py over the kit's print
import Derived.Test.YtmigfgcpdelnfaaAFnUndoneByx0
import Derived.Test.YtmigfgcpdelnfaaAFnUndoneByx6
import Derived.Test.YtmigfgcpdelnfaaAFnUndoneByx7
import Derived.Test.YtmigfgcpdelnfaaAFnUndoneByx11
import Derived.Test.YtmigfgcpdelnfaaAFnUndoneByx14
import Derived.Test.YtmigfgcpdelnfaaAFnUndoneByx15
namespace Go.Proofs.Ytmigfgcpdelnfaa.AFnUndoneBy
open Go.RowKit Go.Proofs.YtmigfgcpdelnfaaW.PrintWords Go.Proofs.YtmigfgcpdelnfaaW.PrintLast Go.Proofs.YtmigfgcpdelnfaaW.PrintMore
attribute [local go_sem] max2_int min2_int max_two min_two max_three min_three max_four min_four   -- for this text's walks alone
set_option linter.unusedVariables false
set_option linter.unusedSimpArgs false

theorem box4_ {w0 w : World} {g u : Nat} {x0 x1 x2 x3 y0 y1 y2 y3 : Value} {cs : Array Value} {t s : TypeId} (hg : w.heap[g]? = some (.cells #[x0, x1, x2, x3] t (0, 0))) (hu : w.heap[u]? = some (.cells cs s (0, 0))) (hne : u ≠ g) (hB : Below w0.heap.size w0 w) (hn : w0.heap.size ≤ g) {P : World → Prop} (H : ∀ W : World, W.heap[g]? = some (.cells #[y0, y1, y2, y3] t (0, 0)) → W.heap[u]? = some (.cells cs s (0, 0)) → Below w0.heap.size w0 W → P W) : P ((((w.setCell ⟨g, 0, none⟩ y0).setCell ⟨g, 1, none⟩ y1).setCell ⟨g, 2, none⟩ y2).setCell ⟨g, 3, none⟩ y3) :=
 H _ (blk_put (blk_put (blk_put (blk_put hg 0 y0 rfl) 1 y1 rfl) 2 y2 rfl) 3 y3 rfl) (blk_far (blk_far (blk_far (blk_far hu hne y0) hne y1) hne y2) hne y3) (below_set (below_set (below_set (below_set hB hn) hn) hn) hn)
theorem box1_ (i : Nat) (v : Value) (cs' : Array Value) {w0 w : World} {g u : Nat} {cq cs : Array Value} {t s : TypeId} (hg : w.heap[g]? = some (.cells cq t (0, 0))) (hu : w.heap[u]? = some (.cells cs s (0, 0))) (hne : u ≠ g) (hB : Below w0.heap.size w0 w) (hn : w0.heap.size ≤ g) (e : cq.setIfInBounds i v = cs') {P : World → Prop} (H : ∀ W : World, W.heap[g]? = some (.cells cs' t (0, 0)) → W.heap[u]? = some (.cells cs s (0, 0)) → Below w0.heap.size w0 W → P W) : P (w.setCell ⟨g, i, none⟩ v) :=
 H _ (blk_put hg i v e) (blk_far hu hne v) (below_set hB hn)
/-! ### spec_DrawCompileCommand: function 24 -/
def spec_DrawCompileCommand.f (k : Nat) (l0 : List Int) : Option (ByteArray × Int × Int × Int × ByteArray) := (spec_l1Cur_doc.f k l0 0 0).bind fun gf => ((spec_l1Cur_command.f k l0 gf.2.1 gf.2.2 gf.1).bind fun gc => (some (gf.1, gc.1, gc.2.1, gc.2.2.1, gc.2.2.2.1)))
theorem spec_DrawCompileCommand.mono : ∀ a0 k, LeO (spec_DrawCompileCommand.f k a0) (spec_DrawCompileCommand.f (k + 1) a0) := by
 intro a0 k
 unfold spec_DrawCompileCommand.f
 repeat' first
   | (with_reducible exact spec_l1Cur_command.mono _ _ _ _ _)
   | (with_reducible exact spec_l1Cur_doc.mono _ _ _ _)
   | (with_reducible exact LeO.refl _)
   | (with_reducible exact LeO.none _)
   | (with_reducible refine LeO.ite ?_ ?_)
   | (with_reducible refine LeO.bind ?_ (fun _ => ?_))
set_option maxHeartbeats 8000000 in
set_option maxRecDepth 100000 in
theorem spec_DrawCompileCommand.calls (k : Nat) (A0 : Option Addr) (c0 : Nat) (l0 : List Int) (r1 : ByteArray) (r2 : Int) (r3 : Int) (r4 : Int) (r5 : ByteArray) (w : World) (hr0 : Kd.C (Kd.int .u8) w A0 l0.length l0) (hc0 : l0.length ≤ c0) (h : spec_DrawCompileCommand.f k l0 = some (r1, r2, r3, r4, r5)) :
  Calls Try.prog 24 #[.slice A0 l0.length c0] w fun e w' => e = .returned (.tuple #[.string r1, .agg #[.int .i64 r2, .int .i64 r3, .int .i64 r4, .string r5]]) ∧ Below w.heap.size w w' := by
 have hu29 := Try.underlying29
 have hu66 := Try.underlying66
 have pX := aM hr0
 have rU := aM hc0
 clear hr0 hc0
 have HB := aM (Below.refl w.heap.size w)
 have H : ((spec_l1Cur_doc.f k l0 0 0).bind fun gf => ((spec_l1Cur_command.f k l0 gf.2.1 gf.2.2 gf.1).bind fun gc => (some (gf.1, gc.1, gc.2.1, gc.2.2.1, gc.2.2.2.1)))) = some (r1, r2, r3, r4, r5) := h
 clear h
 obtain ⟨⟨qE, sb, sa⟩, A2, H⟩ := oA_ H
 try dsimp only at H
 obtain ⟨⟨nM, po, qD, r9, t523, t524⟩, A3, H⟩ := oA_ H
 try dsimp only at H
 simp only [Option.some.injEq, Prod.mk.injEq] at H
 obtain ⟨rfl, rfl, rfl, rfl, rfl⟩ := H
 go_enter Try.func24, Try.ntmps24
 go_wp2_with (first | ((with_reducible refine aw (N := 3) rfl ?_); refine ax ?hg (N := 3) ?hd (cs := #[.int .i64 0, .int .i64 0, .int .i64 0, .string ⟨#[]⟩]) (t := 29) ?hr ?_; (case hd => rfl); (case hg => rfl); (case hr => first | (go_simp; done) | (go_simp; rfl)); intro dR hg w4 hbox hb; have cB := aM (hbox); have GW514 := aM ((by rw [hg]; exact (aq z13) : w.heap.size ≤ dR)); have jd := aM ((by rw [hg]; exact (aq z13) : w.heap.size ≤ dR)); replace HB := aM (ap z13 hb); clear hb hbox hg) | ((with_reducible refine aw (N := 8) rfl ?_); refine ax ?hg (N := 8) ?hd (cs := #[.slice A0 l0.length c0, .int .i64 0, .int .u64 0]) (t := 66) ?hr ?_; (case hd => rfl); (case hg => rfl); (case hr => first | (go_simp; done) | (go_simp; rfl)); intro gA hg w5 hbox hb; have o4 := aM (hbox); have GW515 := aM ((by rw [hg]; exact (aq (by repeat (first | (with_reducible first | exact HB.out | apply bA | apply pD | apply bD | refine ao ?_ jd.out) | exact HB.out))) : w.heap.size ≤ gA)); have GE515 := aM ((by rw [hg]; exact (aq (by repeat (first | (with_reducible first | exact HB.out | apply bA | apply pD | apply bD | refine ao ?_ jd.out) | exact HB.out))) : w.heap.size ≤ gA)); replace HB := aM (ap (by repeat (first | (with_reducible first | exact HB.out | apply bA | apply pD | apply bD | refine ao ?_ jd.out) | exact HB.out)) hb); have gv := aM ((by rw [hg]; exact ar (blk_lt (g := dR) (o := .cells #[.int .i64 0, .int .i64 0, .int .i64 0, .string ⟨#[]⟩] 29 (0, 0)) (kB_ cB.out)) : dR ≠ gA)); have ja := aM ((by rw [hg]; exact au (blk_lt (g := dR) (o := .cells #[.int .i64 0, .int .i64 0, .int .i64 0, .string ⟨#[]⟩] 29 (0, 0)) (kB_ cB.out)) : gA ≠ dR)); replace cB := aM (ae (g := dR) (o := .cells #[.int .i64 0, .int .i64 0, .int .i64 0, .string ⟨#[]⟩] 29 (0, 0)) (kB_ cB.out) hb); clear hb hbox hg) | ((with_reducible refine av (f := 42) rfl ?_); refine ay (some 10) rfl rfl Try.func42 z0 rfl #[.pointer (some ⟨gA, 0, none⟩)] rfl z14 ?_; (with_reducible refine (spec_l1Cur_doc.calls k gA l0 0 0 qE sb sa w _ ?side1 ?side2 A2.out).mono ?_); (case side1 => exact ⟨_, _, by (with_reducible repeat (first | refine aj ?_ _ | refine ai ?_ | refine ak ?_ _)); exact o4.out, GE515.out, pX.out⟩); (case side2 => exact y38); rintro e w6 ⟨rfl, hi, hb, hk⟩; refine ⟨_, rfl, ?_⟩; replace cB := aM (KeepBut.blk hk (g' := dR) (o := .cells #[.int .i64 0, .int .i64 0, .int .i64 0, .string ⟨#[]⟩] 29 (0, 0)) (kB_ cB.out) gv.out (by simp)); replace HB := aM (hb); have HI515 := aM (hi); (try clear hb); (try clear hk); (try clear hi); (try clear o4)) | ((with_reducible refine av (f := 43) rfl ?_); refine ay (some 14) rfl rfl Try.func43 z0 rfl #[.pointer (some ⟨gA, 0, none⟩), .string qE] rfl z14 ?_; (with_reducible refine (spec_l1Cur_command.calls k gA l0 sb sa qE nM po qD r9 t523 t524 w _ ?side1 ?side2 A3.out).mono ?_); (case side1 => repeat (first | (with_reducible first | exact HI515.out | apply IsS66.alloc | apply IsS66.drewN | apply IsS66.drew | apply IsS66.set_1 | apply IsS66.set_2 | refine IsS66.far ?_ ja.out _) | exact HI515.out)); (case side2 => exact y38); rintro e w7 ⟨rfl, hi, hb, hk⟩; refine ⟨_, rfl, ?_⟩; replace cB := aM (KeepBut.blk hk (g' := dR) (o := .cells #[.int .i64 0, .int .i64 0, .int .i64 0, .string ⟨#[]⟩] 29 (0, 0)) (kB_ cB.out) gv.out (by simp)); replace HB := aM (hb); replace HI515 := aM (hi); (try clear hb); (try clear hk); (try clear hi); (try clear o4); have hnb8 := gv.out; have hnc8 := ja.out; obtain ⟨b4, b3, bZ, cR, b6, bY, bX, cQ⟩ := cc4 cB.out))
 refine bodyPost_ret (results_tc rfl _ _ dR 29 #[.int .i64 nM, .int .i64 po, .int .i64 qD, .string r9] (0, 0) _ rfl (by (with_reducible repeat (first | refine aj ?_ _ | refine ai ?_ | refine ak ?_ _)); refine am (cs := #[.int .i64 nM, .int .i64 po, .int .i64 qD, .string ⟨#[]⟩]) ?_ 3 _ rfl; (with_reducible repeat (first | refine aj ?_ _ | refine ai ?_ | refine ak ?_ _)); refine am (cs := #[.int .i64 nM, .int .i64 po, .int .i64 0, .string ⟨#[]⟩]) ?_ 2 _ rfl; (with_reducible repeat (first | refine aj ?_ _ | refine ai ?_ | refine ak ?_ _)); refine am (cs := #[.int .i64 nM, .int .i64 0, .int .i64 0, .string ⟨#[]⟩]) ?_ 1 _ rfl; (with_reducible repeat (first | refine aj ?_ _ | refine ai ?_ | refine ak ?_ _)); refine am (cs := #[.int .i64 0, .int .i64 0, .int .i64 0, .string ⟨#[]⟩]) ?_ 0 _ rfl; (with_reducible repeat (first | refine aj ?_ _ | refine ai ?_ | refine ak ?_ _)); exact cB.out) Try.underlying29 rfl z0) rfl ?_
 exact ⟨y4, by repeat (first | (with_reducible first | exact HB.out | apply bA | apply pD | apply bD | refine ao ?_ (IsS66.ge HI515.out) | refine ao ?_ jd.out) | exact HB.out)⟩

/-! ### spec_DrawDoCommand: function 17 -/
def spec_DrawDoCommand.f (k : Nat) (l0 : List Int) : Option (ByteArray × Int × Int × Int × ByteArray) := (spec_DrawCompileCommand.f k l0).bind fun ev => (some (ev.1, ev.2.1, ev.2.2.1, ev.2.2.2.1, ev.2.2.2.2))
theorem spec_DrawDoCommand.mono : ∀ a0 k, LeO (spec_DrawDoCommand.f k a0) (spec_DrawDoCommand.f (k + 1) a0) := by
 intro a0 k
 unfold spec_DrawDoCommand.f
 repeat' first
   | (with_reducible exact spec_DrawCompileCommand.mono _ _)
   | (with_reducible exact LeO.refl _)
   | (with_reducible exact LeO.none _)
   | (with_reducible refine LeO.ite ?_ ?_)
   | (with_reducible refine LeO.bind ?_ (fun _ => ?_))
set_option maxHeartbeats 8000000 in
set_option maxRecDepth 100000 in
theorem spec_DrawDoCommand.calls (k : Nat) (A0 : Option Addr) (c0 : Nat) (l0 : List Int) (r1 : ByteArray) (r2 : Int) (r3 : Int) (r4 : Int) (r5 : ByteArray) (w : World) (hr0 : Kd.C (Kd.int .u8) w A0 l0.length l0) (hc0 : l0.length ≤ c0) (h : spec_DrawDoCommand.f k l0 = some (r1, r2, r3, r4, r5)) :
  Calls Try.prog 17 #[.slice A0 l0.length c0] w fun e w' => e = .returned (.tuple #[.string r1, .agg #[.int .i64 r2, .int .i64 r3, .int .i64 r4, .string r5]]) ∧ Below w.heap.size w w' := by
 have hu29 := Try.underlying29
 have pX := aM hr0
 have rU := aM hc0
 clear hr0 hc0
 have HB := aM (Below.refl w.heap.size w)
 have H : ((spec_DrawCompileCommand.f k l0).bind fun ev => (some (ev.1, ev.2.1, ev.2.2.1, ev.2.2.2.1, ev.2.2.2.2))) = some (r1, r2, r3, r4, r5) := h
 clear h
 obtain ⟨⟨t526, nL, pn, qC, r8⟩, A2, H⟩ := oA_ H
 try dsimp only at H
 simp only [Option.some.injEq, Prod.mk.injEq] at H
 obtain ⟨rfl, rfl, rfl, rfl, rfl⟩ := H
 go_enter Try.func17, Try.ntmps17
 go_wp2_with (first | ((with_reducible refine aw (N := 3) rfl ?_); refine ax ?hg (N := 3) ?hd (cs := #[.int .i64 0, .int .i64 0, .int .i64 0, .string ⟨#[]⟩]) (t := 29) ?hr ?_; (case hd => rfl); (case hg => rfl); (case hr => first | (go_simp; done) | (go_simp; rfl)); intro gz hg w3 hbox hb; have ei := aM (hbox); have GW525 := aM ((by rw [hg]; exact (aq z13) : w.heap.size ≤ gz)); have ql := aM ((by rw [hg]; exact (aq z13) : w.heap.size ≤ gz)); replace HB := aM (ap z13 hb); clear hb hbox hg) | ((with_reducible refine av (f := 24) rfl ?_); refine ay (some 5) rfl rfl Try.func24 z0 rfl #[.slice A0 l0.length c0] rfl z14 ?_; (with_reducible refine (spec_DrawCompileCommand.calls k _ _ l0 t526 nL pn qC r8 _ ?side1 ?side2 A2.out).mono ?_); (case side1 => repeat (first | exact (Kd.C_below pX.out HB.out) | (with_reducible refine Kd.C_alloc ?_ _) | (with_reducible refine Kd.C_drewN ?_ _) | (with_reducible refine Kd.C_drew ?_))); (case side2 => exact rU.out); rintro e w4 ⟨rfl, hb⟩; refine ⟨_, rfl, ?_⟩; replace ei := aM (ae (g := gz) (o := .cells #[.int .i64 0, .int .i64 0, .int .i64 0, .string ⟨#[]⟩] 29 (0, 0)) (kB_ ei.out) hb); replace HB := aM (ap (by repeat (first | (with_reducible first | exact HB.out | apply bA | apply pD | apply bD | refine ao ?_ ql.out) | exact HB.out)) hb); (try clear hb); obtain ⟨oe, od, oc, hcz5_3, hfz5_0, ob, oa, hfz5_3⟩ := cc4 ei.out))
 refine bodyPost_ret (results_tc rfl _ _ gz 29 #[.int .i64 nL, .int .i64 pn, .int .i64 qC, .string r8] (0, 0) _ rfl (by (with_reducible repeat (first | refine aj ?_ _ | refine ai ?_ | refine ak ?_ _)); refine am (cs := #[.int .i64 nL, .int .i64 pn, .int .i64 qC, .string ⟨#[]⟩]) ?_ 3 _ rfl; (with_reducible repeat (first | refine aj ?_ _ | refine ai ?_ | refine ak ?_ _)); refine am (cs := #[.int .i64 nL, .int .i64 pn, .int .i64 0, .string ⟨#[]⟩]) ?_ 2 _ rfl; (with_reducible repeat (first | refine aj ?_ _ | refine ai ?_ | refine ak ?_ _)); refine am (cs := #[.int .i64 nL, .int .i64 0, .int .i64 0, .string ⟨#[]⟩]) ?_ 1 _ rfl; (with_reducible repeat (first | refine aj ?_ _ | refine ai ?_ | refine ak ?_ _)); refine am (cs := #[.int .i64 0, .int .i64 0, .int .i64 0, .string ⟨#[]⟩]) ?_ 0 _ rfl; (with_reducible repeat (first | refine aj ?_ _ | refine ai ?_ | refine ak ?_ _)); exact ei.out) Try.underlying29 rfl z0) rfl ?_
 exact ⟨y4, by repeat (first | (with_reducible first | exact HB.out | apply bA | apply pD | apply bD | refine ao ?_ ql.out) | exact HB.out)⟩

/-! ### laws_FnUndoneBy: function 6 -/
def laws_FnUndoneBy.j0 : Nat → ByteArray → ByteArray → Bool → Bool → Int → Int → Int → ByteArray → Option (Bool)
 | 0, _, _, _, _, _, _, _, _ => none
 | k + 1, x3, x5, x6, x39, x537000, x537001, x537002, x537003 => if x39 = true then (some false) else (if x6 = true then (if x537000 = 5 then ((impl_DoCommand.f k x5 6 (wrap64 (x537001 + 1)) 0 (⟨#[]⟩ : ByteArray)).bind fun qe => (if qe.2 = true then (some (qe.1.toList == x3.toList)) else (some false))) else (if x537000 = 3 then ((impl_DoCommand.f k x5 4 x537001 0 (⟨#[]⟩ : ByteArray)).bind fun qd => (if qd.2 = true then (some (qd.1.toList == x3.toList)) else (some false))) else (if x537000 = 8 then (if 0 ≤ x537001 then (if x537001 ≤ (wrap64 (x537001 + 1)) then (if (wrap64 (x537001 + 1)) ≤ (x3.size : Int) then ((impl_DoCommand.f k x5 8 x537001 0 (x3.extract (x537001 : Int).toNat ((wrap64 (x537001 + 1)) : Int).toNat)).bind fun qc => (if qc.2 = true then (some (qc.1.toList == x3.toList)) else (some false))) else (none)) else (none)) else (none)) else (if x537000 = 1 then ((impl_GoodDoc.f k x537003).bind fun qB => (if qB = true then ((impl_DoCommand.f k x5 2 x537001 (wrap64 (x537001 + (x537003.size : Int))) (⟨#[]⟩ : ByteArray)).bind fun qb => (if qb.2 = true then (some (qb.1.toList == x3.toList)) else (some false))) else (some true))) else (some true))))) else (some (x5.toList == ([] : List UInt8))))
def laws_FnUndoneBy.f (k : Nat) (l0 : List Int) : Option (Bool) := if (l0.length : Int) > 1048576 then (some true) else ((spec_DrawDoCommand.f k l0).bind fun bJ => ((impl_DoCommand.f k bJ.1 bJ.2.1 bJ.2.2.1 bJ.2.2.2.1 bJ.2.2.2.2).bind fun dY => ((spec_DoCommand.f k bJ.1 bJ.2.1 bJ.2.2.1 bJ.2.2.2.1 bJ.2.2.2.2).bind fun kK => (if (dY.2 != kK.2) = true then (laws_FnUndoneBy.j0 k bJ.1 dY.1 dY.2 true bJ.2.1 bJ.2.2.1 bJ.2.2.2.1 bJ.2.2.2.2) else (laws_FnUndoneBy.j0 k bJ.1 dY.1 dY.2 (dY.1.toList != kK.1.toList) bJ.2.1 bJ.2.2.1 bJ.2.2.2.1 bJ.2.2.2.2)))))
theorem laws_FnUndoneBy.mono_l : ∀ k, (∀ y0 y1 y2 y3 y4 y5 y6 y7, LeO (laws_FnUndoneBy.j0 k y0 y1 y2 y3 y4 y5 y6 y7) (laws_FnUndoneBy.j0 (k + 1) y0 y1 y2 y3 y4 y5 y6 y7))
 | 0 => fun _ _ _ _ _ _ _ _ r h => by simp [laws_FnUndoneBy.j0] at h
 | k + 1 => by
  have ih0 := laws_FnUndoneBy.mono_l k
  ·intro y0 y1 y2 y3 y4 y5 y6 y7
   unfold laws_FnUndoneBy.j0
   repeat' first
   | (with_reducible exact ih0 _ _ _ _ _ _ _ _)
   | (with_reducible exact impl_DoCommand.mono _ _ _ _ _ _)
   | (with_reducible exact impl_GoodDoc.mono _ _)
   | (with_reducible exact spec_DoCommand.mono _ _ _ _ _ _)
   | (with_reducible exact spec_DrawDoCommand.mono _ _)
   | (with_reducible exact LeO.refl _)
   | (with_reducible exact LeO.none _)
   | (with_reducible refine LeO.ite ?_ ?_)
   | (with_reducible refine LeO.bind ?_ (fun _ => ?_))
theorem laws_FnUndoneBy.mono : ∀ a0 k, LeO (laws_FnUndoneBy.f k a0) (laws_FnUndoneBy.f (k + 1) a0) := by
 intro a0 k
 have ih0 := laws_FnUndoneBy.mono_l k
 unfold laws_FnUndoneBy.f
 repeat' first
   | (with_reducible exact ih0 _ _ _ _ _ _ _ _)
   | (with_reducible exact impl_DoCommand.mono _ _ _ _ _ _)
   | (with_reducible exact impl_GoodDoc.mono _ _)
   | (with_reducible exact spec_DoCommand.mono _ _ _ _ _ _)
   | (with_reducible exact spec_DrawDoCommand.mono _ _)
   | (with_reducible exact LeO.refl _)
   | (with_reducible exact LeO.none _)
   | (with_reducible refine LeO.ite ?_ ?_)
   | (with_reducible refine LeO.bind ?_ (fun _ => ?_))
set_option maxHeartbeats 8000000 in
set_option maxRecDepth 100000 in
theorem laws_FnUndoneBy.calls (k : Nat) (A0 : Option Addr) (c0 : Nat) (l0 : List Int) (r : Bool) (HRT : Aside0 (r = true)) (w : World) (hr0 : Kd.C (Kd.int .u8) w A0 l0.length l0) (hc0 : l0.length ≤ c0) (h : laws_FnUndoneBy.f k l0 = some r) :
  Calls Try.prog 6 #[.slice A0 l0.length c0] w fun e w' => e = .returned (.bool r) ∧ Below w.heap.size w w' := by
 have hu29 := Try.underlying29
 have pX := aM hr0
 have rU := aM hc0
 clear hr0 hc0
 have HB := aM (Below.refl w.heap.size w)
 have H : (if (l0.length : Int) > 1048576 then (some true) else ((spec_DrawDoCommand.f k l0).bind fun bJ => ((impl_DoCommand.f k bJ.1 bJ.2.1 bJ.2.2.1 bJ.2.2.2.1 bJ.2.2.2.2).bind fun dY => ((spec_DoCommand.f k bJ.1 bJ.2.1 bJ.2.2.1 bJ.2.2.2.1 bJ.2.2.2.2).bind fun kK => (if (dY.2 != kK.2) = true then (laws_FnUndoneBy.j0 k bJ.1 dY.1 dY.2 true bJ.2.1 bJ.2.2.1 bJ.2.2.2.1 bJ.2.2.2.2) else (laws_FnUndoneBy.j0 k bJ.1 dY.1 dY.2 (dY.1.toList != kK.1.toList) bJ.2.1 bJ.2.2.1 bJ.2.2.2.1 bJ.2.2.2.2)))))) = some r := h
 clear h
 by_cases c2 : (l0.length : Int) > 1048576
 ·rw [if_pos c2] at H
  have c2b0 : decide (1048576 < (l0.length : Int)) = true := dT c2
  have c2b1 : decide (1048576 < l0.length) = true := dT (by omega)
  clear c2
  first | (cases H.trans (congrArg some HRT.out); done) | skip
  all_goals
   obtain rfl := sI H
   go_enter Try.func6, Try.ntmps6
   go_wp2
   go_ret
   exact ⟨y4, y5⟩
 ·rw [if_neg c2] at H
  have c2b0 : decide (1048576 < (l0.length : Int)) = false := dF c2
  have c2b1 : decide (1048576 < l0.length) = false := dF (by omega)
  clear c2
  obtain ⟨⟨e9, bk, a7, bu, bp⟩, A3, H⟩ := oA_ H
  try dsimp only at H
  obtain ⟨⟨d5, hJ⟩, A4, H⟩ := oA_ H
  try dsimp only at H
  obtain ⟨⟨r7, ji⟩, A5, H⟩ := oA_ H
  try dsimp only at H
  have iP := aM H
  clear H
  go_enter Try.func6, Try.ntmps6
  go_upto_region 6 with (first | ((with_reducible refine av (f := 17) rfl ?_); refine ay (some 17) rfl rfl Try.func17 z0 rfl #[.slice A0 l0.length c0] rfl z14 ?_; (with_reducible refine (spec_DrawDoCommand.calls k _ _ l0 e9 bk a7 bu bp _ ?side1 ?side2 A3.out).mono ?_); (case side1 => repeat (first | exact pX.out | (with_reducible refine Kd.C_alloc ?_ _) | (with_reducible refine Kd.C_drewN ?_ _) | (with_reducible refine Kd.C_drew ?_))); (case side2 => exact rU.out); rintro e w7 ⟨rfl, hb⟩; refine ⟨_, rfl, ?_⟩; replace HB := aM (ap z13 hb); (try clear hb)) | ((with_reducible refine aw (N := 4) rfl ?_); refine ax ?hg (N := 4) ?hd (cs := #[.int .i64 0, .int .i64 0, .int .i64 0, .string ⟨#[]⟩]) (t := 29) ?hr ?_; (case hd => rfl); (case hg => rfl); (case hr => first | (go_simp; done) | (go_simp; rfl)); intro aU hg w8 hbox hb; have aK := aM (hbox); have GW536 := aM ((by rw [hg]; exact (aq z13) : w.heap.size ≤ aU)); have nq := aM ((by rw [hg]; exact (aq z13) : w.heap.size ≤ aU)); replace HB := aM (ap z13 hb); clear hb hbox hg; obtain ⟨b4, b3, bZ, cR, b6, bY, bX, cQ⟩ := cc4 aK.out) | ((with_reducible refine av (f := 14) rfl ?_); refine ay (some 23) rfl rfl Try.func14 z0 rfl #[.string e9, .agg #[.int .i64 bk, .int .i64 a7, .int .i64 bu, .string bp]] rfl z14 ?_; (with_reducible refine (impl_DoCommand.calls k e9 bk a7 bu bp d5 hJ _ A4.out).mono ?_); rintro e w10 ⟨rfl, hb⟩; refine ⟨_, rfl, ?_⟩; replace aK := aM (ae (g := aU) (o := .cells #[.int .i64 bk, .int .i64 a7, .int .i64 bu, .string bp] 29 (0, 0)) (by (with_reducible repeat (first | refine aj ?_ _ | refine ai ?_ | refine ak ?_ _)); refine am (cs := #[.int .i64 bk, .int .i64 a7, .int .i64 bu, .string ⟨#[]⟩]) ?_ 3 _ rfl; (with_reducible repeat (first | refine aj ?_ _ | refine ai ?_ | refine ak ?_ _)); refine am (cs := #[.int .i64 bk, .int .i64 a7, .int .i64 0, .string ⟨#[]⟩]) ?_ 2 _ rfl; (with_reducible repeat (first | refine aj ?_ _ | refine ai ?_ | refine ak ?_ _)); refine am (cs := #[.int .i64 bk, .int .i64 0, .int .i64 0, .string ⟨#[]⟩]) ?_ 1 _ rfl; (with_reducible repeat (first | refine aj ?_ _ | refine ai ?_ | refine ak ?_ _)); refine am (cs := #[.int .i64 0, .int .i64 0, .int .i64 0, .string ⟨#[]⟩]) ?_ 0 _ rfl; (with_reducible repeat (first | refine aj ?_ _ | refine ai ?_ | refine ak ?_ _)); exact aK.out) hb); replace HB := aM (ap z20 hb); (try clear hb); obtain ⟨hF, hD, g9, nm, gV, gU, gT, mS⟩ := cc4 aK.out) | ((with_reducible refine av (f := 12) rfl ?_); refine ay (some 29) rfl rfl Try.func12 z0 rfl #[.string e9, .agg #[.int .i64 bk, .int .i64 a7, .int .i64 bu, .string bp]] rfl z14 ?_; (with_reducible refine (spec_DoCommand.calls k e9 bk a7 bu bp r7 ji _ A5.out).mono ?_); rintro e w12 ⟨rfl, hb⟩; refine ⟨_, rfl, ?_⟩; replace aK := aM (bK_ aK.out hb); replace HB := aM (ap z20 hb); (try clear hb)))
  (try simp only [Act.put, sA, sB, sC])
  go_cut [39] (fun v39 wc => ∃ (kq : Nat) (x39_5 : Bool), v39 = .bool x39_5 ∧ Aside0 (laws_FnUndoneBy.j0 kq e9 d5 hJ x39_5 bk a7 bu bp = some r) ∧ Aside0 (kq ≤ k) ∧ Aside0 (wc.heap[aU]? = some (.cells #[.int .i64 bk, .int .i64 a7, .int .i64 bu, .string bp] 29 (0, 0))) ∧ Aside0 (Below w.heap.size w wc))
  case first =>
   have H := iP.out
   clear iP
   by_cases ce : (hJ != ji) = true
   ·rw [if_pos ce] at H
    have c13b0 : (hJ != ji) = true := ce
    (try (have c13b1 : decide (hJ = ji) = false := by simpa using ce))
    (try (have c13b2 : (hJ == ji) = false := by simpa using ce))
    (try (have c13b3 : ¬ (hJ = ji) := by simpa using ce))
    clear ce
    (first | rw [c13b0] | (simp only [i64_w, i32_w]; rw [c13b0]) | skip)
    have H' := aM H
    clear H
    go_wp2
    go_meet
    case rel => exact ⟨_, (true), z1, H', ⟨y0⟩, ⟨kB_ aK.out⟩, ⟨by repeat (first | (with_reducible first | exact HB.out | apply bA | apply pD | apply bD | refine ao ?_ nq.out) | exact HB.out)⟩⟩
   ·rw [if_neg ce] at H
    have c13b0 : (hJ != ji) = false := by simpa using ce
    (try (have c13b1 : decide (hJ = ji) = true := by simpa using ce))
    (try (have c13b2 : (hJ == ji) = true := by simpa using ce))
    clear ce
    (first | rw [c13b0] | (simp only [i64_w, i32_w]; rw [c13b0]) | skip)
    have H' := aM H
    clear H
    go_wp2
    go_meet
    case rel => exact ⟨_, ((d5.toList != r7.toList)), z1, H', ⟨y0⟩, ⟨kB_ aK.out⟩, ⟨by repeat (first | (with_reducible first | exact HB.out | apply bA | apply pD | apply bD | refine ao ?_ nq.out) | exact HB.out)⟩⟩
  case rest =>
   clear iP
   try clear c2
   try clear c2b0
   try clear c2b1
   try clear hF
   try clear hD
   try clear g9
   try clear nm
   try clear b4
   try clear b3
   try clear bZ
   try clear cR
   try clear gV
   try clear gU
   try clear gT
   try clear mS
   try clear b6
   try clear bY
   try clear bX
   try clear cQ
   obtain ⟨kq, x39_5, rfl, HA, gw, aK, HB⟩ := hcut
   cases kq with
   | zero => exact absurd HA.out (by simp [laws_FnUndoneBy.j0])
   | succ kj5 =>
    have H := HA.out
    clear HA
    simp only [laws_FnUndoneBy.j0] at H
    by_cases cD : x39_5 = true
    ·subst cD
     rw [if_pos rfl] at H
     first | (cases H.trans (congrArg some HRT.out); done) | skip
     all_goals
      obtain rfl := sI H
      go_wp2
      go_ret
      exact ⟨y4, by repeat (first | (with_reducible first | exact HB.out | apply bA | apply pD | apply bD | refine ao ?_ nq.out) | exact HB.out)⟩
    ·replace cD := Bool.eq_false_iff.mpr cD
     subst cD
     rw [if_neg nF_] at H
     by_cases cF : hJ = true
     ·subst cF
      rw [if_pos rfl] at H
      by_cases eu : bk = 5
      ·rw [if_pos eu] at H
       have c16b0 : (bk == 5) = true := qT eu
       have c16b1 : (bk != 5) = false := nF eu
       clear eu
       obtain ⟨⟨r0, t543⟩, ug, H⟩ := oA_ H
       try dsimp only at H
       by_cases e8 : t543 = true
       ·subst e8
        rw [if_pos rfl] at H
        first | (cases H.trans (congrArg some HRT.out); done) | skip
        all_goals
         obtain rfl := sI H
         obtain ⟨dH, dG, dE, dD, dz, dy, dx, dw⟩ := cc4 aK.out
         go_upto_region 13 with (((with_reducible refine aw (N := 9) rfl ?_); refine ax ?hg (N := 9) ?hd (cs := #[.int .i64 0, .int .i64 0, .int .i64 0, .string ⟨#[]⟩]) (t := 29) ?hr ?_; (case hd => rfl); (case hg => rfl); (case hr => first | (go_simp; done) | (go_simp; rfl)); intro a6 hg w20 hbox hb; have aY := aM (hbox); have gh := aM ((by rw [hg]; exact (aq z20) : w.heap.size ≤ a6)); have gi := aM ((by rw [hg]; exact (aq z20) : w.heap.size ≤ a6)); replace HB := aM (ap z20 hb); have a8 := aM ((by rw [hg]; exact ar (blk_lt (g := aU) (o := .cells #[.int .i64 bk, .int .i64 a7, .int .i64 bu, .string bp] 29 (0, 0)) z12) : aU ≠ a6)); have bx := aM ((by rw [hg]; exact au (blk_lt (g := aU) (o := .cells #[.int .i64 bk, .int .i64 a7, .int .i64 bu, .string bp] 29 (0, 0)) z12) : a6 ≠ aU)); replace aK := aM (bK_ aK.out hb); clear hb hbox hg; have hnb21 := bx.out; have hnc21 := a8.out; obtain ⟨da, cZ, cY, f6, cU, cT, cS, fE⟩ := cc4 aY.out; obtain ⟨hcz23_0, hcz23_1, hcz23_2, hcz23_3, hfz23_0, hfz23_1, hfz23_2, hfz23_3⟩ := cc4 aK.out))
         refine box4_ (P := Code.wp _ _ _ _) aY.out aK.out a8.out HB.out gi.out ?_
         clear aY aK HB da cZ cY f6 cU cT cS fE hcz23_0 hcz23_1 hcz23_2 hcz23_3 hfz23_0 hfz23_1 hfz23_2 hfz23_3
         intro wX aY aK HB
         replace aY := aM aY
         replace aK := aM aK
         replace HB := aM HB
         obtain ⟨da,  cZ,  cY,  f6,  cU,  cT,  cS,  fE⟩ := cc4 aY.out
         obtain ⟨hcz23_0, hcz23_1, hcz23_2, hcz23_3, hfz23_0, hfz23_1, hfz23_2, hfz23_3⟩ := cc4 aK.out
         go_upto_region 15 with (fail)
         refine box1_ (P := Code.wp _ _ _ _) 0 (.int .i64 6) (#[.int .i64 6, .int .i64 a7, .int .i64 0, .string ⟨#[]⟩]) aY.out aK.out a8.out HB.out gi.out rfl ?_
         clear aY aK HB da cZ cY f6 cU cT cS fE hcz23_0 hcz23_1 hcz23_2 hcz23_3 hfz23_0 hfz23_1 hfz23_2 hfz23_3
         intro wX aY aK HB
         replace aY := aM aY
         replace aK := aM aK
         replace HB := aM HB
         obtain ⟨da,  cZ,  cY,  f6,  cU,  cT,  cS,  fE⟩ := cc4 aY.out
         obtain ⟨hcz23_0, hcz23_1, hcz23_2, hcz23_3, hfz23_0, hfz23_1, hfz23_2, hfz23_3⟩ := cc4 aK.out
         go_upto_region 26 with (fail)
         refine box1_ (P := Code.wp _ _ _ _) 1 (.int .i64 (wrap64 (a7 + 1))) (#[.int .i64 6, .int .i64 (wrap64 (a7 + 1)), .int .i64 0, .string ⟨#[]⟩]) aY.out aK.out a8.out HB.out gi.out rfl ?_
         clear aY aK HB da cZ cY f6 cU cT cS fE hcz23_0 hcz23_1 hcz23_2 hcz23_3 hfz23_0 hfz23_1 hfz23_2 hfz23_3
         intro wX aY aK HB
         replace aY := aM aY
         replace aK := aM aK
         replace HB := aM HB
         obtain ⟨da,  cZ,  cY,  f6,  cU,  cT,  cS,  fE⟩ := cc4 aY.out
         obtain ⟨hcz23_0, hcz23_1, hcz23_2, hcz23_3, hfz23_0, hfz23_1, hfz23_2, hfz23_3⟩ := cc4 aK.out
         go_wp2_with (((with_reducible refine av (f := 14) rfl ?_); refine ay (some 87) rfl rfl Try.func14 z0 rfl #[.string d5, .agg #[.int .i64 6, .int .i64 (wrap64 (a7 + 1)), .int .i64 0, .string ⟨#[]⟩]] rfl z14 ?_; (with_reducible refine (impl_DoCommand.calls kj5 d5 6 (wrap64 (a7 + 1)) 0 (⟨#[]⟩ : ByteArray) r0 true _ ug.out).mono ?_); rintro e w24 ⟨rfl, hb⟩; refine ⟨_, rfl, ?_⟩; replace HB := aM (ap z22 hb); (try clear hb)))
         go_ret
         exact ⟨y4, y23⟩
       ·replace e8 := Bool.eq_false_iff.mpr e8
        subst e8
        rw [if_neg nF_] at H
        first | (cases H.trans (congrArg some HRT.out); done) | skip
        all_goals
         obtain rfl := sI H
         obtain ⟨eL, eK, eJ, hcz25_3, eE, eD, eC, hfz25_3⟩ := cc4 aK.out
         go_upto_region 13 with (((with_reducible refine aw (N := 9) rfl ?_); refine ax ?hg (N := 9) ?hd (cs := #[.int .i64 0, .int .i64 0, .int .i64 0, .string ⟨#[]⟩]) (t := 29) ?hr ?_; (case hd => rfl); (case hg => rfl); (case hr => first | (go_simp; done) | (go_simp; rfl)); intro a6 hg w26 hbox hb; have aY := aM (hbox); have gh := aM ((by rw [hg]; exact (aq z20) : w.heap.size ≤ a6)); have gi := aM ((by rw [hg]; exact (aq z20) : w.heap.size ≤ a6)); replace HB := aM (ap z20 hb); have a8 := aM ((by rw [hg]; exact ar (blk_lt (g := aU) (o := .cells #[.int .i64 bk, .int .i64 a7, .int .i64 bu, .string bp] 29 (0, 0)) z12) : aU ≠ a6)); have bx := aM ((by rw [hg]; exact au (blk_lt (g := aU) (o := .cells #[.int .i64 bk, .int .i64 a7, .int .i64 bu, .string bp] 29 (0, 0)) z12) : a6 ≠ aU)); replace aK := aM (bK_ aK.out hb); clear hb hbox hg; have hnb27 := bx.out; have hnc27 := a8.out; obtain ⟨f5, f4, f3, hcz28_3, fD, fC, fB, hfz28_3⟩ := cc4 aY.out; obtain ⟨fZ, fY, fX, fW, fA, fz, fy, fx⟩ := cc4 aK.out))
         refine box4_ (P := Code.wp _ _ _ _) aY.out aK.out a8.out HB.out gi.out ?_
         clear aY aK HB f5 f4 f3 hcz28_3 fD fC fB hfz28_3 fZ fY fX fW fA fz fy fx
         intro wX aY aK HB
         replace aY := aM aY
         replace aK := aM aK
         replace HB := aM HB
         obtain ⟨f5,  f4,  f3,  hcz28_3,  fD,  fC,  fB,  hfz28_3⟩ := cc4 aY.out
         obtain ⟨fZ, fY, fX, fW, fA, fz, fy, fx⟩ := cc4 aK.out
         go_upto_region 15 with (fail)
         refine box1_ (P := Code.wp _ _ _ _) 0 (.int .i64 6) (#[.int .i64 6, .int .i64 a7, .int .i64 0, .string ⟨#[]⟩]) aY.out aK.out a8.out HB.out gi.out rfl ?_
         clear aY aK HB f5 f4 f3 hcz28_3 fD fC fB hfz28_3 fZ fY fX fW fA fz fy fx
         intro wX aY aK HB
         replace aY := aM aY
         replace aK := aM aK
         replace HB := aM HB
         obtain ⟨f5,  f4,  f3,  hcz28_3,  fD,  fC,  fB,  hfz28_3⟩ := cc4 aY.out
         obtain ⟨fZ, fY, fX, fW, fA, fz, fy, fx⟩ := cc4 aK.out
         go_upto_region 26 with (fail)
         refine box1_ (P := Code.wp _ _ _ _) 1 (.int .i64 (wrap64 (a7 + 1))) (#[.int .i64 6, .int .i64 (wrap64 (a7 + 1)), .int .i64 0, .string ⟨#[]⟩]) aY.out aK.out a8.out HB.out gi.out rfl ?_
         clear aY aK HB f5 f4 f3 hcz28_3 fD fC fB hfz28_3 fZ fY fX fW fA fz fy fx
         intro wX aY aK HB
         replace aY := aM aY
         replace aK := aM aK
         replace HB := aM HB
         obtain ⟨f5,  f4,  f3,  hcz28_3,  fD,  fC,  fB,  hfz28_3⟩ := cc4 aY.out
         obtain ⟨fZ, fY, fX, fW, fA, fz, fy, fx⟩ := cc4 aK.out
         go_wp2_with (((with_reducible refine av (f := 14) rfl ?_); refine ay (some 87) rfl rfl Try.func14 z0 rfl #[.string d5, .agg #[.int .i64 6, .int .i64 (wrap64 (a7 + 1)), .int .i64 0, .string ⟨#[]⟩]] rfl z14 ?_; (with_reducible refine (impl_DoCommand.calls kj5 d5 6 (wrap64 (a7 + 1)) 0 (⟨#[]⟩ : ByteArray) r0 false _ ug.out).mono ?_); rintro e w30 ⟨rfl, hb⟩; refine ⟨_, rfl, ?_⟩; replace HB := aM (ap z22 hb); (try clear hb)))
         go_ret
         exact ⟨y4, y23⟩
      ·rw [if_neg eu] at H
       have c16b0 : (bk == 5) = false := qF eu
       have c16b1 : (bk != 5) = true := nT eu
       by_cases dS : bk = 3
       ·rw [if_pos dS] at H
        have c31b0 : (bk == 3) = true := qT dS
        have c31b1 : (bk != 3) = false := nF dS
        clear dS
        obtain ⟨⟨rZ, t545⟩, uu, H⟩ := oA_ H
        try dsimp only at H
        by_cases gs : t545 = true
        ·subst gs
         rw [if_pos rfl] at H
         first | (cases H.trans (congrArg some HRT.out); done) | skip
         all_goals
          obtain rfl := sI H
          obtain ⟨hcz34_0, hcz34_1, hcz34_2, hcz34_3, hfz34_0, hfz34_1, hfz34_2, hfz34_3⟩ := cc4 aK.out
          go_upto_region 13 with (((with_reducible refine aw (N := 9) rfl ?_); refine ax ?hg (N := 9) ?hd (cs := #[.int .i64 0, .int .i64 0, .int .i64 0, .string ⟨#[]⟩]) (t := 29) ?hr ?_; (case hd => rfl); (case hg => rfl); (case hr => first | (go_simp; done) | (go_simp; rfl)); intro a6 hg w35 hbox hb; have aY := aM (hbox); have gh := aM ((by rw [hg]; exact (aq z20) : w.heap.size ≤ a6)); have gi := aM ((by rw [hg]; exact (aq z20) : w.heap.size ≤ a6)); replace HB := aM (ap z20 hb); have a8 := aM ((by rw [hg]; exact ar (blk_lt (g := aU) (o := .cells #[.int .i64 bk, .int .i64 a7, .int .i64 bu, .string bp] 29 (0, 0)) z12) : aU ≠ a6)); have bx := aM ((by rw [hg]; exact au (blk_lt (g := aU) (o := .cells #[.int .i64 bk, .int .i64 a7, .int .i64 bu, .string bp] 29 (0, 0)) z12) : a6 ≠ aU)); replace aK := aM (bK_ aK.out hb); clear hb hbox hg; have hnb36 := bx.out; have hnc36 := a8.out; obtain ⟨hcz37_0, hcz37_1, hcz37_2, hcz37_3, hfz37_0, hfz37_1, hfz37_2, hfz37_3⟩ := cc4 aY.out; obtain ⟨hcz38_0, hcz38_1, hcz38_2, hcz38_3, hfz38_0, hfz38_1, hfz38_2, hfz38_3⟩ := cc4 aK.out))
          refine box4_ (P := Code.wp _ _ _ _) aY.out aK.out a8.out HB.out gi.out ?_
          clear aY aK HB hcz37_0 hcz37_1 hcz37_2 hcz37_3 hfz37_0 hfz37_1 hfz37_2 hfz37_3 hcz38_0 hcz38_1 hcz38_2 hcz38_3 hfz38_0 hfz38_1 hfz38_2 hfz38_3
          intro wX aY aK HB
          replace aY := aM aY
          replace aK := aM aK
          replace HB := aM HB
          obtain ⟨hcz37_0,  hcz37_1,  hcz37_2,  hcz37_3,  hfz37_0,  hfz37_1,  hfz37_2,  hfz37_3⟩ := cc4 aY.out
          obtain ⟨hcz38_0, hcz38_1, hcz38_2, hcz38_3, hfz38_0, hfz38_1, hfz38_2, hfz38_3⟩ := cc4 aK.out
          go_upto_region 26 with (fail)
          refine box1_ (P := Code.wp _ _ _ _) 0 (.int .i64 4) (#[.int .i64 4, .int .i64 a7, .int .i64 0, .string ⟨#[]⟩]) aY.out aK.out a8.out HB.out gi.out rfl ?_
          clear aY aK HB hcz37_0 hcz37_1 hcz37_2 hcz37_3 hfz37_0 hfz37_1 hfz37_2 hfz37_3 hcz38_0 hcz38_1 hcz38_2 hcz38_3 hfz38_0 hfz38_1 hfz38_2 hfz38_3
          intro wX aY aK HB
          replace aY := aM aY
          replace aK := aM aK
          replace HB := aM HB
          obtain ⟨hcz37_0,  hcz37_1,  hcz37_2,  hcz37_3,  hfz37_0,  hfz37_1,  hfz37_2,  hfz37_3⟩ := cc4 aY.out
          obtain ⟨hcz38_0, hcz38_1, hcz38_2, hcz38_3, hfz38_0, hfz38_1, hfz38_2, hfz38_3⟩ := cc4 aK.out
          go_wp2_with (((with_reducible refine av (f := 14) rfl ?_); refine ay (some 87) rfl rfl Try.func14 z0 rfl #[.string d5, .agg #[.int .i64 4, .int .i64 a7, .int .i64 0, .string ⟨#[]⟩]] rfl z14 ?_; (with_reducible refine (impl_DoCommand.calls kj5 d5 4 a7 0 (⟨#[]⟩ : ByteArray) rZ true _ uu.out).mono ?_); rintro e w39 ⟨rfl, hb⟩; refine ⟨_, rfl, ?_⟩; replace HB := aM (ap z22 hb); (try clear hb)))
          go_ret
          exact ⟨y4, y23⟩
        ·replace gs := Bool.eq_false_iff.mpr gs
         subst gs
         rw [if_neg nF_] at H
         first | (cases H.trans (congrArg some HRT.out); done) | skip
         all_goals
          obtain rfl := sI H
          obtain ⟨hcz40_0, hcz40_1, hcz40_2, hcz40_3, hfz40_0, hfz40_1, hfz40_2, hfz40_3⟩ := cc4 aK.out
          go_upto_region 13 with (((with_reducible refine aw (N := 9) rfl ?_); refine ax ?hg (N := 9) ?hd (cs := #[.int .i64 0, .int .i64 0, .int .i64 0, .string ⟨#[]⟩]) (t := 29) ?hr ?_; (case hd => rfl); (case hg => rfl); (case hr => first | (go_simp; done) | (go_simp; rfl)); intro a6 hg w41 hbox hb; have aY := aM (hbox); have gh := aM ((by rw [hg]; exact (aq z20) : w.heap.size ≤ a6)); have gi := aM ((by rw [hg]; exact (aq z20) : w.heap.size ≤ a6)); replace HB := aM (ap z20 hb); have a8 := aM ((by rw [hg]; exact ar (blk_lt (g := aU) (o := .cells #[.int .i64 bk, .int .i64 a7, .int .i64 bu, .string bp] 29 (0, 0)) z12) : aU ≠ a6)); have bx := aM ((by rw [hg]; exact au (blk_lt (g := aU) (o := .cells #[.int .i64 bk, .int .i64 a7, .int .i64 bu, .string bp] 29 (0, 0)) z12) : a6 ≠ aU)); replace aK := aM (bK_ aK.out hb); clear hb hbox hg; have hnb42 := bx.out; have hnc42 := a8.out; obtain ⟨hcz43_0, hcz43_1, hcz43_2, hcz43_3, hfz43_0, hfz43_1, hfz43_2, hfz43_3⟩ := cc4 aY.out; obtain ⟨hcz44_0, hcz44_1, hcz44_2, hcz44_3, hfz44_0, hfz44_1, hfz44_2, hfz44_3⟩ := cc4 aK.out))
          refine box4_ (P := Code.wp _ _ _ _) aY.out aK.out a8.out HB.out gi.out ?_
          clear aY aK HB hcz43_0 hcz43_1 hcz43_2 hcz43_3 hfz43_0 hfz43_1 hfz43_2 hfz43_3 hcz44_0 hcz44_1 hcz44_2 hcz44_3 hfz44_0 hfz44_1 hfz44_2 hfz44_3
          intro wX aY aK HB
          replace aY := aM aY
          replace aK := aM aK
          replace HB := aM HB
          obtain ⟨hcz43_0,  hcz43_1,  hcz43_2,  hcz43_3,  hfz43_0,  hfz43_1,  hfz43_2,  hfz43_3⟩ := cc4 aY.out
          obtain ⟨hcz44_0, hcz44_1, hcz44_2, hcz44_3, hfz44_0, hfz44_1, hfz44_2, hfz44_3⟩ := cc4 aK.out
          go_upto_region 26 with (fail)
          refine box1_ (P := Code.wp _ _ _ _) 0 (.int .i64 4) (#[.int .i64 4, .int .i64 a7, .int .i64 0, .string ⟨#[]⟩]) aY.out aK.out a8.out HB.out gi.out rfl ?_
          clear aY aK HB hcz43_0 hcz43_1 hcz43_2 hcz43_3 hfz43_0 hfz43_1 hfz43_2 hfz43_3 hcz44_0 hcz44_1 hcz44_2 hcz44_3 hfz44_0 hfz44_1 hfz44_2 hfz44_3
          intro wX aY aK HB
          replace aY := aM aY
          replace aK := aM aK
          replace HB := aM HB
          obtain ⟨hcz43_0,  hcz43_1,  hcz43_2,  hcz43_3,  hfz43_0,  hfz43_1,  hfz43_2,  hfz43_3⟩ := cc4 aY.out
          obtain ⟨hcz44_0, hcz44_1, hcz44_2, hcz44_3, hfz44_0, hfz44_1, hfz44_2, hfz44_3⟩ := cc4 aK.out
          go_wp2_with (((with_reducible refine av (f := 14) rfl ?_); refine ay (some 87) rfl rfl Try.func14 z0 rfl #[.string d5, .agg #[.int .i64 4, .int .i64 a7, .int .i64 0, .string ⟨#[]⟩]] rfl z14 ?_; (with_reducible refine (impl_DoCommand.calls kj5 d5 4 a7 0 (⟨#[]⟩ : ByteArray) rZ false _ uu.out).mono ?_); rintro e w45 ⟨rfl, hb⟩; refine ⟨_, rfl, ?_⟩; replace HB := aM (ap z22 hb); (try clear hb)))
          go_ret
          exact ⟨y4, y23⟩
       ·rw [if_neg dS] at H
        have c31b0 : (bk == 3) = false := qF dS
        have c31b1 : (bk != 3) = true := nT dS
        by_cases d4 : bk = 8
        ·rw [if_pos d4] at H
         have c46b0 : (bk == 8) = true := qT d4
         have c46b1 : (bk != 8) = false := nF d4
         clear d4
         by_cases gb : 0 ≤ a7
         ·rw [if_pos gb] at H
          have c47b0 := eq_true gb
          have c47b1 : decide (0 ≤ a7) = true := dT gb
          clear gb
          by_cases rS : a7 ≤ (wrap64 (a7 + 1))
          ·rw [if_pos rS] at H
           have c48b0 := eq_true rS
           have c48b1 : decide (a7 ≤ (wrap64 (a7 + 1))) = true := dT rS
           by_cases t7 : (wrap64 (a7 + 1)) ≤ (e9.size : Int)
           ·rw [if_pos t7] at H
            have c49b0 := eq_true t7
            have c49b1 : decide ((wrap64 (a7 + 1)) ≤ (e9.size : Int)) = true := dT t7
            obtain ⟨⟨rY, t547⟩, eW, H⟩ := oA_ H
            try dsimp only at H
            by_cases nI : t547 = true
            ·subst nI
             rw [if_pos rfl] at H
             first | (cases H.trans (congrArg some HRT.out); done) | skip
             all_goals
              obtain rfl := sI H
              obtain ⟨hcz52_0, hcz52_1, hcz52_2, hcz52_3, hfz52_0, hfz52_1, hfz52_2, hfz52_3⟩ := cc4 aK.out
              go_upto_region 13 with (((with_reducible refine aw (N := 9) rfl ?_); refine ax ?hg (N := 9) ?hd (cs := #[.int .i64 0, .int .i64 0, .int .i64 0, .string ⟨#[]⟩]) (t := 29) ?hr ?_; (case hd => rfl); (case hg => rfl); (case hr => first | (go_simp; done) | (go_simp; rfl)); intro a6 hg w53 hbox hb; have aY := aM (hbox); have gh := aM ((by rw [hg]; exact (aq z20) : w.heap.size ≤ a6)); have gi := aM ((by rw [hg]; exact (aq z20) : w.heap.size ≤ a6)); replace HB := aM (ap z20 hb); have a8 := aM ((by rw [hg]; exact ar (blk_lt (g := aU) (o := .cells #[.int .i64 bk, .int .i64 a7, .int .i64 bu, .string bp] 29 (0, 0)) z12) : aU ≠ a6)); have bx := aM ((by rw [hg]; exact au (blk_lt (g := aU) (o := .cells #[.int .i64 bk, .int .i64 a7, .int .i64 bu, .string bp] 29 (0, 0)) z12) : a6 ≠ aU)); replace aK := aM (bK_ aK.out hb); clear hb hbox hg; have hnb54 := bx.out; have hnc54 := a8.out; obtain ⟨hcz55_0, hcz55_1, hcz55_2, hcz55_3, hfz55_0, hfz55_1, hfz55_2, hfz55_3⟩ := cc4 aY.out; obtain ⟨jZ, jY, jX, hcz56_3, jE, jD, jC, hfz56_3⟩ := cc4 aK.out))
              refine box4_ (P := Code.wp _ _ _ _) aY.out aK.out a8.out HB.out gi.out ?_
              clear aY aK HB hcz55_0 hcz55_1 hcz55_2 hcz55_3 hfz55_0 hfz55_1 hfz55_2 hfz55_3 jZ jY jX hcz56_3 jE jD jC hfz56_3
              intro wX aY aK HB
              replace aY := aM aY
              replace aK := aM aK
              replace HB := aM HB
              obtain ⟨hcz55_0,  hcz55_1,  hcz55_2,  hcz55_3,  hfz55_0,  hfz55_1,  hfz55_2,  hfz55_3⟩ := cc4 aY.out
              obtain ⟨jZ, jY, jX, hcz56_3, jE, jD, jC, hfz56_3⟩ := cc4 aK.out
              go_upto_region 20 with (fail)
              refine box1_ (P := Code.wp _ _ _ _) 0 (.int .i64 8) (#[.int .i64 8, .int .i64 a7, .int .i64 0, .string ⟨#[]⟩]) aY.out aK.out a8.out HB.out gi.out rfl ?_
              clear aY aK HB hcz55_0 hcz55_1 hcz55_2 hcz55_3 hfz55_0 hfz55_1 hfz55_2 hfz55_3 jZ jY jX hcz56_3 jE jD jC hfz56_3
              intro wX aY aK HB
              replace aY := aM aY
              replace aK := aM aK
              replace HB := aM HB
              obtain ⟨hcz55_0,  hcz55_1,  hcz55_2,  hcz55_3,  hfz55_0,  hfz55_1,  hfz55_2,  hfz55_3⟩ := cc4 aY.out
              obtain ⟨jZ, jY, jX, hcz56_3, jE, jD, jC, hfz56_3⟩ := cc4 aK.out
              go_upto_region 26 with (fail)
              refine box1_ (P := Code.wp _ _ _ _) 3 (.string (e9.extract (a7 : Int).toNat ((wrap64 (a7 + 1)) : Int).toNat)) (#[.int .i64 8, .int .i64 a7, .int .i64 0, .string (e9.extract (a7 : Int).toNat ((wrap64 (a7 + 1)) : Int).toNat)]) aY.out aK.out a8.out HB.out gi.out rfl ?_
              clear aY aK HB hcz55_0 hcz55_1 hcz55_2 hcz55_3 hfz55_0 hfz55_1 hfz55_2 hfz55_3 jZ jY jX hcz56_3 jE jD jC hfz56_3
              intro wX aY aK HB
              replace aY := aM aY
              replace aK := aM aK
              replace HB := aM HB
              obtain ⟨hcz55_0,  hcz55_1,  hcz55_2,  hcz55_3,  hfz55_0,  hfz55_1,  hfz55_2,  hfz55_3⟩ := cc4 aY.out
              obtain ⟨jZ, jY, jX, hcz56_3, jE, jD, jC, hfz56_3⟩ := cc4 aK.out
              go_wp2_with (((with_reducible refine av (f := 14) rfl ?_); refine ay (some 87) rfl rfl Try.func14 z0 rfl #[.string d5, .agg #[.int .i64 8, .int .i64 a7, .int .i64 0, .string (e9.extract (a7 : Int).toNat ((wrap64 (a7 + 1)) : Int).toNat)]] rfl z14 ?_; (with_reducible refine (impl_DoCommand.calls kj5 d5 8 a7 0 (e9.extract (a7 : Int).toNat ((wrap64 (a7 + 1)) : Int).toNat) rY true _ eW.out).mono ?_); rintro e w57 ⟨rfl, hb⟩; refine ⟨_, rfl, ?_⟩; replace HB := aM (ap z22 hb); (try clear hb)))
              go_ret
              exact ⟨y4, y23⟩
            ·replace nI := Bool.eq_false_iff.mpr nI
             subst nI
             rw [if_neg nF_] at H
             first | (cases H.trans (congrArg some HRT.out); done) | skip
             all_goals
              obtain rfl := sI H
              obtain ⟨hcz58_0, hcz58_1, hcz58_2, hcz58_3, hfz58_0, hfz58_1, hfz58_2, hfz58_3⟩ := cc4 aK.out
              go_upto_region 13 with (((with_reducible refine aw (N := 9) rfl ?_); refine ax ?hg (N := 9) ?hd (cs := #[.int .i64 0, .int .i64 0, .int .i64 0, .string ⟨#[]⟩]) (t := 29) ?hr ?_; (case hd => rfl); (case hg => rfl); (case hr => first | (go_simp; done) | (go_simp; rfl)); intro a6 hg w59 hbox hb; have aY := aM (hbox); have gh := aM ((by rw [hg]; exact (aq z20) : w.heap.size ≤ a6)); have gi := aM ((by rw [hg]; exact (aq z20) : w.heap.size ≤ a6)); replace HB := aM (ap z20 hb); have a8 := aM ((by rw [hg]; exact ar (blk_lt (g := aU) (o := .cells #[.int .i64 bk, .int .i64 a7, .int .i64 bu, .string bp] 29 (0, 0)) z12) : aU ≠ a6)); have bx := aM ((by rw [hg]; exact au (blk_lt (g := aU) (o := .cells #[.int .i64 bk, .int .i64 a7, .int .i64 bu, .string bp] 29 (0, 0)) z12) : a6 ≠ aU)); replace aK := aM (bK_ aK.out hb); clear hb hbox hg; have hnb60 := bx.out; have hnc60 := a8.out; obtain ⟨hcz61_0, hcz61_1, hcz61_2, hcz61_3, hfz61_0, hfz61_1, hfz61_2, hfz61_3⟩ := cc4 aY.out; obtain ⟨hcz62_0, hcz62_1, hcz62_2, hcz62_3, hfz62_0, hfz62_1, hfz62_2, hfz62_3⟩ := cc4 aK.out))
              refine box4_ (P := Code.wp _ _ _ _) aY.out aK.out a8.out HB.out gi.out ?_
              clear aY aK HB hcz61_0 hcz61_1 hcz61_2 hcz61_3 hfz61_0 hfz61_1 hfz61_2 hfz61_3 hcz62_0 hcz62_1 hcz62_2 hcz62_3 hfz62_0 hfz62_1 hfz62_2 hfz62_3
              intro wX aY aK HB
              replace aY := aM aY
              replace aK := aM aK
              replace HB := aM HB
              obtain ⟨hcz61_0,  hcz61_1,  hcz61_2,  hcz61_3,  hfz61_0,  hfz61_1,  hfz61_2,  hfz61_3⟩ := cc4 aY.out
              obtain ⟨hcz62_0, hcz62_1, hcz62_2, hcz62_3, hfz62_0, hfz62_1, hfz62_2, hfz62_3⟩ := cc4 aK.out
              go_upto_region 20 with (fail)
              refine box1_ (P := Code.wp _ _ _ _) 0 (.int .i64 8) (#[.int .i64 8, .int .i64 a7, .int .i64 0, .string ⟨#[]⟩]) aY.out aK.out a8.out HB.out gi.out rfl ?_
              clear aY aK HB hcz61_0 hcz61_1 hcz61_2 hcz61_3 hfz61_0 hfz61_1 hfz61_2 hfz61_3 hcz62_0 hcz62_1 hcz62_2 hcz62_3 hfz62_0 hfz62_1 hfz62_2 hfz62_3
              intro wX aY aK HB
              replace aY := aM aY
              replace aK := aM aK
              replace HB := aM HB
              obtain ⟨hcz61_0,  hcz61_1,  hcz61_2,  hcz61_3,  hfz61_0,  hfz61_1,  hfz61_2,  hfz61_3⟩ := cc4 aY.out
              obtain ⟨hcz62_0, hcz62_1, hcz62_2, hcz62_3, hfz62_0, hfz62_1, hfz62_2, hfz62_3⟩ := cc4 aK.out
              go_upto_region 26 with (fail)
              refine box1_ (P := Code.wp _ _ _ _) 3 (.string (e9.extract (a7 : Int).toNat ((wrap64 (a7 + 1)) : Int).toNat)) (#[.int .i64 8, .int .i64 a7, .int .i64 0, .string (e9.extract (a7 : Int).toNat ((wrap64 (a7 + 1)) : Int).toNat)]) aY.out aK.out a8.out HB.out gi.out rfl ?_
              clear aY aK HB hcz61_0 hcz61_1 hcz61_2 hcz61_3 hfz61_0 hfz61_1 hfz61_2 hfz61_3 hcz62_0 hcz62_1 hcz62_2 hcz62_3 hfz62_0 hfz62_1 hfz62_2 hfz62_3
              intro wX aY aK HB
              replace aY := aM aY
              replace aK := aM aK
              replace HB := aM HB
              obtain ⟨hcz61_0,  hcz61_1,  hcz61_2,  hcz61_3,  hfz61_0,  hfz61_1,  hfz61_2,  hfz61_3⟩ := cc4 aY.out
              obtain ⟨hcz62_0, hcz62_1, hcz62_2, hcz62_3, hfz62_0, hfz62_1, hfz62_2, hfz62_3⟩ := cc4 aK.out
              go_wp2_with (((with_reducible refine av (f := 14) rfl ?_); refine ay (some 87) rfl rfl Try.func14 z0 rfl #[.string d5, .agg #[.int .i64 8, .int .i64 a7, .int .i64 0, .string (e9.extract (a7 : Int).toNat ((wrap64 (a7 + 1)) : Int).toNat)]] rfl z14 ?_; (with_reducible refine (impl_DoCommand.calls kj5 d5 8 a7 0 (e9.extract (a7 : Int).toNat ((wrap64 (a7 + 1)) : Int).toNat) rY false _ eW.out).mono ?_); rintro e w63 ⟨rfl, hb⟩; refine ⟨_, rfl, ?_⟩; replace HB := aM (ap z22 hb); (try clear hb)))
              go_ret
              exact ⟨y4, y23⟩
           ·rw [if_neg t7] at H
            exact absurd H (by simp)
          ·rw [if_neg rS] at H
           exact absurd H (by simp)
         ·rw [if_neg gb] at H
          exact absurd H (by simp)
        ·rw [if_neg d4] at H
         have c46b0 : (bk == 8) = false := qF d4
         have c46b1 : (bk != 8) = true := nT d4
         by_cases nH : bk = 1
         ·rw [if_pos nH] at H
          have c64b0 : (bk == 1) = true := qT nH
          have c64b1 : (bk != 1) = false := nF nH
          clear nH
          obtain ⟨qB, qo, H⟩ := oA_ H
          try dsimp only at H
          by_cases k4 : qB = true
          ·subst k4
           rw [if_pos rfl] at H
           obtain ⟨⟨rX, t550⟩, us, H⟩ := oA_ H
           try dsimp only at H
           by_cases l9 : t550 = true
           ·subst l9
            rw [if_pos rfl] at H
            first | (cases H.trans (congrArg some HRT.out); done) | skip
            all_goals
             obtain rfl := sI H
             obtain ⟨na, m9, m8, hcz69_3, mI, mH, mG, hfz69_3⟩ := cc4 aK.out
             go_upto_region 13 with (((with_reducible refine aw (N := 9) rfl ?_); refine ax ?hg (N := 9) ?hd (cs := #[.int .i64 0, .int .i64 0, .int .i64 0, .string ⟨#[]⟩]) (t := 29) ?hr ?_; (case hd => rfl); (case hg => rfl); (case hr => first | (go_simp; done) | (go_simp; rfl)); intro a6 hg w70 hbox hb; have aY := aM (hbox); have gh := aM ((by rw [hg]; exact (aq z20) : w.heap.size ≤ a6)); have gi := aM ((by rw [hg]; exact (aq z20) : w.heap.size ≤ a6)); replace HB := aM (ap z20 hb); have a8 := aM ((by rw [hg]; exact ar (blk_lt (g := aU) (o := .cells #[.int .i64 bk, .int .i64 a7, .int .i64 bu, .string bp] 29 (0, 0)) z12) : aU ≠ a6)); have bx := aM ((by rw [hg]; exact au (blk_lt (g := aU) (o := .cells #[.int .i64 bk, .int .i64 a7, .int .i64 bu, .string bp] 29 (0, 0)) z12) : a6 ≠ aU)); replace aK := aM (bK_ aK.out hb); clear hb hbox hg; have hnb71 := bx.out; have hnc71 := a8.out; obtain ⟨fL, fK, fJ, jT, fj, fi, fh, jz⟩ := cc4 aY.out; obtain ⟨hcz73_0, hcz73_1, hcz73_2, hcz73_3, hfz73_0, hfz73_1, hfz73_2, hfz73_3⟩ := cc4 aK.out))
             refine box4_ (P := Code.wp _ _ _ _) aY.out aK.out a8.out HB.out gi.out ?_
             clear aY aK HB fL fK fJ jT fj fi fh jz hcz73_0 hcz73_1 hcz73_2 hcz73_3 hfz73_0 hfz73_1 hfz73_2 hfz73_3
             intro wX aY aK HB
             replace aY := aM aY
             replace aK := aM aK
             replace HB := aM HB
             obtain ⟨fL,  fK,  fJ,  jT,  fj,  fi,  fh,  jz⟩ := cc4 aY.out
             obtain ⟨hcz73_0, hcz73_1, hcz73_2, hcz73_3, hfz73_0, hfz73_1, hfz73_2, hfz73_3⟩ := cc4 aK.out
             go_upto_region 24 with (((with_reducible refine av (f := 18) rfl ?_); refine ay (some 74) rfl rfl Try.func18 z0 rfl #[.string bp] rfl z14 ?_; (with_reducible refine (impl_GoodDoc.calls kj5 bp true _ qo.out).mono ?_); rintro e w74 ⟨rfl, hb⟩; refine ⟨_, rfl, ?_⟩; replace aK := aM (ae (g := aU) (o := .cells #[.int .i64 bk, .int .i64 a7, .int .i64 bu, .string bp] 29 (0, 0)) aK.out hb); replace aY := aM (ae (g := a6) (o := .cells #[.int .i64 0, .int .i64 a7, .int .i64 0, .string ⟨#[]⟩] 29 (0, 0)) aY.out hb); replace HB := aM (ap z22 hb); (try clear hb); obtain ⟨hcz75_0, hcz75_1, hcz75_2, hcz75_3, hfz75_0, hfz75_1, hfz75_2, hfz75_3⟩ := cc4 aY.out; obtain ⟨jS, jR, jQ, jP, jy, jx, jw, jv⟩ := cc4 aK.out))
             go_upto_region 25 with (fail)
             refine box1_ (P := Code.wp _ _ _ _) 0 (.int .i64 2) (#[.int .i64 2, .int .i64 a7, .int .i64 0, .string ⟨#[]⟩]) aY.out aK.out a8.out HB.out gi.out rfl ?_
             clear aY aK HB fL fK fJ jT fj fi fh jz hcz73_0 hcz73_1 hcz73_2 hcz73_3 hfz73_0 hfz73_1 hfz73_2 hfz73_3
             intro wX aY aK HB
             replace aY := aM aY
             replace aK := aM aK
             replace HB := aM HB
             obtain ⟨fL,  fK,  fJ,  jT,  fj,  fi,  fh,  jz⟩ := cc4 aY.out
             obtain ⟨hcz73_0, hcz73_1, hcz73_2, hcz73_3, hfz73_0, hfz73_1, hfz73_2, hfz73_3⟩ := cc4 aK.out
             go_upto_region 26 with (fail)
             refine box1_ (P := Code.wp _ _ _ _) 2 (.int .i64 (wrap64 (a7 + (bp.size : Int)))) (#[.int .i64 2, .int .i64 a7, .int .i64 (wrap64 (a7 + (bp.size : Int))), .string ⟨#[]⟩]) aY.out aK.out a8.out HB.out gi.out rfl ?_
             clear aY aK HB fL fK fJ jT fj fi fh jz hcz73_0 hcz73_1 hcz73_2 hcz73_3 hfz73_0 hfz73_1 hfz73_2 hfz73_3
             intro wX aY aK HB
             replace aY := aM aY
             replace aK := aM aK
             replace HB := aM HB
             obtain ⟨fL,  fK,  fJ,  jT,  fj,  fi,  fh,  jz⟩ := cc4 aY.out
             obtain ⟨hcz73_0, hcz73_1, hcz73_2, hcz73_3, hfz73_0, hfz73_1, hfz73_2, hfz73_3⟩ := cc4 aK.out
             go_wp2_with (((with_reducible refine av (f := 14) rfl ?_); refine ay (some 87) rfl rfl Try.func14 z0 rfl #[.string d5, .agg #[.int .i64 2, .int .i64 a7, .int .i64 (wrap64 (a7 + (bp.size : Int))), .string ⟨#[]⟩]] rfl z14 ?_; (with_reducible refine (impl_DoCommand.calls kj5 d5 2 a7 (wrap64 (a7 + (bp.size : Int))) (⟨#[]⟩ : ByteArray) rX true _ us.out).mono ?_); rintro e w77 ⟨rfl, hb⟩; refine ⟨_, rfl, ?_⟩; replace HB := aM (ap z22 hb); (try clear hb)))
             go_ret
             exact ⟨y4, y23⟩
           ·replace l9 := Bool.eq_false_iff.mpr l9
            subst l9
            rw [if_neg nF_] at H
            first | (cases H.trans (congrArg some HRT.out); done) | skip
            all_goals
             obtain rfl := sI H
             obtain ⟨hcz78_0, hcz78_1, hcz78_2, hcz78_3, hfz78_0, hfz78_1, hfz78_2, hfz78_3⟩ := cc4 aK.out
             go_upto_region 13 with (((with_reducible refine aw (N := 9) rfl ?_); refine ax ?hg (N := 9) ?hd (cs := #[.int .i64 0, .int .i64 0, .int .i64 0, .string ⟨#[]⟩]) (t := 29) ?hr ?_; (case hd => rfl); (case hg => rfl); (case hr => first | (go_simp; done) | (go_simp; rfl)); intro a6 hg w79 hbox hb; have aY := aM (hbox); have gh := aM ((by rw [hg]; exact (aq z20) : w.heap.size ≤ a6)); have gi := aM ((by rw [hg]; exact (aq z20) : w.heap.size ≤ a6)); replace HB := aM (ap z20 hb); have a8 := aM ((by rw [hg]; exact ar (blk_lt (g := aU) (o := .cells #[.int .i64 bk, .int .i64 a7, .int .i64 bu, .string bp] 29 (0, 0)) z12) : aU ≠ a6)); have bx := aM ((by rw [hg]; exact au (blk_lt (g := aU) (o := .cells #[.int .i64 bk, .int .i64 a7, .int .i64 bu, .string bp] 29 (0, 0)) z12) : a6 ≠ aU)); replace aK := aM (bK_ aK.out hb); clear hb hbox hg; have hnb80 := bx.out; have hnc80 := a8.out; obtain ⟨hcz81_0, hcz81_1, hcz81_2, hcz81_3, hfz81_0, hfz81_1, hfz81_2, hfz81_3⟩ := cc4 aY.out; obtain ⟨hcz82_0, hcz82_1, hcz82_2, hcz82_3, hfz82_0, hfz82_1, hfz82_2, hfz82_3⟩ := cc4 aK.out))
             refine box4_ (P := Code.wp _ _ _ _) aY.out aK.out a8.out HB.out gi.out ?_
             clear aY aK HB hcz81_0 hcz81_1 hcz81_2 hcz81_3 hfz81_0 hfz81_1 hfz81_2 hfz81_3 hcz82_0 hcz82_1 hcz82_2 hcz82_3 hfz82_0 hfz82_1 hfz82_2 hfz82_3
             intro wX aY aK HB
             replace aY := aM aY
             replace aK := aM aK
             replace HB := aM HB
             obtain ⟨hcz81_0,  hcz81_1,  hcz81_2,  hcz81_3,  hfz81_0,  hfz81_1,  hfz81_2,  hfz81_3⟩ := cc4 aY.out
             obtain ⟨hcz82_0, hcz82_1, hcz82_2, hcz82_3, hfz82_0, hfz82_1, hfz82_2, hfz82_3⟩ := cc4 aK.out
             go_upto_region 24 with (((with_reducible refine av (f := 18) rfl ?_); refine ay (some 74) rfl rfl Try.func18 z0 rfl #[.string bp] rfl z14 ?_; (with_reducible refine (impl_GoodDoc.calls kj5 bp true _ qo.out).mono ?_); rintro e w83 ⟨rfl, hb⟩; refine ⟨_, rfl, ?_⟩; replace aK := aM (ae (g := aU) (o := .cells #[.int .i64 bk, .int .i64 a7, .int .i64 bu, .string bp] 29 (0, 0)) aK.out hb); replace aY := aM (ae (g := a6) (o := .cells #[.int .i64 0, .int .i64 a7, .int .i64 0, .string ⟨#[]⟩] 29 (0, 0)) aY.out hb); replace HB := aM (ap z22 hb); (try clear hb); obtain ⟨hcz84_0, hcz84_1, hcz84_2, hcz84_3, hfz84_0, hfz84_1, hfz84_2, hfz84_3⟩ := cc4 aY.out; obtain ⟨jO, jN, jM, mX, ju, jt, js, mv⟩ := cc4 aK.out))
             go_upto_region 25 with (fail)
             refine box1_ (P := Code.wp _ _ _ _) 0 (.int .i64 2) (#[.int .i64 2, .int .i64 a7, .int .i64 0, .string ⟨#[]⟩]) aY.out aK.out a8.out HB.out gi.out rfl ?_
             clear aY aK HB hcz81_0 hcz81_1 hcz81_2 hcz81_3 hfz81_0 hfz81_1 hfz81_2 hfz81_3 hcz82_0 hcz82_1 hcz82_2 hcz82_3 hfz82_0 hfz82_1 hfz82_2 hfz82_3
             intro wX aY aK HB
             replace aY := aM aY
             replace aK := aM aK
             replace HB := aM HB
             obtain ⟨hcz81_0,  hcz81_1,  hcz81_2,  hcz81_3,  hfz81_0,  hfz81_1,  hfz81_2,  hfz81_3⟩ := cc4 aY.out
             obtain ⟨hcz82_0, hcz82_1, hcz82_2, hcz82_3, hfz82_0, hfz82_1, hfz82_2, hfz82_3⟩ := cc4 aK.out
             go_upto_region 26 with (fail)
             refine box1_ (P := Code.wp _ _ _ _) 2 (.int .i64 (wrap64 (a7 + (bp.size : Int)))) (#[.int .i64 2, .int .i64 a7, .int .i64 (wrap64 (a7 + (bp.size : Int))), .string ⟨#[]⟩]) aY.out aK.out a8.out HB.out gi.out rfl ?_
             clear aY aK HB hcz81_0 hcz81_1 hcz81_2 hcz81_3 hfz81_0 hfz81_1 hfz81_2 hfz81_3 hcz82_0 hcz82_1 hcz82_2 hcz82_3 hfz82_0 hfz82_1 hfz82_2 hfz82_3
             intro wX aY aK HB
             replace aY := aM aY
             replace aK := aM aK
             replace HB := aM HB
             obtain ⟨hcz81_0,  hcz81_1,  hcz81_2,  hcz81_3,  hfz81_0,  hfz81_1,  hfz81_2,  hfz81_3⟩ := cc4 aY.out
             obtain ⟨hcz82_0, hcz82_1, hcz82_2, hcz82_3, hfz82_0, hfz82_1, hfz82_2, hfz82_3⟩ := cc4 aK.out
             go_wp2_with (((with_reducible refine av (f := 14) rfl ?_); refine ay (some 87) rfl rfl Try.func14 z0 rfl #[.string d5, .agg #[.int .i64 2, .int .i64 a7, .int .i64 (wrap64 (a7 + (bp.size : Int))), .string ⟨#[]⟩]] rfl z14 ?_; (with_reducible refine (impl_DoCommand.calls kj5 d5 2 a7 (wrap64 (a7 + (bp.size : Int))) (⟨#[]⟩ : ByteArray) rX false _ us.out).mono ?_); rintro e w86 ⟨rfl, hb⟩; refine ⟨_, rfl, ?_⟩; replace HB := aM (ap z22 hb); (try clear hb)))
             go_ret
             exact ⟨y4, y23⟩
          ·replace k4 := Bool.eq_false_iff.mpr k4
           subst k4
           rw [if_neg nF_] at H
           first | (cases H.trans (congrArg some HRT.out); done) | skip
           all_goals
            obtain rfl := sI H
            obtain ⟨hcz87_0, hcz87_1, hcz87_2, hcz87_3, hfz87_0, hfz87_1, hfz87_2, hfz87_3⟩ := cc4 aK.out
            go_upto_region 13 with (((with_reducible refine aw (N := 9) rfl ?_); refine ax ?hg (N := 9) ?hd (cs := #[.int .i64 0, .int .i64 0, .int .i64 0, .string ⟨#[]⟩]) (t := 29) ?hr ?_; (case hd => rfl); (case hg => rfl); (case hr => first | (go_simp; done) | (go_simp; rfl)); intro a6 hg w88 hbox hb; have aY := aM (hbox); have gh := aM ((by rw [hg]; exact (aq z20) : w.heap.size ≤ a6)); have gi := aM ((by rw [hg]; exact (aq z20) : w.heap.size ≤ a6)); replace HB := aM (ap z20 hb); have a8 := aM ((by rw [hg]; exact ar (blk_lt (g := aU) (o := .cells #[.int .i64 bk, .int .i64 a7, .int .i64 bu, .string bp] 29 (0, 0)) z12) : aU ≠ a6)); have bx := aM ((by rw [hg]; exact au (blk_lt (g := aU) (o := .cells #[.int .i64 bk, .int .i64 a7, .int .i64 bu, .string bp] 29 (0, 0)) z12) : a6 ≠ aU)); replace aK := aM (bK_ aK.out hb); clear hb hbox hg; have hnb89 := bx.out; have hnc89 := a8.out; obtain ⟨hcz90_0, hcz90_1, hcz90_2, hcz90_3, hfz90_0, hfz90_1, hfz90_2, hfz90_3⟩ := cc4 aY.out; obtain ⟨jL, jK, jJ, jI, jr, jq, jp, jo⟩ := cc4 aK.out))
            refine box4_ (P := Code.wp _ _ _ _) aY.out aK.out a8.out HB.out gi.out ?_
            clear aY aK HB hcz90_0 hcz90_1 hcz90_2 hcz90_3 hfz90_0 hfz90_1 hfz90_2 hfz90_3 jL jK jJ jI jr jq jp jo
            intro wX aY aK HB
            replace aY := aM aY
            replace aK := aM aK
            replace HB := aM HB
            obtain ⟨hcz90_0,  hcz90_1,  hcz90_2,  hcz90_3,  hfz90_0,  hfz90_1,  hfz90_2,  hfz90_3⟩ := cc4 aY.out
            obtain ⟨jL, jK, jJ, jI, jr, jq, jp, jo⟩ := cc4 aK.out
            go_wp2_with (((with_reducible refine av (f := 18) rfl ?_); refine ay (some 74) rfl rfl Try.func18 z0 rfl #[.string bp] rfl z14 ?_; (with_reducible refine (impl_GoodDoc.calls kj5 bp false _ qo.out).mono ?_); rintro e w92 ⟨rfl, hb⟩; refine ⟨_, rfl, ?_⟩; replace HB := aM (ap z22 hb); (try clear hb)))
            go_ret
            exact ⟨y4, y23⟩
         ·rw [if_neg nH] at H
          have c64b0 : (bk == 1) = false := qF nH
          have c64b1 : (bk != 1) = true := nT nH
          first | (cases H.trans (congrArg some HRT.out); done) | skip
          all_goals
           obtain rfl := sI H
           obtain ⟨mW, mV, mU, mT, mu, mt, ms, mr⟩ := cc4 aK.out
           go_upto_region 13 with (((with_reducible refine aw (N := 9) rfl ?_); refine ax ?hg (N := 9) ?hd (cs := #[.int .i64 0, .int .i64 0, .int .i64 0, .string ⟨#[]⟩]) (t := 29) ?hr ?_; (case hd => rfl); (case hg => rfl); (case hr => first | (go_simp; done) | (go_simp; rfl)); intro a6 hg w94 hbox hb; have aY := aM (hbox); have gh := aM ((by rw [hg]; exact (aq z20) : w.heap.size ≤ a6)); have gi := aM ((by rw [hg]; exact (aq z20) : w.heap.size ≤ a6)); replace HB := aM (ap z20 hb); have a8 := aM ((by rw [hg]; exact ar (blk_lt (g := aU) (o := .cells #[.int .i64 bk, .int .i64 a7, .int .i64 bu, .string bp] 29 (0, 0)) z12) : aU ≠ a6)); have bx := aM ((by rw [hg]; exact au (blk_lt (g := aU) (o := .cells #[.int .i64 bk, .int .i64 a7, .int .i64 bu, .string bp] 29 (0, 0)) z12) : a6 ≠ aU)); replace aK := aM (bK_ aK.out hb); clear hb hbox hg; have hnb95 := bx.out; have hnc95 := a8.out; obtain ⟨hcz96_0, hcz96_1, hcz96_2, hcz96_3, hfz96_0, hfz96_1, hfz96_2, hfz96_3⟩ := cc4 aY.out; obtain ⟨hcz97_0, hcz97_1, hcz97_2, hcz97_3, hfz97_0, hfz97_1, hfz97_2, hfz97_3⟩ := cc4 aK.out))
           refine box4_ (P := Code.wp _ _ _ _) aY.out aK.out a8.out HB.out gi.out ?_
           clear aY aK HB hcz96_0 hcz96_1 hcz96_2 hcz96_3 hfz96_0 hfz96_1 hfz96_2 hfz96_3 hcz97_0 hcz97_1 hcz97_2 hcz97_3 hfz97_0 hfz97_1 hfz97_2 hfz97_3
           intro wX aY aK HB
           replace aY := aM aY
           replace aK := aM aK
           replace HB := aM HB
           obtain ⟨hcz96_0,  hcz96_1,  hcz96_2,  hcz96_3,  hfz96_0,  hfz96_1,  hfz96_2,  hfz96_3⟩ := cc4 aY.out
           obtain ⟨hcz97_0, hcz97_1, hcz97_2, hcz97_3, hfz97_0, hfz97_1, hfz97_2, hfz97_3⟩ := cc4 aK.out
           go_wp2
           go_ret
           exact ⟨y4, y23⟩
     ·replace cF := Bool.eq_false_iff.mpr cF
      subst cF
      rw [if_neg nF_] at H
      first | (cases H.trans (congrArg some HRT.out); done) | skip
      all_goals
       obtain rfl := sI H
       go_wp2
       go_ret
       exact ⟨y4, by repeat (first | (with_reducible first | exact HB.out | apply bA | apply pD | apply bD | refine ao ?_ nq.out) | exact HB.out)⟩

/-- THE ONE PURE STATEMENT of laws_FnUndoneBy: yours. -/
def laws_FnUndoneBy.Pure : Prop := ∀ (l0 : List Int), l0.length ≤ maxLen → l0.length * 1 ≤ 140737488351232 → (∀ x ∈ l0, (Lit.int .u8 x).wf = true) → ∃ k, laws_FnUndoneBy.f k l0 = some true
theorem laws_FnUndoneBy.walk (P : laws_FnUndoneBy.Pure) (a0 : Option Addr) (len0 cap0 : Nat) (z0 : List Int) (w : World) (w0 : (a0 = none ∧ len0 = 0 ∧ cap0 = 0 ∧ z0 = []) ∨ ∃ x, a0 = some x ∧ len0 ≤ cap0 ∧ cap0 ≤ maxLen ∧ z0.length = cap0 ∧ (∀ i, i < z0.length → w.cell? (x.add i) = some (.int .u8 (z0.getD i 0))) ∧ ∀ n ∈ z0, (Lit.int .u8 n).wf = true) (y0 : len0 * 1 ≤ 140737488351232) :
  Calls Try.prog 6 #[.slice a0 len0 cap0] w fun e w' => e = .returned (.bool true) ∧ Below w.heap.size w w' := by
 obtain ⟨l0, rfl, hr0, hm0, hw0, hc0⟩ := ReadsInt.ofRowC w0
 obtain ⟨k, h⟩ := P l0 hm0 y0 hw0
 refine (laws_FnUndoneBy.calls k _ _ l0 true ⟨rfl⟩ w (Kd.C_of_reads (d := (0 : Int)) (h1 := fun _ => rfl) hr0) hc0 h).mono ?_
 rintro e w' ⟨rfl, hd⟩
 exact ⟨rfl, hd⟩

end Go.Proofs.Ytmigfgcpdelnfaa.AFnUndoneBy
