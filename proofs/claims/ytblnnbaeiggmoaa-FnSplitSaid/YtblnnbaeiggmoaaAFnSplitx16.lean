-- this session's own text: written by wip/tools/ownprint.py over the kit's print
import Derived.Test.YtblnnbaeiggmoaaAFnSplitx0
import Derived.Test.YtblnnbaeiggmoaaAFnSplitx3
import Derived.Test.YtblnnbaeiggmoaaAFnSplitx4
import Derived.Test.YtblnnbaeiggmoaaAFnSplitx10
import Derived.Test.YtblnnbaeiggmoaaAFnSplitx14
import Derived.Test.YtblnnbaeiggmoaaAFnSplitx15
namespace Go.Proofs.Ytblnnbaeiggmoaa.AFnSplit
open Go.RowKit Go.Proofs.YtblnnbaeiggmoaaW.PrintWords Go.Proofs.YtblnnbaeiggmoaaW.PrintLast Go.Proofs.YtblnnbaeiggmoaaW.PrintMore
attribute [local go_sem] max2_int min2_int max_two min_two max_three min_three max_four min_four   -- for this text's walks alone
set_option linter.unusedVariables false
set_option linter.unusedSimpArgs false

/-! ### spec_DrawEditRope: function 20 -/
def spec_DrawEditRope.j0 : Nat → Bool → List Int → Int → Int → List (S101) → Option ((List (S101)) × (List (S59)))
 | 0, _, _, _, _, _ => none
 | k + 1, x17, x442000, x442001, x442002, x448000 => if x17 = true then ((spec_l1Cur_op.f k x442000 x442001 x442002).bind fun bt452 => (some (x448000, bt452.1))) else ((spec_l12Text.f k x448000).bind fun qn => ((spec_l1Cur_opOn.f k x442000 x442001 x442002 qn).bind fun bt458 => (some (x448000, bt458.1))))
def spec_DrawEditRope.f (k : Nat) (l0 : List Int) : Option ((List (S101)) × (List (S59))) := (spec_l1Cur_rope.f k l0 0 0).bind fun iD => ((spec_l1Cur_one.f l0 iD.2.1 iD.2.2 8).bind fun iC => (if iC.1 = true then (spec_DrawEditRope.j0 k true l0 iC.2.1 iC.2.2 iD.1) else ((spec_GoodRope.f k iD.1).bind fun pU => (spec_DrawEditRope.j0 k (!pU) l0 iC.2.1 iC.2.2 iD.1))))
theorem spec_DrawEditRope.mono_l : ∀ k, (∀ y0 y1 y2 y3 y4, LeO (spec_DrawEditRope.j0 k y0 y1 y2 y3 y4) (spec_DrawEditRope.j0 (k + 1) y0 y1 y2 y3 y4))
 | 0 => fun _ _ _ _ _ r h => by simp [spec_DrawEditRope.j0] at h
 | k + 1 => by
  have ih0 := spec_DrawEditRope.mono_l k
  ·intro y0 y1 y2 y3 y4
   unfold spec_DrawEditRope.j0
   repeat' first
   | (with_reducible exact ih0 _ _ _ _ _)
   | (with_reducible exact spec_GoodRope.mono _ _)
   | (with_reducible exact spec_l12Text.mono _ _)
   | (with_reducible exact spec_l1Cur_op.mono _ _ _ _)
   | (with_reducible exact spec_l1Cur_opOn.mono _ _ _ _ _)
   | (with_reducible exact spec_l1Cur_rope.mono _ _ _ _)
   | (with_reducible exact LeO.refl _)
   | (with_reducible exact LeO.none _)
   | (with_reducible refine LeO.ite ?_ ?_)
   | (with_reducible refine LeO.bind ?_ (fun _ => ?_))
theorem spec_DrawEditRope.mono : ∀ a0 k, LeO (spec_DrawEditRope.f k a0) (spec_DrawEditRope.f (k + 1) a0) := by
 intro a0 k
 have ih0 := spec_DrawEditRope.mono_l k
 unfold spec_DrawEditRope.f
 repeat' first
   | (with_reducible exact ih0 _ _ _ _ _)
   | (with_reducible exact spec_GoodRope.mono _ _)
   | (with_reducible exact spec_l12Text.mono _ _)
   | (with_reducible exact spec_l1Cur_op.mono _ _ _ _)
   | (with_reducible exact spec_l1Cur_opOn.mono _ _ _ _ _)
   | (with_reducible exact spec_l1Cur_rope.mono _ _ _ _)
   | (with_reducible exact LeO.refl _)
   | (with_reducible exact LeO.none _)
   | (with_reducible refine LeO.ite ?_ ?_)
   | (with_reducible refine LeO.bind ?_ (fun _ => ?_))
def spec_DrawEditRope.T5 : Bool × List (List Nat × List Nat) := (true, [([], []), ([], []), ([], []), ([2], [2]), ([3], [3]), ([1, 4, 4], [1, 4]), ([0, 5, 0], [0]), ([5, 6, 0, 1, 2, 3, 4, 5, 6], [5])])
def spec_DrawEditRope.B5 : List Nat := [0, 0, 0, 4, 12, 30, 63, 127]
theorem spec_DrawEditRope.tab5 : rtab .any (opsOf Try.f20 5) = spec_DrawEditRope.T5 := by kernel_rfl
theorem spec_DrawEditRope.bits5 : waitsOk spec_DrawEditRope.T5.2 spec_DrawEditRope.B5 = true := by kernel_rfl
set_option maxHeartbeats 8000000 in
set_option maxRecDepth 100000 in
theorem spec_DrawEditRope.calls (k : Nat) (A0 : Option Addr) (c0 : Nat) (l0 : List Int) (r1 : List (S101)) (r2 : List (S59)) (w : World) (hr0 : Kd.C (Kd.int .u8) w A0 l0.length l0) (hc0 : l0.length ≤ c0) (h : spec_DrawEditRope.f k l0 = some (r1, r2)) :
  Calls Try.prog 20 #[.slice A0 l0.length c0] w fun e w' => ∃ v0_ v1_ : Value, e = .returned (.tuple #[.agg #[v0_], v1_]) ∧ Kd.R k101 101 w' w.heap.size (fun _ => True) v0_ r1 ∧ Kd.R k59 59 w' w.heap.size (fun _ => True) v1_ r2 ∧ Below w.heap.size w w' := by
 have hu30 := Try.underlying30
 have hu90 := Try.underlying90
 have dY := aM hr0
 have en := aM hc0
 clear hr0 hc0
 have HB := aM (Below.refl w.heap.size w)
 have H : ((spec_l1Cur_rope.f k l0 0 0).bind fun iD => ((spec_l1Cur_one.f l0 iD.2.1 iD.2.2 8).bind fun iC => (if iC.1 = true then (spec_DrawEditRope.j0 k true l0 iC.2.1 iC.2.2 iD.1) else ((spec_GoodRope.f k iD.1).bind fun pU => (spec_DrawEditRope.j0 k (!pU) l0 iC.2.1 iC.2.2 iD.1))))) = some (r1, r2) := h
 clear h
 obtain ⟨⟨gB, ou, ot⟩, A2, H⟩ := oA_ H
 try dsimp only at H
 have rj := aM H
 clear H
 go_enter Try.func20, Try.ntmps20
 go_upto_region 3 with (first | ((with_reducible refine aN (N := 2) rfl ?_); refine aQ ?hg (N := 2) ?hd (cs := #[.slice none 0 0]) (t := 30) ?hr ?_; (case hd => rfl); (case hg => rfl); (case hr => first | (go_simp; done) | (go_simp; rfl)); intro eh hg w4 hbox hb; have cU := aM (hbox); have GW440 := aM ((by rw [hg]; exact (aC z32) : w.heap.size ≤ eh)); have gH := aM ((by rw [hg]; exact (aC z32) : w.heap.size ≤ eh)); replace HB := aM (aA z32 hb); clear hb hbox hg) | ((with_reducible refine aN (N := 8) rfl ?_); refine aQ ?hg (N := 8) ?hd (cs := #[.slice A0 l0.length c0, .int .i64 0, .int .u64 0]) (t := 90) ?hr ?_; (case hd => rfl); (case hg => rfl); (case hr => first | (go_simp; done) | (go_simp; rfl)); intro fJ hg w5 hbox hb; have mr := aM (hbox); have GW441 := aM ((by rw [hg]; exact (aC (by repeat (first | (with_reducible first | exact HB.out | apply bA | apply pD | apply bD | refine az ?_ gH.out) | exact HB.out))) : w.heap.size ≤ fJ)); have GE441 := aM ((by rw [hg]; exact (aC (by repeat (first | (with_reducible first | exact HB.out | apply bA | apply pD | apply bD | refine az ?_ gH.out) | exact HB.out))) : w.heap.size ≤ fJ)); replace HB := aM (aA (by repeat (first | (with_reducible first | exact HB.out | apply bA | apply pD | apply bD | refine az ?_ gH.out) | exact HB.out)) hb); have hU := aM ((by rw [hg]; exact aD (ay (g := eh) (o := .cells #[.slice none 0 0] 30 (0, 0)) (kB_ cU.out)) : eh ≠ fJ)); have dG := aM ((by rw [hg]; exact aE (ay (g := eh) (o := .cells #[.slice none 0 0] 30 (0, 0)) (kB_ cU.out)) : fJ ≠ eh)); replace cU := aM (af (g := eh) (o := .cells #[.slice none 0 0] 30 (0, 0)) (kB_ cU.out) hb); clear hb hbox hg) | ((with_reducible refine aK (f := 51) rfl ?_); refine aT (some 10) rfl rfl Try.func51 z1 rfl #[.pointer (some ⟨fJ, 0, none⟩)] rfl z33 ?_; (with_reducible refine (spec_l1Cur_rope.calls k fJ l0 0 0 gB ou ot w _ ?side1 ?side2 A2.out).mono ?_); (case side1 => exact ⟨_, _, by (with_reducible repeat (first | refine au ?_ _ | refine ar ?_ | refine av ?_ _)); exact mr.out, GE441.out, dY.out⟩); (case side2 => repeat (first | (with_reducible first | exact HB.out | apply bA | apply pD | apply bD | refine az ?_ (IsS90.ge HI441.out) | refine az ?_ gH.out) | exact HB.out)); rintro e w6 ⟨v443, rfl, ho0, hi, hb, hk⟩; refine ⟨_, rfl, ?_⟩; replace cU := aM (KeepBut.blk hk (g' := eh) (o := .cells #[.slice none 0 0] 30 (0, 0)) (kB_ cU.out) hU.out (by simp)); have gz := aM (aW ho0 (aC (by repeat (first | (with_reducible first | exact HB.out | apply bA | apply pD | apply bD | refine az ?_ (IsS90.ge HI441.out) | refine az ?_ gH.out) | exact HB.out)))); replace HB := aM (hb); have HI441 := aM (hi); (try clear hb); (try clear hk); (try clear hi); (try clear ho0); (try clear mr)) | ((with_reducible refine aN (N := 5) rfl ?_); refine aQ ?hg (N := 5) ?hd (cs := #[.slice none 0 0]) (t := 30) ?hr ?_; (case hd => rfl); (case hg => rfl); (case hr => first | (go_simp; done) | (go_simp; rfl)); intro f7 hg w7 hbox hb; replace gz := aM (ag (kR_ gz.out) hb); have dm := aM (hbox); have GW447 := aM ((by rw [hg]; exact (aC (by repeat (first | (with_reducible first | exact HB.out | apply bA | apply pD | apply bD | refine az ?_ (IsS90.ge HI441.out) | refine az ?_ gH.out) | exact HB.out))) : w.heap.size ≤ f7)); have j9 := aM ((by rw [hg]; exact (aC (by repeat (first | (with_reducible first | exact HB.out | apply bA | apply pD | apply bD | refine az ?_ (IsS90.ge HI441.out) | refine az ?_ gH.out) | exact HB.out))) : w.heap.size ≤ f7)); replace HB := aM (aA (by repeat (first | (with_reducible first | exact HB.out | apply bA | apply pD | apply bD | refine az ?_ (IsS90.ge HI441.out) | refine az ?_ gH.out) | exact HB.out)) hb); have gM := aM ((by rw [hg]; exact aD (ay (g := eh) (o := .cells #[.slice none 0 0] 30 (0, 0)) (kB_ cU.out)) : eh ≠ f7)); have gL := aM ((by rw [hg]; exact aE (ay (g := eh) (o := .cells #[.slice none 0 0] 30 (0, 0)) (kB_ cU.out)) : f7 ≠ eh)); replace cU := aM (af (g := eh) (o := .cells #[.slice none 0 0] 30 (0, 0)) (kB_ cU.out) hb); have dW := aM ((by rw [hg]; exact aD (IsS90.lt (show IsS90 w _ fJ l0 ou ot from by (try simp only [Int.add_zero]); repeat (first | (with_reducible first | exact HI441.out | apply IsS90.alloc | apply IsS90.drewN | apply IsS90.drew | apply IsS90.set_1 | apply IsS90.set_2 | refine IsS90.far ?_ dG.out _) | exact HI441.out))) : fJ ≠ f7)); have gK := aM ((by rw [hg]; exact aE (IsS90.lt (show IsS90 w _ fJ l0 ou ot from by (try simp only [Int.add_zero]); repeat (first | (with_reducible first | exact HI441.out | apply IsS90.alloc | apply IsS90.drewN | apply IsS90.drew | apply IsS90.set_1 | apply IsS90.set_2 | refine IsS90.far ?_ dG.out _) | exact HI441.out))) : f7 ≠ fJ)); replace HI441 := aM (IsS90.below (by (try simp only [Int.add_zero]); repeat (first | (with_reducible first | exact HI441.out | apply IsS90.alloc | apply IsS90.drewN | apply IsS90.drew | apply IsS90.set_1 | apply IsS90.set_2 | refine IsS90.far ?_ dG.out _) | exact HI441.out)) hb); clear hb hbox hg; obtain ⟨mu, mi, eo8⟩ := Kd.R_slice gz.out; subst eo8; have hnb9 := gL.out; have hnc9 := gM.out; have hnb10 := gK.out; have hnc10 := dW.out; obtain ⟨iV, iS⟩ := cc1 dm.out))
 (try simp only [Act.put, sA, sB, sC])
 go_cut [17] (fun v17 wc => ∃ (kq : Nat) (x17_2 : Bool) (x442001_2 : Int) (x442002_2 : Int), v17 = .bool x17_2 ∧ Aside0 (spec_DrawEditRope.j0 kq x17_2 l0 x442001_2 x442002_2 gB = some (r1, r2)) ∧ Aside0 (kq ≤ k) ∧ Aside0 (Kd.R k101 101 wc w.heap.size (fun _ => True) (.slice mu gB.length mi) gB) ∧ Aside0 (wc.heap[eh]? = some (.cells #[(.slice none 0 0)] 30 (0, 0))) ∧ Aside0 (wc.heap[f7]? = some (.cells #[(.slice mu gB.length mi)] 30 (0, 0))) ∧ Aside0 (IsS90 w wc fJ l0 x442001_2 x442002_2) ∧ Aside0 (Below w.heap.size w wc))
 case first =>
  have H := rj.out
  clear rj
  obtain ⟨⟨t448, rI, rH⟩, lW, H⟩ := oA_ H
  try dsimp only at H
  by_cases fZ : t448 = true
  ·subst fZ
   rw [if_pos rfl] at H
   have H' := aM H
   clear H
   go_wp2_with (first | ((with_reducible refine aK (f := 52) rfl ?_); refine aT (some 12) rfl rfl Try.func52 z1 rfl #[.pointer (some ⟨fJ, 0, none⟩), .int .i64 8] rfl z33 ?_; (with_reducible refine (spec_l1Cur_one.calls fJ l0 ou ot 8 true rI rH w _ ?side1 ?side2 lW.out).mono ?_); (case side1 => exact y49); (case side2 => exact y45); rintro e w14 ⟨rfl, hi, hb, hk⟩; refine ⟨_, rfl, ?_⟩; replace cU := aM (KeepBut.blk hk (g' := eh) (o := .cells #[.slice none 0 0] 30 (0, 0)) (by (with_reducible repeat (first | refine au ?_ _ | refine ar ?_ | refine av ?_ _)); refine aw ?_ gM.out _; (with_reducible repeat (first | refine au ?_ _ | refine ar ?_ | refine av ?_ _)); exact cU.out) hU.out (by simp)); replace gz := aM (ah (Kd.R_keep (IsS90.apart (show IsS90 w _ fJ l0 ou ot from by (try simp only [Int.add_zero]); repeat (first | (with_reducible first | exact HI441.out | apply IsS90.alloc | apply IsS90.drewN | apply IsS90.drew | apply IsS90.set_1 | apply IsS90.set_2 | refine IsS90.far ?_ dG.out _ | refine IsS90.far ?_ dW.out _) | exact HI441.out)) (by (with_reducible repeat (first | apply ae | apply ac | apply aa)); exact (ah (ap (p := ⟨f7, 0, none⟩) (aq gz.out dm.out z0) (fun _ hk => hk.2) (.slice mu gB.length mi)) (fun _ h_ => h_.1))) z0) hk (fun _ h => h.2)) (fun _ h => h.1)); replace dm := aM (KeepBut.blk hk (g' := f7) (o := .cells #[.slice mu gB.length mi] 30 (0, 0)) (by (with_reducible repeat (first | refine au ?_ _ | refine ar ?_ | refine av ?_ _)); refine ax (cs := #[.slice none 0 0]) ?_ 0 _ rfl; (with_reducible repeat (first | refine au ?_ _ | refine ar ?_ | refine av ?_ _)); exact dm.out) gK.out (by simp)); replace HB := aM (hb); replace HI441 := aM (hi); (try clear hb); (try clear hk); (try clear hi); (try clear mr)))
   go_meet
   case rel => exact ⟨_, (true), (rI), (rH), z2, H', ⟨by first | omega | exact Nat.le_refl _⟩, ⟨kR_ gz.out⟩, ⟨kB_ cU.out⟩, ⟨kB_ dm.out⟩, ⟨by (try simp only [Int.add_zero]); repeat (first | (with_reducible first | exact HI441.out | apply IsS90.alloc | apply IsS90.drewN | apply IsS90.drew | apply IsS90.set_1 | apply IsS90.set_2 | refine IsS90.far ?_ dG.out _ | refine IsS90.far ?_ dW.out _) | exact HI441.out)⟩, ⟨y22⟩⟩
  ·replace fZ := Bool.eq_false_iff.mpr fZ
   subst fZ
   rw [if_neg nF_] at H
   obtain ⟨pU, rE, H⟩ := oA_ H
   try dsimp only at H
   have H' := aM H
   clear H
   go_wp2_with (first | ((with_reducible refine aK (f := 52) rfl ?_); refine aT (some 12) rfl rfl Try.func52 z1 rfl #[.pointer (some ⟨fJ, 0, none⟩), .int .i64 8] rfl z33 ?_; (with_reducible refine (spec_l1Cur_one.calls fJ l0 ou ot 8 false rI rH w _ ?side1 ?side2 lW.out).mono ?_); (case side1 => exact y49); (case side2 => exact y45); rintro e w16 ⟨rfl, hi, hb, hk⟩; refine ⟨_, rfl, ?_⟩; replace cU := aM (KeepBut.blk hk (g' := eh) (o := .cells #[.slice none 0 0] 30 (0, 0)) (by (with_reducible repeat (first | refine au ?_ _ | refine ar ?_ | refine av ?_ _)); refine aw ?_ gM.out _; (with_reducible repeat (first | refine au ?_ _ | refine ar ?_ | refine av ?_ _)); exact cU.out) hU.out (by simp)); replace gz := aM (ah (Kd.R_keep (IsS90.apart (show IsS90 w _ fJ l0 ou ot from by (try simp only [Int.add_zero]); repeat (first | (with_reducible first | exact HI441.out | apply IsS90.alloc | apply IsS90.drewN | apply IsS90.drew | apply IsS90.set_1 | apply IsS90.set_2 | refine IsS90.far ?_ dG.out _ | refine IsS90.far ?_ dW.out _) | exact HI441.out)) (by (with_reducible repeat (first | apply ae | apply ac | apply aa)); exact (ah (ap (p := ⟨f7, 0, none⟩) (aq gz.out dm.out z0) (fun _ hk => hk.2) (.slice mu gB.length mi)) (fun _ h_ => h_.1))) z0) hk (fun _ h => h.2)) (fun _ h => h.1)); replace dm := aM (KeepBut.blk hk (g' := f7) (o := .cells #[.slice mu gB.length mi] 30 (0, 0)) (by (with_reducible repeat (first | refine au ?_ _ | refine ar ?_ | refine av ?_ _)); refine ax (cs := #[.slice none 0 0]) ?_ 0 _ rfl; (with_reducible repeat (first | refine au ?_ _ | refine ar ?_ | refine av ?_ _)); exact dm.out) gK.out (by simp)); replace HB := aM (hb); replace HI441 := aM (hi); (try clear hb); (try clear hk); (try clear hi); (try clear mr); have hnb17 := gL.out; have hnc17 := gM.out; have hnb18 := gK.out; have hnc18 := dW.out; obtain ⟨iU, iR⟩ := cc1 dm.out) | (go_at_call 24; (with_reducible refine (spec_GoodRope.calls k _ _ gB pU _ ?side1 ?side2 rE.out).mono ?_); (case side1 => repeat (first | exact (ai gz.out).2.2 | (with_reducible refine aH ?_ _) | (with_reducible refine aI ?_ _) | (with_reducible refine aJ ?_))); (case side2 => exact (ai gz.out).2.1); rintro e w20 ⟨rfl, hb⟩; replace gz := aM (ag (kR_ gz.out) hb); replace cU := aM (af (g := eh) (o := .cells #[.slice none 0 0] 30 (0, 0)) (kB_ cU.out) hb); replace dm := aM (af (g := f7) (o := .cells #[.slice mu gB.length mi] 30 (0, 0)) (kB_ dm.out) hb); replace HB := aM (aA (by repeat (first | (with_reducible first | exact HB.out | apply bA | apply pD | apply bD | refine az ?_ (IsS90.ge HI441.out) | refine az ?_ gH.out | refine az ?_ j9.out) | exact HB.out)) hb); replace HI441 := aM (IsS90.below (by (try simp only [Int.add_zero]); repeat (first | (with_reducible first | exact HI441.out | apply IsS90.alloc | apply IsS90.drewN | apply IsS90.drew | apply IsS90.set_1 | apply IsS90.set_2 | refine IsS90.far ?_ dG.out _ | refine IsS90.far ?_ dW.out _) | exact HI441.out)) hb); (try clear hb)))
   go_meet
   case rel => exact ⟨_, (!pU), (rI), (rH), z2, H', ⟨by first | omega | exact Nat.le_refl _⟩, ⟨kR_ gz.out⟩, ⟨kB_ cU.out⟩, ⟨kB_ dm.out⟩, ⟨by (try simp only [Int.add_zero]); repeat (first | (with_reducible first | exact HI441.out | apply IsS90.alloc | apply IsS90.drewN | apply IsS90.drew | apply IsS90.set_1 | apply IsS90.set_2 | refine IsS90.far ?_ dG.out _ | refine IsS90.far ?_ dW.out _) | exact HI441.out)⟩, ⟨y22⟩⟩
 case rest =>
  clear rj
  try clear iV
  try clear iS
  obtain ⟨kq, x17_2, x442001_2, x442002_2, rfl, HA, r5, cW, cU, dm, HI441, HB⟩ := hcut
  cases kq with
  | zero => exact absurd HA.out (by simp [spec_DrawEditRope.j0])
  | succ kj2 =>
   have H := HA.out
   clear HA
   simp only [spec_DrawEditRope.j0] at H
   by_cases lU : x17_2 = true
   ·subst lU
    rw [if_pos rfl] at H
    obtain ⟨⟨t452, t455, t456⟩, vY, H⟩ := oA_ H
    try dsimp only at H
    simp only [Option.some.injEq, Prod.mk.injEq] at H
    obtain ⟨rfl, rfl⟩ := H
    try go_wp2
    replace cW := aM (aa cW.out)
    replace cU := aM (ar cU.out)
    replace dm := aM (ar dm.out)
    replace HI441 := aM (IsS90.drew HI441.out)
    replace HB := aM (bD HB.out)
    refine start_ (n := 5) (S := fun w' => w'.cell? ⟨f7, 0, none⟩ = some (.slice mu gB.length mi)) (ds := []) #[false, false, false, false, false] z1 rfl rfl ((bC dm.out 0).trans rfl) (fun hHeld => ?_)
    generalize wc.drew = w23 at cW cU dm HI441 HB hHeld ⊢
    refine pA 1 19 ?_
    refine tA 0 18 ?_ (hy := by intro w' s0; go_simp; with_reducible rfl)
    refine one_ (i := 2) (N := some 20) #[true, true, true, false, false] rfl rfl z1 z0 (fun K hK => ?_)
    refine goes_ Try.func53 z1 rfl #[.pointer (some ⟨fJ, 0, none⟩)] (by rfl) rfl rfl z33 ?_
    with_reducible refine (spec_l1Cur_op.calls kj2 fJ l0 x442001_2 x442002_2 t452 t455 t456 w _ ?side1 ?side2 vY.out).mono ?_
    (case side1 => exact y49)
    (case side2 => exact y45)
    rintro e w24 ⟨v453, rfl, ho0, hi, hb, hk⟩
    refine ⟨_, rfl, ?_⟩
    replace cW := aM (ah (Kd.R_keep (IsS90.apart (show IsS90 w _ fJ l0 x442001_2 x442002_2 from by (try simp only [Int.add_zero]); repeat (first | (with_reducible first | exact HI441.out | apply IsS90.alloc | apply IsS90.drewN | apply IsS90.drew | apply IsS90.set_1 | apply IsS90.set_2 | refine IsS90.far ?_ dG.out _ | refine IsS90.far ?_ dW.out _) | exact HI441.out)) (kR_ cW.out) z0) hk (fun _ h => h.2)) (fun _ h => h.1))
    replace cU := aM (KeepBut.blk hk (g' := eh) (o := .cells #[.slice none 0 0] 30 (0, 0)) (kB_ cU.out) hU.out (by simp))
    replace dm := aM (KeepBut.blk hk (g' := f7) (o := .cells #[.slice mu gB.length mi] 30 (0, 0)) (kB_ dm.out) gK.out (by simp))
    have HO454 := aM (aW ho0 (aC (by repeat (first | (with_reducible first | exact HB.out | apply bA | apply pD | apply bD | refine az ?_ (IsS90.ge HI441.out) | refine az ?_ gH.out | refine az ?_ j9.out) | exact HB.out))))
    replace HB := aM (hb)
    replace HI441 := aM (hi)
    (try clear hb)
    skip
    (try clear hk)
    (try clear hi)
    (try clear ho0)
    (try clear mr)
    refine hK.out _ _ ((bC dm.out 0).trans rfl) (fun hHeld => ?_)
    clear hK K
    refine norm_ (a' := ?_) ?_ ?_
    rotate_left
    ·show Act.put _ (some 20) _ = _
     simp only [Act.put, sA, sB, sC, i64_w, i32_w]
     rfl
    refine one_ (i := 3) (N := none) #[true, true, true, true, false] rfl rfl z1 z0 (fun K hK => ?_)
    obtain ⟨hs25, hfs25⟩ := cc1 cU.out
    have hns25_1 := gL.out
    have hms25_1 := gM.out
    refine skip_ (w1 := ?_) (by rfl) rfl ?_ ?_
    rotate_left
    ·go_simp
     rfl
    refine hK.out _ _ (((cell_far (p := ⟨eh, _, none⟩) gL.out _).trans (hHeld))) (fun hHeld => ?_)
    clear hK K
    refine pA 4 3 ?_
    refine done_ z1 ?_
    try go_wp2
    refine aU (aV rfl _ _ eh 30 #[.slice mu gB.length mi] (0, 0) _ rfl (by (with_reducible repeat (first | refine au ?_ _ | refine ar ?_ | refine av ?_ _)); refine ax (cs := #[.slice none 0 0]) ?_ 0 _ rfl; (with_reducible repeat (first | refine au ?_ _ | refine ar ?_ | refine av ?_ _)); exact cU.out) Try.underlying30 rfl z1) rfl ?_
    exact ⟨_, _, y4, by (with_reducible repeat (first | apply ae | apply ac | apply aa)); exact ah (ap (p := ⟨eh, 0, none⟩) (aq cW.out cU.out z0) (fun _ hk => hk.2) (.slice mu gB.length mi)) (fun _ hk => trivial), by (with_reducible repeat (first | apply ae | apply ac | apply aa)); exact ah (ap (p := ⟨eh, 0, none⟩) (aq HO454.out cU.out z0) (fun _ hk => hk.2) (.slice mu gB.length mi)) (fun _ hk => trivial), y22⟩
   ·replace lU := Bool.eq_false_iff.mpr lU
    subst lU
    rw [if_neg nF_] at H
    obtain ⟨qn, A26, H⟩ := oA_ H
    try dsimp only at H
    obtain ⟨⟨t458, t461, t462⟩, vX, H⟩ := oA_ H
    try dsimp only at H
    simp only [Option.some.injEq, Prod.mk.injEq] at H
    obtain ⟨rfl, rfl⟩ := H
    try go_wp2
    replace cW := aM (aa cW.out)
    replace cU := aM (ar cU.out)
    replace dm := aM (ar dm.out)
    replace HI441 := aM (IsS90.drew HI441.out)
    replace HB := aM (bD HB.out)
    refine start_ (n := 8) (S := fun w' => w'.cell? ⟨f7, 0, none⟩ = some (.slice mu gB.length mi)) (ds := []) #[false, false, false, false, false, false, false, false] z1 rfl rfl ((bC dm.out 0).trans rfl) (fun hHeld => ?_); refine with_tabW spec_DrawEditRope.tab5 spec_DrawEditRope.bits5 (fun HT_ HW_ => ?_)
    generalize wc.drew = w28 at cW cU dm HI441 HB hHeld ⊢
    refine pA 1 22 ?_
    refine pA 2 23 ?_
    refine tA 0 21 ?_ (hy := by intro w' s0; go_simp; with_reducible rfl)
    refine tA 3 24 ?_ (hy := by intro w' s0; go_simp; with_reducible rfl)
    refine one_ (i := 4) (N := some 25) #[true, true, true, true, true, false, false, false] rfl rfl (one_of HT_.out z1) z0 (fun K hK => ?_)
    refine goes_ Try.func27 z1 rfl #[.slice mu gB.length mi] (by rfl) rfl rfl z33 ?_
    with_reducible refine (spec_l12Text.calls kj2 _ _ gB qn _ ?side1 ?side2 A26.out).mono ?_
    (case side1 => repeat (first | exact (ai cW.out).2.2 | (with_reducible refine aH ?_ _) | (with_reducible refine aI ?_ _) | (with_reducible refine aJ ?_)))
    (case side2 => exact (ai cW.out).2.1)
    rintro e w29 ⟨rfl, hb⟩
    refine ⟨_, rfl, ?_⟩
    replace cW := aM (ag (kR_ cW.out) hb)
    replace cU := aM (af (g := eh) (o := .cells #[.slice none 0 0] 30 (0, 0)) (kB_ cU.out) hb)
    replace dm := aM (af (g := f7) (o := .cells #[.slice mu gB.length mi] 30 (0, 0)) (kB_ dm.out) hb)
    replace HB := aM (aA (by repeat (first | (with_reducible first | exact HB.out | apply bA | apply pD | apply bD | refine az ?_ (IsS90.ge HI441.out) | refine az ?_ gH.out | refine az ?_ j9.out) | exact HB.out)) hb)
    replace HI441 := aM (IsS90.below (by (try simp only [Int.add_zero]); repeat (first | (with_reducible first | exact HI441.out | apply IsS90.alloc | apply IsS90.drewN | apply IsS90.drew | apply IsS90.set_1 | apply IsS90.set_2 | refine IsS90.far ?_ dG.out _ | refine IsS90.far ?_ dW.out _) | exact HI441.out)) hb)
    (try clear hb)
    skip
    skip
    skip
    refine hK.out _ _ ((bC dm.out 0).trans rfl) (fun hHeld => ?_)
    clear hK K
    refine norm_ (a' := ?_) ?_ ?_
    rotate_left
    ·show Act.put _ (some 25) _ = _
     simp only [Act.put, sA, sB, sC, i64_w, i32_w]
     rfl
    refine one_ (i := 5) (N := some 26) #[true, true, true, true, true, true, false, false] rfl rfl (one_of HT_.out z1) z0 (fun K hK => ?_)
    refine goes_ Try.func54 z1 rfl #[.pointer (some ⟨fJ, 0, none⟩), .string qn] (by rfl) rfl rfl z33 ?_
    with_reducible refine (spec_l1Cur_opOn.calls kj2 fJ l0 x442001_2 x442002_2 qn t458 t461 t462 w _ ?side1 ?side2 vX.out).mono ?_
    (case side1 => exact y49)
    (case side2 => exact y45)
    rintro e w30 ⟨v459, rfl, ho0, hi, hb, hk⟩
    refine ⟨_, rfl, ?_⟩
    replace cW := aM (ah (Kd.R_keep (IsS90.apart (show IsS90 w _ fJ l0 x442001_2 x442002_2 from by (try simp only [Int.add_zero]); repeat (first | (with_reducible first | exact HI441.out | apply IsS90.alloc | apply IsS90.drewN | apply IsS90.drew | apply IsS90.set_1 | apply IsS90.set_2 | refine IsS90.far ?_ dG.out _ | refine IsS90.far ?_ dW.out _) | exact HI441.out)) (kR_ cW.out) z0) hk (fun _ h => h.2)) (fun _ h => h.1))
    replace cU := aM (KeepBut.blk hk (g' := eh) (o := .cells #[.slice none 0 0] 30 (0, 0)) (kB_ cU.out) hU.out (by simp))
    replace dm := aM (KeepBut.blk hk (g' := f7) (o := .cells #[.slice mu gB.length mi] 30 (0, 0)) (kB_ dm.out) gK.out (by simp))
    have HO460 := aM (aW ho0 (aC (by repeat (first | (with_reducible first | exact HB.out | apply bA | apply pD | apply bD | refine az ?_ (IsS90.ge HI441.out) | refine az ?_ gH.out | refine az ?_ j9.out) | exact HB.out))))
    replace HB := aM (hb)
    replace HI441 := aM (hi)
    (try clear hb)
    skip
    (try clear hk)
    (try clear hi)
    (try clear ho0)
    (try clear mr)
    refine hK.out _ _ ((bC dm.out 0).trans rfl) (fun hHeld => ?_)
    clear hK K
    refine norm_ (a' := ?_) ?_ ?_
    rotate_left
    ·show Act.put _ (some 26) _ = _
     simp only [Act.put, sA, sB, sC, i64_w, i32_w]
     rfl
    refine one_ (i := 6) (N := none) #[true, true, true, true, true, true, true, false] rfl rfl (one_of HT_.out z1) z0 (fun K hK => ?_)
    obtain ⟨hs31, hfs31⟩ := cc1 cU.out
    have hns31_1 := gL.out
    have hms31_1 := gM.out
    refine skip_ (w1 := ?_) (by rfl) rfl ?_ ?_
    rotate_left
    ·go_simp
     rfl
    refine hK.out _ _ (((cell_far (p := ⟨eh, _, none⟩) gL.out _).trans (hHeld))) (fun hHeld => ?_)
    clear hK K
    refine pA 7 3 ?_
    refine done_ (done_of HT_.out z1) ?_
    try go_wp2
    refine aU (aV rfl _ _ eh 30 #[.slice mu gB.length mi] (0, 0) _ rfl (by (with_reducible repeat (first | refine au ?_ _ | refine ar ?_ | refine av ?_ _)); refine ax (cs := #[.slice none 0 0]) ?_ 0 _ rfl; (with_reducible repeat (first | refine au ?_ _ | refine ar ?_ | refine av ?_ _)); exact cU.out) Try.underlying30 rfl z1) rfl ?_
    exact ⟨_, _, y4, by (with_reducible repeat (first | apply ae | apply ac | apply aa)); exact ah (ap (p := ⟨eh, 0, none⟩) (aq cW.out cU.out z0) (fun _ hk => hk.2) (.slice mu gB.length mi)) (fun _ hk => trivial), by (with_reducible repeat (first | apply ae | apply ac | apply aa)); exact ah (ap (p := ⟨eh, 0, none⟩) (aq HO460.out cU.out z0) (fun _ hk => hk.2) (.slice mu gB.length mi)) (fun _ hk => trivial), y22⟩

end Go.Proofs.Ytblnnbaeiggmoaa.AFnSplit
