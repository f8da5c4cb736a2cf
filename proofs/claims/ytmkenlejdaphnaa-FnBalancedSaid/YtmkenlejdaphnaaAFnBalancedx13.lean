-- this session's own text: written by wip/tools/ownprint.py over the kit's print
import Derived.Test.YtmkenlejdaphnaaAFnBalancedx0
import Derived.Test.YtmkenlejdaphnaaAFnBalancedx7
import Derived.Test.YtmkenlejdaphnaaAFnBalancedx8
import Derived.Test.YtmkenlejdaphnaaAFnBalancedx10
import Derived.Test.YtmkenlejdaphnaaAFnBalancedx12
namespace Go.Proofs.Ytmkenlejdaphnaa.AFnBalanced
open Go.RowKit Go.Proofs.YtmkenlejdaphnaaW.PrintWords Go.Proofs.YtmkenlejdaphnaaW.PrintLast Go.Proofs.YtmkenlejdaphnaaW.PrintMore
attribute [local go_sem] max2_int min2_int max_two min_two max_three min_three max_four min_four   -- for this text's walks alone
set_option linter.unusedVariables false
set_option linter.unusedSimpArgs false

/-! ### spec_l1Cur_rope: function 73 -/
mutual
def spec_l1Cur_rope.l0 : Nat → Int → List Int → Int → Int → List (S58) → Option ((List (S58)) × Int × Int)
 | 0, _, _, _, _, _ => none
 | k + 1, x5, x1000, x1001, x1002, x308000 => if x5 > 0 then ((spec_l1Cur_pick.f x1000 x1001 x1002 3).bind fun ga => (if ga.1 = 0 then ((spec_l1Cur_plainText.f k x1000 ga.2.1 ga.2.2).bind fun jF => ((spec_RopeOf.f k jF.1).bind fun bt318 => ((spec_JoinRopes.f k x308000 bt318.1).bind fun nP => (if nP.2 = true then (spec_l1Cur_rope.l0 k (wrap64 (x5 - 1)) x1000 jF.2.1 jF.2.2 nP.1) else (spec_l1Cur_rope.l0 k (wrap64 (x5 - 1)) x1000 jF.2.1 jF.2.2 x308000))))) else (if ga.1 = 1 then ((spec_l12Size.f x308000).bind fun jx => ((spec_l1Cur_pick.f x1000 ga.2.1 ga.2.2 (wrap64 (jx + 1))).bind fun jD => ((spec_SplitRope.f k x308000 jD.1).bind fun nO => (if nO.2.2 = true then (spec_l1Cur_rope.l0 k (wrap64 (x5 - 1)) x1000 jD.2.1 jD.2.2 nO.2.1) else (spec_l1Cur_rope.l0 k (wrap64 (x5 - 1)) x1000 jD.2.1 jD.2.2 x308000))))) else ((spec_l12Text.f k x308000).bind fun jw => ((spec_l1Cur_opOn.f k x1000 ga.2.1 ga.2.2 jw).bind fun jC => ((spec_EditRope.f k x308000 jC.1).bind fun nN => (if nN.2 = true then (spec_l1Cur_rope.l0 k (wrap64 (x5 - 1)) x1000 jC.2.1 jC.2.2 nN.1) else (spec_l1Cur_rope.l0 k (wrap64 (x5 - 1)) x1000 jC.2.1 jC.2.2 x308000)))))))) else (if (x308000.length : Int) > 0 then ((spec_l1Cur_one.f x1000 x1001 x1002 20).bind fun mB => (spec_l1Cur_rope.j1 k mB.1 x1000 mB.2.1 mB.2.2 x308000)) else (spec_l1Cur_rope.j1 k false x1000 x1001 x1002 x308000))
def spec_l1Cur_rope.j1 : Nat → Bool → List Int → Int → Int → List (S58) → Option ((List (S58)) × Int × Int)
 | 0, _, _, _, _, _ => none
 | k + 1, x73, x1000, x1001, x1002, x308000 => if x73 = true then ((spec_l1Cur_pick.f x1000 x1001 x1002 (x308000.length : Int)).bind fun cM => ((spec_l1Cur_pick.f x1000 cM.2.1 cM.2.2 3).bind fun f9 => (if f9.1 = 0 then (if 0 ≤ cM.1 then (if cM.1 < (x308000.length : Int) then ((spec_l1Cur_pick.f x1000 f9.2.1 f9.2.2 3).bind fun mA => (some ((x308000.set (cM.1 : Int).toNat (⟨(rd_T58 x308000 cM.1).f0, (rd_T58 x308000 cM.1).f1, (rd_T58 x308000 cM.1).f2, wrap64 (((rd_T58 x308000 cM.1).f3) + (wrap64 (mA.1 - 1))), (rd_T58 x308000 cM.1).f4⟩ : S58)), mA.2.1, mA.2.2))) else (none)) else (none)) else (if f9.1 = 1 then ((spec_l1Cur_pick.f x1000 f9.2.1 f9.2.2 5).bind fun mz => (if 0 ≤ cM.1 then (if cM.1 < (x308000.length : Int) then (some ((x308000.set (cM.1 : Int).toNat (⟨wrap64 (mz.1 - 1), (rd_T58 x308000 cM.1).f1, (rd_T58 x308000 cM.1).f2, (rd_T58 x308000 cM.1).f3, (rd_T58 x308000 cM.1).f4⟩ : S58)), mz.2.1, mz.2.2)) else (none)) else (none))) else (if 0 ≤ cM.1 then (if cM.1 < (x308000.length : Int) then (some ((x308000.set (cM.1 : Int).toNat (⟨(rd_T58 x308000 cM.1).f0, (rd_T58 x308000 cM.1).f1, (rd_T58 x308000 cM.1).f2, (rd_T58 x308000 cM.1).f3, wrap64 (((rd_T58 x308000 cM.1).f4) + 1)⟩ : S58)), f9.2.1, f9.2.2)) else (none)) else (none)))))) else (some (x308000, x1001, x1002))
end
def spec_l1Cur_rope.f (k : Nat) (s0_0 : List Int) (s0_1 : Int) (s0_2 : Int) : Option ((List (S58)) × Int × Int) := (spec_l1Cur_plainText.f k s0_0 s0_1 s0_2).bind fun g8 => ((spec_RopeOf.f k g8.1).bind fun mC => ((spec_l1Cur_pick.f s0_0 g8.2.1 g8.2.2 5).bind fun g7 => (spec_l1Cur_rope.l0 k g7.1 s0_0 g7.2.1 g7.2.2 mC.1)))
theorem spec_l1Cur_rope.mono_l : ∀ k, (∀ y0 y1 y2 y3 y4, LeO (spec_l1Cur_rope.l0 k y0 y1 y2 y3 y4) (spec_l1Cur_rope.l0 (k + 1) y0 y1 y2 y3 y4)) ∧ (∀ y0 y1 y2 y3 y4, LeO (spec_l1Cur_rope.j1 k y0 y1 y2 y3 y4) (spec_l1Cur_rope.j1 (k + 1) y0 y1 y2 y3 y4))
 | 0 => ⟨fun _ _ _ _ _ r h => by simp [spec_l1Cur_rope.l0] at h, fun _ _ _ _ _ r h => by simp [spec_l1Cur_rope.j1] at h⟩
 | k + 1 => by
  obtain ⟨ih0, ih1⟩ := spec_l1Cur_rope.mono_l k
  refine ⟨?_, ?_⟩
  ·intro y0 y1 y2 y3 y4
   unfold spec_l1Cur_rope.l0
   repeat' first
   | (with_reducible exact ih0 _ _ _ _ _)
   | (with_reducible exact ih1 _ _ _ _ _)
   | (with_reducible exact spec_EditRope.mono _ _ _)
   | (with_reducible exact spec_JoinRopes.mono _ _ _)
   | (with_reducible exact spec_RopeOf.mono _ _)
   | (with_reducible exact spec_SplitRope.mono _ _ _)
   | (with_reducible exact spec_l12Text.mono _ _)
   | (with_reducible exact spec_l1Cur_opOn.mono _ _ _ _ _)
   | (with_reducible exact spec_l1Cur_plainText.mono _ _ _ _)
   | (with_reducible exact LeO.refl _)
   | (with_reducible exact LeO.none _)
   | (with_reducible refine LeO.ite ?_ ?_)
   | (with_reducible refine LeO.bind ?_ (fun _ => ?_))
  ·intro y0 y1 y2 y3 y4
   unfold spec_l1Cur_rope.j1
   repeat' first
   | (with_reducible exact ih0 _ _ _ _ _)
   | (with_reducible exact ih1 _ _ _ _ _)
   | (with_reducible exact spec_EditRope.mono _ _ _)
   | (with_reducible exact spec_JoinRopes.mono _ _ _)
   | (with_reducible exact spec_RopeOf.mono _ _)
   | (with_reducible exact spec_SplitRope.mono _ _ _)
   | (with_reducible exact spec_l12Text.mono _ _)
   | (with_reducible exact spec_l1Cur_opOn.mono _ _ _ _ _)
   | (with_reducible exact spec_l1Cur_plainText.mono _ _ _ _)
   | (with_reducible exact LeO.refl _)
   | (with_reducible exact LeO.none _)
   | (with_reducible refine LeO.ite ?_ ?_)
   | (with_reducible refine LeO.bind ?_ (fun _ => ?_))
theorem spec_l1Cur_rope.mono : ∀ a0 a1 a2 k, LeO (spec_l1Cur_rope.f k a0 a1 a2) (spec_l1Cur_rope.f (k + 1) a0 a1 a2) := by
 intro a0 a1 a2 k
 obtain ⟨ih0, ih1⟩ := spec_l1Cur_rope.mono_l k
 unfold spec_l1Cur_rope.f
 repeat' first
   | (with_reducible exact ih0 _ _ _ _ _)
   | (with_reducible exact ih1 _ _ _ _ _)
   | (with_reducible exact spec_EditRope.mono _ _ _)
   | (with_reducible exact spec_JoinRopes.mono _ _ _)
   | (with_reducible exact spec_RopeOf.mono _ _)
   | (with_reducible exact spec_SplitRope.mono _ _ _)
   | (with_reducible exact spec_l12Text.mono _ _)
   | (with_reducible exact spec_l1Cur_opOn.mono _ _ _ _ _)
   | (with_reducible exact spec_l1Cur_plainText.mono _ _ _ _)
   | (with_reducible exact LeO.refl _)
   | (with_reducible exact LeO.none _)
   | (with_reducible refine LeO.ite ?_ ?_)
   | (with_reducible refine LeO.bind ?_ (fun _ => ?_))
def spec_l1Cur_rope.T7 : Bool × List (List Nat × List Nat) := (true, [([], []), ([], []), ([], []), ([2], [2]), ([3], [3]), ([1, 4, 4], [1, 4]), ([0, 5, 5], [0, 5]), ([6], [6]), ([7], [7]), ([7], [7]), ([8, 6, 0, 1, 2, 3, 4, 5, 6, 7, 8], [8]), ([9, 10, 0, 1, 2, 3, 4, 5, 6, 7, 8, 9, 10], [9])])
def spec_l1Cur_rope.B7 : List Nat := [0, 0, 0, 4, 12, 30, 63, 127, 255, 255, 511, 2047]
theorem spec_l1Cur_rope.tab7 : rtab .any (opsOf Try.f73 7) = spec_l1Cur_rope.T7 := by kernel_rfl
theorem spec_l1Cur_rope.bits7 : waitsOk spec_l1Cur_rope.T7.2 spec_l1Cur_rope.B7 = true := by kernel_rfl
def spec_l1Cur_rope.T12 : Bool × List (List Nat × List Nat) := (true, [([], []), ([], []), ([], []), ([2], [2]), ([3], [3]), ([4], [4]), ([1, 5, 4], [1, 5]), ([0, 6, 6], [0, 6]), ([7], [7]), ([8], [8]), ([8], [8]), ([8], [8]), ([10, 7, 0, 1, 2, 3, 4, 5, 6, 7, 8, 9, 10], [10]), ([11, 12, 0, 1, 2, 3, 4, 5, 6, 7, 8, 9, 10, 11, 12], [11])])
def spec_l1Cur_rope.B12 : List Nat := [0, 0, 0, 4, 12, 28, 62, 127, 255, 511, 511, 511, 2047, 8191]
theorem spec_l1Cur_rope.tab12 : rtab .any (opsOf Try.f73 12) = spec_l1Cur_rope.T12 := by kernel_rfl
theorem spec_l1Cur_rope.bits12 : waitsOk spec_l1Cur_rope.T12.2 spec_l1Cur_rope.B12 = true := by kernel_rfl
def spec_l1Cur_rope.T20 : Bool × List (List Nat × List Nat) := (true, [([], []), ([0], [0]), ([], []), ([1, 2], [1, 2]), ([3], [3]), ([4], [4]), ([], []), ([6], [6]), ([7], [7]), ([5, 8], [5, 8]), ([1, 2, 0, 1, 2, 3, 4, 5, 6, 7, 8, 9], [1, 2]), ([10, 0, 1, 2, 3, 4, 5, 6, 7, 8, 9], [10]), ([11, 9, 7, 0, 1, 2, 3, 4, 5, 6, 7, 8, 9], [9, 11])])
def spec_l1Cur_rope.B20 : List Nat := [0, 1, 0, 7, 15, 31, 0, 64, 192, 511, 1023, 2047, 4095]
theorem spec_l1Cur_rope.tab20 : rtab .any (opsOf Try.f73 20) = spec_l1Cur_rope.T20 := by kernel_rfl
theorem spec_l1Cur_rope.bits20 : waitsOk spec_l1Cur_rope.T20.2 spec_l1Cur_rope.B20 = true := by kernel_rfl
def spec_l1Cur_rope.T22 : Bool × List (List Nat × List Nat) := (true, [([], []), ([0], [0]), ([], []), ([], []), ([3], [3]), ([4], [4]), ([1, 2, 0, 1, 2, 3, 4, 5], [1, 2]), ([6, 0, 1, 2, 3, 4, 5], [6]), ([7, 5, 4, 0, 1, 2, 3, 4, 5], [5, 7])])
def spec_l1Cur_rope.B22 : List Nat := [0, 1, 0, 0, 8, 24, 63, 127, 255]
theorem spec_l1Cur_rope.tab22 : rtab .any (opsOf Try.f73 22) = spec_l1Cur_rope.T22 := by kernel_rfl
theorem spec_l1Cur_rope.bits22 : waitsOk spec_l1Cur_rope.T22.2 spec_l1Cur_rope.B22 = true := by kernel_rfl
set_option maxHeartbeats 8000000 in
set_option maxRecDepth 100000 in
theorem spec_l1Cur_rope.calls (k : Nat) (g : Nat) (s0_0 : List Int) (s0_1 : Int) (s0_2 : Int) (r1 : List (S58)) (r2 : Int) (r3 : Int) (w0 w : World) (hI : IsS95 w0 w g s0_0 s0_1 s0_2) (hB : Below w0.heap.size w0 w) (h : spec_l1Cur_rope.f k s0_0 s0_1 s0_2 = some (r1, r2, r3)) :
  Calls Try.prog 73 #[.pointer (some ⟨g, 0, none⟩)] w fun e w' => ∃ v0_ : Value, e = .returned (.agg #[v0_]) ∧ Kd.R k58 58 w' w.heap.size (fun _ => True) v0_ r1 ∧ IsS95 w0 w' g s0_0 r2 r3 ∧ Below w0.heap.size w0 w' ∧ KeepBut w w' g none := by
 have hu29 := Try.underlying29
 have HI0 := aM hI
 have HK := aM (KeepBut.refl w g none)
 have HL := aM hB.size
 clear hI
 have HW0 := aM hB.size
 have HB := aM hB
 clear hB
 have H : ((spec_l1Cur_plainText.f k s0_0 s0_1 s0_2).bind fun g8 => ((spec_RopeOf.f k g8.1).bind fun mC => ((spec_l1Cur_pick.f s0_0 g8.2.1 g8.2.2 5).bind fun g7 => (spec_l1Cur_rope.l0 k g7.1 s0_0 g7.2.1 g7.2.2 mC.1)))) = some (r1, r2, r3) := h
 clear h
 obtain ⟨⟨oH, lX, lW⟩, A2, H⟩ := oA_ H
 try dsimp only at H
 obtain ⟨⟨lV, t306⟩, A3, H⟩ := oA_ H
 try dsimp only at H
 obtain ⟨⟨pr, pq, pp⟩, A4, H⟩ := oA_ H
 try dsimp only at H
 have H' := aM H
 clear H
 go_enter Try.func73, Try.ntmps73
 go_wp2_with (first | ((with_reducible refine aK (N := 2) rfl ?_); refine aN ?hg (N := 2) ?hd (cs := #[.slice none 0 0]) (t := 29) ?hr ?_; (case hd => rfl); (case hg => rfl); (case hr => first | (go_simp; done) | (go_simp; rfl)); intro bx hg w5 hbox hb; replace HB := aM (az z23 hb); have bg := aM (hbox); have dO := aM ((by rw [hg]; exact (keep_size (w := w) (g := g) (row := none) z18) : w.heap.size ≤ bx)); have cj := aM ((Nat.le_trans HW0.out (by rw [hg]; exact (keep_size (w := w) (g := g) (row := none) z18) : w.heap.size ≤ bx) : w0.heap.size ≤ bx)); replace HK := aM (KeepBut.trans z18 (KeepBut.of_below hb g none) (.inl rfl)); have bi := aM ((by rw [hg]; exact aC (IsS95.lt (show IsS95 w0 _ g s0_0 s0_1 s0_2 from by (try simp only [Int.add_zero]); repeat (first | (with_reducible first | exact HI0.out | apply IsS95.alloc | apply IsS95.drewN | apply IsS95.drew | apply IsS95.set_1 | apply IsS95.set_2) | exact HI0.out))) : g ≠ bx)); have b3 := aM ((by rw [hg]; exact aD (IsS95.lt (show IsS95 w0 _ g s0_0 s0_1 s0_2 from by (try simp only [Int.add_zero]); repeat (first | (with_reducible first | exact HI0.out | apply IsS95.alloc | apply IsS95.drewN | apply IsS95.drew | apply IsS95.set_1 | apply IsS95.set_2) | exact HI0.out))) : bx ≠ g)); replace HI0 := aM (IsS95.below z24 hb); clear hb hbox hg) | ((with_reducible refine aJ (f := 90) rfl ?_); refine aQ (some 13) rfl rfl Try.func90 z0 rfl #[.pointer (some ⟨g, 0, none⟩)] rfl z17 ?_; (with_reducible refine (spec_l1Cur_plainText.calls k g s0_0 s0_1 s0_2 oH lX lW w0 _ ?side1 ?side2 A2.out).mono ?_); (case side1 => repeat (first | (with_reducible first | exact HI0.out | apply IsS95.alloc | apply IsS95.drewN | apply IsS95.drew | apply IsS95.set_1 | apply IsS95.set_2 | refine IsS95.far ?_ bi.out _) | exact HI0.out)); (case side2 => repeat (first | (with_reducible first | exact HB.out | apply bA | apply pD | apply bD | refine ay ?_ (IsS95.ge HI0.out) | refine ay ?_ cj.out) | exact HB.out)); rintro e w6 ⟨rfl, hi, hb, hk⟩; refine ⟨_, rfl, ?_⟩; replace bg := aM (KeepBut.blk hk (g' := bx) (o := .cells #[.slice none 0 0] 29 (0, 0)) z10 b3.out (by simp)); replace HK := aM (KeepBut.trans (by repeat (first | (with_reducible first | exact HK.out | apply KeepBut.set_ | apply keep_drewN | apply keep_drew | apply keep_alloc | refine keep_far ?_ dO.out _) | exact HK.out)) hk (.inl rfl)); replace HB := aM (hb); replace HI0 := aM (hi); (try clear hb); (try clear hk); (try clear hi); (try clear cI)) | ((with_reducible refine aJ (f := 25) rfl ?_); refine aQ (some 14) rfl rfl Try.func25 z0 rfl #[.string oH] rfl z17 ?_; (with_reducible refine (spec_RopeOf.calls k oH lV t306 _ A3.out).mono ?_); rintro e w7 ⟨v304, rfl, ho0, hb⟩; refine ⟨_, rfl, ?_⟩; have gh := aM (aV ho0 (keep_size (w := w) (g := g) (row := none) (by repeat (first | (with_reducible first | exact HK.out | apply KeepBut.set_ | apply keep_drewN | apply keep_drew | apply keep_alloc | refine keep_far ?_ dO.out _) | exact HK.out)))); replace bg := aM (bK_ bg.out hb); replace HK := aM (KeepBut.trans (by repeat (first | (with_reducible first | exact HK.out | apply KeepBut.set_ | apply keep_drewN | apply keep_drew | apply keep_alloc | refine keep_far ?_ dO.out _) | exact HK.out)) (KeepBut.of_below hb g none) (.inl rfl)); replace HB := aM (az (by repeat (first | (with_reducible first | exact HB.out | apply bA | apply pD | apply bD | refine ay ?_ (IsS95.ge HI0.out) | refine ay ?_ cj.out) | exact HB.out)) hb); replace HI0 := aM (IsS95.below (by (try simp only [Int.add_zero]); repeat (first | (with_reducible first | exact HI0.out | apply IsS95.alloc | apply IsS95.drewN | apply IsS95.drew | apply IsS95.set_1 | apply IsS95.set_2 | refine IsS95.far ?_ bi.out _) | exact HI0.out)) hb); (try clear hb); (try clear ho0)) | ((with_reducible refine aK (N := 3) rfl ?_); refine aN ?hg (N := 3) ?hd (cs := #[.slice none 0 0]) (t := 29) ?hr ?_; (case hd => rfl); (case hg => rfl); (case hr => first | (go_simp; done) | (go_simp; rfl)); intro bn hg w8 hbox hb; replace gh := aM (ag (kR_ gh.out) hb); replace HB := aM (az (by repeat (first | (with_reducible first | exact HB.out | apply bA | apply pD | apply bD | refine ay ?_ (IsS95.ge HI0.out) | refine ay ?_ cj.out) | exact HB.out)) hb); have bc := aM (hbox); have gi := aM ((by rw [hg]; exact (keep_size (w := w) (g := g) (row := none) (by repeat (first | (with_reducible first | exact HK.out | apply KeepBut.set_ | apply keep_drewN | apply keep_drew | apply keep_alloc | refine keep_far ?_ dO.out _) | exact HK.out))) : w.heap.size ≤ bn)); have cr := aM ((Nat.le_trans HW0.out (by rw [hg]; exact (keep_size (w := w) (g := g) (row := none) (by repeat (first | (with_reducible first | exact HK.out | apply KeepBut.set_ | apply keep_drewN | apply keep_drew | apply keep_alloc | refine keep_far ?_ dO.out _) | exact HK.out))) : w.heap.size ≤ bn) : w0.heap.size ≤ bn)); replace HK := aM (KeepBut.trans (by repeat (first | (with_reducible first | exact HK.out | apply KeepBut.set_ | apply keep_drewN | apply keep_drew | apply keep_alloc | refine keep_far ?_ dO.out _) | exact HK.out)) (KeepBut.of_below hb g none) (.inl rfl)); have cq := aM ((by rw [hg]; exact aC (ax (g := bx) (o := .cells #[.slice none 0 0] 29 (0, 0)) z10) : bx ≠ bn)); have cy := aM ((by rw [hg]; exact aD (ax (g := bx) (o := .cells #[.slice none 0 0] 29 (0, 0)) z10) : bn ≠ bx)); replace bg := aM (bK_ bg.out hb); have bh := aM ((by rw [hg]; exact aC (IsS95.lt (show IsS95 w0 _ g s0_0 lX lW from by (try simp only [Int.add_zero]); repeat (first | (with_reducible first | exact HI0.out | apply IsS95.alloc | apply IsS95.drewN | apply IsS95.drew | apply IsS95.set_1 | apply IsS95.set_2 | refine IsS95.far ?_ bi.out _) | exact HI0.out))) : g ≠ bn)); have bP := aM ((by rw [hg]; exact aD (IsS95.lt (show IsS95 w0 _ g s0_0 lX lW from by (try simp only [Int.add_zero]); repeat (first | (with_reducible first | exact HI0.out | apply IsS95.alloc | apply IsS95.drewN | apply IsS95.drew | apply IsS95.set_1 | apply IsS95.set_2 | refine IsS95.far ?_ bi.out _) | exact HI0.out))) : bn ≠ g)); replace HI0 := aM (IsS95.below (by (try simp only [Int.add_zero]); repeat (first | (with_reducible first | exact HI0.out | apply IsS95.alloc | apply IsS95.drewN | apply IsS95.drew | apply IsS95.set_1 | apply IsS95.set_2 | refine IsS95.far ?_ bi.out _) | exact HI0.out)) hb); clear hb hbox hg; obtain ⟨qJ, qD, eo9⟩ := Kd.R_slice gh.out; subst eo9; have hnb10 := cy.out; have hnc10 := cq.out; have hnb11 := bP.out; have hnc11 := bh.out; obtain ⟨fz, fv⟩ := cc1 bc.out) | ((with_reducible refine aJ (f := 86) rfl ?_); refine aQ (some 18) rfl rfl Try.func86 z0 rfl #[.pointer (some ⟨g, 0, none⟩), .int .i64 5] rfl z17 ?_; (with_reducible refine (spec_l1Cur_pick.calls g s0_0 lX lW 5 pr pq pp w0 _ ?side1 ?side2 A4.out).mono ?_); (case side1 => exact y42); (case side2 => exact y40); rintro e w13 ⟨rfl, hi, hb, hk⟩; refine ⟨_, rfl, ?_⟩; replace bg := aM (KeepBut.blk hk (g' := bx) (o := .cells #[.slice none 0 0] 29 (0, 0)) (by (with_reducible repeat (first | refine ar ?_ _ | refine aq ?_ | refine au ?_ _)); refine av ?_ cq.out _; (with_reducible repeat (first | refine ar ?_ _ | refine aq ?_ | refine au ?_ _)); exact bg.out) b3.out (by simp)); replace gh := aM (ah (Kd.R_keep (IsS95.apart (show IsS95 w0 _ g s0_0 lX lW from by (try simp only [Int.add_zero]); repeat (first | (with_reducible first | exact HI0.out | apply IsS95.alloc | apply IsS95.drewN | apply IsS95.drew | apply IsS95.set_1 | apply IsS95.set_2 | refine IsS95.far ?_ bi.out _ | refine IsS95.far ?_ bh.out _) | exact HI0.out)) (by (with_reducible repeat (first | apply ae | apply ac | apply aa)); exact (ah (am (p := ⟨bn, 0, none⟩) (ap gh.out bc.out (by decide)) (fun _ hk => hk.2) (.slice qJ lV.length qD)) (fun _ h_ => h_.1))) (by decide)) hk (fun _ h => h.2)) (fun _ h => h.1)); replace bc := aM (KeepBut.blk hk (g' := bn) (o := .cells #[.slice qJ lV.length qD] 29 (0, 0)) (by (with_reducible repeat (first | refine ar ?_ _ | refine aq ?_ | refine au ?_ _)); refine aw (cs := #[.slice none 0 0]) ?_ 0 _ rfl; (with_reducible repeat (first | refine ar ?_ _ | refine aq ?_ | refine au ?_ _)); exact bc.out) bP.out (by simp)); replace HK := aM (KeepBut.trans z25 hk (.inl rfl)); replace HB := aM (hb); replace HI0 := aM (hi); (try clear hb); (try clear hk); (try clear hi); (try clear cI)))
 go_loopg [5] k (fun kq v5 w' => ∃ (x5_1 : Int) (x1001_1 : Int) (x1002_1 : Int) (x308000_1 : List (S58)) (u308000 : Value), v5 = .int .i64 x5_1 ∧ Aside0 (spec_l1Cur_rope.l0 kq x5_1 s0_0 x1001_1 x1002_1 x308000_1 = some (r1, r2, r3)) ∧ Aside0 (kq ≤ k) ∧ Aside0 (Kd.R k58 58 w' w.heap.size (fun _ => True) u308000 x308000_1) ∧ Aside0 (w'.heap[bx]? = some (.cells #[(.slice none 0 0)] 29 (0, 0))) ∧ Aside0 (w'.heap[bn]? = some (.cells #[u308000] 29 (0, 0))) ∧ Aside0 (IsS95 w0 w' g s0_0 x1001_1 x1002_1) ∧ Aside0 (KeepBut w w' g none) ∧ Aside0 (Below w0.heap.size w0 w'))
 case atStart => exact ⟨(pr), (pq), (pp), (lV), (.slice qJ lV.length qD), z1, H', ⟨Nat.le_refl _⟩, ⟨kR_ gh.out⟩, ⟨kB_ bg.out⟩, ⟨kB_ bc.out⟩, ⟨y24⟩, ⟨y19⟩, ⟨y18⟩⟩
 case round =>
  clear H'
  try clear fz
  try clear fv
  obtain ⟨x5_1, x1001_1, x1002_1, x308000_1, u308000, rfl, HA, HK1, a7, bg, bc, HI0, HK, HB⟩ := hrel
  cases gk with
  | zero => exact absurd HA.out (by simp [spec_l1Cur_rope.l0])
  | succ k1 =>
   have H := HA.out
   clear HA
   simp only [spec_l1Cur_rope.l0] at H
   by_cases ex : x5_1 > 0
   ·rw [if_pos ex] at H
    have c14b0 : decide (0 < x5_1) = true := dT ex
    clear ex
    obtain ⟨⟨eY, es, er⟩, lR, H⟩ := oA_ H
    try dsimp only at H
    by_cases dM : eY = 0
    ·rw [if_pos dM] at H
     have c16b0 : (eY == 0) = true := qT dM
     have c16b1 : (eY != 0) = false := nF dM
     clear dM
     obtain ⟨⟨lC, ir, iq⟩, pf, H⟩ := oA_ H
     try dsimp only at H
     obtain ⟨⟨dr, po⟩, qu, H⟩ := oA_ H
     try dsimp only at H
     obtain ⟨⟨jT, t326⟩, qU, H⟩ := oA_ H
     try dsimp only at H
     by_cases mV : t326 = true
     ·subst mV
      rw [if_pos rfl] at H
      have H' := aM H
      clear H
      have ml := cy.out
      have mj := cq.out
      have hnb22 := bP.out
      have hnc22 := bh.out
      obtain ⟨hcz23_0, hfz23_0⟩ := cc1 bc.out
      go_wp2_with (first | ((with_reducible refine aK (N := 6) rfl ?_); refine aN ?hg (N := 6) ?hd (cs := #[.slice none 0 0]) (t := 29) ?hr ?_; (case hd => rfl); (case hg => rfl); (case hr => first | (go_simp; done) | (go_simp; rfl)); intro bj hg w24 hbox hb; replace a7 := aM (ag z5 hb); replace HB := aM (az (by repeat (first | (with_reducible first | exact HB.out | apply bA | apply pD | apply bD | refine ay ?_ (IsS95.ge HI0.out) | refine ay ?_ cj.out | refine ay ?_ cr.out) | exact HB.out)) hb); have bw := aM (hbox); have eG := aM ((by rw [hg]; exact (keep_size (w := w) (g := g) (row := none) z25) : w.heap.size ≤ bj)); have da := aM ((Nat.le_trans HW0.out (by rw [hg]; exact (keep_size (w := w) (g := g) (row := none) z25) : w.heap.size ≤ bj) : w0.heap.size ≤ bj)); replace HK := aM (KeepBut.trans z25 (KeepBut.of_below hb g none) (.inl rfl)); have cn := aM ((by rw [hg]; exact aC (ax (g := bx) (o := .cells #[.slice none 0 0] 29 (0, 0)) z10) : bx ≠ bj)); have cm := aM ((by rw [hg]; exact aD (ax (g := bx) (o := .cells #[.slice none 0 0] 29 (0, 0)) z10) : bj ≠ bx)); replace bg := aM (bK_ bg.out hb); have bU := aM ((by rw [hg]; exact aC (ax (g := bn) (o := .cells #[u308000] 29 (0, 0)) z11) : bn ≠ bj)); have ck := aM ((by rw [hg]; exact aD (ax (g := bn) (o := .cells #[u308000] 29 (0, 0)) z11) : bj ≠ bn)); replace bc := aM (bK_ bc.out hb); have bM := aM ((by rw [hg]; exact aC (IsS95.lt (show IsS95 w0 _ g s0_0 x1001_1 x1002_1 from by (try simp only [Int.add_zero]); repeat (first | (with_reducible first | exact HI0.out | apply IsS95.alloc | apply IsS95.drewN | apply IsS95.drew | apply IsS95.set_1 | apply IsS95.set_2 | refine IsS95.far ?_ bi.out _ | refine IsS95.far ?_ bh.out _) | exact HI0.out))) : g ≠ bj)); have cd := aM ((by rw [hg]; exact aD (IsS95.lt (show IsS95 w0 _ g s0_0 x1001_1 x1002_1 from by (try simp only [Int.add_zero]); repeat (first | (with_reducible first | exact HI0.out | apply IsS95.alloc | apply IsS95.drewN | apply IsS95.drew | apply IsS95.set_1 | apply IsS95.set_2 | refine IsS95.far ?_ bi.out _ | refine IsS95.far ?_ bh.out _) | exact HI0.out))) : bj ≠ g)); replace HI0 := aM (IsS95.below z34 hb); clear hb hbox hg; obtain ⟨dS, dK, eo25⟩ := Kd.R_slice a7.out; subst eo25; have hnb26 := cm.out; have hnc26 := cn.out; have hnb27 := ck.out; have hnc27 := bU.out; have hnb28 := cd.out; have hnc28 := bM.out; obtain ⟨hcz29_0, hfz29_0⟩ := cc1 bw.out) | ((with_reducible refine aJ (f := 86) rfl ?_); refine aQ (some 25) rfl rfl Try.func86 z0 rfl #[.pointer (some ⟨g, 0, none⟩), .int .i64 3] rfl z17 ?_; (with_reducible refine (spec_l1Cur_pick.calls g s0_0 x1001_1 x1002_1 3 eY es er w0 _ ?side1 ?side2 lR.out).mono ?_); (case side1 => exact y43); (case side2 => exact y41); rintro e w30 ⟨rfl, hi, hb, hk⟩; refine ⟨_, rfl, ?_⟩; replace a7 := aM (ah (Kd.R_keep (IsS95.apart (show IsS95 w0 _ g s0_0 x1001_1 x1002_1 from by (try simp only [Int.add_zero]); repeat (first | (with_reducible first | exact HI0.out | apply IsS95.alloc | apply IsS95.drewN | apply IsS95.drew | apply IsS95.set_1 | apply IsS95.set_2 | refine IsS95.far ?_ bi.out _ | refine IsS95.far ?_ bh.out _ | refine IsS95.far ?_ bM.out _) | exact HI0.out)) (by (with_reducible repeat (first | apply ae | apply ac | apply aa)); exact (ah (am (p := ⟨bj, 0, none⟩) (ap a7.out bw.out (by decide)) (fun _ hk => hk.2) (.slice dS x308000_1.length dK)) (fun _ h_ => h_.1))) (by decide)) hk (fun _ h => h.2)) (fun _ h => h.1)); replace bg := aM (KeepBut.blk hk (g' := bx) (o := .cells #[.slice none 0 0] 29 (0, 0)) z30 b3.out (by simp)); replace bc := aM (KeepBut.blk hk (g' := bn) (o := .cells #[.slice dS x308000_1.length dK] 29 (0, 0)) z31 bP.out (by simp)); replace bw := aM (KeepBut.blk hk (g' := bj) (o := .cells #[.slice dS x308000_1.length dK] 29 (0, 0)) z33 cd.out (by simp)); replace HK := aM (KeepBut.trans z28 hk (.inl rfl)); replace HB := aM (hb); replace HI0 := aM (hi); (try clear hb); (try clear hk); (try clear hi); (try clear cI)) | ((with_reducible refine aJ (f := 90) rfl ?_); refine aQ (some 40) rfl rfl Try.func90 z0 rfl #[.pointer (some ⟨g, 0, none⟩)] rfl z17 ?_; (with_reducible refine (spec_l1Cur_plainText.calls k1 g s0_0 es er lC ir iq w0 _ ?side1 ?side2 pf.out).mono ?_); (case side1 => exact y43); (case side2 => exact y41); rintro e w31 ⟨rfl, hi, hb, hk⟩; refine ⟨_, rfl, ?_⟩; replace a7 := aM (ah (Kd.R_keep (IsS95.apart (show IsS95 w0 _ g s0_0 es er from by (try simp only [Int.add_zero]); repeat (first | (with_reducible first | exact HI0.out | apply IsS95.alloc | apply IsS95.drewN | apply IsS95.drew | apply IsS95.set_1 | apply IsS95.set_2 | refine IsS95.far ?_ bi.out _ | refine IsS95.far ?_ bh.out _ | refine IsS95.far ?_ bM.out _) | exact HI0.out)) z5 (by decide)) hk (fun _ h => h.2)) (fun _ h => h.1)); replace bg := aM (KeepBut.blk hk (g' := bx) (o := .cells #[.slice none 0 0] 29 (0, 0)) z10 b3.out (by simp)); replace bc := aM (KeepBut.blk hk (g' := bn) (o := .cells #[.slice dS x308000_1.length dK] 29 (0, 0)) z11 bP.out (by simp)); replace bw := aM (KeepBut.blk hk (g' := bj) (o := .cells #[.slice dS x308000_1.length dK] 29 (0, 0)) z12 cd.out (by simp)); replace HK := aM (KeepBut.trans z28 hk (.inl rfl)); replace HB := aM (hb); replace HI0 := aM (hi); (try clear hb); (try clear hk); (try clear hi); (try clear cI)) | ((with_reducible refine aJ (f := 25) rfl ?_); refine aQ (some 41) rfl rfl Try.func25 z0 rfl #[.string lC] rfl z17 ?_; (with_reducible refine (spec_RopeOf.calls k1 lC dr po _ qu.out).mono ?_); rintro e w32 ⟨v319, rfl, ho0, hb⟩; refine ⟨_, rfl, ?_⟩; have cZ := aM (aV (ak ho0 (Kd.R_lt z5)) (keep_size (w := w) (g := g) (row := none) z28)); replace a7 := aM (aj z5 (al ho0) hb); replace bg := aM (bK_ bg.out hb); replace bc := aM (bK_ bc.out hb); replace bw := aM (bK_ bw.out hb); replace HK := aM (KeepBut.trans z28 (KeepBut.of_below hb g none) (.inl rfl)); replace HB := aM (az z32 hb); replace HI0 := aM (IsS95.below z35 hb); (try clear hb); (try clear ho0)) | ((with_reducible refine aK (N := 8) rfl ?_); refine aN ?hg (N := 8) ?hd (cs := #[.slice none 0 0]) (t := 29) ?hr ?_; (case hd => rfl); (case hg => rfl); (case hr => first | (go_simp; done) | (go_simp; rfl)); intro b8 hg w33 hbox hb; replace a7 := aM (ag z5 hb); replace cZ := aM (ag (kR_ cZ.out) hb); replace HB := aM (az z32 hb); have cQ := aM (hbox); have ii := aM ((by rw [hg]; exact (keep_size (w := w) (g := g) (row := none) z28) : w.heap.size ≤ b8)); have jL := aM ((Nat.le_trans HW0.out (by rw [hg]; exact (keep_size (w := w) (g := g) (row := none) z28) : w.heap.size ≤ b8) : w0.heap.size ≤ b8)); replace HK := aM (KeepBut.trans z28 (KeepBut.of_below hb g none) (.inl rfl)); have d6 := aM ((by rw [hg]; exact aC (ax (g := bx) (o := .cells #[.slice none 0 0] 29 (0, 0)) z10) : bx ≠ b8)); have f5 := aM ((by rw [hg]; exact aD (ax (g := bx) (o := .cells #[.slice none 0 0] 29 (0, 0)) z10) : b8 ≠ bx)); replace bg := aM (bK_ bg.out hb); have d5 := aM ((by rw [hg]; exact aC (ax (g := bn) (o := .cells #[.slice dS x308000_1.length dK] 29 (0, 0)) z11) : bn ≠ b8)); have fZ := aM ((by rw [hg]; exact aD (ax (g := bn) (o := .cells #[.slice dS x308000_1.length dK] 29 (0, 0)) z11) : b8 ≠ bn)); replace bc := aM (bK_ bc.out hb); have dZ := aM ((by rw [hg]; exact aC (ax (g := bj) (o := .cells #[.slice dS x308000_1.length dK] 29 (0, 0)) z12) : bj ≠ b8)); have fY := aM ((by rw [hg]; exact aD (ax (g := bj) (o := .cells #[.slice dS x308000_1.length dK] 29 (0, 0)) z12) : b8 ≠ bj)); replace bw := aM (bK_ bw.out hb); have en := aM ((by rw [hg]; exact aC (IsS95.lt (show IsS95 w0 _ g s0_0 ir iq from by (try simp only [Int.add_zero]); repeat (first | (with_reducible first | exact HI0.out | apply IsS95.alloc | apply IsS95.drewN | apply IsS95.drew | apply IsS95.set_1 | apply IsS95.set_2 | refine IsS95.far ?_ bi.out _ | refine IsS95.far ?_ bh.out _ | refine IsS95.far ?_ bM.out _) | exact HI0.out))) : g ≠ b8)); have jo := aM ((by rw [hg]; exact aD (IsS95.lt (show IsS95 w0 _ g s0_0 ir iq from by (try simp only [Int.add_zero]); repeat (first | (with_reducible first | exact HI0.out | apply IsS95.alloc | apply IsS95.drewN | apply IsS95.drew | apply IsS95.set_1 | apply IsS95.set_2 | refine IsS95.far ?_ bi.out _ | refine IsS95.far ?_ bh.out _ | refine IsS95.far ?_ bM.out _) | exact HI0.out))) : b8 ≠ g)); replace HI0 := aM (IsS95.below z35 hb); clear hb hbox hg; obtain ⟨iz, g6, eo34⟩ := Kd.R_slice cZ.out; subst eo34; have hnb35 := f5.out; have hnc35 := d6.out; have hnb36 := fZ.out; have hnc36 := d5.out; have hnb37 := fY.out; have hnc37 := dZ.out; have hnb38 := jo.out; have hnc38 := en.out; obtain ⟨hcz39_0, hfz39_0⟩ := cc1 cQ.out; obtain ⟨hcz40_0, hfz40_0⟩ := cc1 bc.out) | ((with_reducible refine aJ (f := 34) rfl ?_); refine aQ (some 47) rfl rfl Try.func34 z0 rfl #[.agg #[.slice dS x308000_1.length dK], .agg #[.slice iz dr.length g6]] rfl z17 ?_; (with_reducible refine (spec_JoinRopes.calls k1 _ _ x308000_1 _ _ dr jT true _ ?side1 ?side2 ?side3 ?side4 qU.out).mono ?_); (case side1 => refine (ai (e := 58) (base := w.heap.size) (ok := fun k_ => (True ∧ some k_ ≠ (.slice iz dr.length g6 : Value).ownBlock)) (n := x308000_1.length) (c := dK) ?_).2.2; exact (by (with_reducible repeat (first | apply ae | apply ac | apply aa)); exact (ah (am (p := ⟨b8, 0, none⟩) (ap a7.out cQ.out (by decide)) (fun _ hk => hk.2) (.slice iz dr.length g6)) (fun _ h_ => h_.1)))); (case side2 => exact (ai a7.out).2.1); (case side3 => refine (ai (e := 58) (base := w.heap.size) (ok := fun k_ => (True ∧ some k_ ≠ (.slice dS x308000_1.length dK : Value).ownBlock)) (n := dr.length) (c := g6) ?_).2.2; exact (by (with_reducible repeat (first | apply ae | apply ac | apply aa)); exact (ah (am (p := ⟨b8, 0, none⟩) (ap cZ.out cQ.out (by decide)) (fun _ hk => hk.2) (.slice iz dr.length g6)) (fun _ h_ => h_.1)))); (case side4 => exact (ai cZ.out).2.1); rintro e w41 ⟨v324, rfl, ho0, hb⟩; refine ⟨_, rfl, ?_⟩; have lx := aM (aV (ak (ak ho0 (Kd.R_lt (by (with_reducible repeat (first | apply ae | apply ac | apply aa)); exact (ah (am (p := ⟨b8, 0, none⟩) (ap a7.out cQ.out (by decide)) (fun _ hk => hk.2) (.slice iz dr.length g6)) (fun _ h_ => h_.1))))) (Kd.R_lt (by (with_reducible repeat (first | apply ae | apply ac | apply aa)); exact (ah (am (p := ⟨b8, 0, none⟩) (ap cZ.out cQ.out (by decide)) (fun _ hk => hk.2) (.slice iz dr.length g6)) (fun _ h_ => h_.1))))) (keep_size (w := w) (g := g) (row := none) (by repeat (first | (with_reducible first | exact HK.out | apply KeepBut.set_ | apply keep_drewN | apply keep_drew | apply keep_alloc | refine keep_far ?_ dO.out _ | refine keep_far ?_ gi.out _ | refine keep_far ?_ eG.out _ | refine keep_far ?_ ii.out _) | exact HK.out)))); replace a7 := aM (aj (by (with_reducible repeat (first | apply ae | apply ac | apply aa)); exact (ah (am (p := ⟨b8, 0, none⟩) (ap a7.out cQ.out (by decide)) (fun _ hk => hk.2) (.slice iz dr.length g6)) (fun _ h_ => h_.1))) (al ho0) hb); replace cZ := aM (aj (by (with_reducible repeat (first | apply ae | apply ac | apply aa)); exact (ah (am (p := ⟨b8, 0, none⟩) (ap cZ.out cQ.out (by decide)) (fun _ hk => hk.2) (.slice iz dr.length g6)) (fun _ h_ => h_.1))) (al ho0) hb); replace bg := aM (af (g := bx) (o := .cells #[.slice none 0 0] 29 (0, 0)) (by (with_reducible repeat (first | refine ar ?_ _ | refine aq ?_ | refine au ?_ _)); refine av ?_ d6.out _; (with_reducible repeat (first | refine ar ?_ _ | refine aq ?_ | refine au ?_ _)); exact bg.out) hb); replace bc := aM (af (g := bn) (o := .cells #[.slice dS x308000_1.length dK] 29 (0, 0)) (by (with_reducible repeat (first | refine ar ?_ _ | refine aq ?_ | refine au ?_ _)); refine av ?_ d5.out _; (with_reducible repeat (first | refine ar ?_ _ | refine aq ?_ | refine au ?_ _)); exact bc.out) hb); replace bw := aM (af (g := bj) (o := .cells #[.slice dS x308000_1.length dK] 29 (0, 0)) (by (with_reducible repeat (first | refine ar ?_ _ | refine aq ?_ | refine au ?_ _)); refine av ?_ dZ.out _; (with_reducible repeat (first | refine ar ?_ _ | refine aq ?_ | refine au ?_ _)); exact bw.out) hb); replace cQ := aM (af (g := b8) (o := .cells #[.slice iz dr.length g6] 29 (0, 0)) (by (with_reducible repeat (first | refine ar ?_ _ | refine aq ?_ | refine au ?_ _)); refine aw (cs := #[.slice none 0 0]) ?_ 0 _ rfl; (with_reducible repeat (first | refine ar ?_ _ | refine aq ?_ | refine au ?_ _)); exact cQ.out) hb); replace HK := aM (KeepBut.trans (by repeat (first | (with_reducible first | exact HK.out | apply KeepBut.set_ | apply keep_drewN | apply keep_drew | apply keep_alloc | refine keep_far ?_ dO.out _ | refine keep_far ?_ gi.out _ | refine keep_far ?_ eG.out _ | refine keep_far ?_ ii.out _) | exact HK.out)) (KeepBut.of_below hb g none) (.inl rfl)); replace HB := aM (az (by repeat (first | (with_reducible first | exact HB.out | apply bA | apply pD | apply bD | refine ay ?_ (IsS95.ge HI0.out) | refine ay ?_ cj.out | refine ay ?_ cr.out | refine ay ?_ da.out | refine ay ?_ jL.out) | exact HB.out)) hb); replace HI0 := aM (IsS95.below (show IsS95 w0 (w33.setCell ⟨b8, 0, none⟩ (.slice iz dr.length g6)) g s0_0 ir iq from by (try simp only [Int.add_zero]); repeat (first | (with_reducible first | exact HI0.out | apply IsS95.alloc | apply IsS95.drewN | apply IsS95.drew | apply IsS95.set_1 | apply IsS95.set_2 | refine IsS95.far ?_ bi.out _ | refine IsS95.far ?_ bh.out _ | refine IsS95.far ?_ bM.out _ | refine IsS95.far ?_ en.out _) | exact HI0.out)) hb); (try clear hb); (try clear ho0); obtain ⟨o6, oX, eo42⟩ := Kd.R_slice lx.out; subst eo42; obtain ⟨hcz43_0, hfz43_0⟩ := cc1 bw.out; obtain ⟨hcz44_0, hfz44_0⟩ := cc1 bc.out))
      go_roundg k1
      case measure => have := HK1.out; omega
      case rel => exact ⟨(wrap64 (x5_1 - 1)), (ir), (iq), (jT), (.slice o6 jT.length oX), z1, H', ⟨y0⟩, ⟨by (with_reducible repeat (first | apply ae | apply ac | apply aa)); exact ah (am (p := ⟨bn, 0, none⟩) (am (p := ⟨bj, 0, none⟩) (ap (ap lx.out bw.out (by decide)) bc.out (by decide)) (fun _ hk => hk.1.2) (.slice o6 jT.length oX)) (fun _ hk => hk.2) (.slice o6 jT.length oX)) (fun _ hk => trivial)⟩, ⟨y26⟩, ⟨by (with_reducible repeat (first | refine ar ?_ _ | refine aq ?_ | refine au ?_ _)); refine aw (cs := #[.slice dS x308000_1.length dK]) ?_ 0 _ rfl; (with_reducible repeat (first | refine ar ?_ _ | refine aq ?_ | refine au ?_ _)); refine av ?_ bU.out _; (with_reducible repeat (first | refine ar ?_ _ | refine aq ?_ | refine au ?_ _)); exact bc.out⟩, ⟨by (try simp only [Int.add_zero]); repeat (first | (with_reducible first | exact HI0.out | apply IsS95.alloc | apply IsS95.drewN | apply IsS95.drew | apply IsS95.set_1 | apply IsS95.set_2 | refine IsS95.far ?_ bi.out _ | refine IsS95.far ?_ bh.out _ | refine IsS95.far ?_ bM.out _ | refine IsS95.far ?_ en.out _) | exact HI0.out)⟩, ⟨by repeat (first | (with_reducible first | exact HK.out | apply KeepBut.set_ | apply keep_drewN | apply keep_drew | apply keep_alloc | refine keep_far ?_ dO.out _ | refine keep_far ?_ gi.out _ | refine keep_far ?_ eG.out _ | refine keep_far ?_ ii.out _) | exact HK.out)⟩, ⟨by repeat (first | (with_reducible first | exact HB.out | apply bA | apply pD | apply bD | refine ay ?_ (IsS95.ge HI0.out) | refine ay ?_ cj.out | refine ay ?_ cr.out | refine ay ?_ da.out | refine ay ?_ jL.out) | exact HB.out)⟩⟩
     ·replace mV := Bool.eq_false_iff.mpr mV
      subst mV
      rw [if_neg nF_] at H
      have H' := aM H
      clear H
      have hnb45 := cy.out
      have hnc45 := cq.out
      have hnb46 := bP.out
      have hnc46 := bh.out
      obtain ⟨hcz47_0, hfz47_0⟩ := cc1 bc.out
      go_wp2_with (first | ((with_reducible refine aK (N := 6) rfl ?_); refine aN ?hg (N := 6) ?hd (cs := #[.slice none 0 0]) (t := 29) ?hr ?_; (case hd => rfl); (case hg => rfl); (case hr => first | (go_simp; done) | (go_simp; rfl)); intro bj hg w48 hbox hb; replace a7 := aM (ag z5 hb); replace HB := aM (az (by repeat (first | (with_reducible first | exact HB.out | apply bA | apply pD | apply bD | refine ay ?_ (IsS95.ge HI0.out) | refine ay ?_ cj.out | refine ay ?_ cr.out) | exact HB.out)) hb); have bw := aM (hbox); have eG := aM ((by rw [hg]; exact (keep_size (w := w) (g := g) (row := none) z25) : w.heap.size ≤ bj)); have da := aM ((Nat.le_trans HW0.out (by rw [hg]; exact (keep_size (w := w) (g := g) (row := none) z25) : w.heap.size ≤ bj) : w0.heap.size ≤ bj)); replace HK := aM (KeepBut.trans z25 (KeepBut.of_below hb g none) (.inl rfl)); have cn := aM ((by rw [hg]; exact aC (ax (g := bx) (o := .cells #[.slice none 0 0] 29 (0, 0)) z10) : bx ≠ bj)); have cm := aM ((by rw [hg]; exact aD (ax (g := bx) (o := .cells #[.slice none 0 0] 29 (0, 0)) z10) : bj ≠ bx)); replace bg := aM (bK_ bg.out hb); have bU := aM ((by rw [hg]; exact aC (ax (g := bn) (o := .cells #[u308000] 29 (0, 0)) z11) : bn ≠ bj)); have ck := aM ((by rw [hg]; exact aD (ax (g := bn) (o := .cells #[u308000] 29 (0, 0)) z11) : bj ≠ bn)); replace bc := aM (bK_ bc.out hb); have bM := aM ((by rw [hg]; exact aC (IsS95.lt (show IsS95 w0 _ g s0_0 x1001_1 x1002_1 from by (try simp only [Int.add_zero]); repeat (first | (with_reducible first | exact HI0.out | apply IsS95.alloc | apply IsS95.drewN | apply IsS95.drew | apply IsS95.set_1 | apply IsS95.set_2 | refine IsS95.far ?_ bi.out _ | refine IsS95.far ?_ bh.out _) | exact HI0.out))) : g ≠ bj)); have cd := aM ((by rw [hg]; exact aD (IsS95.lt (show IsS95 w0 _ g s0_0 x1001_1 x1002_1 from by (try simp only [Int.add_zero]); repeat (first | (with_reducible first | exact HI0.out | apply IsS95.alloc | apply IsS95.drewN | apply IsS95.drew | apply IsS95.set_1 | apply IsS95.set_2 | refine IsS95.far ?_ bi.out _ | refine IsS95.far ?_ bh.out _) | exact HI0.out))) : bj ≠ g)); replace HI0 := aM (IsS95.below z34 hb); clear hb hbox hg; obtain ⟨ec, dQ, eo49⟩ := Kd.R_slice a7.out; subst eo49; have hnb50 := cm.out; have hnc50 := cn.out; have hnb51 := ck.out; have hnc51 := bU.out; have hnb52 := cd.out; have hnc52 := bM.out; obtain ⟨hcz53_0, hfz53_0⟩ := cc1 bw.out) | ((with_reducible refine aJ (f := 86) rfl ?_); refine aQ (some 25) rfl rfl Try.func86 z0 rfl #[.pointer (some ⟨g, 0, none⟩), .int .i64 3] rfl z17 ?_; (with_reducible refine (spec_l1Cur_pick.calls g s0_0 x1001_1 x1002_1 3 eY es er w0 _ ?side1 ?side2 lR.out).mono ?_); (case side1 => exact y43); (case side2 => exact y41); rintro e w54 ⟨rfl, hi, hb, hk⟩; refine ⟨_, rfl, ?_⟩; replace a7 := aM (ah (Kd.R_keep (IsS95.apart (show IsS95 w0 _ g s0_0 x1001_1 x1002_1 from by (try simp only [Int.add_zero]); repeat (first | (with_reducible first | exact HI0.out | apply IsS95.alloc | apply IsS95.drewN | apply IsS95.drew | apply IsS95.set_1 | apply IsS95.set_2 | refine IsS95.far ?_ bi.out _ | refine IsS95.far ?_ bh.out _ | refine IsS95.far ?_ bM.out _) | exact HI0.out)) (by (with_reducible repeat (first | apply ae | apply ac | apply aa)); exact (ah (am (p := ⟨bj, 0, none⟩) (ap a7.out bw.out (by decide)) (fun _ hk => hk.2) (.slice ec x308000_1.length dQ)) (fun _ h_ => h_.1))) (by decide)) hk (fun _ h => h.2)) (fun _ h => h.1)); replace bg := aM (KeepBut.blk hk (g' := bx) (o := .cells #[.slice none 0 0] 29 (0, 0)) z30 b3.out (by simp)); replace bc := aM (KeepBut.blk hk (g' := bn) (o := .cells #[.slice ec x308000_1.length dQ] 29 (0, 0)) z31 bP.out (by simp)); replace bw := aM (KeepBut.blk hk (g' := bj) (o := .cells #[.slice ec x308000_1.length dQ] 29 (0, 0)) z33 cd.out (by simp)); replace HK := aM (KeepBut.trans z28 hk (.inl rfl)); replace HB := aM (hb); replace HI0 := aM (hi); (try clear hb); (try clear hk); (try clear hi); (try clear cI)) | ((with_reducible refine aJ (f := 90) rfl ?_); refine aQ (some 40) rfl rfl Try.func90 z0 rfl #[.pointer (some ⟨g, 0, none⟩)] rfl z17 ?_; (with_reducible refine (spec_l1Cur_plainText.calls k1 g s0_0 es er lC ir iq w0 _ ?side1 ?side2 pf.out).mono ?_); (case side1 => exact y43); (case side2 => exact y41); rintro e w55 ⟨rfl, hi, hb, hk⟩; refine ⟨_, rfl, ?_⟩; replace a7 := aM (ah (Kd.R_keep (IsS95.apart (show IsS95 w0 _ g s0_0 es er from by (try simp only [Int.add_zero]); repeat (first | (with_reducible first | exact HI0.out | apply IsS95.alloc | apply IsS95.drewN | apply IsS95.drew | apply IsS95.set_1 | apply IsS95.set_2 | refine IsS95.far ?_ bi.out _ | refine IsS95.far ?_ bh.out _ | refine IsS95.far ?_ bM.out _) | exact HI0.out)) z5 (by decide)) hk (fun _ h => h.2)) (fun _ h => h.1)); replace bg := aM (KeepBut.blk hk (g' := bx) (o := .cells #[.slice none 0 0] 29 (0, 0)) z10 b3.out (by simp)); replace bc := aM (KeepBut.blk hk (g' := bn) (o := .cells #[.slice ec x308000_1.length dQ] 29 (0, 0)) z11 bP.out (by simp)); replace bw := aM (KeepBut.blk hk (g' := bj) (o := .cells #[.slice ec x308000_1.length dQ] 29 (0, 0)) z12 cd.out (by simp)); replace HK := aM (KeepBut.trans z28 hk (.inl rfl)); replace HB := aM (hb); replace HI0 := aM (hi); (try clear hb); (try clear hk); (try clear hi); (try clear cI)) | ((with_reducible refine aJ (f := 25) rfl ?_); refine aQ (some 41) rfl rfl Try.func25 z0 rfl #[.string lC] rfl z17 ?_; (with_reducible refine (spec_RopeOf.calls k1 lC dr po _ qu.out).mono ?_); rintro e w56 ⟨v319, rfl, ho0, hb⟩; refine ⟨_, rfl, ?_⟩; have cZ := aM (aV (ak ho0 (Kd.R_lt z5)) (keep_size (w := w) (g := g) (row := none) z28)); replace a7 := aM (aj z5 (al ho0) hb); replace bg := aM (bK_ bg.out hb); replace bc := aM (bK_ bc.out hb); replace bw := aM (bK_ bw.out hb); replace HK := aM (KeepBut.trans z28 (KeepBut.of_below hb g none) (.inl rfl)); replace HB := aM (az z32 hb); replace HI0 := aM (IsS95.below z35 hb); (try clear hb); (try clear ho0)) | ((with_reducible refine aK (N := 8) rfl ?_); refine aN ?hg (N := 8) ?hd (cs := #[.slice none 0 0]) (t := 29) ?hr ?_; (case hd => rfl); (case hg => rfl); (case hr => first | (go_simp; done) | (go_simp; rfl)); intro b8 hg w57 hbox hb; replace a7 := aM (ag z5 hb); replace cZ := aM (ag (kR_ cZ.out) hb); replace HB := aM (az z32 hb); have cQ := aM (hbox); have ii := aM ((by rw [hg]; exact (keep_size (w := w) (g := g) (row := none) z28) : w.heap.size ≤ b8)); have jL := aM ((Nat.le_trans HW0.out (by rw [hg]; exact (keep_size (w := w) (g := g) (row := none) z28) : w.heap.size ≤ b8) : w0.heap.size ≤ b8)); replace HK := aM (KeepBut.trans z28 (KeepBut.of_below hb g none) (.inl rfl)); have d6 := aM ((by rw [hg]; exact aC (ax (g := bx) (o := .cells #[.slice none 0 0] 29 (0, 0)) z10) : bx ≠ b8)); have f5 := aM ((by rw [hg]; exact aD (ax (g := bx) (o := .cells #[.slice none 0 0] 29 (0, 0)) z10) : b8 ≠ bx)); replace bg := aM (bK_ bg.out hb); have d5 := aM ((by rw [hg]; exact aC (ax (g := bn) (o := .cells #[.slice ec x308000_1.length dQ] 29 (0, 0)) z11) : bn ≠ b8)); have fZ := aM ((by rw [hg]; exact aD (ax (g := bn) (o := .cells #[.slice ec x308000_1.length dQ] 29 (0, 0)) z11) : b8 ≠ bn)); replace bc := aM (bK_ bc.out hb); have dZ := aM ((by rw [hg]; exact aC (ax (g := bj) (o := .cells #[.slice ec x308000_1.length dQ] 29 (0, 0)) z12) : bj ≠ b8)); have fY := aM ((by rw [hg]; exact aD (ax (g := bj) (o := .cells #[.slice ec x308000_1.length dQ] 29 (0, 0)) z12) : b8 ≠ bj)); replace bw := aM (bK_ bw.out hb); have en := aM ((by rw [hg]; exact aC (IsS95.lt (show IsS95 w0 _ g s0_0 ir iq from by (try simp only [Int.add_zero]); repeat (first | (with_reducible first | exact HI0.out | apply IsS95.alloc | apply IsS95.drewN | apply IsS95.drew | apply IsS95.set_1 | apply IsS95.set_2 | refine IsS95.far ?_ bi.out _ | refine IsS95.far ?_ bh.out _ | refine IsS95.far ?_ bM.out _) | exact HI0.out))) : g ≠ b8)); have jo := aM ((by rw [hg]; exact aD (IsS95.lt (show IsS95 w0 _ g s0_0 ir iq from by (try simp only [Int.add_zero]); repeat (first | (with_reducible first | exact HI0.out | apply IsS95.alloc | apply IsS95.drewN | apply IsS95.drew | apply IsS95.set_1 | apply IsS95.set_2 | refine IsS95.far ?_ bi.out _ | refine IsS95.far ?_ bh.out _ | refine IsS95.far ?_ bM.out _) | exact HI0.out))) : b8 ≠ g)); replace HI0 := aM (IsS95.below z35 hb); clear hb hbox hg; obtain ⟨iy, g5, eo58⟩ := Kd.R_slice cZ.out; subst eo58; have hnb59 := f5.out; have hnc59 := d6.out; have hnb60 := fZ.out; have hnc60 := d5.out; have hnb61 := fY.out; have hnc61 := dZ.out; have hnb62 := jo.out; have hnc62 := en.out; obtain ⟨hcz63_0, hfz63_0⟩ := cc1 cQ.out; obtain ⟨hcz64_0, hfz64_0⟩ := cc1 bc.out) | ((with_reducible refine aJ (f := 34) rfl ?_); refine aQ (some 47) rfl rfl Try.func34 z0 rfl #[.agg #[.slice ec x308000_1.length dQ], .agg #[.slice iy dr.length g5]] rfl z17 ?_; (with_reducible refine (spec_JoinRopes.calls k1 _ _ x308000_1 _ _ dr jT false _ ?side1 ?side2 ?side3 ?side4 qU.out).mono ?_); (case side1 => refine (ai (e := 58) (base := w.heap.size) (ok := fun k_ => (True ∧ some k_ ≠ (.slice iy dr.length g5 : Value).ownBlock)) (n := x308000_1.length) (c := dQ) ?_).2.2; exact (by (with_reducible repeat (first | apply ae | apply ac | apply aa)); exact (ah (am (p := ⟨b8, 0, none⟩) (ap a7.out cQ.out (by decide)) (fun _ hk => hk.2) (.slice iy dr.length g5)) (fun _ h_ => h_.1)))); (case side2 => exact (ai a7.out).2.1); (case side3 => refine (ai (e := 58) (base := w.heap.size) (ok := fun k_ => (True ∧ some k_ ≠ (.slice ec x308000_1.length dQ : Value).ownBlock)) (n := dr.length) (c := g5) ?_).2.2; exact (by (with_reducible repeat (first | apply ae | apply ac | apply aa)); exact (ah (am (p := ⟨b8, 0, none⟩) (ap cZ.out cQ.out (by decide)) (fun _ hk => hk.2) (.slice iy dr.length g5)) (fun _ h_ => h_.1)))); (case side4 => exact (ai cZ.out).2.1); rintro e w65 ⟨v324, rfl, ho0, hb⟩; refine ⟨_, rfl, ?_⟩; have lx := aM (aV (ak (ak ho0 (Kd.R_lt (by (with_reducible repeat (first | apply ae | apply ac | apply aa)); exact (ah (am (p := ⟨b8, 0, none⟩) (ap a7.out cQ.out (by decide)) (fun _ hk => hk.2) (.slice iy dr.length g5)) (fun _ h_ => h_.1))))) (Kd.R_lt (by (with_reducible repeat (first | apply ae | apply ac | apply aa)); exact (ah (am (p := ⟨b8, 0, none⟩) (ap cZ.out cQ.out (by decide)) (fun _ hk => hk.2) (.slice iy dr.length g5)) (fun _ h_ => h_.1))))) (keep_size (w := w) (g := g) (row := none) (by repeat (first | (with_reducible first | exact HK.out | apply KeepBut.set_ | apply keep_drewN | apply keep_drew | apply keep_alloc | refine keep_far ?_ dO.out _ | refine keep_far ?_ gi.out _ | refine keep_far ?_ eG.out _ | refine keep_far ?_ ii.out _) | exact HK.out)))); replace a7 := aM (aj (by (with_reducible repeat (first | apply ae | apply ac | apply aa)); exact (ah (am (p := ⟨b8, 0, none⟩) (ap a7.out cQ.out (by decide)) (fun _ hk => hk.2) (.slice iy dr.length g5)) (fun _ h_ => h_.1))) (al ho0) hb); replace cZ := aM (aj (by (with_reducible repeat (first | apply ae | apply ac | apply aa)); exact (ah (am (p := ⟨b8, 0, none⟩) (ap cZ.out cQ.out (by decide)) (fun _ hk => hk.2) (.slice iy dr.length g5)) (fun _ h_ => h_.1))) (al ho0) hb); replace bg := aM (af (g := bx) (o := .cells #[.slice none 0 0] 29 (0, 0)) (by (with_reducible repeat (first | refine ar ?_ _ | refine aq ?_ | refine au ?_ _)); refine av ?_ d6.out _; (with_reducible repeat (first | refine ar ?_ _ | refine aq ?_ | refine au ?_ _)); exact bg.out) hb); replace bc := aM (af (g := bn) (o := .cells #[.slice ec x308000_1.length dQ] 29 (0, 0)) (by (with_reducible repeat (first | refine ar ?_ _ | refine aq ?_ | refine au ?_ _)); refine av ?_ d5.out _; (with_reducible repeat (first | refine ar ?_ _ | refine aq ?_ | refine au ?_ _)); exact bc.out) hb); replace bw := aM (af (g := bj) (o := .cells #[.slice ec x308000_1.length dQ] 29 (0, 0)) (by (with_reducible repeat (first | refine ar ?_ _ | refine aq ?_ | refine au ?_ _)); refine av ?_ dZ.out _; (with_reducible repeat (first | refine ar ?_ _ | refine aq ?_ | refine au ?_ _)); exact bw.out) hb); replace cQ := aM (af (g := b8) (o := .cells #[.slice iy dr.length g5] 29 (0, 0)) (by (with_reducible repeat (first | refine ar ?_ _ | refine aq ?_ | refine au ?_ _)); refine aw (cs := #[.slice none 0 0]) ?_ 0 _ rfl; (with_reducible repeat (first | refine ar ?_ _ | refine aq ?_ | refine au ?_ _)); exact cQ.out) hb); replace HK := aM (KeepBut.trans (by repeat (first | (with_reducible first | exact HK.out | apply KeepBut.set_ | apply keep_drewN | apply keep_drew | apply keep_alloc | refine keep_far ?_ dO.out _ | refine keep_far ?_ gi.out _ | refine keep_far ?_ eG.out _ | refine keep_far ?_ ii.out _) | exact HK.out)) (KeepBut.of_below hb g none) (.inl rfl)); replace HB := aM (az (by repeat (first | (with_reducible first | exact HB.out | apply bA | apply pD | apply bD | refine ay ?_ (IsS95.ge HI0.out) | refine ay ?_ cj.out | refine ay ?_ cr.out | refine ay ?_ da.out | refine ay ?_ jL.out) | exact HB.out)) hb); replace HI0 := aM (IsS95.below (show IsS95 w0 (w57.setCell ⟨b8, 0, none⟩ (.slice iy dr.length g5)) g s0_0 ir iq from by (try simp only [Int.add_zero]); repeat (first | (with_reducible first | exact HI0.out | apply IsS95.alloc | apply IsS95.drewN | apply IsS95.drew | apply IsS95.set_1 | apply IsS95.set_2 | refine IsS95.far ?_ bi.out _ | refine IsS95.far ?_ bh.out _ | refine IsS95.far ?_ bM.out _ | refine IsS95.far ?_ en.out _) | exact HI0.out)) hb); (try clear hb); (try clear ho0); obtain ⟨qb, pT, eo66⟩ := Kd.R_slice lx.out; subst eo66; obtain ⟨hcz67_0, hfz67_0⟩ := cc1 bw.out))
      go_roundg k1
      case measure => have := HK1.out; omega
      case rel => exact ⟨(wrap64 (x5_1 - 1)), (ir), (iq), (x308000_1), (.slice ec x308000_1.length dQ), z1, H', ⟨y0⟩, ⟨by (with_reducible repeat (first | apply ae | apply ac | apply aa)); exact ah (am (p := ⟨bj, 0, none⟩) (ap a7.out bw.out (by decide)) (fun _ hk => hk.2) (.slice qb jT.length pT)) (fun _ hk => trivial)⟩, ⟨y22⟩, ⟨y23⟩, ⟨by (try simp only [Int.add_zero]); repeat (first | (with_reducible first | exact HI0.out | apply IsS95.alloc | apply IsS95.drewN | apply IsS95.drew | apply IsS95.set_1 | apply IsS95.set_2 | refine IsS95.far ?_ bi.out _ | refine IsS95.far ?_ bh.out _ | refine IsS95.far ?_ bM.out _ | refine IsS95.far ?_ en.out _) | exact HI0.out)⟩, ⟨by repeat (first | (with_reducible first | exact HK.out | apply KeepBut.set_ | apply keep_drewN | apply keep_drew | apply keep_alloc | refine keep_far ?_ dO.out _ | refine keep_far ?_ gi.out _ | refine keep_far ?_ eG.out _ | refine keep_far ?_ ii.out _) | exact HK.out)⟩, ⟨by repeat (first | (with_reducible first | exact HB.out | apply bA | apply pD | apply bD | refine ay ?_ (IsS95.ge HI0.out) | refine ay ?_ cj.out | refine ay ?_ cr.out | refine ay ?_ da.out | refine ay ?_ jL.out) | exact HB.out)⟩⟩
    ·rw [if_neg dM] at H
     have c16b0 : (eY == 0) = false := qF dM
     have c16b1 : (eY != 0) = true := nT dM
     by_cases nI : eY = 1
     ·rw [if_pos nI] at H
      have c68b0 : (eY == 1) = true := qT nI
      have c68b1 : (eY != 1) = false := nF nI
      clear nI
      obtain ⟨jx, qR, H⟩ := oA_ H
      try dsimp only at H
      obtain ⟨⟨lB, na, m9⟩, mM, H⟩ := oA_ H
      try dsimp only at H
      obtain ⟨⟨pn, jS, t337⟩, qQ, H⟩ := oA_ H
      try dsimp only at H
      by_cases qA : t337 = true
      ·subst qA
       rw [if_pos rfl] at H
       have H' := aM H
       clear H
       have hnb73 := cy.out
       have hnc73 := cq.out
       have hnb74 := bP.out
       have hnc74 := bh.out
       obtain ⟨hcz75_0, hfz75_0⟩ := cc1 bc.out
       try go_wp2_with (first | ((with_reducible refine aK (N := 6) rfl ?_); refine aN ?hg (N := 6) ?hd (cs := #[.slice none 0 0]) (t := 29) ?hr ?_; (case hd => rfl); (case hg => rfl); (case hr => first | (go_simp; done) | (go_simp; rfl)); intro bj hg w76 hbox hb; replace a7 := aM (ag z5 hb); replace HB := aM (az (by repeat (first | (with_reducible first | exact HB.out | apply bA | apply pD | apply bD | refine ay ?_ (IsS95.ge HI0.out) | refine ay ?_ cj.out | refine ay ?_ cr.out) | exact HB.out)) hb); have bw := aM (hbox); have eG := aM ((by rw [hg]; exact (keep_size (w := w) (g := g) (row := none) z25) : w.heap.size ≤ bj)); have da := aM ((Nat.le_trans HW0.out (by rw [hg]; exact (keep_size (w := w) (g := g) (row := none) z25) : w.heap.size ≤ bj) : w0.heap.size ≤ bj)); replace HK := aM (KeepBut.trans z25 (KeepBut.of_below hb g none) (.inl rfl)); have cn := aM ((by rw [hg]; exact aC (ax (g := bx) (o := .cells #[.slice none 0 0] 29 (0, 0)) z10) : bx ≠ bj)); have cm := aM ((by rw [hg]; exact aD (ax (g := bx) (o := .cells #[.slice none 0 0] 29 (0, 0)) z10) : bj ≠ bx)); replace bg := aM (bK_ bg.out hb); have bU := aM ((by rw [hg]; exact aC (ax (g := bn) (o := .cells #[u308000] 29 (0, 0)) z11) : bn ≠ bj)); have ck := aM ((by rw [hg]; exact aD (ax (g := bn) (o := .cells #[u308000] 29 (0, 0)) z11) : bj ≠ bn)); replace bc := aM (bK_ bc.out hb); have bM := aM ((by rw [hg]; exact aC (IsS95.lt (show IsS95 w0 _ g s0_0 x1001_1 x1002_1 from by (try simp only [Int.add_zero]); repeat (first | (with_reducible first | exact HI0.out | apply IsS95.alloc | apply IsS95.drewN | apply IsS95.drew | apply IsS95.set_1 | apply IsS95.set_2 | refine IsS95.far ?_ bi.out _ | refine IsS95.far ?_ bh.out _) | exact HI0.out))) : g ≠ bj)); have cd := aM ((by rw [hg]; exact aD (IsS95.lt (show IsS95 w0 _ g s0_0 x1001_1 x1002_1 from by (try simp only [Int.add_zero]); repeat (first | (with_reducible first | exact HI0.out | apply IsS95.alloc | apply IsS95.drewN | apply IsS95.drew | apply IsS95.set_1 | apply IsS95.set_2 | refine IsS95.far ?_ bi.out _ | refine IsS95.far ?_ bh.out _) | exact HI0.out))) : bj ≠ g)); replace HI0 := aM (IsS95.below z34 hb); clear hb hbox hg; obtain ⟨fK, fA, eo77⟩ := Kd.R_slice a7.out; subst eo77; have hnb78 := cm.out; have hnc78 := cn.out; have hnb79 := ck.out; have hnc79 := bU.out; have hnb80 := cd.out; have hnc80 := bM.out; obtain ⟨hcz81_0, hfz81_0⟩ := cc1 bw.out) | ((with_reducible refine aJ (f := 86) rfl ?_); refine aQ (some 25) rfl rfl Try.func86 z0 rfl #[.pointer (some ⟨g, 0, none⟩), .int .i64 3] rfl z17 ?_; (with_reducible refine (spec_l1Cur_pick.calls g s0_0 x1001_1 x1002_1 3 eY es er w0 _ ?side1 ?side2 lR.out).mono ?_); (case side1 => exact y43); (case side2 => exact y41); rintro e w82 ⟨rfl, hi, hb, hk⟩; refine ⟨_, rfl, ?_⟩; replace a7 := aM (ah (Kd.R_keep (IsS95.apart (show IsS95 w0 _ g s0_0 x1001_1 x1002_1 from by (try simp only [Int.add_zero]); repeat (first | (with_reducible first | exact HI0.out | apply IsS95.alloc | apply IsS95.drewN | apply IsS95.drew | apply IsS95.set_1 | apply IsS95.set_2 | refine IsS95.far ?_ bi.out _ | refine IsS95.far ?_ bh.out _ | refine IsS95.far ?_ bM.out _) | exact HI0.out)) (by (with_reducible repeat (first | apply ae | apply ac | apply aa)); exact (ah (am (p := ⟨bj, 0, none⟩) (ap a7.out bw.out (by decide)) (fun _ hk => hk.2) (.slice fK x308000_1.length fA)) (fun _ h_ => h_.1))) (by decide)) hk (fun _ h => h.2)) (fun _ h => h.1)); replace bg := aM (KeepBut.blk hk (g' := bx) (o := .cells #[.slice none 0 0] 29 (0, 0)) z30 b3.out (by simp)); replace bc := aM (KeepBut.blk hk (g' := bn) (o := .cells #[.slice fK x308000_1.length fA] 29 (0, 0)) z31 bP.out (by simp)); replace bw := aM (KeepBut.blk hk (g' := bj) (o := .cells #[.slice fK x308000_1.length fA] 29 (0, 0)) z33 cd.out (by simp)); replace HK := aM (KeepBut.trans z28 hk (.inl rfl)); replace HB := aM (hb); replace HI0 := aM (hi); (try clear hb); (try clear hk); (try clear hi); (try clear cI)))
       replace a7 := aM (aa a7.out)
       replace bg := aM (aq bg.out)
       replace bc := aM (aq bc.out)
       replace bw := aM (aq bw.out)
       replace HI0 := aM (IsS95.drew HI0.out)
       replace HK := aM (keep_drew HK.out)
       replace HB := aM (bD HB.out)
       refine start_ (n := 14) (S := fun w' => w'.cell? ⟨bn, 0, none⟩ = some (.slice fK x308000_1.length fA)) (ds := []) #[false, false, false, false, false, false, false, false, false, false, false, false, false, false] z0 rfl rfl ((bC bc.out 0).trans rfl) (fun hHeld => ?_); refine with_tabW spec_l1Cur_rope.tab12 spec_l1Cur_rope.bits12 (fun HT_ HW_ => ?_)
       generalize w82.drew = w83 at a7 bg bc bw HI0 HK HB hHeld ⊢
       refine pA 1 54 ?_
       refine pA 2 55 ?_
       refine tA 0 53 ?_ (hy := by intro w' s0; go_simp; with_reducible rfl)
       refine tA 3 56 ?_ (hy := by intro w' s0; go_simp; with_reducible rfl)
       refine one_ (i := 4) (N := some 57) #[true, true, true, true, true, false, false, false, false, false, false, false, false, false] rfl rfl (one_of HT_.out z0) (by decide) (fun K hK => ?_)
       refine goes_ Try.func51 z0 rfl #[.slice fK x308000_1.length fA] (by rfl) rfl rfl z17 ?_
       with_reducible refine (spec_l12Size.calls _ _ x308000_1 jx _ ?side1 ?side2 qR.out).mono ?_
       (case side1 => exact y31)
       (case side2 => exact (ai a7.out).2.1)
       rintro e w' ⟨rfl, ⟨nd, rfl⟩⟩
       refine ⟨_, rfl, ?_⟩
       refine hK.out _ _ ((bC bc.out 0).trans rfl) (fun hHeld => ?_)
       clear hK K
       refine norm_ (a' := ?_) ?_ ?_
       rotate_left
       ·show Act.put _ (some 57) _ = _
        simp only [Act.put, sA, sB, sC, i64_w, i32_w]
        rfl
       refine pA 5 58 ?_
       refine one_ (i := 6) (N := some 59) #[true, true, true, true, true, true, true, false, false, false, false, false, false, false] rfl rfl (one_of HT_.out z0) (by decide) (fun K hK => ?_)
       refine goes_ Try.func86 z0 rfl #[.pointer (some ⟨g, 0, none⟩), .int .i64 (wrap64 (jx + 1))] (by rfl) rfl rfl z17 ?_
       with_reducible refine (spec_l1Cur_pick.calls g s0_0 es er (wrap64 (jx + 1)) lB na m9 w0 _ ?side1 ?side2 mM.out).mono ?_
       (case side1 => exact y43)
       (case side2 => exact y41)
       rintro e w84 ⟨rfl, hi, hb, hk⟩
       refine ⟨_, rfl, ?_⟩
       replace a7 := aM (ah (Kd.R_keep (IsS95.apart (show IsS95 w0 _ g s0_0 es er from by (try simp only [Int.add_zero]); repeat (first | (with_reducible first | exact HI0.out | apply IsS95.alloc | apply IsS95.drewN | apply IsS95.drew | apply IsS95.set_1 | apply IsS95.set_2 | refine IsS95.far ?_ bi.out _ | refine IsS95.far ?_ bh.out _ | refine IsS95.far ?_ bM.out _) | exact HI0.out)) z5 (by decide)) hk (fun _ h => h.2)) (fun _ h => h.1))
       replace bg := aM (KeepBut.blk hk (g' := bx) (o := .cells #[.slice none 0 0] 29 (0, 0)) z10 b3.out (by simp))
       replace bc := aM (KeepBut.blk hk (g' := bn) (o := .cells #[.slice fK x308000_1.length fA] 29 (0, 0)) z11 bP.out (by simp))
       replace bw := aM (KeepBut.blk hk (g' := bj) (o := .cells #[.slice fK x308000_1.length fA] 29 (0, 0)) z12 cd.out (by simp))
       replace HK := aM (KeepBut.trans z28 hk (.inl rfl))
       replace HB := aM (hb)
       replace HI0 := aM (hi)
       (try clear hb)
       skip
       (try clear hk)
       (try clear hi)
       (try clear cI)
       refine hK.out _ _ ((bC bc.out 0).trans rfl) (fun hHeld => ?_)
       clear hK K
       refine norm_ (a' := ?_) ?_ ?_
       rotate_left
       ·show Act.put _ (some 59) _ = _
        simp only [Act.put, sA, sB, sC, i64_w, i32_w]
        rfl
       refine one_ (i := 7) (N := some 60) #[true, true, true, true, true, true, true, true, false, false, false, false, false, false] rfl rfl (one_of HT_.out z0) (by decide) (fun K hK => ?_)
       refine goes_ Try.func38 z0 rfl #[.agg #[.slice fK x308000_1.length fA], .int .i64 lB] (by rfl) rfl rfl z17 ?_
       with_reducible refine (spec_SplitRope.calls k1 _ _ x308000_1 lB pn jS true _ ?side1 ?side2 qQ.out).mono ?_
       (case side1 => exact y31)
       (case side2 => exact (ai a7.out).2.1)
       rintro e w85 ⟨v332, v335, rfl, ho0, ho1, hb⟩
       refine ⟨_, rfl, ?_⟩
       have HO333 := aM (aV (ak ho0 (Kd.R_lt z5)) (keep_size (w := w) (g := g) (row := none) z28))
       have lw := aM (aV (ak ho1 (Kd.R_lt z5)) (keep_size (w := w) (g := g) (row := none) z28))
       replace a7 := aM (ah (Kd.R_told (Kd.R_told (Kd.R_old z5 hb) (al ho0)) (al ho1)) (fun _ h_ => h_.1))
       replace bg := aM (bK_ bg.out hb)
       replace bc := aM (bK_ bc.out hb)
       replace bw := aM (bK_ bw.out hb)
       replace HK := aM (KeepBut.trans z28 (KeepBut.of_below hb g none) (.inl rfl))
       replace HB := aM (az z32 hb)
       replace HI0 := aM (IsS95.below z35 hb)
       (try clear hb)
       skip
       skip
       skip
       (try clear ho0)
       (try clear ho1)
       obtain ⟨o5, oW, eo86⟩ := Kd.R_slice lw.out
       (first | subst eo86 | (injection eo86 with f1_ f2_ f3_; have f4_ := f1_.symm; have f5_ := f3_.symm; clear f1_ f2_ f3_; subst f4_; subst f5_))
       refine hK.out _ _ ((bC bc.out 0).trans rfl) (fun hHeld => ?_)
       clear hK K
       refine norm_ (a' := ?_) ?_ ?_
       rotate_left
       ·show Act.put _ (some 60) _ = _
        simp only [Act.put, sA, sB, sC, i64_w, i32_w]
        rfl
       refine pA 8 52 ?_
       refine pA 9 61 ?_
       refine pA 10 62 ?_
       refine pA 11 63 ?_
       refine one_ (i := 12) (N := none) #[true, true, true, true, true, true, true, true, true, true, true, true, true, false] rfl rfl (one_of HT_.out z0) (by decide) (fun K hK => ?_)
       obtain ⟨hs87, hfs87⟩ := cc1 bw.out
       have hns87_0 := cn.out
       have hns87_1 := bU.out
       have hms87_0 := cm.out
       have hms87_1 := ck.out
       refine skip_ (w1 := ?_) (by rfl) rfl ?_ ?_
       rotate_left
       ·go_simp
        rfl
       refine hK.out _ _ (((cell_far (p := ⟨bj, _, none⟩) bU.out _).trans (hHeld))) (fun hHeld => ?_)
       clear hK K
       refine pA 13 7 ?_
       refine done_ (done_of HT_.out z0) ?_
       obtain ⟨hcz88_0, hfz88_0⟩ := cc1 bw.out
       obtain ⟨hcz89_0, hfz89_0⟩ := cc1 bc.out
       try go_wp2
       go_roundg k1
       case measure => have := HK1.out; omega
       case rel => exact ⟨(wrap64 (x5_1 - 1)), (na), (m9), (jS), (.slice o5 jS.length oW), z1, H', ⟨y0⟩, ⟨by (with_reducible repeat (first | apply ae | apply ac | apply aa)); exact ah (am (p := ⟨bn, 0, none⟩) (am (p := ⟨bj, 0, none⟩) (ap (ap lw.out bw.out (by decide)) bc.out (by decide)) (fun _ hk => hk.1.2) (.slice o5 jS.length oW)) (fun _ hk => hk.2) (.slice o5 jS.length oW)) (fun _ hk => trivial)⟩, ⟨y26⟩, ⟨by (with_reducible repeat (first | refine ar ?_ _ | refine aq ?_ | refine au ?_ _)); refine aw (cs := #[.slice fK x308000_1.length fA]) ?_ 0 _ rfl; (with_reducible repeat (first | refine ar ?_ _ | refine aq ?_ | refine au ?_ _)); refine av ?_ bU.out _; (with_reducible repeat (first | refine ar ?_ _ | refine aq ?_ | refine au ?_ _)); exact bc.out⟩, ⟨y25⟩, ⟨y21⟩, ⟨y20⟩⟩
      ·replace qA := Bool.eq_false_iff.mpr qA
       subst qA
       rw [if_neg nF_] at H
       have H' := aM H
       clear H
       have hnb90 := cy.out
       have hnc90 := cq.out
       have hnb91 := bP.out
       have hnc91 := bh.out
       obtain ⟨hcz92_0, hfz92_0⟩ := cc1 bc.out
       try go_wp2_with (first | ((with_reducible refine aK (N := 6) rfl ?_); refine aN ?hg (N := 6) ?hd (cs := #[.slice none 0 0]) (t := 29) ?hr ?_; (case hd => rfl); (case hg => rfl); (case hr => first | (go_simp; done) | (go_simp; rfl)); intro bj hg w93 hbox hb; replace a7 := aM (ag z5 hb); replace HB := aM (az (by repeat (first | (with_reducible first | exact HB.out | apply bA | apply pD | apply bD | refine ay ?_ (IsS95.ge HI0.out) | refine ay ?_ cj.out | refine ay ?_ cr.out) | exact HB.out)) hb); have bw := aM (hbox); have eG := aM ((by rw [hg]; exact (keep_size (w := w) (g := g) (row := none) z25) : w.heap.size ≤ bj)); have da := aM ((Nat.le_trans HW0.out (by rw [hg]; exact (keep_size (w := w) (g := g) (row := none) z25) : w.heap.size ≤ bj) : w0.heap.size ≤ bj)); replace HK := aM (KeepBut.trans z25 (KeepBut.of_below hb g none) (.inl rfl)); have cn := aM ((by rw [hg]; exact aC (ax (g := bx) (o := .cells #[.slice none 0 0] 29 (0, 0)) z10) : bx ≠ bj)); have cm := aM ((by rw [hg]; exact aD (ax (g := bx) (o := .cells #[.slice none 0 0] 29 (0, 0)) z10) : bj ≠ bx)); replace bg := aM (bK_ bg.out hb); have bU := aM ((by rw [hg]; exact aC (ax (g := bn) (o := .cells #[u308000] 29 (0, 0)) z11) : bn ≠ bj)); have ck := aM ((by rw [hg]; exact aD (ax (g := bn) (o := .cells #[u308000] 29 (0, 0)) z11) : bj ≠ bn)); replace bc := aM (bK_ bc.out hb); have bM := aM ((by rw [hg]; exact aC (IsS95.lt (show IsS95 w0 _ g s0_0 x1001_1 x1002_1 from by (try simp only [Int.add_zero]); repeat (first | (with_reducible first | exact HI0.out | apply IsS95.alloc | apply IsS95.drewN | apply IsS95.drew | apply IsS95.set_1 | apply IsS95.set_2 | refine IsS95.far ?_ bi.out _ | refine IsS95.far ?_ bh.out _) | exact HI0.out))) : g ≠ bj)); have cd := aM ((by rw [hg]; exact aD (IsS95.lt (show IsS95 w0 _ g s0_0 x1001_1 x1002_1 from by (try simp only [Int.add_zero]); repeat (first | (with_reducible first | exact HI0.out | apply IsS95.alloc | apply IsS95.drewN | apply IsS95.drew | apply IsS95.set_1 | apply IsS95.set_2 | refine IsS95.far ?_ bi.out _ | refine IsS95.far ?_ bh.out _) | exact HI0.out))) : bj ≠ g)); replace HI0 := aM (IsS95.below z34 hb); clear hb hbox hg; obtain ⟨gs, gq, eo94⟩ := Kd.R_slice a7.out; subst eo94; have hnb95 := cm.out; have hnc95 := cn.out; have hnb96 := ck.out; have hnc96 := bU.out; have hnb97 := cd.out; have hnc97 := bM.out; obtain ⟨hcz98_0, hfz98_0⟩ := cc1 bw.out) | ((with_reducible refine aJ (f := 86) rfl ?_); refine aQ (some 25) rfl rfl Try.func86 z0 rfl #[.pointer (some ⟨g, 0, none⟩), .int .i64 3] rfl z17 ?_; (with_reducible refine (spec_l1Cur_pick.calls g s0_0 x1001_1 x1002_1 3 eY es er w0 _ ?side1 ?side2 lR.out).mono ?_); (case side1 => exact y43); (case side2 => exact y41); rintro e w99 ⟨rfl, hi, hb, hk⟩; refine ⟨_, rfl, ?_⟩; replace a7 := aM (ah (Kd.R_keep (IsS95.apart (show IsS95 w0 _ g s0_0 x1001_1 x1002_1 from by (try simp only [Int.add_zero]); repeat (first | (with_reducible first | exact HI0.out | apply IsS95.alloc | apply IsS95.drewN | apply IsS95.drew | apply IsS95.set_1 | apply IsS95.set_2 | refine IsS95.far ?_ bi.out _ | refine IsS95.far ?_ bh.out _ | refine IsS95.far ?_ bM.out _) | exact HI0.out)) (by (with_reducible repeat (first | apply ae | apply ac | apply aa)); exact (ah (am (p := ⟨bj, 0, none⟩) (ap a7.out bw.out (by decide)) (fun _ hk => hk.2) (.slice gs x308000_1.length gq)) (fun _ h_ => h_.1))) (by decide)) hk (fun _ h => h.2)) (fun _ h => h.1)); replace bg := aM (KeepBut.blk hk (g' := bx) (o := .cells #[.slice none 0 0] 29 (0, 0)) z30 b3.out (by simp)); replace bc := aM (KeepBut.blk hk (g' := bn) (o := .cells #[.slice gs x308000_1.length gq] 29 (0, 0)) z31 bP.out (by simp)); replace bw := aM (KeepBut.blk hk (g' := bj) (o := .cells #[.slice gs x308000_1.length gq] 29 (0, 0)) z33 cd.out (by simp)); replace HK := aM (KeepBut.trans z28 hk (.inl rfl)); replace HB := aM (hb); replace HI0 := aM (hi); (try clear hb); (try clear hk); (try clear hi); (try clear cI)))
       replace a7 := aM (aa a7.out)
       replace bg := aM (aq bg.out)
       replace bc := aM (aq bc.out)
       replace bw := aM (aq bw.out)
       replace HI0 := aM (IsS95.drew HI0.out)
       replace HK := aM (keep_drew HK.out)
       replace HB := aM (bD HB.out)
       refine start_ (n := 14) (S := fun w' => w'.cell? ⟨bn, 0, none⟩ = some (.slice gs x308000_1.length gq)) (ds := []) #[false, false, false, false, false, false, false, false, false, false, false, false, false, false] z0 rfl rfl ((bC bc.out 0).trans rfl) (fun hHeld => ?_); refine with_tabW spec_l1Cur_rope.tab12 spec_l1Cur_rope.bits12 (fun HT_ HW_ => ?_)
       generalize w99.drew = w100 at a7 bg bc bw HI0 HK HB hHeld ⊢
       refine pA 1 54 ?_
       refine pA 2 55 ?_
       refine tA 0 53 ?_ (hy := by intro w' s0; go_simp; with_reducible rfl)
       refine tA 3 56 ?_ (hy := by intro w' s0; go_simp; with_reducible rfl)
       refine one_ (i := 4) (N := some 57) #[true, true, true, true, true, false, false, false, false, false, false, false, false, false] rfl rfl (one_of HT_.out z0) (by decide) (fun K hK => ?_)
       refine goes_ Try.func51 z0 rfl #[.slice gs x308000_1.length gq] (by rfl) rfl rfl z17 ?_
       with_reducible refine (spec_l12Size.calls _ _ x308000_1 jx _ ?side1 ?side2 qR.out).mono ?_
       (case side1 => exact y31)
       (case side2 => exact (ai a7.out).2.1)
       rintro e w' ⟨rfl, ⟨nd, rfl⟩⟩
       refine ⟨_, rfl, ?_⟩
       refine hK.out _ _ ((bC bc.out 0).trans rfl) (fun hHeld => ?_)
       clear hK K
       refine norm_ (a' := ?_) ?_ ?_
       rotate_left
       ·show Act.put _ (some 57) _ = _
        simp only [Act.put, sA, sB, sC, i64_w, i32_w]
        rfl
       refine pA 5 58 ?_
       refine one_ (i := 6) (N := some 59) #[true, true, true, true, true, true, true, false, false, false, false, false, false, false] rfl rfl (one_of HT_.out z0) (by decide) (fun K hK => ?_)
       refine goes_ Try.func86 z0 rfl #[.pointer (some ⟨g, 0, none⟩), .int .i64 (wrap64 (jx + 1))] (by rfl) rfl rfl z17 ?_
       with_reducible refine (spec_l1Cur_pick.calls g s0_0 es er (wrap64 (jx + 1)) lB na m9 w0 _ ?side1 ?side2 mM.out).mono ?_
       (case side1 => exact y43)
       (case side2 => exact y41)
       rintro e w101 ⟨rfl, hi, hb, hk⟩
       refine ⟨_, rfl, ?_⟩
       replace a7 := aM (ah (Kd.R_keep (IsS95.apart (show IsS95 w0 _ g s0_0 es er from by (try simp only [Int.add_zero]); repeat (first | (with_reducible first | exact HI0.out | apply IsS95.alloc | apply IsS95.drewN | apply IsS95.drew | apply IsS95.set_1 | apply IsS95.set_2 | refine IsS95.far ?_ bi.out _ | refine IsS95.far ?_ bh.out _ | refine IsS95.far ?_ bM.out _) | exact HI0.out)) z5 (by decide)) hk (fun _ h => h.2)) (fun _ h => h.1))
       replace bg := aM (KeepBut.blk hk (g' := bx) (o := .cells #[.slice none 0 0] 29 (0, 0)) z10 b3.out (by simp))
       replace bc := aM (KeepBut.blk hk (g' := bn) (o := .cells #[.slice gs x308000_1.length gq] 29 (0, 0)) z11 bP.out (by simp))
       replace bw := aM (KeepBut.blk hk (g' := bj) (o := .cells #[.slice gs x308000_1.length gq] 29 (0, 0)) z12 cd.out (by simp))
       replace HK := aM (KeepBut.trans z28 hk (.inl rfl))
       replace HB := aM (hb)
       replace HI0 := aM (hi)
       (try clear hb)
       skip
       (try clear hk)
       (try clear hi)
       (try clear cI)
       refine hK.out _ _ ((bC bc.out 0).trans rfl) (fun hHeld => ?_)
       clear hK K
       refine norm_ (a' := ?_) ?_ ?_
       rotate_left
       ·show Act.put _ (some 59) _ = _
        simp only [Act.put, sA, sB, sC, i64_w, i32_w]
        rfl
       refine one_ (i := 7) (N := some 60) #[true, true, true, true, true, true, true, true, false, false, false, false, false, false] rfl rfl (one_of HT_.out z0) (by decide) (fun K hK => ?_)
       refine goes_ Try.func38 z0 rfl #[.agg #[.slice gs x308000_1.length gq], .int .i64 lB] (by rfl) rfl rfl z17 ?_
       with_reducible refine (spec_SplitRope.calls k1 _ _ x308000_1 lB pn jS false _ ?side1 ?side2 qQ.out).mono ?_
       (case side1 => exact y31)
       (case side2 => exact (ai a7.out).2.1)
       rintro e w102 ⟨v332, v335, rfl, ho0, ho1, hb⟩
       refine ⟨_, rfl, ?_⟩
       have HO333 := aM (aV (ak ho0 (Kd.R_lt z5)) (keep_size (w := w) (g := g) (row := none) z28))
       have lw := aM (aV (ak ho1 (Kd.R_lt z5)) (keep_size (w := w) (g := g) (row := none) z28))
       replace a7 := aM (ah (Kd.R_told (Kd.R_told (Kd.R_old z5 hb) (al ho0)) (al ho1)) (fun _ h_ => h_.1))
       replace bg := aM (bK_ bg.out hb)
       replace bc := aM (bK_ bc.out hb)
       replace bw := aM (bK_ bw.out hb)
       replace HK := aM (KeepBut.trans z28 (KeepBut.of_below hb g none) (.inl rfl))
       replace HB := aM (az z32 hb)
       replace HI0 := aM (IsS95.below z35 hb)
       (try clear hb)
       skip
       skip
       skip
       (try clear ho0)
       (try clear ho1)
       obtain ⟨Ao103, co103, eo103⟩ := Kd.R_slice lw.out
       (first | subst eo103 | (injection eo103 with f1_ f2_ f3_; have f4_ := f1_.symm; have f5_ := f3_.symm; clear f1_ f2_ f3_; subst f4_; subst f5_))
       refine hK.out _ _ ((bC bc.out 0).trans rfl) (fun hHeld => ?_)
       clear hK K
       refine norm_ (a' := ?_) ?_ ?_
       rotate_left
       ·show Act.put _ (some 60) _ = _
        simp only [Act.put, sA, sB, sC, i64_w, i32_w]
        rfl
       refine pA 8 52 ?_
       refine pA 9 61 ?_
       refine pA 10 62 ?_
       refine pA 11 63 ?_
       refine one_ (i := 12) (N := none) #[true, true, true, true, true, true, true, true, true, true, true, true, true, false] rfl rfl (one_of HT_.out z0) (by decide) (fun K hK => ?_)
       obtain ⟨hs104, hfs104⟩ := cc1 bw.out
       have hns104_0 := cn.out
       have hns104_1 := bU.out
       have hms104_0 := cm.out
       have hms104_1 := ck.out
       refine skip_ (w1 := ?_) (by rfl) rfl ?_ ?_
       rotate_left
       ·go_simp
        rfl
       refine hK.out _ _ (((cell_far (p := ⟨bj, _, none⟩) bU.out _).trans (hHeld))) (fun hHeld => ?_)
       clear hK K
       refine pA 13 7 ?_
       refine done_ (done_of HT_.out z0) ?_
       try go_wp2
       go_roundg k1
       case measure => have := HK1.out; omega
       case rel => exact ⟨(wrap64 (x5_1 - 1)), (na), (m9), (x308000_1), (.slice gs x308000_1.length gq), z1, H', ⟨y0⟩, ⟨by (with_reducible repeat (first | apply ae | apply ac | apply aa)); exact ah (am (p := ⟨bj, 0, none⟩) (ap a7.out bw.out (by decide)) (fun _ hk => hk.2) (.slice Ao103 jS.length co103)) (fun _ hk => trivial)⟩, ⟨y22⟩, ⟨y23⟩, ⟨y25⟩, ⟨y21⟩, ⟨y20⟩⟩
     ·rw [if_neg nI] at H
      have c68b0 : (eY == 1) = false := qF nI
      have c68b1 : (eY != 1) = true := nT nI
      obtain ⟨jw, qz, H⟩ := oA_ H
      try dsimp only at H
      obtain ⟨⟨lA, m8, m7⟩, qy, H⟩ := oA_ H
      try dsimp only at H
      obtain ⟨⟨jR, t347⟩, qx, H⟩ := oA_ H
      try dsimp only at H
      by_cases mv : t347 = true
      ·subst mv
       rw [if_pos rfl] at H
       have H' := aM H
       clear H
       have hnb109 := cy.out
       have hnc109 := cq.out
       have hnb110 := bP.out
       have hnc110 := bh.out
       obtain ⟨hcz111_0, hfz111_0⟩ := cc1 bc.out
       try go_wp2_with (first | ((with_reducible refine aK (N := 6) rfl ?_); refine aN ?hg (N := 6) ?hd (cs := #[.slice none 0 0]) (t := 29) ?hr ?_; (case hd => rfl); (case hg => rfl); (case hr => first | (go_simp; done) | (go_simp; rfl)); intro bj hg w112 hbox hb; replace a7 := aM (ag z5 hb); replace HB := aM (az (by repeat (first | (with_reducible first | exact HB.out | apply bA | apply pD | apply bD | refine ay ?_ (IsS95.ge HI0.out) | refine ay ?_ cj.out | refine ay ?_ cr.out) | exact HB.out)) hb); have bw := aM (hbox); have eG := aM ((by rw [hg]; exact (keep_size (w := w) (g := g) (row := none) z25) : w.heap.size ≤ bj)); have da := aM ((Nat.le_trans HW0.out (by rw [hg]; exact (keep_size (w := w) (g := g) (row := none) z25) : w.heap.size ≤ bj) : w0.heap.size ≤ bj)); replace HK := aM (KeepBut.trans z25 (KeepBut.of_below hb g none) (.inl rfl)); have cn := aM ((by rw [hg]; exact aC (ax (g := bx) (o := .cells #[.slice none 0 0] 29 (0, 0)) z10) : bx ≠ bj)); have cm := aM ((by rw [hg]; exact aD (ax (g := bx) (o := .cells #[.slice none 0 0] 29 (0, 0)) z10) : bj ≠ bx)); replace bg := aM (bK_ bg.out hb); have bU := aM ((by rw [hg]; exact aC (ax (g := bn) (o := .cells #[u308000] 29 (0, 0)) z11) : bn ≠ bj)); have ck := aM ((by rw [hg]; exact aD (ax (g := bn) (o := .cells #[u308000] 29 (0, 0)) z11) : bj ≠ bn)); replace bc := aM (bK_ bc.out hb); have bM := aM ((by rw [hg]; exact aC (IsS95.lt (show IsS95 w0 _ g s0_0 x1001_1 x1002_1 from by (try simp only [Int.add_zero]); repeat (first | (with_reducible first | exact HI0.out | apply IsS95.alloc | apply IsS95.drewN | apply IsS95.drew | apply IsS95.set_1 | apply IsS95.set_2 | refine IsS95.far ?_ bi.out _ | refine IsS95.far ?_ bh.out _) | exact HI0.out))) : g ≠ bj)); have cd := aM ((by rw [hg]; exact aD (IsS95.lt (show IsS95 w0 _ g s0_0 x1001_1 x1002_1 from by (try simp only [Int.add_zero]); repeat (first | (with_reducible first | exact HI0.out | apply IsS95.alloc | apply IsS95.drewN | apply IsS95.drew | apply IsS95.set_1 | apply IsS95.set_2 | refine IsS95.far ?_ bi.out _ | refine IsS95.far ?_ bh.out _) | exact HI0.out))) : bj ≠ g)); replace HI0 := aM (IsS95.below z34 hb); clear hb hbox hg; obtain ⟨dB, dz, eo113⟩ := Kd.R_slice a7.out; subst eo113; have hnb114 := cm.out; have hnc114 := cn.out; have hnb115 := ck.out; have hnc115 := bU.out; have hnb116 := cd.out; have hnc116 := bM.out; obtain ⟨hcz117_0, hfz117_0⟩ := cc1 bw.out) | ((with_reducible refine aJ (f := 86) rfl ?_); refine aQ (some 25) rfl rfl Try.func86 z0 rfl #[.pointer (some ⟨g, 0, none⟩), .int .i64 3] rfl z17 ?_; (with_reducible refine (spec_l1Cur_pick.calls g s0_0 x1001_1 x1002_1 3 eY es er w0 _ ?side1 ?side2 lR.out).mono ?_); (case side1 => exact y43); (case side2 => exact y41); rintro e w118 ⟨rfl, hi, hb, hk⟩; refine ⟨_, rfl, ?_⟩; replace a7 := aM (ah (Kd.R_keep (IsS95.apart (show IsS95 w0 _ g s0_0 x1001_1 x1002_1 from by (try simp only [Int.add_zero]); repeat (first | (with_reducible first | exact HI0.out | apply IsS95.alloc | apply IsS95.drewN | apply IsS95.drew | apply IsS95.set_1 | apply IsS95.set_2 | refine IsS95.far ?_ bi.out _ | refine IsS95.far ?_ bh.out _ | refine IsS95.far ?_ bM.out _) | exact HI0.out)) (by (with_reducible repeat (first | apply ae | apply ac | apply aa)); exact (ah (am (p := ⟨bj, 0, none⟩) (ap a7.out bw.out (by decide)) (fun _ hk => hk.2) (.slice dB x308000_1.length dz)) (fun _ h_ => h_.1))) (by decide)) hk (fun _ h => h.2)) (fun _ h => h.1)); replace bg := aM (KeepBut.blk hk (g' := bx) (o := .cells #[.slice none 0 0] 29 (0, 0)) z30 b3.out (by simp)); replace bc := aM (KeepBut.blk hk (g' := bn) (o := .cells #[.slice dB x308000_1.length dz] 29 (0, 0)) z31 bP.out (by simp)); replace bw := aM (KeepBut.blk hk (g' := bj) (o := .cells #[.slice dB x308000_1.length dz] 29 (0, 0)) z33 cd.out (by simp)); replace HK := aM (KeepBut.trans z28 hk (.inl rfl)); replace HB := aM (hb); replace HI0 := aM (hi); (try clear hb); (try clear hk); (try clear hi); (try clear cI)))
       replace a7 := aM (aa a7.out)
       replace bg := aM (aq bg.out)
       replace bc := aM (aq bc.out)
       replace bw := aM (aq bw.out)
       replace HI0 := aM (IsS95.drew HI0.out)
       replace HK := aM (keep_drew HK.out)
       replace HB := aM (bD HB.out)
       refine start_ (n := 12) (S := fun w' => w'.cell? ⟨bn, 0, none⟩ = some (.slice dB x308000_1.length dz)) (ds := []) #[false, false, false, false, false, false, false, false, false, false, false, false] z0 rfl rfl ((bC bc.out 0).trans rfl) (fun hHeld => ?_); refine with_tabW spec_l1Cur_rope.tab7 spec_l1Cur_rope.bits7 (fun HT_ HW_ => ?_)
       generalize w118.drew = w119 at a7 bg bc bw HI0 HK HB hHeld ⊢
       refine pA 1 28 ?_
       refine pA 2 29 ?_
       refine tA 0 27 ?_ (hy := by intro w' s0; go_simp; with_reducible rfl)
       refine tA 3 30 ?_ (hy := by intro w' s0; go_simp; with_reducible rfl)
       refine one_ (i := 4) (N := some 31) #[true, true, true, true, true, false, false, false, false, false, false, false] rfl rfl (one_of HT_.out z0) (by decide) (fun K hK => ?_)
       refine goes_ Try.func54 z0 rfl #[.slice dB x308000_1.length dz] (by rfl) rfl rfl z17 ?_
       with_reducible refine (spec_l12Text.calls k1 _ _ x308000_1 jw _ ?side1 ?side2 qz.out).mono ?_
       (case side1 => exact y31)
       (case side2 => exact (ai a7.out).2.1)
       rintro e w120 ⟨rfl, hb⟩
       refine ⟨_, rfl, ?_⟩
       replace a7 := aM (ag z5 hb)
       replace bg := aM (bK_ bg.out hb)
       replace bc := aM (bK_ bc.out hb)
       replace bw := aM (bK_ bw.out hb)
       replace HK := aM (KeepBut.trans z28 (KeepBut.of_below hb g none) (.inl rfl))
       replace HB := aM (az z32 hb)
       replace HI0 := aM (IsS95.below z35 hb)
       (try clear hb)
       skip
       skip
       skip
       refine hK.out _ _ ((bC bc.out 0).trans rfl) (fun hHeld => ?_)
       clear hK K
       refine norm_ (a' := ?_) ?_ ?_
       rotate_left
       ·show Act.put _ (some 31) _ = _
        simp only [Act.put, sA, sB, sC, i64_w, i32_w]
        rfl
       refine one_ (i := 5) (N := some 32) #[true, true, true, true, true, true, false, false, false, false, false, false] rfl rfl (one_of HT_.out z0) (by decide) (fun K hK => ?_)
       refine goes_ Try.func92 z0 rfl #[.pointer (some ⟨g, 0, none⟩), .string jw] (by rfl) rfl rfl z17 ?_
       with_reducible refine (spec_l1Cur_opOn.calls k1 g s0_0 es er jw lA m8 m7 w0 _ ?side1 ?side2 qy.out).mono ?_
       (case side1 => exact y43)
       (case side2 => exact y41)
       rintro e w121 ⟨v340, rfl, ho0, hi, hb, hk⟩
       refine ⟨_, rfl, ?_⟩
       replace a7 := aM (ah (Kd.R_keep (IsS95.apart (show IsS95 w0 _ g s0_0 es er from by (try simp only [Int.add_zero]); repeat (first | (with_reducible first | exact HI0.out | apply IsS95.alloc | apply IsS95.drewN | apply IsS95.drew | apply IsS95.set_1 | apply IsS95.set_2 | refine IsS95.far ?_ bi.out _ | refine IsS95.far ?_ bh.out _ | refine IsS95.far ?_ bM.out _) | exact HI0.out)) z5 (by decide)) hk (fun _ h => h.2)) (fun _ h => h.1))
       replace bg := aM (KeepBut.blk hk (g' := bx) (o := .cells #[.slice none 0 0] 29 (0, 0)) z10 b3.out (by simp))
       replace bc := aM (KeepBut.blk hk (g' := bn) (o := .cells #[.slice dB x308000_1.length dz] 29 (0, 0)) z11 bP.out (by simp))
       replace bw := aM (KeepBut.blk hk (g' := bj) (o := .cells #[.slice dB x308000_1.length dz] 29 (0, 0)) z12 cd.out (by simp))
       have ea := aM (aV ho0 (keep_size (w := w) (g := g) (row := none) z28))
       replace HK := aM (KeepBut.trans z28 hk (.inl rfl))
       replace HB := aM (hb)
       replace HI0 := aM (hi)
       (try clear hb)
       skip
       (try clear hk)
       (try clear hi)
       (try clear ho0)
       (try clear cI)
       obtain ⟨Ao122, co122, eo122⟩ := Kd.R_slice ea.out
       (first | subst eo122 | (injection eo122 with f1_ f2_ f3_; have f4_ := f1_.symm; have f5_ := f3_.symm; clear f1_ f2_ f3_; subst f4_; subst f5_))
       refine hK.out _ _ ((bC bc.out 0).trans rfl) (fun hHeld => ?_)
       clear hK K
       refine norm_ (a' := ?_) ?_ ?_
       rotate_left
       ·show Act.put _ (some 32) _ = _
        simp only [Act.put, sA, sB, sC, i64_w, i32_w]
        rfl
       refine one_ (i := 6) (N := some 33) #[true, true, true, true, true, true, true, false, false, false, false, false] rfl rfl (one_of HT_.out z0) (by decide) (fun K hK => ?_)
       refine goes_ Try.func91 z0 rfl #[.agg #[.slice dB x308000_1.length dz], .slice Ao122 lA.length co122] (by rfl) rfl rfl z17 ?_
       with_reducible refine (spec_EditRope.calls k1 _ _ x308000_1 _ _ lA jR true _ ?side1 ?side2 ?side3 ?side4 qx.out).mono ?_
       (case side1 => exact y31)
       (case side2 => exact (ai a7.out).2.1)
       (case side3 => exact y32)
       (case side4 => exact (ai ea.out).2.1)
       rintro e w123 ⟨v345, rfl, ho0, hb⟩
       refine ⟨_, rfl, ?_⟩
       replace ea := aM (ag (kR_ ea.out) hb)
       have lv := aM (aV (ak ho0 (Kd.R_lt z5)) (keep_size (w := w) (g := g) (row := none) z28))
       replace a7 := aM (aj z5 (al ho0) hb)
       replace bg := aM (bK_ bg.out hb)
       replace bc := aM (bK_ bc.out hb)
       replace bw := aM (bK_ bw.out hb)
       replace HK := aM (KeepBut.trans z28 (KeepBut.of_below hb g none) (.inl rfl))
       replace HB := aM (az z32 hb)
       replace HI0 := aM (IsS95.below z35 hb)
       (try clear hb)
       skip
       skip
       skip
       (try clear ho0)
       obtain ⟨mL, mu, eo124⟩ := Kd.R_slice lv.out
       (first | subst eo124 | (injection eo124 with f1_ f2_ f3_; have f4_ := f1_.symm; have f5_ := f3_.symm; clear f1_ f2_ f3_; subst f4_; subst f5_))
       refine hK.out _ _ ((bC bc.out 0).trans rfl) (fun hHeld => ?_)
       clear hK K
       refine norm_ (a' := ?_) ?_ ?_
       rotate_left
       ·show Act.put _ (some 33) _ = _
        simp only [Act.put, sA, sB, sC, i64_w, i32_w]
        rfl
       refine pA 7 26 ?_
       refine pA 8 34 ?_
       refine pA 9 35 ?_
       refine one_ (i := 10) (N := none) #[true, true, true, true, true, true, true, true, true, true, true, false] rfl rfl (one_of HT_.out z0) (by decide) (fun K hK => ?_)
       obtain ⟨hs125, hfs125⟩ := cc1 bw.out
       have hns125_0 := cn.out
       have hns125_1 := bU.out
       have hms125_0 := cm.out
       have hms125_1 := ck.out
       refine skip_ (w1 := ?_) (by rfl) rfl ?_ ?_
       rotate_left
       ·go_simp
        rfl
       refine hK.out _ _ (((cell_far (p := ⟨bj, _, none⟩) bU.out _).trans (hHeld))) (fun hHeld => ?_)
       clear hK K
       refine pA 11 7 ?_
       refine done_ (done_of HT_.out z0) ?_
       obtain ⟨hcz126_0, hfz126_0⟩ := cc1 bw.out
       obtain ⟨hcz127_0, hfz127_0⟩ := cc1 bc.out
       try go_wp2
       go_roundg k1
       case measure => have := HK1.out; omega
       case rel => exact ⟨(wrap64 (x5_1 - 1)), (m8), (m7), (jR), (.slice mL jR.length mu), z1, H', ⟨y0⟩, ⟨by (with_reducible repeat (first | apply ae | apply ac | apply aa)); exact ah (am (p := ⟨bn, 0, none⟩) (am (p := ⟨bj, 0, none⟩) (ap (ap lv.out bw.out (by decide)) bc.out (by decide)) (fun _ hk => hk.1.2) (.slice mL jR.length mu)) (fun _ hk => hk.2) (.slice mL jR.length mu)) (fun _ hk => trivial)⟩, ⟨y26⟩, ⟨by (with_reducible repeat (first | refine ar ?_ _ | refine aq ?_ | refine au ?_ _)); refine aw (cs := #[.slice dB x308000_1.length dz]) ?_ 0 _ rfl; (with_reducible repeat (first | refine ar ?_ _ | refine aq ?_ | refine au ?_ _)); refine av ?_ bU.out _; (with_reducible repeat (first | refine ar ?_ _ | refine aq ?_ | refine au ?_ _)); exact bc.out⟩, ⟨y25⟩, ⟨y21⟩, ⟨y20⟩⟩
      ·replace mv := Bool.eq_false_iff.mpr mv
       subst mv
       rw [if_neg nF_] at H
       have H' := aM H
       clear H
       have hnb128 := cy.out
       have hnc128 := cq.out
       have hnb129 := bP.out
       have hnc129 := bh.out
       obtain ⟨hcz130_0, hfz130_0⟩ := cc1 bc.out
       try go_wp2_with (first | ((with_reducible refine aK (N := 6) rfl ?_); refine aN ?hg (N := 6) ?hd (cs := #[.slice none 0 0]) (t := 29) ?hr ?_; (case hd => rfl); (case hg => rfl); (case hr => first | (go_simp; done) | (go_simp; rfl)); intro bj hg w131 hbox hb; replace a7 := aM (ag z5 hb); replace HB := aM (az (by repeat (first | (with_reducible first | exact HB.out | apply bA | apply pD | apply bD | refine ay ?_ (IsS95.ge HI0.out) | refine ay ?_ cj.out | refine ay ?_ cr.out) | exact HB.out)) hb); have bw := aM (hbox); have eG := aM ((by rw [hg]; exact (keep_size (w := w) (g := g) (row := none) z25) : w.heap.size ≤ bj)); have da := aM ((Nat.le_trans HW0.out (by rw [hg]; exact (keep_size (w := w) (g := g) (row := none) z25) : w.heap.size ≤ bj) : w0.heap.size ≤ bj)); replace HK := aM (KeepBut.trans z25 (KeepBut.of_below hb g none) (.inl rfl)); have cn := aM ((by rw [hg]; exact aC (ax (g := bx) (o := .cells #[.slice none 0 0] 29 (0, 0)) z10) : bx ≠ bj)); have cm := aM ((by rw [hg]; exact aD (ax (g := bx) (o := .cells #[.slice none 0 0] 29 (0, 0)) z10) : bj ≠ bx)); replace bg := aM (bK_ bg.out hb); have bU := aM ((by rw [hg]; exact aC (ax (g := bn) (o := .cells #[u308000] 29 (0, 0)) z11) : bn ≠ bj)); have ck := aM ((by rw [hg]; exact aD (ax (g := bn) (o := .cells #[u308000] 29 (0, 0)) z11) : bj ≠ bn)); replace bc := aM (bK_ bc.out hb); have bM := aM ((by rw [hg]; exact aC (IsS95.lt (show IsS95 w0 _ g s0_0 x1001_1 x1002_1 from by (try simp only [Int.add_zero]); repeat (first | (with_reducible first | exact HI0.out | apply IsS95.alloc | apply IsS95.drewN | apply IsS95.drew | apply IsS95.set_1 | apply IsS95.set_2 | refine IsS95.far ?_ bi.out _ | refine IsS95.far ?_ bh.out _) | exact HI0.out))) : g ≠ bj)); have cd := aM ((by rw [hg]; exact aD (IsS95.lt (show IsS95 w0 _ g s0_0 x1001_1 x1002_1 from by (try simp only [Int.add_zero]); repeat (first | (with_reducible first | exact HI0.out | apply IsS95.alloc | apply IsS95.drewN | apply IsS95.drew | apply IsS95.set_1 | apply IsS95.set_2 | refine IsS95.far ?_ bi.out _ | refine IsS95.far ?_ bh.out _) | exact HI0.out))) : bj ≠ g)); replace HI0 := aM (IsS95.below z34 hb); clear hb hbox hg; obtain ⟨dP, dL, eo132⟩ := Kd.R_slice a7.out; subst eo132; have hnb133 := cm.out; have hnc133 := cn.out; have hnb134 := ck.out; have hnc134 := bU.out; have hnb135 := cd.out; have hnc135 := bM.out; obtain ⟨hcz136_0, hfz136_0⟩ := cc1 bw.out) | ((with_reducible refine aJ (f := 86) rfl ?_); refine aQ (some 25) rfl rfl Try.func86 z0 rfl #[.pointer (some ⟨g, 0, none⟩), .int .i64 3] rfl z17 ?_; (with_reducible refine (spec_l1Cur_pick.calls g s0_0 x1001_1 x1002_1 3 eY es er w0 _ ?side1 ?side2 lR.out).mono ?_); (case side1 => exact y43); (case side2 => exact y41); rintro e w137 ⟨rfl, hi, hb, hk⟩; refine ⟨_, rfl, ?_⟩; replace a7 := aM (ah (Kd.R_keep (IsS95.apart (show IsS95 w0 _ g s0_0 x1001_1 x1002_1 from by (try simp only [Int.add_zero]); repeat (first | (with_reducible first | exact HI0.out | apply IsS95.alloc | apply IsS95.drewN | apply IsS95.drew | apply IsS95.set_1 | apply IsS95.set_2 | refine IsS95.far ?_ bi.out _ | refine IsS95.far ?_ bh.out _ | refine IsS95.far ?_ bM.out _) | exact HI0.out)) (by (with_reducible repeat (first | apply ae | apply ac | apply aa)); exact (ah (am (p := ⟨bj, 0, none⟩) (ap a7.out bw.out (by decide)) (fun _ hk => hk.2) (.slice dP x308000_1.length dL)) (fun _ h_ => h_.1))) (by decide)) hk (fun _ h => h.2)) (fun _ h => h.1)); replace bg := aM (KeepBut.blk hk (g' := bx) (o := .cells #[.slice none 0 0] 29 (0, 0)) z30 b3.out (by simp)); replace bc := aM (KeepBut.blk hk (g' := bn) (o := .cells #[.slice dP x308000_1.length dL] 29 (0, 0)) z31 bP.out (by simp)); replace bw := aM (KeepBut.blk hk (g' := bj) (o := .cells #[.slice dP x308000_1.length dL] 29 (0, 0)) z33 cd.out (by simp)); replace HK := aM (KeepBut.trans z28 hk (.inl rfl)); replace HB := aM (hb); replace HI0 := aM (hi); (try clear hb); (try clear hk); (try clear hi); (try clear cI)))
       replace a7 := aM (aa a7.out)
       replace bg := aM (aq bg.out)
       replace bc := aM (aq bc.out)
       replace bw := aM (aq bw.out)
       replace HI0 := aM (IsS95.drew HI0.out)
       replace HK := aM (keep_drew HK.out)
       replace HB := aM (bD HB.out)
       refine start_ (n := 12) (S := fun w' => w'.cell? ⟨bn, 0, none⟩ = some (.slice dP x308000_1.length dL)) (ds := []) #[false, false, false, false, false, false, false, false, false, false, false, false] z0 rfl rfl ((bC bc.out 0).trans rfl) (fun hHeld => ?_); refine with_tabW spec_l1Cur_rope.tab7 spec_l1Cur_rope.bits7 (fun HT_ HW_ => ?_)
       generalize w137.drew = w138 at a7 bg bc bw HI0 HK HB hHeld ⊢
       refine pA 1 28 ?_
       refine pA 2 29 ?_
       refine tA 0 27 ?_ (hy := by intro w' s0; go_simp; with_reducible rfl)
       refine tA 3 30 ?_ (hy := by intro w' s0; go_simp; with_reducible rfl)
       refine one_ (i := 4) (N := some 31) #[true, true, true, true, true, false, false, false, false, false, false, false] rfl rfl (one_of HT_.out z0) (by decide) (fun K hK => ?_)
       refine goes_ Try.func54 z0 rfl #[.slice dP x308000_1.length dL] (by rfl) rfl rfl z17 ?_
       with_reducible refine (spec_l12Text.calls k1 _ _ x308000_1 jw _ ?side1 ?side2 qz.out).mono ?_
       (case side1 => exact y31)
       (case side2 => exact (ai a7.out).2.1)
       rintro e w139 ⟨rfl, hb⟩
       refine ⟨_, rfl, ?_⟩
       replace a7 := aM (ag z5 hb)
       replace bg := aM (bK_ bg.out hb)
       replace bc := aM (bK_ bc.out hb)
       replace bw := aM (bK_ bw.out hb)
       replace HK := aM (KeepBut.trans z28 (KeepBut.of_below hb g none) (.inl rfl))
       replace HB := aM (az z32 hb)
       replace HI0 := aM (IsS95.below z35 hb)
       (try clear hb)
       skip
       skip
       skip
       refine hK.out _ _ ((bC bc.out 0).trans rfl) (fun hHeld => ?_)
       clear hK K
       refine norm_ (a' := ?_) ?_ ?_
       rotate_left
       ·show Act.put _ (some 31) _ = _
        simp only [Act.put, sA, sB, sC, i64_w, i32_w]
        rfl
       refine one_ (i := 5) (N := some 32) #[true, true, true, true, true, true, false, false, false, false, false, false] rfl rfl (one_of HT_.out z0) (by decide) (fun K hK => ?_)
       refine goes_ Try.func92 z0 rfl #[.pointer (some ⟨g, 0, none⟩), .string jw] (by rfl) rfl rfl z17 ?_
       with_reducible refine (spec_l1Cur_opOn.calls k1 g s0_0 es er jw lA m8 m7 w0 _ ?side1 ?side2 qy.out).mono ?_
       (case side1 => exact y43)
       (case side2 => exact y41)
       rintro e w140 ⟨v340, rfl, ho0, hi, hb, hk⟩
       refine ⟨_, rfl, ?_⟩
       replace a7 := aM (ah (Kd.R_keep (IsS95.apart (show IsS95 w0 _ g s0_0 es er from by (try simp only [Int.add_zero]); repeat (first | (with_reducible first | exact HI0.out | apply IsS95.alloc | apply IsS95.drewN | apply IsS95.drew | apply IsS95.set_1 | apply IsS95.set_2 | refine IsS95.far ?_ bi.out _ | refine IsS95.far ?_ bh.out _ | refine IsS95.far ?_ bM.out _) | exact HI0.out)) z5 (by decide)) hk (fun _ h => h.2)) (fun _ h => h.1))
       replace bg := aM (KeepBut.blk hk (g' := bx) (o := .cells #[.slice none 0 0] 29 (0, 0)) z10 b3.out (by simp))
       replace bc := aM (KeepBut.blk hk (g' := bn) (o := .cells #[.slice dP x308000_1.length dL] 29 (0, 0)) z11 bP.out (by simp))
       replace bw := aM (KeepBut.blk hk (g' := bj) (o := .cells #[.slice dP x308000_1.length dL] 29 (0, 0)) z12 cd.out (by simp))
       have ea := aM (aV ho0 (keep_size (w := w) (g := g) (row := none) z28))
       replace HK := aM (KeepBut.trans z28 hk (.inl rfl))
       replace HB := aM (hb)
       replace HI0 := aM (hi)
       (try clear hb)
       skip
       (try clear hk)
       (try clear hi)
       (try clear ho0)
       (try clear cI)
       obtain ⟨Ao141, co141, eo141⟩ := Kd.R_slice ea.out
       (first | subst eo141 | (injection eo141 with f1_ f2_ f3_; have f4_ := f1_.symm; have f5_ := f3_.symm; clear f1_ f2_ f3_; subst f4_; subst f5_))
       refine hK.out _ _ ((bC bc.out 0).trans rfl) (fun hHeld => ?_)
       clear hK K
       refine norm_ (a' := ?_) ?_ ?_
       rotate_left
       ·show Act.put _ (some 32) _ = _
        simp only [Act.put, sA, sB, sC, i64_w, i32_w]
        rfl
       refine one_ (i := 6) (N := some 33) #[true, true, true, true, true, true, true, false, false, false, false, false] rfl rfl (one_of HT_.out z0) (by decide) (fun K hK => ?_)
       refine goes_ Try.func91 z0 rfl #[.agg #[.slice dP x308000_1.length dL], .slice Ao141 lA.length co141] (by rfl) rfl rfl z17 ?_
       with_reducible refine (spec_EditRope.calls k1 _ _ x308000_1 _ _ lA jR false _ ?side1 ?side2 ?side3 ?side4 qx.out).mono ?_
       (case side1 => exact y31)
       (case side2 => exact (ai a7.out).2.1)
       (case side3 => exact y32)
       (case side4 => exact (ai ea.out).2.1)
       rintro e w142 ⟨v345, rfl, ho0, hb⟩
       refine ⟨_, rfl, ?_⟩
       replace ea := aM (ag (kR_ ea.out) hb)
       have lv := aM (aV (ak ho0 (Kd.R_lt z5)) (keep_size (w := w) (g := g) (row := none) z28))
       replace a7 := aM (aj z5 (al ho0) hb)
       replace bg := aM (bK_ bg.out hb)
       replace bc := aM (bK_ bc.out hb)
       replace bw := aM (bK_ bw.out hb)
       replace HK := aM (KeepBut.trans z28 (KeepBut.of_below hb g none) (.inl rfl))
       replace HB := aM (az z32 hb)
       replace HI0 := aM (IsS95.below z35 hb)
       (try clear hb)
       skip
       skip
       skip
       (try clear ho0)
       obtain ⟨Ao143, co143, eo143⟩ := Kd.R_slice lv.out
       (first | subst eo143 | (injection eo143 with f1_ f2_ f3_; have f4_ := f1_.symm; have f5_ := f3_.symm; clear f1_ f2_ f3_; subst f4_; subst f5_))
       refine hK.out _ _ ((bC bc.out 0).trans rfl) (fun hHeld => ?_)
       clear hK K
       refine norm_ (a' := ?_) ?_ ?_
       rotate_left
       ·show Act.put _ (some 33) _ = _
        simp only [Act.put, sA, sB, sC, i64_w, i32_w]
        rfl
       refine pA 7 26 ?_
       refine pA 8 34 ?_
       refine pA 9 35 ?_
       refine one_ (i := 10) (N := none) #[true, true, true, true, true, true, true, true, true, true, true, false] rfl rfl (one_of HT_.out z0) (by decide) (fun K hK => ?_)
       obtain ⟨hs144, hfs144⟩ := cc1 bw.out
       have hns144_0 := cn.out
       have hns144_1 := bU.out
       have hms144_0 := cm.out
       have hms144_1 := ck.out
       refine skip_ (w1 := ?_) (by rfl) rfl ?_ ?_
       rotate_left
       ·go_simp
        rfl
       refine hK.out _ _ (((cell_far (p := ⟨bj, _, none⟩) bU.out _).trans (hHeld))) (fun hHeld => ?_)
       clear hK K
       refine pA 11 7 ?_
       refine done_ (done_of HT_.out z0) ?_
       try go_wp2
       go_roundg k1
       case measure => have := HK1.out; omega
       case rel => exact ⟨(wrap64 (x5_1 - 1)), (m8), (m7), (x308000_1), (.slice dP x308000_1.length dL), z1, H', ⟨y0⟩, ⟨by (with_reducible repeat (first | apply ae | apply ac | apply aa)); exact ah (am (p := ⟨bj, 0, none⟩) (ap a7.out bw.out (by decide)) (fun _ hk => hk.2) (.slice Ao143 jR.length co143)) (fun _ hk => trivial)⟩, ⟨y22⟩, ⟨y23⟩, ⟨y25⟩, ⟨y21⟩, ⟨y20⟩⟩
   ·rw [if_neg ex] at H
    have c14b0 : decide (0 < x5_1) = false := dF ex
    clear ex
    have mH := aM H
    clear H
    go_upto_region 15 with (fail)
    go_cut [73] (fun v73 wc => ∃ (kq : Nat) (x73_144 : Bool) (x1001_144 : Int) (x1002_144 : Int), v73 = .bool x73_144 ∧ Aside0 (spec_l1Cur_rope.j1 kq x73_144 s0_0 x1001_144 x1002_144 x308000_1 = some (r1, r2, r3)) ∧ Aside0 (kq ≤ k1) ∧ Aside0 (Kd.R k58 58 wc w.heap.size (fun _ => True) u308000 x308000_1) ∧ Aside0 (wc.heap[bx]? = some (.cells #[(.slice none 0 0)] 29 (0, 0))) ∧ Aside0 (wc.heap[bn]? = some (.cells #[u308000] 29 (0, 0))) ∧ Aside0 (IsS95 w0 wc g s0_0 x1001_144 x1002_144) ∧ Aside0 (KeepBut w wc g none) ∧ Aside0 (Below w0.heap.size w0 wc))
    case first =>
     have H := mH.out
     clear mH
     by_cases j9 : (x308000_1.length : Int) > 0
     ·rw [if_pos j9] at H
      have c146b0 : decide (0 < (x308000_1.length : Int)) = true := dT j9
      have c146b1 : decide (0 < x308000_1.length) = true := dT (by omega)
      clear j9
      (first | rw [c146b0] | (simp only [i64_w, i32_w]; rw [c146b0]) | skip)
      obtain ⟨⟨pm, pl, pk⟩, A147, H⟩ := oA_ H
      try dsimp only at H
      have H' := aM H
      clear H
      have hnb148 := cy.out
      have hnc148 := cq.out
      have hnb149 := bP.out
      have hnc149 := bh.out
      obtain ⟨hcz150_0, hfz150_0⟩ := cc1 bc.out
      obtain ⟨Ao151, co151, eo151⟩ := Kd.R_slice a7.out
      subst eo151
      go_wp2_with (first | (go_at_call 88; (with_reducible refine (spec_l1Cur_one.calls g s0_0 x1001_1 x1002_1 20 pm pl pk w0 _ ?side1 ?side2 A147.out).mono ?_); (case side1 => exact y42); (case side2 => exact y40); rintro e w152 ⟨rfl, hi, hb, hk⟩; replace a7 := aM (ah (Kd.R_keep (IsS95.apart (show IsS95 w0 _ g s0_0 x1001_1 x1002_1 from by (try simp only [Int.add_zero]); repeat (first | (with_reducible first | exact HI0.out | apply IsS95.alloc | apply IsS95.drewN | apply IsS95.drew | apply IsS95.set_1 | apply IsS95.set_2 | refine IsS95.far ?_ bi.out _ | refine IsS95.far ?_ bh.out _) | exact HI0.out)) z5 (by decide)) hk (fun _ h => h.2)) (fun _ h => h.1)); replace bg := aM (KeepBut.blk hk (g' := bx) (o := .cells #[.slice none 0 0] 29 (0, 0)) z10 b3.out (by simp)); replace bc := aM (KeepBut.blk hk (g' := bn) (o := .cells #[.slice Ao151 x308000_1.length co151] 29 (0, 0)) z11 bP.out (by simp)); replace HK := aM (KeepBut.trans z25 hk (.inl rfl)); replace HB := aM (hb); replace HI0 := aM (hi); (try clear hb); (try clear hk); (try clear hi); (try clear cI)))
      go_meet
      case rel => exact ⟨_, (pm), (pl), (pk), z1, H', ⟨y2⟩, ⟨kR_ a7.out⟩, ⟨kB_ bg.out⟩, ⟨kB_ bc.out⟩, ⟨y24⟩, ⟨y19⟩, ⟨y18⟩⟩
     ·rw [if_neg j9] at H
      have c146b0 : decide (0 < (x308000_1.length : Int)) = false := dF j9
      have c146b1 : decide (0 < x308000_1.length) = false := dF (by omega)
      clear j9
      (first | rw [c146b0] | (simp only [i64_w, i32_w]; rw [c146b0]) | skip)
      have H' := aM H
      clear H
      have hnb153 := cy.out
      have hnc153 := cq.out
      have hnb154 := bP.out
      have hnc154 := bh.out
      obtain ⟨hcz155_0, hfz155_0⟩ := cc1 bc.out
      obtain ⟨Ao156, co156, eo156⟩ := Kd.R_slice a7.out
      subst eo156
      go_wp2
      go_meet
      case rel => exact ⟨_, (false), (x1001_1), (x1002_1), z1, H', ⟨y2⟩, ⟨kR_ a7.out⟩, ⟨kB_ bg.out⟩, ⟨kB_ bc.out⟩, ⟨y24⟩, ⟨y19⟩, ⟨y18⟩⟩
    case rest =>
     clear mH
     try clear c1
     try clear p2
     try clear c8
     try clear c9
     try clear cS
     try clear dk
     try clear ex
     try clear c14b0
     obtain ⟨kq, x73_144, x1001_144, x1002_144, rfl, HA, HJ144, a7, bg, bc, HI0, HK, HB⟩ := hcut
     cases kq with
     | zero => exact absurd HA.out (by simp [spec_l1Cur_rope.j1])
     | succ kj144 =>
      have H := HA.out
      clear HA
      simp only [spec_l1Cur_rope.j1] at H
      by_cases nw : x73_144 = true
      ·subst nw
       rw [if_pos rfl] at H
       obtain ⟨⟨bq, iQ, iP⟩, o8, H⟩ := oA_ H
       try dsimp only at H
       obtain ⟨⟨fN, jv, ju⟩, o7, H⟩ := oA_ H
       try dsimp only at H
       by_cases j8 : fN = 0
       ·rw [if_pos j8] at H
        have c160b0 : (fN == 0) = true := qT j8
        have c160b1 : (fN != 0) = false := nF j8
        clear j8
        by_cases nv : 0 ≤ bq
        ·rw [if_pos nv] at H
         have c161b0 : decide (0 ≤ bq) = true := dT nv
         clear nv
         by_cases nu : bq < (x308000_1.length : Int)
         ·rw [if_pos nu] at H
          have c162b0 : decide (bq < (x308000_1.length : Int)) = true := dT nu
          clear nu
          obtain ⟨⟨gp, oG, oF⟩, A163, H⟩ := oA_ H
          try dsimp only at H
          obtain ⟨y361, hy361⟩ : ∃ y_ : List (S58), y_ = (x308000_1.set (bq : Int).toNat (⟨(rd_T58 x308000_1 bq).f0, (rd_T58 x308000_1 bq).f1, (rd_T58 x308000_1 bq).f2, wrap64 (((rd_T58 x308000_1 bq).f3) + (wrap64 (gp - 1))), (rd_T58 x308000_1 bq).f4⟩ : S58)) := ⟨_, rfl⟩
          replace H : (some (y361, oG, oF)) = some (r1, r2, r3) := by first | (rw [hy361]; with_reducible exact H) | (have H2_ := (Option.bind_some _ _).symm.trans H; rw [hy361]; with_reducible exact H2_) | (have H2_ := (Option.bind_some _ _).symm.trans H; with_reducible exact H2_) | with_reducible exact H | (rw [hy361]; exact H) | exact H
          have Ny361 := aM hy361
          clear hy361
          simp only [Option.some.injEq, Prod.mk.injEq] at H
          obtain ⟨rfl, rfl, rfl⟩ := H
          have hnb165 := cy.out
          have hnc165 := cq.out
          have hnb166 := bP.out
          have hnc166 := bh.out
          obtain ⟨hcz167_0, hfz167_0⟩ := cc1 bc.out
          obtain ⟨oh, fE, eo168⟩ := Kd.R_slice a7.out
          subst eo168
          try go_wp2_with (first | ((with_reducible refine aJ (f := 86) rfl ?_); refine aQ (some 78) rfl rfl Try.func86 z0 rfl #[.pointer (some ⟨g, 0, none⟩), .int .i64 (x308000_1.length : Int)] rfl z17 ?_; (with_reducible refine (spec_l1Cur_pick.calls g s0_0 x1001_144 x1002_144 (x308000_1.length : Int) bq iQ iP w0 _ ?side1 ?side2 o8.out).mono ?_); (case side1 => exact y42); (case side2 => exact y40); rintro e w169 ⟨rfl, hi, hb, hk⟩; refine ⟨_, rfl, ?_⟩; replace a7 := aM (ah (Kd.R_keep (IsS95.apart (show IsS95 w0 _ g s0_0 x1001_144 x1002_144 from by (try simp only [Int.add_zero]); repeat (first | (with_reducible first | exact HI0.out | apply IsS95.alloc | apply IsS95.drewN | apply IsS95.drew | apply IsS95.set_1 | apply IsS95.set_2 | refine IsS95.far ?_ bi.out _ | refine IsS95.far ?_ bh.out _) | exact HI0.out)) z5 (by decide)) hk (fun _ h => h.2)) (fun _ h => h.1)); replace bg := aM (KeepBut.blk hk (g' := bx) (o := .cells #[.slice none 0 0] 29 (0, 0)) z10 b3.out (by simp)); replace bc := aM (KeepBut.blk hk (g' := bn) (o := .cells #[.slice oh x308000_1.length fE] 29 (0, 0)) z11 bP.out (by simp)); replace HK := aM (KeepBut.trans z25 hk (.inl rfl)); replace HB := aM (hb); replace HI0 := aM (hi); (try clear hb); (try clear hk); (try clear hi); (try clear cI)) | ((with_reducible refine aJ (f := 86) rfl ?_); refine aQ (some 80) rfl rfl Try.func86 z0 rfl #[.pointer (some ⟨g, 0, none⟩), .int .i64 3] rfl z17 ?_; (with_reducible refine (spec_l1Cur_pick.calls g s0_0 iQ iP 3 fN jv ju w0 _ ?side1 ?side2 o7.out).mono ?_); (case side1 => exact y42); (case side2 => exact y40); rintro e w170 ⟨rfl, hi, hb, hk⟩; refine ⟨_, rfl, ?_⟩; replace a7 := aM (ah (Kd.R_keep (IsS95.apart (show IsS95 w0 _ g s0_0 iQ iP from by (try simp only [Int.add_zero]); repeat (first | (with_reducible first | exact HI0.out | apply IsS95.alloc | apply IsS95.drewN | apply IsS95.drew | apply IsS95.set_1 | apply IsS95.set_2 | refine IsS95.far ?_ bi.out _ | refine IsS95.far ?_ bh.out _) | exact HI0.out)) z5 (by decide)) hk (fun _ h => h.2)) (fun _ h => h.1)); replace bg := aM (KeepBut.blk hk (g' := bx) (o := .cells #[.slice none 0 0] 29 (0, 0)) z10 b3.out (by simp)); replace bc := aM (KeepBut.blk hk (g' := bn) (o := .cells #[.slice oh x308000_1.length fE] 29 (0, 0)) z11 bP.out (by simp)); replace HK := aM (KeepBut.trans z25 hk (.inl rfl)); replace HB := aM (hb); replace HI0 := aM (hi); (try clear hb); (try clear hk); (try clear hi); (try clear cI)))
          replace a7 := aM (aa a7.out)
          replace bg := aM (aq bg.out)
          replace bc := aM (aq bc.out)
          replace HI0 := aM (IsS95.drew HI0.out)
          replace HK := aM (keep_drew HK.out)
          replace HB := aM (bD HB.out)
          have p357 : 0 ≤ (bq : Int) := oD z2
          have q357 : bq < (x308000_1.length : Int) := oD z2
          obtain ⟨ad357, e357, hx357_0, hx357_1, hx357_2, hx357_3, hx357_4⟩ := at_T58 (ai a7.out).2.2 bq p357 q357
          cases e357
          replace p357 := eq_true p357
          replace q357 := eq_true q357
          refine start_ (n := 13) (S := fun w' => w'.cell? ⟨bn, 0, none⟩ = some (.slice (some ad357) x308000_1.length fE) ∧ w'.cell? (ad357.add ((bq).toNat * 5)) = some (.int .i64 ((rd_T58 x308000_1 bq).f0)) ∧ w'.cell? ⟨(ad357.add ((bq).toNat * 5)).block, (ad357.add ((bq).toNat * 5)).off + 1, none⟩ = some (.int .i64 ((rd_T58 x308000_1 bq).f1)) ∧ w'.cell? ⟨(ad357.add ((bq).toNat * 5)).block, (ad357.add ((bq).toNat * 5)).off + 2, none⟩ = some (.string ((rd_T58 x308000_1 bq).f2)) ∧ w'.cell? ⟨(ad357.add ((bq).toNat * 5)).block, (ad357.add ((bq).toNat * 5)).off + 3, none⟩ = some (.int .i64 ((rd_T58 x308000_1 bq).f3)) ∧ w'.cell? ⟨(ad357.add ((bq).toNat * 5)).block, (ad357.add ((bq).toNat * 5)).off + 4, none⟩ = some (.int .i64 ((rd_T58 x308000_1 bq).f4))) (ds := [12]) #[false, false, false, false, false, false, false, false, false, false, false, false, false] z0 rfl rfl ⟨(bC bc.out 0).trans rfl, hx357_0, hx357_1, hx357_2, hx357_3, hx357_4⟩ (fun hHeld => ?_); refine with_tabW spec_l1Cur_rope.tab20 spec_l1Cur_rope.bits20 (fun HT_ HW_ => ?_)
          (first | generalize w170.drew = w171 at a7 bg bc HI0 HK HB hx357_0 hx357_1 hx357_2 hx357_3 hx357_4 hHeld ⊢ | generalize w170.drew = w171 at a7 bg bc HI0 HK HB hHeld ⊢)
          refine pA 0 92 ?_
          refine pA 2 94 ?_
          refine pA 6 98 ?_
          refine t6_ 1 93 ?_
          refine pA 3 95 ?_
          refine pA 4 96 ?_
          refine t6_ 5 97 ?_
          refine one_ (i := 7) (N := some 99) #[true, true, true, true, true, true, true, true, false, false, false, false, false] rfl rfl (one_of HT_.out z0) (by decide) (fun K hK => ?_)
          refine goes_ Try.func86 z0 rfl #[.pointer (some ⟨g, 0, none⟩), .int .i64 3] (by rfl) rfl rfl z17 ?_
          with_reducible refine (spec_l1Cur_pick.calls g s0_0 jv ju 3 gp oG oF w0 _ ?side1 ?side2 A163.out).mono ?_
          (case side1 => exact y42)
          (case side2 => exact y40)
          rintro e w172 ⟨rfl, hi, hb, hk⟩
          have HS1_ := keep_cell hk (hHeld.2.1) (by first | (rw [add_block]; exact Kd.own_blk (IsS95.own_ne HI0.out a7.out (by decide))) | (show (Addr.add _ _).block ≠ _; rw [add_block]; exact Kd.own_blk (IsS95.own_ne HI0.out a7.out (by decide))) | exact Kd.own_blk (IsS95.own_ne HI0.out a7.out (by decide)))
          have HS2_ := keep_cell hk (hHeld.2.2.1) (by first | (rw [add_block]; exact Kd.own_blk (IsS95.own_ne HI0.out a7.out (by decide))) | (show (Addr.add _ _).block ≠ _; rw [add_block]; exact Kd.own_blk (IsS95.own_ne HI0.out a7.out (by decide))) | exact Kd.own_blk (IsS95.own_ne HI0.out a7.out (by decide)))
          have HS3_ := keep_cell hk (hHeld.2.2.2.1) (by first | (rw [add_block]; exact Kd.own_blk (IsS95.own_ne HI0.out a7.out (by decide))) | (show (Addr.add _ _).block ≠ _; rw [add_block]; exact Kd.own_blk (IsS95.own_ne HI0.out a7.out (by decide))) | exact Kd.own_blk (IsS95.own_ne HI0.out a7.out (by decide)))
          have HS4_ := keep_cell hk (hHeld.2.2.2.2.1) (by first | (rw [add_block]; exact Kd.own_blk (IsS95.own_ne HI0.out a7.out (by decide))) | (show (Addr.add _ _).block ≠ _; rw [add_block]; exact Kd.own_blk (IsS95.own_ne HI0.out a7.out (by decide))) | exact Kd.own_blk (IsS95.own_ne HI0.out a7.out (by decide)))
          have HS5_ := keep_cell hk (hHeld.2.2.2.2.2) (by first | (rw [add_block]; exact Kd.own_blk (IsS95.own_ne HI0.out a7.out (by decide))) | (show (Addr.add _ _).block ≠ _; rw [add_block]; exact Kd.own_blk (IsS95.own_ne HI0.out a7.out (by decide))) | exact Kd.own_blk (IsS95.own_ne HI0.out a7.out (by decide)))
          refine ⟨_, rfl, ?_⟩
          replace a7 := aM (ah (Kd.R_keep (IsS95.apart (show IsS95 w0 _ g s0_0 jv ju from by (try simp only [Int.add_zero]); repeat (first | (with_reducible first | exact HI0.out | apply IsS95.alloc | apply IsS95.drewN | apply IsS95.drew | apply IsS95.set_1 | apply IsS95.set_2 | refine IsS95.far ?_ bi.out _ | refine IsS95.far ?_ bh.out _) | exact HI0.out)) z5 (by decide)) hk (fun _ h => h.2)) (fun _ h => h.1))
          replace bg := aM (KeepBut.blk hk (g' := bx) (o := .cells #[.slice none 0 0] 29 (0, 0)) z10 b3.out (by simp))
          replace bc := aM (KeepBut.blk hk (g' := bn) (o := .cells #[.slice (some ad357) x308000_1.length fE] 29 (0, 0)) z11 bP.out (by simp))
          replace HK := aM (KeepBut.trans z25 hk (.inl rfl))
          replace HB := aM (hb)
          replace HI0 := aM (hi)
          (try clear hb)
          skip
          (try clear hk)
          (try clear hi)
          (try clear cI)
          have p164 : 0 ≤ (bq : Int) := oD z2
          have q164 : (bq : Int) < ((x308000_1.length : Int) : Int) := oD z2
          obtain ⟨go164, co164, eo164, nE, gl164, cl164, HG164⟩ := Kd.R_form a7.out (by omega)
          (first | cases eo164 | (injection eo164 with ea_ en_ ec_; (first | subst ea_ | (injection ea_ with ea_; subst ea_)); subst ec_; clear en_))
          have GB164 := aM nE
          have GG164 := aM HG164
          clear nE gl164 HG164
          (first | simp only [add_plain] at hx357_0 | skip)
          (first | simp only [add_plain] at hx357_1 | skip)
          (first | simp only [add_plain] at hx357_2 | skip)
          (first | simp only [add_plain] at hx357_3 | skip)
          (first | simp only [add_plain] at hx357_4 | skip)
          obtain ⟨ce164, hcl164, hM164, hcc164, hfr164⟩ := Kd.R_elem a7.out z58 (bq : Int) p164 q164
          obtain rfl := k58_openM hM164
          have hx164_0 : World.cell? _ ⟨go164, (bq : Int).toNat * 5, none⟩ = some (.int .i64 ((rd_T58 x308000_1 bq).f0)) := hcc164 0 _ rfl
          have hx164_1 : World.cell? _ ⟨go164, (bq : Int).toNat * 5 + 1, none⟩ = some (.int .i64 ((rd_T58 x308000_1 bq).f1)) := hcc164 1 _ rfl
          have hx164_2 : World.cell? _ ⟨go164, (bq : Int).toNat * 5 + 2, none⟩ = some (.string ((rd_T58 x308000_1 bq).f2)) := hcc164 2 _ rfl
          have hx164_3 : World.cell? _ ⟨go164, (bq : Int).toNat * 5 + 3, none⟩ = some (.int .i64 ((rd_T58 x308000_1 bq).f3)) := hcc164 3 _ rfl
          have hx164_4 : World.cell? _ ⟨go164, (bq : Int).toNat * 5 + 4, none⟩ = some (.int .i64 ((rd_T58 x308000_1 bq).f4)) := hcc164 4 _ rfl
          have hf164_0 : World.frozen? _ ⟨go164, (bq : Int).toNat * 5, none⟩ = false := hfr164 0
          have hf164_1 : World.frozen? _ ⟨go164, (bq : Int).toNat * 5 + 1, none⟩ = false := hfr164 1
          have hf164_2 : World.frozen? _ ⟨go164, (bq : Int).toNat * 5 + 2, none⟩ = false := hfr164 2
          have hf164_3 : World.frozen? _ ⟨go164, (bq : Int).toNat * 5 + 3, none⟩ = false := hfr164 3
          have hf164_4 : World.frozen? _ ⟨go164, (bq : Int).toNat * 5 + 4, none⟩ = false := hfr164 4
          clear hcl164 hcc164 hfr164; (try clear hM164)
          replace p164 := eq_true p164
          replace q164 := eq_true q164
          have HN0_go164 := aM (show g ≠ go164 from by have h_ := IsS95.own_ne HI0.out a7.out (by decide); intro e_; exact h_ (by rw [e_]; rfl))
          obtain ⟨ce173, hcl173, hM173, hcc173, hfr173⟩ := Kd.R_elem a7.out z58 (bq : Int) (oD z2) (by have h_ : (bq : Int) < ((x308000_1.length : Int) : Int) := oD z2; first | exact h_ | (have e_ := (ai a7.out).1; omega) | simpa using h_)
          obtain rfl := k58_openM hM173
          have HP173 := (Kd.R_seg a7.out (bq : Int) (oD z2) (by have h_ : (bq : Int) < ((x308000_1.length : Int) : Int) := oD z2; first | exact h_ | (have e_ := (ai a7.out).1; omega) | simpa using h_) (seg := [.int .i64 (wrap64 (((rd_T58 x308000_1 bq).f3) + (wrap64 (gp - 1))))]) (j := 3) hcl173 hcc173 (show 4 ≤ 5 from by decide) (x' := (⟨(rd_T58 x308000_1 bq).f0, (rd_T58 x308000_1 bq).f1, (rd_T58 x308000_1 bq).f2, wrap64 (((rd_T58 x308000_1 bq).f3) + (wrap64 (gp - 1))), (rd_T58 x308000_1 bq).f4⟩ : S58)) (k58_mkM _ _ _ (⟨(rd_T58 x308000_1 bq).f0, (rd_T58 x308000_1 bq).f1, (rd_T58 x308000_1 bq).f2, wrap64 (((rd_T58 x308000_1 bq).f3) + (wrap64 (gp - 1))), (rd_T58 x308000_1 bq).f4⟩ : S58) ) (fun _ hk => hk)).1
          rw [← Ny361.out] at HP173
          have HQ173 := aM HP173
          clear hcl173 hcc173 hfr173 HP173; (try clear hM173)
          refine hK.out _ _ ⟨(bC bc.out 0).trans rfl, HS1_, HS2_, HS3_, HS4_, HS5_⟩ (fun hHeld => ?_)
          clear hK K
          refine norm_ (a' := ?_) ?_ ?_
          rotate_left
          ·show Act.put _ (some 99) _ = _
           simp only [Act.put, sA, sB, sC, i64_w, i32_w]
           rfl
          refine pA 8 100 ?_
          refine pA 9 101 ?_
          refine pA 10 102 ?_
          refine pA 11 103 ?_
          refine last_ (i := 12) (N := none) #[true, true, true, true, true, true, true, true, true, true, true, true, true] rfl rfl (one_of HT_.out z0) (by decide) (fun K hK => ?_)
          refine skip_ (w1 := ?_) (by rfl) rfl ?_ ?_
          rotate_left
          ·go_simp
           rfl
          refine hK.out _ _ ?_
          clear hK K
          refine done_ (done_of HT_.out z0) ?_
          have a8 : Aside0 (Kd.R k58 58 (w172.setCell ⟨go164, (bq : Int).toNat * 5 + 3, none⟩ (.int .i64 (wrap64 (((rd_T58 x308000_1 bq).f3) + (wrap64 (gp - 1)))))) w.heap.size (fun _ => True) (.slice (some ⟨go164, 0, none⟩) x308000_1.length fE) y361) := ⟨kR_ HQ173.out⟩
          have a9 : Aside0 ((w172.setCell ⟨go164, (bq : Int).toNat * 5 + 3, none⟩ (.int .i64 (wrap64 (((rd_T58 x308000_1 bq).f3) + (wrap64 (gp - 1)))))).heap[bx]? = some (.cells #[.slice none 0 0] 29 (0, 0))) := ⟨by (with_reducible repeat (first | refine ar ?_ _ | refine aq ?_ | refine au ?_ _)); refine av ?_ (by have h_ := Kd.R_ne a7.out bg.out (by decide); intro e_; exact h_ (by rw [e_]; rfl)) _; (with_reducible repeat (first | refine ar ?_ _ | refine aq ?_ | refine au ?_ _)); exact bg.out⟩
          have bb : Aside0 ((w172.setCell ⟨go164, (bq : Int).toNat * 5 + 3, none⟩ (.int .i64 (wrap64 (((rd_T58 x308000_1 bq).f3) + (wrap64 (gp - 1)))))).heap[bn]? = some (.cells #[.slice (some ⟨go164, 0, none⟩) x308000_1.length fE] 29 (0, 0))) := ⟨by (with_reducible repeat (first | refine ar ?_ _ | refine aq ?_ | refine au ?_ _)); refine av ?_ (by have h_ := Kd.R_ne a7.out bc.out (by decide); intro e_; exact h_ (by rw [e_]; rfl)) _; (with_reducible repeat (first | refine ar ?_ _ | refine aq ?_ | refine au ?_ _)); exact bc.out⟩
          have bd : Aside0 (IsS95 w0 (w172.setCell ⟨go164, (bq : Int).toNat * 5 + 3, none⟩ (.int .i64 (wrap64 (((rd_T58 x308000_1 bq).f3) + (wrap64 (gp - 1)))))) g s0_0 oG oF) := ⟨by (try simp only [Int.add_zero]); repeat (first | (with_reducible first | exact HI0.out | apply IsS95.alloc | apply IsS95.drewN | apply IsS95.drew | apply IsS95.set_1 | apply IsS95.set_2 | refine IsS95.far ?_ HN0_go164.out _ | refine IsS95.far ?_ bi.out _ | refine IsS95.far ?_ bh.out _) | exact HI0.out)⟩
          have bz : Aside0 (KeepBut w (w172.setCell ⟨go164, (bq : Int).toNat * 5 + 3, none⟩ (.int .i64 (wrap64 (((rd_T58 x308000_1 bq).f3) + (wrap64 (gp - 1)))))) g none) := ⟨by repeat (first | (with_reducible first | exact HK.out | apply KeepBut.set_ | apply keep_drewN | apply keep_drew | apply keep_alloc | refine keep_far ?_ GB164.out _ | refine keep_far ?_ dO.out _ | refine keep_far ?_ gi.out _) | exact HK.out)⟩
          have bJ : Aside0 (Below w0.heap.size w0 (w172.setCell ⟨go164, (bq : Int).toNat * 5 + 3, none⟩ (.int .i64 (wrap64 (((rd_T58 x308000_1 bq).f3) + (wrap64 (gp - 1))))))) := ⟨by repeat (first | (with_reducible first | exact HB.out | apply bA | apply pD | apply bD | refine ay ?_ (Nat.le_trans HL.out GB164.out) | refine ay ?_ (IsS95.ge HI0.out) | refine ay ?_ cj.out | refine ay ?_ cr.out) | exact HB.out)⟩
          (try clear a7)
          (try clear bg)
          (try clear bc)
          (try clear HI0)
          (try clear HK)
          (try clear HB)
          generalize (w172.setCell ⟨go164, (bq : Int).toNat * 5 + 3, none⟩ (.int .i64 (wrap64 (((rd_T58 x308000_1 bq).f3) + (wrap64 (gp - 1)))))) = w174 at a8 a9 bb bd bz bJ ⊢
          have a7 := a8
          have bg := a9
          have bc := bb
          have HI0 := bd
          have HK := bz
          have HB := bJ
          clear a8 a9 bb bd bz bJ
          obtain ⟨hcz175_0, hfz175_0⟩ := cc1 bc.out
          have hnb176 := b3.out
          have hnc176 := bi.out
          obtain ⟨hcz177_0, hfz177_0⟩ := cc1 bg.out
          try go_wp2
          refine aT (results_cell_row rfl _ _ bx 29 #[.slice (some ⟨go164, 0, none⟩) x308000_1.length fE] (0, 0) _ rfl (by (with_reducible repeat (first | refine ar ?_ _ | refine aq ?_ | refine au ?_ _)); refine aw (cs := #[.slice none 0 0]) ?_ 0 _ rfl; (with_reducible repeat (first | refine ar ?_ _ | refine aq ?_ | refine au ?_ _)); exact bg.out) Try.underlying29 rfl z0) rfl ?_
          exact ⟨_, y4, by (with_reducible repeat (first | apply ae | apply ac | apply aa)); exact ah (am (p := ⟨bx, 0, none⟩) (ap a7.out bg.out (by decide)) (fun _ hk => hk.2) (.slice (some ⟨go164, 0, none⟩) x308000_1.length fE)) (fun _ hk => trivial), y24, y18, y19⟩
         ·rw [if_neg nu] at H
          exact absurd H (by simp)
        ·rw [if_neg nv] at H
         exact absurd H (by simp)
       ·rw [if_neg j8] at H
        have c160b0 : (fN == 0) = false := qF j8
        have c160b1 : (fN != 0) = true := nT j8
        by_cases j7 : fN = 1
        ·rw [if_pos j7] at H
         have c178b0 : (fN == 1) = true := qT j7
         have c178b1 : (fN != 1) = false := nF j7
         clear j7
         obtain ⟨⟨gn, oE, oC⟩, A179, H⟩ := oA_ H
         try dsimp only at H
         by_cases nt : 0 ≤ bq
         ·rw [if_pos nt] at H
          have c180b0 : decide (0 ≤ bq) = true := dT nt
          clear nt
          by_cases nr : bq < (x308000_1.length : Int)
          ·rw [if_pos nr] at H
           have c181b0 : decide (bq < (x308000_1.length : Int)) = true := dT nr
           clear nr
           obtain ⟨y365, hy365⟩ : ∃ y_ : List (S58), y_ = (x308000_1.set (bq : Int).toNat (⟨wrap64 (gn - 1), (rd_T58 x308000_1 bq).f1, (rd_T58 x308000_1 bq).f2, (rd_T58 x308000_1 bq).f3, (rd_T58 x308000_1 bq).f4⟩ : S58)) := ⟨_, rfl⟩
           replace H : (some (y365, oE, oC)) = some (r1, r2, r3) := by first | (rw [hy365]; with_reducible exact H) | (have H2_ := (Option.bind_some _ _).symm.trans H; rw [hy365]; with_reducible exact H2_) | (have H2_ := (Option.bind_some _ _).symm.trans H; with_reducible exact H2_) | with_reducible exact H | (rw [hy365]; exact H) | exact H
           have Ny365 := aM hy365
           clear hy365
           simp only [Option.some.injEq, Prod.mk.injEq] at H
           obtain ⟨rfl, rfl, rfl⟩ := H
           have hnb183 := cy.out
           have hnc183 := cq.out
           have hnb184 := bP.out
           have hnc184 := bh.out
           obtain ⟨hcz185_0, hfz185_0⟩ := cc1 bc.out
           obtain ⟨lz, fD, eo186⟩ := Kd.R_slice a7.out
           subst eo186
           try go_wp2_with (first | ((with_reducible refine aJ (f := 86) rfl ?_); refine aQ (some 78) rfl rfl Try.func86 z0 rfl #[.pointer (some ⟨g, 0, none⟩), .int .i64 (x308000_1.length : Int)] rfl z17 ?_; (with_reducible refine (spec_l1Cur_pick.calls g s0_0 x1001_144 x1002_144 (x308000_1.length : Int) bq iQ iP w0 _ ?side1 ?side2 o8.out).mono ?_); (case side1 => exact y42); (case side2 => exact y40); rintro e w187 ⟨rfl, hi, hb, hk⟩; refine ⟨_, rfl, ?_⟩; replace a7 := aM (ah (Kd.R_keep (IsS95.apart (show IsS95 w0 _ g s0_0 x1001_144 x1002_144 from by (try simp only [Int.add_zero]); repeat (first | (with_reducible first | exact HI0.out | apply IsS95.alloc | apply IsS95.drewN | apply IsS95.drew | apply IsS95.set_1 | apply IsS95.set_2 | refine IsS95.far ?_ bi.out _ | refine IsS95.far ?_ bh.out _) | exact HI0.out)) z5 (by decide)) hk (fun _ h => h.2)) (fun _ h => h.1)); replace bg := aM (KeepBut.blk hk (g' := bx) (o := .cells #[.slice none 0 0] 29 (0, 0)) z10 b3.out (by simp)); replace bc := aM (KeepBut.blk hk (g' := bn) (o := .cells #[.slice lz x308000_1.length fD] 29 (0, 0)) z11 bP.out (by simp)); replace HK := aM (KeepBut.trans z25 hk (.inl rfl)); replace HB := aM (hb); replace HI0 := aM (hi); (try clear hb); (try clear hk); (try clear hi); (try clear cI)) | ((with_reducible refine aJ (f := 86) rfl ?_); refine aQ (some 80) rfl rfl Try.func86 z0 rfl #[.pointer (some ⟨g, 0, none⟩), .int .i64 3] rfl z17 ?_; (with_reducible refine (spec_l1Cur_pick.calls g s0_0 iQ iP 3 fN jv ju w0 _ ?side1 ?side2 o7.out).mono ?_); (case side1 => exact y42); (case side2 => exact y40); rintro e w188 ⟨rfl, hi, hb, hk⟩; refine ⟨_, rfl, ?_⟩; replace a7 := aM (ah (Kd.R_keep (IsS95.apart (show IsS95 w0 _ g s0_0 iQ iP from by (try simp only [Int.add_zero]); repeat (first | (with_reducible first | exact HI0.out | apply IsS95.alloc | apply IsS95.drewN | apply IsS95.drew | apply IsS95.set_1 | apply IsS95.set_2 | refine IsS95.far ?_ bi.out _ | refine IsS95.far ?_ bh.out _) | exact HI0.out)) z5 (by decide)) hk (fun _ h => h.2)) (fun _ h => h.1)); replace bg := aM (KeepBut.blk hk (g' := bx) (o := .cells #[.slice none 0 0] 29 (0, 0)) z10 b3.out (by simp)); replace bc := aM (KeepBut.blk hk (g' := bn) (o := .cells #[.slice lz x308000_1.length fD] 29 (0, 0)) z11 bP.out (by simp)); replace HK := aM (KeepBut.trans z25 hk (.inl rfl)); replace HB := aM (hb); replace HI0 := aM (hi); (try clear hb); (try clear hk); (try clear hi); (try clear cI)))
           replace a7 := aM (aa a7.out)
           replace bg := aM (aq bg.out)
           replace bc := aM (aq bc.out)
           replace HI0 := aM (IsS95.drew HI0.out)
           replace HK := aM (keep_drew HK.out)
           replace HB := aM (bD HB.out)
           refine start_ (n := 9) (S := fun w' => w'.cell? ⟨bn, 0, none⟩ = some (.slice lz x308000_1.length fD)) (ds := [8]) #[false, false, false, false, false, false, false, false, false] z0 rfl rfl ((bC bc.out 0).trans rfl) (fun hHeld => ?_); refine with_tabW spec_l1Cur_rope.tab22 spec_l1Cur_rope.bits22 (fun HT_ HW_ => ?_)
           generalize w188.drew = w189 at a7 bg bc HI0 HK HB hHeld ⊢
           refine pA 0 106 ?_
           refine pA 2 108 ?_
           refine pA 3 109 ?_
           refine tA 1 107 ?_ (hy := by intro w' s0; go_simp; with_reducible rfl)
           refine one_ (i := 4) (N := some 110) #[true, true, true, true, true, false, false, false, false] rfl rfl (one_of HT_.out z0) (by decide) (fun K hK => ?_)
           refine goes_ Try.func86 z0 rfl #[.pointer (some ⟨g, 0, none⟩), .int .i64 5] (by rfl) rfl rfl z17 ?_
           with_reducible refine (spec_l1Cur_pick.calls g s0_0 jv ju 5 gn oE oC w0 _ ?side1 ?side2 A179.out).mono ?_
           (case side1 => exact y42)
           (case side2 => exact y40)
           rintro e w190 ⟨rfl, hi, hb, hk⟩
           refine ⟨_, rfl, ?_⟩
           replace a7 := aM (ah (Kd.R_keep (IsS95.apart (show IsS95 w0 _ g s0_0 jv ju from by (try simp only [Int.add_zero]); repeat (first | (with_reducible first | exact HI0.out | apply IsS95.alloc | apply IsS95.drewN | apply IsS95.drew | apply IsS95.set_1 | apply IsS95.set_2 | refine IsS95.far ?_ bi.out _ | refine IsS95.far ?_ bh.out _) | exact HI0.out)) z5 (by decide)) hk (fun _ h => h.2)) (fun _ h => h.1))
           replace bg := aM (KeepBut.blk hk (g' := bx) (o := .cells #[.slice none 0 0] 29 (0, 0)) z10 b3.out (by simp))
           replace bc := aM (KeepBut.blk hk (g' := bn) (o := .cells #[.slice lz x308000_1.length fD] 29 (0, 0)) z11 bP.out (by simp))
           replace HK := aM (KeepBut.trans z25 hk (.inl rfl))
           replace HB := aM (hb)
           replace HI0 := aM (hi)
           (try clear hb)
           skip
           (try clear hk)
           (try clear hi)
           (try clear cI)
           have p182 : 0 ≤ (bq : Int) := oD z2
           have q182 : (bq : Int) < ((x308000_1.length : Int) : Int) := oD z2
           obtain ⟨go182, co182, eo182, nD, gl182, cl182, HG182⟩ := Kd.R_form a7.out (by omega)
           (first | cases eo182 | (injection eo182 with ea_ en_ ec_; (first | subst ea_ | (injection ea_ with ea_; subst ea_)); subst ec_; clear en_))
           have GB182 := aM nD
           have GG182 := aM HG182
           clear nD gl182 HG182
           obtain ⟨ce182, hcl182, hM182, hcc182, hfr182⟩ := Kd.R_elem a7.out z58 (bq : Int) p182 q182
           obtain rfl := k58_openM hM182
           have hx182_0 : World.cell? _ ⟨go182, (bq : Int).toNat * 5, none⟩ = some (.int .i64 ((rd_T58 x308000_1 bq).f0)) := hcc182 0 _ rfl
           have hx182_1 : World.cell? _ ⟨go182, (bq : Int).toNat * 5 + 1, none⟩ = some (.int .i64 ((rd_T58 x308000_1 bq).f1)) := hcc182 1 _ rfl
           have hx182_2 : World.cell? _ ⟨go182, (bq : Int).toNat * 5 + 2, none⟩ = some (.string ((rd_T58 x308000_1 bq).f2)) := hcc182 2 _ rfl
           have hx182_3 : World.cell? _ ⟨go182, (bq : Int).toNat * 5 + 3, none⟩ = some (.int .i64 ((rd_T58 x308000_1 bq).f3)) := hcc182 3 _ rfl
           have hx182_4 : World.cell? _ ⟨go182, (bq : Int).toNat * 5 + 4, none⟩ = some (.int .i64 ((rd_T58 x308000_1 bq).f4)) := hcc182 4 _ rfl
           have hf182_0 : World.frozen? _ ⟨go182, (bq : Int).toNat * 5, none⟩ = false := hfr182 0
           have hf182_1 : World.frozen? _ ⟨go182, (bq : Int).toNat * 5 + 1, none⟩ = false := hfr182 1
           have hf182_2 : World.frozen? _ ⟨go182, (bq : Int).toNat * 5 + 2, none⟩ = false := hfr182 2
           have hf182_3 : World.frozen? _ ⟨go182, (bq : Int).toNat * 5 + 3, none⟩ = false := hfr182 3
           have hf182_4 : World.frozen? _ ⟨go182, (bq : Int).toNat * 5 + 4, none⟩ = false := hfr182 4
           clear hcl182 hcc182 hfr182; (try clear hM182)
           replace p182 := eq_true p182
           replace q182 := eq_true q182
           have HN0_go182 := aM (show g ≠ go182 from by have h_ := IsS95.own_ne HI0.out a7.out (by decide); intro e_; exact h_ (by rw [e_]; rfl))
           obtain ⟨ce191, hcl191, hM191, hcc191, hfr191⟩ := Kd.R_elem a7.out z58 (bq : Int) (oD z2) (by have h_ : (bq : Int) < ((x308000_1.length : Int) : Int) := oD z2; first | exact h_ | (have e_ := (ai a7.out).1; omega) | simpa using h_)
           obtain rfl := k58_openM hM191
           have HP191 := (Kd.R_seg a7.out (bq : Int) (oD z2) (by have h_ : (bq : Int) < ((x308000_1.length : Int) : Int) := oD z2; first | exact h_ | (have e_ := (ai a7.out).1; omega) | simpa using h_) (seg := [.int .i64 (wrap64 (gn - 1))]) (j := 0) hcl191 hcc191 (show 1 ≤ 5 from by decide) (x' := (⟨wrap64 (gn - 1), (rd_T58 x308000_1 bq).f1, (rd_T58 x308000_1 bq).f2, (rd_T58 x308000_1 bq).f3, (rd_T58 x308000_1 bq).f4⟩ : S58)) (k58_mkM _ _ _ (⟨wrap64 (gn - 1), (rd_T58 x308000_1 bq).f1, (rd_T58 x308000_1 bq).f2, (rd_T58 x308000_1 bq).f3, (rd_T58 x308000_1 bq).f4⟩ : S58) ) (fun _ hk => hk)).1
           rw [← Ny365.out] at HP191
           have HQ191 := aM HP191
           clear hcl191 hcc191 hfr191 HP191; (try clear hM191)
           refine hK.out _ _ ((bC bc.out 0).trans rfl) (fun hHeld => ?_)
           clear hK K
           refine norm_ (a' := ?_) ?_ ?_
           rotate_left
           ·show Act.put _ (some 110) _ = _
            simp only [Act.put, sA, sB, sC, i64_w, i32_w]
            rfl
           refine pA 5 111 ?_
           refine pA 6 112 ?_
           refine pA 7 113 ?_
           refine last_ (i := 8) (N := none) #[true, true, true, true, true, true, true, true, true] rfl rfl (one_of HT_.out z0) (by decide) (fun K hK => ?_)
           refine skip_ (w1 := ?_) (by rfl) rfl ?_ ?_
           rotate_left
           ·go_simp
            rfl
           refine hK.out _ _ ?_
           clear hK K
           refine done_ (done_of HT_.out z0) ?_
           have a8 : Aside0 (Kd.R k58 58 (w190.setCell ⟨go182, (bq : Int).toNat * 5, none⟩ (.int .i64 (wrap64 (gn - 1)))) w.heap.size (fun _ => True) (.slice (some ⟨go182, 0, none⟩) x308000_1.length fD) y365) := ⟨kR_ HQ191.out⟩
           have a9 : Aside0 ((w190.setCell ⟨go182, (bq : Int).toNat * 5, none⟩ (.int .i64 (wrap64 (gn - 1)))).heap[bx]? = some (.cells #[.slice none 0 0] 29 (0, 0))) := ⟨by (with_reducible repeat (first | refine ar ?_ _ | refine aq ?_ | refine au ?_ _)); refine av ?_ (by have h_ := Kd.R_ne a7.out bg.out (by decide); intro e_; exact h_ (by rw [e_]; rfl)) _; (with_reducible repeat (first | refine ar ?_ _ | refine aq ?_ | refine au ?_ _)); exact bg.out⟩
           have bb : Aside0 ((w190.setCell ⟨go182, (bq : Int).toNat * 5, none⟩ (.int .i64 (wrap64 (gn - 1)))).heap[bn]? = some (.cells #[.slice (some ⟨go182, 0, none⟩) x308000_1.length fD] 29 (0, 0))) := ⟨by (with_reducible repeat (first | refine ar ?_ _ | refine aq ?_ | refine au ?_ _)); refine av ?_ (by have h_ := Kd.R_ne a7.out bc.out (by decide); intro e_; exact h_ (by rw [e_]; rfl)) _; (with_reducible repeat (first | refine ar ?_ _ | refine aq ?_ | refine au ?_ _)); exact bc.out⟩
           have bd : Aside0 (IsS95 w0 (w190.setCell ⟨go182, (bq : Int).toNat * 5, none⟩ (.int .i64 (wrap64 (gn - 1)))) g s0_0 oE oC) := ⟨by (try simp only [Int.add_zero]); repeat (first | (with_reducible first | exact HI0.out | apply IsS95.alloc | apply IsS95.drewN | apply IsS95.drew | apply IsS95.set_1 | apply IsS95.set_2 | refine IsS95.far ?_ HN0_go182.out _ | refine IsS95.far ?_ bi.out _ | refine IsS95.far ?_ bh.out _) | exact HI0.out)⟩
           have bz : Aside0 (KeepBut w (w190.setCell ⟨go182, (bq : Int).toNat * 5, none⟩ (.int .i64 (wrap64 (gn - 1)))) g none) := ⟨by repeat (first | (with_reducible first | exact HK.out | apply KeepBut.set_ | apply keep_drewN | apply keep_drew | apply keep_alloc | refine keep_far ?_ GB182.out _ | refine keep_far ?_ dO.out _ | refine keep_far ?_ gi.out _) | exact HK.out)⟩
           have bJ : Aside0 (Below w0.heap.size w0 (w190.setCell ⟨go182, (bq : Int).toNat * 5, none⟩ (.int .i64 (wrap64 (gn - 1))))) := ⟨by repeat (first | (with_reducible first | exact HB.out | apply bA | apply pD | apply bD | refine ay ?_ (Nat.le_trans HL.out GB182.out) | refine ay ?_ (IsS95.ge HI0.out) | refine ay ?_ cj.out | refine ay ?_ cr.out) | exact HB.out)⟩
           (try clear a7)
           (try clear bg)
           (try clear bc)
           (try clear HI0)
           (try clear HK)
           (try clear HB)
           generalize (w190.setCell ⟨go182, (bq : Int).toNat * 5, none⟩ (.int .i64 (wrap64 (gn - 1)))) = w192 at a8 a9 bb bd bz bJ ⊢
           have a7 := a8
           have bg := a9
           have bc := bb
           have HI0 := bd
           have HK := bz
           have HB := bJ
           clear a8 a9 bb bd bz bJ
           obtain ⟨hcz193_0, hfz193_0⟩ := cc1 bc.out
           have hnb194 := b3.out
           have hnc194 := bi.out
           obtain ⟨hcz195_0, hfz195_0⟩ := cc1 bg.out
           try go_wp2
           refine aT (results_cell_row rfl _ _ bx 29 #[.slice (some ⟨go182, 0, none⟩) x308000_1.length fD] (0, 0) _ rfl (by (with_reducible repeat (first | refine ar ?_ _ | refine aq ?_ | refine au ?_ _)); refine aw (cs := #[.slice none 0 0]) ?_ 0 _ rfl; (with_reducible repeat (first | refine ar ?_ _ | refine aq ?_ | refine au ?_ _)); exact bg.out) Try.underlying29 rfl z0) rfl ?_
           exact ⟨_, y4, by (with_reducible repeat (first | apply ae | apply ac | apply aa)); exact ah (am (p := ⟨bx, 0, none⟩) (ap a7.out bg.out (by decide)) (fun _ hk => hk.2) (.slice (some ⟨go182, 0, none⟩) x308000_1.length fD)) (fun _ hk => trivial), y24, y18, y19⟩
          ·rw [if_neg nr] at H
           exact absurd H (by simp)
         ·rw [if_neg nt] at H
          exact absurd H (by simp)
        ·rw [if_neg j7] at H
         have c178b0 : (fN == 1) = false := qF j7
         have c178b1 : (fN != 1) = true := nT j7
         by_cases np : 0 ≤ bq
         ·rw [if_pos np] at H
          have c196b0 : decide (0 ≤ bq) = true := dT np
          clear np
          by_cases nn : bq < (x308000_1.length : Int)
          ·rw [if_pos nn] at H
           have c197b0 : decide (bq < (x308000_1.length : Int)) = true := dT nn
           clear nn
           obtain ⟨y367, hy367⟩ : ∃ y_ : List (S58), y_ = (x308000_1.set (bq : Int).toNat (⟨(rd_T58 x308000_1 bq).f0, (rd_T58 x308000_1 bq).f1, (rd_T58 x308000_1 bq).f2, (rd_T58 x308000_1 bq).f3, wrap64 (((rd_T58 x308000_1 bq).f4) + 1)⟩ : S58)) := ⟨_, rfl⟩
           replace H : (some (y367, jv, ju)) = some (r1, r2, r3) := by first | (rw [hy367]; with_reducible exact H) | (have H2_ := (Option.bind_some _ _).symm.trans H; rw [hy367]; with_reducible exact H2_) | (have H2_ := (Option.bind_some _ _).symm.trans H; with_reducible exact H2_) | with_reducible exact H | (rw [hy367]; exact H) | exact H
           have Ny367 := aM hy367
           clear hy367
           simp only [Option.some.injEq, Prod.mk.injEq] at H
           obtain ⟨rfl, rfl, rfl⟩ := H
           have hnb199 := cy.out
           have hnc199 := cq.out
           have hnb200 := bP.out
           have hnc200 := bh.out
           obtain ⟨hcz201_0, hfz201_0⟩ := cc1 bc.out
           obtain ⟨mK, fC, eo202⟩ := Kd.R_slice a7.out
           subst eo202
           go_wp2_with (first | ((with_reducible refine aJ (f := 86) rfl ?_); refine aQ (some 78) rfl rfl Try.func86 z0 rfl #[.pointer (some ⟨g, 0, none⟩), .int .i64 (x308000_1.length : Int)] rfl z17 ?_; (with_reducible refine (spec_l1Cur_pick.calls g s0_0 x1001_144 x1002_144 (x308000_1.length : Int) bq iQ iP w0 _ ?side1 ?side2 o8.out).mono ?_); (case side1 => exact y42); (case side2 => exact y40); rintro e w203 ⟨rfl, hi, hb, hk⟩; refine ⟨_, rfl, ?_⟩; replace a7 := aM (ah (Kd.R_keep (IsS95.apart (show IsS95 w0 _ g s0_0 x1001_144 x1002_144 from by (try simp only [Int.add_zero]); repeat (first | (with_reducible first | exact HI0.out | apply IsS95.alloc | apply IsS95.drewN | apply IsS95.drew | apply IsS95.set_1 | apply IsS95.set_2 | refine IsS95.far ?_ bi.out _ | refine IsS95.far ?_ bh.out _) | exact HI0.out)) z5 (by decide)) hk (fun _ h => h.2)) (fun _ h => h.1)); replace bg := aM (KeepBut.blk hk (g' := bx) (o := .cells #[.slice none 0 0] 29 (0, 0)) z10 b3.out (by simp)); replace bc := aM (KeepBut.blk hk (g' := bn) (o := .cells #[.slice mK x308000_1.length fC] 29 (0, 0)) z11 bP.out (by simp)); replace HK := aM (KeepBut.trans z25 hk (.inl rfl)); replace HB := aM (hb); replace HI0 := aM (hi); (try clear hb); (try clear hk); (try clear hi); (try clear cI)) | ((with_reducible refine aJ (f := 86) rfl ?_); refine aQ (some 80) rfl rfl Try.func86 z0 rfl #[.pointer (some ⟨g, 0, none⟩), .int .i64 3] rfl z17 ?_; (with_reducible refine (spec_l1Cur_pick.calls g s0_0 iQ iP 3 fN jv ju w0 _ ?side1 ?side2 o7.out).mono ?_); (case side1 => exact y42); (case side2 => exact y40); rintro e w204 ⟨rfl, hi, hb, hk⟩; refine ⟨_, rfl, ?_⟩; replace a7 := aM (ah (Kd.R_keep (IsS95.apart (show IsS95 w0 _ g s0_0 iQ iP from by (try simp only [Int.add_zero]); repeat (first | (with_reducible first | exact HI0.out | apply IsS95.alloc | apply IsS95.drewN | apply IsS95.drew | apply IsS95.set_1 | apply IsS95.set_2 | refine IsS95.far ?_ bi.out _ | refine IsS95.far ?_ bh.out _) | exact HI0.out)) z5 (by decide)) hk (fun _ h => h.2)) (fun _ h => h.1)); replace bg := aM (KeepBut.blk hk (g' := bx) (o := .cells #[.slice none 0 0] 29 (0, 0)) z10 b3.out (by simp)); replace bc := aM (KeepBut.blk hk (g' := bn) (o := .cells #[.slice mK x308000_1.length fC] 29 (0, 0)) z11 bP.out (by simp)); replace HK := aM (KeepBut.trans z25 hk (.inl rfl)); replace HB := aM (hb); replace HI0 := aM (hi); (try clear hb); (try clear hk); (try clear hi); (try clear cI); obtain ⟨hcz205_0, hfz205_0⟩ := cc1 bc.out; have p366 : 0 ≤ (bq : Int) := oD z2; have q366 : bq < (x308000_1.length : Int) := oD z2; obtain ⟨ad366, e366, hx366_0, hx366_1, hx366_2, hx366_3, hx366_4⟩ := at_T58 (ai a7.out).2.2 bq p366 q366; cases e366; replace p366 := eq_true p366; replace q366 := eq_true q366; have p198 : 0 ≤ (bq : Int) := oD z2; have q198 : (bq : Int) < ((x308000_1.length : Int) : Int) := oD z2; obtain ⟨go198, co198, eo198, nC, gl198, cl198, HG198⟩ := Kd.R_form a7.out (by omega); (first | cases eo198 | (injection eo198 with ea_ en_ ec_; (first | subst ea_ | (injection ea_ with ea_; subst ea_)); subst ec_; clear en_)); have GB198 := aM nC; have GG198 := aM HG198; clear nC gl198 HG198; (first | simp only [add_plain] at hx366_0 | skip); (first | simp only [add_plain] at hx366_1 | skip); (first | simp only [add_plain] at hx366_2 | skip); (first | simp only [add_plain] at hx366_3 | skip); (first | simp only [add_plain] at hx366_4 | skip); obtain ⟨ce198, hcl198, hM198, hcc198, hfr198⟩ := Kd.R_elem a7.out z58 (bq : Int) p198 q198; obtain rfl := k58_openM hM198; have hx198_0 : w204.cell? ⟨go198, (bq : Int).toNat * 5, none⟩ = some (.int .i64 ((rd_T58 x308000_1 bq).f0)) := hcc198 0 _ rfl; have hx198_1 : w204.cell? ⟨go198, (bq : Int).toNat * 5 + 1, none⟩ = some (.int .i64 ((rd_T58 x308000_1 bq).f1)) := hcc198 1 _ rfl; have hx198_2 : w204.cell? ⟨go198, (bq : Int).toNat * 5 + 2, none⟩ = some (.string ((rd_T58 x308000_1 bq).f2)) := hcc198 2 _ rfl; have hx198_3 : w204.cell? ⟨go198, (bq : Int).toNat * 5 + 3, none⟩ = some (.int .i64 ((rd_T58 x308000_1 bq).f3)) := hcc198 3 _ rfl; have hx198_4 : w204.cell? ⟨go198, (bq : Int).toNat * 5 + 4, none⟩ = some (.int .i64 ((rd_T58 x308000_1 bq).f4)) := hcc198 4 _ rfl; have hf198_0 : w204.frozen? ⟨go198, (bq : Int).toNat * 5, none⟩ = false := hfr198 0; have hf198_1 : w204.frozen? ⟨go198, (bq : Int).toNat * 5 + 1, none⟩ = false := hfr198 1; have hf198_2 : w204.frozen? ⟨go198, (bq : Int).toNat * 5 + 2, none⟩ = false := hfr198 2; have hf198_3 : w204.frozen? ⟨go198, (bq : Int).toNat * 5 + 3, none⟩ = false := hfr198 3; have hf198_4 : w204.frozen? ⟨go198, (bq : Int).toNat * 5 + 4, none⟩ = false := hfr198 4; clear hcl198 hcc198 hfr198; (try clear hM198); replace p198 := eq_true p198; replace q198 := eq_true q198; have HX206 := aM (show Kd.R k58 58 w204 w.heap.size (fun _ => True) (.slice (some ⟨go198, 0, none⟩) x308000_1.length fC) x308000_1 from z5); obtain ⟨ce206, hcl206, hM206, hcc206, hfr206⟩ := Kd.R_elem HX206.out z58 (bq : Int) (oD z2) (by have h_ : (bq : Int) < ((x308000_1.length : Int) : Int) := oD z2; first | exact h_ | (have e_ := (ai a7.out).1; omega) | simpa using h_); obtain rfl := k58_openM hM206; have HP206 := Kd.R_seg HX206.out (bq : Int) (oD z2) (by have h_ : (bq : Int) < ((x308000_1.length : Int) : Int) := oD z2; first | exact h_ | (have e_ := (ai a7.out).1; omega) | simpa using h_) (seg := [.int .i64 (wrap64 (((rd_T58 x308000_1 bq).f4) + 1))]) (j := 4) hcl206 hcc206 (show 5 ≤ 5 from by decide) (x' := (⟨(rd_T58 x308000_1 bq).f0, (rd_T58 x308000_1 bq).f1, (rd_T58 x308000_1 bq).f2, (rd_T58 x308000_1 bq).f3, wrap64 (((rd_T58 x308000_1 bq).f4) + 1)⟩ : S58)) (k58_mkM _ _ _ (⟨(rd_T58 x308000_1 bq).f0, (rd_T58 x308000_1 bq).f1, (rd_T58 x308000_1 bq).f2, (rd_T58 x308000_1 bq).f3, wrap64 (((rd_T58 x308000_1 bq).f4) + 1)⟩ : S58) ) (fun _ hk => hk); have hx206_4 := hcc206 4 _ rfl; (try simp only [show (k58).sz = 5 from rfl, Nat.mul_one, Nat.add_zero] at hx206_4); have hf206_4 := hfr206 4; (try simp only [show (k58).sz = 5 from rfl, Nat.mul_one, Nat.add_zero] at hf206_4); clear hcl206 hcc206 hfr206; (try clear hM206)) | ((with_reducible refine gate_store (t := 3) (p := 89) rfl ?_); refine store_event (t := 3) (p := 89) (v := ?vo_w207) (w1 := (w204.setCell ⟨go198, (bq : Int).toNat * 5 + 4, none⟩ (.int .i64 (wrap64 (((rd_T58 x308000_1 bq).f4) + 1))))) ?hg ?ho ?hn ?hr ?_; (case ho => rfl); (case hg => rfl); (case hn => rfl); (case hr => first | (go_simp; done) | (go_simp; rfl) | ((try simp only [aW] at *); go_simp; first | done | rfl)); intro w207 hw; have hg : w204.grownBy w207 (some go198) := (by rw [hw]; exact HP206.2); have hp_ : Kd.R k58 58 w207 w.heap.size (fun _ => True) (.slice (some ⟨go198, 0, none⟩) x308000_1.length fC) y367 := (by rw [hw, Ny367.out]; exact HP206.1); clear HP206; replace bg := aM (blk_grown (g := bx) (o := .cells #[.slice none 0 0] 29 (0, 0)) z10 hg (Kd.R_ne a7.out bg.out (by decide))); replace bc := aM (blk_grown (g := bn) (o := .cells #[.slice (some ⟨go198, 0, none⟩) x308000_1.length fC] 29 (0, 0)) z11 hg (Kd.R_ne a7.out bc.out (by decide))); replace HI0 := aM (IsS95.grown z34 hg (IsS95.own_ne HI0.out a7.out (by decide))); replace HB := aM ((by rw [hw]; exact ay (HB.out) (Nat.le_trans HL.out GB198.out) : Below w0.heap.size w0 w207)); replace HK := aM (KeepBut.trans z25 (KeepBut.of_grown hg g) (Kd.R_base2 a7.out)); replace a7 := aM (hp_); clear hg hw hp_; obtain ⟨hcz208_0, hfz208_0⟩ := cc1 bc.out; have hnb209 := b3.out; have hnc209 := bi.out; obtain ⟨hcz210_0, hfz210_0⟩ := cc1 bg.out))
           refine aT (results_cell_row rfl _ _ bx 29 #[.slice (some ⟨go198, 0, none⟩) x308000_1.length fC] (0, 0) _ rfl (by (with_reducible repeat (first | refine ar ?_ _ | refine aq ?_ | refine au ?_ _)); refine aw (cs := #[.slice none 0 0]) ?_ 0 _ rfl; (with_reducible repeat (first | refine ar ?_ _ | refine aq ?_ | refine au ?_ _)); exact bg.out) Try.underlying29 rfl z0) rfl ?_
           exact ⟨_, y4, by (with_reducible repeat (first | apply ae | apply ac | apply aa)); exact ah (am (p := ⟨bx, 0, none⟩) (ap a7.out bg.out (by decide)) (fun _ hk => hk.2) (.slice (some ⟨go198, 0, none⟩) x308000_1.length fC)) (fun _ hk => trivial), y24, y18, y19⟩
          ·rw [if_neg nn] at H
           exact absurd H (by simp)
         ·rw [if_neg np] at H
          exact absurd H (by simp)
      ·replace nw := Bool.eq_false_iff.mpr nw
       subst nw
       rw [if_neg nF_] at H
       simp only [Option.some.injEq, Prod.mk.injEq] at H
       obtain ⟨rfl, rfl, rfl⟩ := H
       have hnb211 := cy.out
       have hnc211 := cq.out
       have hnb212 := bP.out
       have hnc212 := bh.out
       obtain ⟨hcz213_0, hfz213_0⟩ := cc1 bc.out
       obtain ⟨oe, nH, eo214⟩ := Kd.R_slice a7.out
       subst eo214
       have hnb215 := b3.out
       have hnc215 := bi.out
       obtain ⟨hcz216_0, hfz216_0⟩ := cc1 bg.out
       go_wp2
       refine aT (results_cell_row rfl _ _ bx 29 #[.slice oe x308000_1.length nH] (0, 0) _ rfl (by (with_reducible repeat (first | refine ar ?_ _ | refine aq ?_ | refine au ?_ _)); refine aw (cs := #[.slice none 0 0]) ?_ 0 _ rfl; (with_reducible repeat (first | refine ar ?_ _ | refine aq ?_ | refine au ?_ _)); exact bg.out) Try.underlying29 rfl z0) rfl ?_
       exact ⟨_, y4, by (with_reducible repeat (first | apply ae | apply ac | apply aa)); exact ah (am (p := ⟨bx, 0, none⟩) (ap a7.out bg.out (by decide)) (fun _ hk => hk.2) (.slice oe x308000_1.length nH)) (fun _ hk => trivial), y24, y18, y19⟩

end Go.Proofs.Ytmkenlejdaphnaa.AFnBalanced
