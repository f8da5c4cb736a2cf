-- this session's own text: written by wip/tools/ownprint.py over the kit's print
import Derived.Test.YtmkenlejdaphnaaAFnRopesx0
import Derived.Test.YtmkenlejdaphnaaAFnRopesx6
import Derived.Test.YtmkenlejdaphnaaAFnRopesx7
import Derived.Test.YtmkenlejdaphnaaAFnRopesx9
import Derived.Test.YtmkenlejdaphnaaAFnRopesx10
import Derived.Test.YtmkenlejdaphnaaAFnRopesx12
namespace Go.Proofs.Ytmkenlejdaphnaa.AFnRopes
open Go.RowKit Go.Proofs.YtmkenlejdaphnaaW.PrintWords Go.Proofs.YtmkenlejdaphnaaW.PrintLast Go.Proofs.YtmkenlejdaphnaaW.PrintMore
attribute [local go_sem] max2_int min2_int max_two min_two max_three min_three max_four min_four   -- for this text's walks alone
set_option linter.unusedVariables false
set_option linter.unusedSimpArgs false

/-! ### spec_l1Cur_rope: function 73 -/
mutual
def spec_l1Cur_rope.l0 : Nat → Int → List Int → Int → Int → List (S58) → Option ((List (S58)) × Int × Int)
 | 0, _, _, _, _, _ => none
 | k + 1, x5, x1000, x1001, x1002, x305000 => if x5 > 0 then ((spec_l1Cur_pick.f x1000 x1001 x1002 3).bind fun iw => (if iw.1 = 0 then ((spec_l1Cur_plainText.f k x1000 iw.2.1 iw.2.2).bind fun lz => ((spec_RopeOf.f k lz.1).bind fun bt315 => ((spec_JoinRopes.f k x305000 bt315.1).bind fun qb => (if qb.2 = true then (spec_l1Cur_rope.l0 k (wrap64 (x5 - 1)) x1000 lz.2.1 lz.2.2 qb.1) else (spec_l1Cur_rope.l0 k (wrap64 (x5 - 1)) x1000 lz.2.1 lz.2.2 x305000))))) else (if iw.1 = 1 then ((spec_l12Size.f x305000).bind fun ll => ((spec_l1Cur_pick.f x1000 iw.2.1 iw.2.2 (wrap64 (ll + 1))).bind fun ly => ((spec_SplitRope.f k x305000 ly.1).bind fun qa => (if qa.2.2 = true then (spec_l1Cur_rope.l0 k (wrap64 (x5 - 1)) x1000 ly.2.1 ly.2.2 qa.2.1) else (spec_l1Cur_rope.l0 k (wrap64 (x5 - 1)) x1000 ly.2.1 ly.2.2 x305000))))) else ((spec_l12Text.f k x305000).bind fun lh => ((spec_l1Cur_opOn.f k x1000 iw.2.1 iw.2.2 lh).bind fun lx => ((spec_EditRope.f k x305000 lx.1).bind fun p9 => (if p9.2 = true then (spec_l1Cur_rope.l0 k (wrap64 (x5 - 1)) x1000 lx.2.1 lx.2.2 p9.1) else (spec_l1Cur_rope.l0 k (wrap64 (x5 - 1)) x1000 lx.2.1 lx.2.2 x305000)))))))) else (if (x305000.length : Int) > 0 then ((spec_l1Cur_one.f x1000 x1001 x1002 20).bind fun oV => (spec_l1Cur_rope.j1 k oV.1 x1000 oV.2.1 oV.2.2 x305000)) else (spec_l1Cur_rope.j1 k false x1000 x1001 x1002 x305000))
def spec_l1Cur_rope.j1 : Nat → Bool → List Int → Int → Int → List (S58) → Option ((List (S58)) × Int × Int)
 | 0, _, _, _, _, _ => none
 | k + 1, x73, x1000, x1001, x1002, x305000 => if x73 = true then ((spec_l1Cur_pick.f x1000 x1001 x1002 (x305000.length : Int)).bind fun ej => ((spec_l1Cur_pick.f x1000 ej.2.1 ej.2.2 3).bind fun iv => (if iv.1 = 0 then (if 0 ≤ ej.1 then (if ej.1 < (x305000.length : Int) then ((spec_l1Cur_pick.f x1000 iv.2.1 iv.2.2 3).bind fun oU => (some ((x305000.set (ej.1 : Int).toNat (⟨(rd_T58 x305000 ej.1).f0, (rd_T58 x305000 ej.1).f1, (rd_T58 x305000 ej.1).f2, wrap64 (((rd_T58 x305000 ej.1).f3) + (wrap64 (oU.1 - 1))), (rd_T58 x305000 ej.1).f4⟩ : S58)), oU.2.1, oU.2.2))) else (none)) else (none)) else (if iv.1 = 1 then ((spec_l1Cur_pick.f x1000 iv.2.1 iv.2.2 5).bind fun oT => (if 0 ≤ ej.1 then (if ej.1 < (x305000.length : Int) then (some ((x305000.set (ej.1 : Int).toNat (⟨wrap64 (oT.1 - 1), (rd_T58 x305000 ej.1).f1, (rd_T58 x305000 ej.1).f2, (rd_T58 x305000 ej.1).f3, (rd_T58 x305000 ej.1).f4⟩ : S58)), oT.2.1, oT.2.2)) else (none)) else (none))) else (if 0 ≤ ej.1 then (if ej.1 < (x305000.length : Int) then (some ((x305000.set (ej.1 : Int).toNat (⟨(rd_T58 x305000 ej.1).f0, (rd_T58 x305000 ej.1).f1, (rd_T58 x305000 ej.1).f2, (rd_T58 x305000 ej.1).f3, wrap64 (((rd_T58 x305000 ej.1).f4) + 1)⟩ : S58)), iv.2.1, iv.2.2)) else (none)) else (none)))))) else (some (x305000, x1001, x1002))
end
def spec_l1Cur_rope.f (k : Nat) (s0_0 : List Int) (s0_1 : Int) (s0_2 : Int) : Option ((List (S58)) × Int × Int) := (spec_l1Cur_plainText.f k s0_0 s0_1 s0_2).bind fun jk => ((spec_RopeOf.f k jk.1).bind fun oW => ((spec_l1Cur_pick.f s0_0 jk.2.1 jk.2.2 5).bind fun jj => (spec_l1Cur_rope.l0 k jj.1 s0_0 jj.2.1 jj.2.2 oW.1)))
theorem spec_l1Cur_rope.mono_l : ∀ k, (∀ y0 y1 y2 y3 y4, LeO (spec_l1Cur_rope.l0 k y0 y1 y2 y3 y4) (spec_l1Cur_rope.l0 (k + 1) y0 y1 y2 y3 y4)) ∧ (∀ y0 y1 y2 y3 y4, LeO (spec_l1Cur_rope.j1 k y0 y1 y2 y3 y4) (spec_l1Cur_rope.j1 (k + 1) y0 y1 y2 y3 y4))
 | 0 => ⟨fun _ _ _ _ _ r h => by simp [spec_l1Cur_rope.l0] at h, fun _ _ _ _ _ r h => by simp [spec_l1Cur_rope.j1] at h⟩
 | k + 1 => by
  obtain ⟨ih0, ih1⟩ := spec_l1Cur_rope.mono_l k
  refine ⟨?_, ?_⟩
  ·intro y0 y1 y2 y3 y4
   unfold spec_l1Cur_rope.l0
   repeat' first
   | (with_reducible exact ih0 _ _ _ _ _)
   | (with_reducible exact ih1 _ _ _ _ _)
   | (with_reducible exact spec_EditRope.mono _ _ _)
   | (with_reducible exact spec_JoinRopes.mono _ _ _)
   | (with_reducible exact spec_RopeOf.mono _ _)
   | (with_reducible exact spec_SplitRope.mono _ _ _)
   | (with_reducible exact spec_l12Text.mono _ _)
   | (with_reducible exact spec_l1Cur_opOn.mono _ _ _ _ _)
   | (with_reducible exact spec_l1Cur_plainText.mono _ _ _ _)
   | (with_reducible exact LeO.refl _)
   | (with_reducible exact LeO.none _)
   | (with_reducible refine LeO.ite ?_ ?_)
   | (with_reducible refine LeO.bind ?_ (fun _ => ?_))
  ·intro y0 y1 y2 y3 y4
   unfold spec_l1Cur_rope.j1
   repeat' first
   | (with_reducible exact ih0 _ _ _ _ _)
   | (with_reducible exact ih1 _ _ _ _ _)
   | (with_reducible exact spec_EditRope.mono _ _ _)
   | (with_reducible exact spec_JoinRopes.mono _ _ _)
   | (with_reducible exact spec_RopeOf.mono _ _)
   | (with_reducible exact spec_SplitRope.mono _ _ _)
   | (with_reducible exact spec_l12Text.mono _ _)
   | (with_reducible exact spec_l1Cur_opOn.mono _ _ _ _ _)
   | (with_reducible exact spec_l1Cur_plainText.mono _ _ _ _)
   | (with_reducible exact LeO.refl _)
   | (with_reducible exact LeO.none _)
   | (with_reducible refine LeO.ite ?_ ?_)
   | (with_reducible refine LeO.bind ?_ (fun _ => ?_))
theorem spec_l1Cur_rope.mono : ∀ a0 a1 a2 k, LeO (spec_l1Cur_rope.f k a0 a1 a2) (spec_l1Cur_rope.f (k + 1) a0 a1 a2) := by
 intro a0 a1 a2 k
 obtain ⟨ih0, ih1⟩ := spec_l1Cur_rope.mono_l k
 unfold spec_l1Cur_rope.f
 repeat' first
   | (with_reducible exact ih0 _ _ _ _ _)
   | (with_reducible exact ih1 _ _ _ _ _)
   | (with_reducible exact spec_EditRope.mono _ _ _)
   | (with_reducible exact spec_JoinRopes.mono _ _ _)
   | (with_reducible exact spec_RopeOf.mono _ _)
   | (with_reducible exact spec_SplitRope.mono _ _ _)
   | (with_reducible exact spec_l12Text.mono _ _)
   | (with_reducible exact spec_l1Cur_opOn.mono _ _ _ _ _)
   | (with_reducible exact spec_l1Cur_plainText.mono _ _ _ _)
   | (with_reducible exact LeO.refl _)
   | (with_reducible exact LeO.none _)
   | (with_reducible refine LeO.ite ?_ ?_)
   | (with_reducible refine LeO.bind ?_ (fun _ => ?_))
def spec_l1Cur_rope.T7 : Bool × List (List Nat × List Nat) := (true, [([], []), ([], []), ([], []), ([2], [2]), ([3], [3]), ([1, 4, 4], [1, 4]), ([0, 5, 5], [0, 5]), ([6], [6]), ([7], [7]), ([7], [7]), ([8, 6, 0, 1, 2, 3, 4, 5, 6, 7, 8], [8]), ([9, 10, 0, 1, 2, 3, 4, 5, 6, 7, 8, 9, 10], [9])])
def spec_l1Cur_rope.B7 : List Nat := [0, 0, 0, 4, 12, 30, 63, 127, 255, 255, 511, 2047]
theorem spec_l1Cur_rope.tab7 : rtab .any (opsOf Try.f73 7) = spec_l1Cur_rope.T7 := by kernel_rfl
theorem spec_l1Cur_rope.bits7 : waitsOk spec_l1Cur_rope.T7.2 spec_l1Cur_rope.B7 = true := by kernel_rfl
def spec_l1Cur_rope.T12 : Bool × List (List Nat × List Nat) := (true, [([], []), ([], []), ([], []), ([2], [2]), ([3], [3]), ([4], [4]), ([1, 5, 4], [1, 5]), ([0, 6, 6], [0, 6]), ([7], [7]), ([8], [8]), ([8], [8]), ([8], [8]), ([10, 7, 0, 1, 2, 3, 4, 5, 6, 7, 8, 9, 10], [10]), ([11, 12, 0, 1, 2, 3, 4, 5, 6, 7, 8, 9, 10, 11, 12], [11])])
def spec_l1Cur_rope.B12 : List Nat := [0, 0, 0, 4, 12, 28, 62, 127, 255, 511, 511, 511, 2047, 8191]
theorem spec_l1Cur_rope.tab12 : rtab .any (opsOf Try.f73 12) = spec_l1Cur_rope.T12 := by kernel_rfl
theorem spec_l1Cur_rope.bits12 : waitsOk spec_l1Cur_rope.T12.2 spec_l1Cur_rope.B12 = true := by kernel_rfl
def spec_l1Cur_rope.T20 : Bool × List (List Nat × List Nat) := (true, [([], []), ([0], [0]), ([], []), ([1, 2], [1, 2]), ([3], [3]), ([4], [4]), ([], []), ([6], [6]), ([7], [7]), ([5, 8], [5, 8]), ([1, 2, 0, 1, 2, 3, 4, 5, 6, 7, 8, 9], [1, 2]), ([10, 0, 1, 2, 3, 4, 5, 6, 7, 8, 9], [10]), ([11, 9, 7, 0, 1, 2, 3, 4, 5, 6, 7, 8, 9], [9, 11])])
def spec_l1Cur_rope.B20 : List Nat := [0, 1, 0, 7, 15, 31, 0, 64, 192, 511, 1023, 2047, 4095]
theorem spec_l1Cur_rope.tab20 : rtab .any (opsOf Try.f73 20) = spec_l1Cur_rope.T20 := by kernel_rfl
theorem spec_l1Cur_rope.bits20 : waitsOk spec_l1Cur_rope.T20.2 spec_l1Cur_rope.B20 = true := by kernel_rfl
def spec_l1Cur_rope.T22 : Bool × List (List Nat × List Nat) := (true, [([], []), ([0], [0]), ([], []), ([], []), ([3], [3]), ([4], [4]), ([1, 2, 0, 1, 2, 3, 4, 5], [1, 2]), ([6, 0, 1, 2, 3, 4, 5], [6]), ([7, 5, 4, 0, 1, 2, 3, 4, 5], [5, 7])])
def spec_l1Cur_rope.B22 : List Nat := [0, 1, 0, 0, 8, 24, 63, 127, 255]
theorem spec_l1Cur_rope.tab22 : rtab .any (opsOf Try.f73 22) = spec_l1Cur_rope.T22 := by kernel_rfl
theorem spec_l1Cur_rope.bits22 : waitsOk spec_l1Cur_rope.T22.2 spec_l1Cur_rope.B22 = true := by kernel_rfl
set_option maxHeartbeats 8000000 in
set_option maxRecDepth 100000 in
theorem spec_l1Cur_rope.calls (k : Nat) (g : Nat) (s0_0 : List Int) (s0_1 : Int) (s0_2 : Int) (r1 : List (S58)) (r2 : Int) (r3 : Int) (w0 w : World) (hI : IsS95 w0 w g s0_0 s0_1 s0_2) (hB : Below w0.heap.size w0 w) (h : spec_l1Cur_rope.f k s0_0 s0_1 s0_2 = some (r1, r2, r3)) :
  Calls Try.prog 73 #[.pointer (some ⟨g, 0, none⟩)] w fun e w' => ∃ v0_ : Value, e = .returned (.agg #[v0_]) ∧ Kd.R k58 58 w' w.heap.size (fun _ => True) v0_ r1 ∧ IsS95 w0 w' g s0_0 r2 r3 ∧ Below w0.heap.size w0 w' ∧ KeepBut w w' g none := by
 have hu29 := Try.underlying29
 have HI0 := aM hI
 have HK := aM (KeepBut.refl w g none)
 have HL := aM hB.size
 clear hI
 have HW0 := aM hB.size
 have HB := aM hB
 clear hB
 have H : ((spec_l1Cur_plainText.f k s0_0 s0_1 s0_2).bind fun jk => ((spec_RopeOf.f k jk.1).bind fun oW => ((spec_l1Cur_pick.f s0_0 jk.2.1 jk.2.2 5).bind fun jj => (spec_l1Cur_rope.l0 k jj.1 s0_0 jj.2.1 jj.2.2 oW.1)))) = some (r1, r2, r3) := h
 clear h
 obtain ⟨⟨qO, oa, n9⟩, A2, H⟩ := oA_ H
 try dsimp only at H
 obtain ⟨⟨n8, t303⟩, A3, H⟩ := oA_ H
 try dsimp only at H
 obtain ⟨⟨rN, rM, rL⟩, A4, H⟩ := oA_ H
 try dsimp only at H
 have H' := aM H
 clear H
 go_enter Try.func73, Try.ntmps73
 go_wp2_with (first | ((with_reducible refine aN (N := 2) rfl ?_); refine aQ ?hg (N := 2) ?hd (cs := #[.slice none 0 0]) (t := 29) ?hr ?_; (case hd => rfl); (case hg => rfl); (case hr => first | (go_simp; done) | (go_simp; rfl)); intro b9 hg w5 hbox hb; replace HB := aM (aA z27 hb); have bK := aM (hbox); have fo := aM ((by rw [hg]; exact (keep_size (w := w) (g := g) (row := none) z22) : w.heap.size ≤ b9)); have cO := aM ((Nat.le_trans HW0.out (by rw [hg]; exact (keep_size (w := w) (g := g) (row := none) z22) : w.heap.size ≤ b9) : w0.heap.size ≤ b9)); replace HK := aM (KeepBut.trans z22 (KeepBut.of_below hb g none) (.inl rfl)); have bP := aM ((by rw [hg]; exact aD (IsS95.lt (show IsS95 w0 _ g s0_0 s0_1 s0_2 from by (try simp only [Int.add_zero]); repeat (first | (with_reducible first | exact HI0.out | apply IsS95.alloc | apply IsS95.drewN | apply IsS95.drew | apply IsS95.set_1 | apply IsS95.set_2) | exact HI0.out))) : g ≠ b9)); have cw := aM ((by rw [hg]; exact aE (IsS95.lt (show IsS95 w0 _ g s0_0 s0_1 s0_2 from by (try simp only [Int.add_zero]); repeat (first | (with_reducible first | exact HI0.out | apply IsS95.alloc | apply IsS95.drewN | apply IsS95.drew | apply IsS95.set_1 | apply IsS95.set_2) | exact HI0.out))) : b9 ≠ g)); replace HI0 := aM (IsS95.below z30 hb); clear hb hbox hg) | ((with_reducible refine aK (f := 90) rfl ?_); refine aT (some 13) rfl rfl Try.func90 z1 rfl #[.pointer (some ⟨g, 0, none⟩)] rfl z21 ?_; (with_reducible refine (spec_l1Cur_plainText.calls k g s0_0 s0_1 s0_2 qO oa n9 w0 _ ?side1 ?side2 A2.out).mono ?_); (case side1 => repeat (first | (with_reducible first | exact HI0.out | apply IsS95.alloc | apply IsS95.drewN | apply IsS95.drew | apply IsS95.set_1 | apply IsS95.set_2 | refine IsS95.far ?_ bP.out _) | exact HI0.out)); (case side2 => repeat (first | (with_reducible first | exact HB.out | apply bA | apply pD | apply bD | refine az ?_ (IsS95.ge HI0.out) | refine az ?_ cO.out) | exact HB.out)); rintro e w6 ⟨rfl, hi, hb, hk⟩; refine ⟨_, rfl, ?_⟩; replace bK := aM (KeepBut.blk hk (g' := b9) (o := .cells #[.slice none 0 0] 29 (0, 0)) z12 cw.out (by simp)); replace HK := aM (KeepBut.trans (by repeat (first | (with_reducible first | exact HK.out | apply KeepBut.set_ | apply keep_drewN | apply keep_drew | apply keep_alloc | refine keep_far ?_ fo.out _) | exact HK.out)) hk (.inl rfl)); replace HB := aM (hb); replace HI0 := aM (hi); (try clear hb); (try clear hk); (try clear hi); (try clear dX)) | ((with_reducible refine aK (f := 25) rfl ?_); refine aT (some 14) rfl rfl Try.func25 z1 rfl #[.string qO] rfl z21 ?_; (with_reducible refine (spec_RopeOf.calls k qO n8 t303 _ A3.out).mono ?_); rintro e w7 ⟨v301, rfl, ho0, hb⟩; refine ⟨_, rfl, ?_⟩; have iy := aM (aW ho0 (keep_size (w := w) (g := g) (row := none) (by repeat (first | (with_reducible first | exact HK.out | apply KeepBut.set_ | apply keep_drewN | apply keep_drew | apply keep_alloc | refine keep_far ?_ fo.out _) | exact HK.out)))); replace bK := aM (bK_ bK.out hb); replace HK := aM (KeepBut.trans (by repeat (first | (with_reducible first | exact HK.out | apply KeepBut.set_ | apply keep_drewN | apply keep_drew | apply keep_alloc | refine keep_far ?_ fo.out _) | exact HK.out)) (KeepBut.of_below hb g none) (.inl rfl)); replace HB := aM (aA (by repeat (first | (with_reducible first | exact HB.out | apply bA | apply pD | apply bD | refine az ?_ (IsS95.ge HI0.out) | refine az ?_ cO.out) | exact HB.out)) hb); replace HI0 := aM (IsS95.below (by (try simp only [Int.add_zero]); repeat (first | (with_reducible first | exact HI0.out | apply IsS95.alloc | apply IsS95.drewN | apply IsS95.drew | apply IsS95.set_1 | apply IsS95.set_2 | refine IsS95.far ?_ bP.out _) | exact HI0.out)) hb); (try clear hb); (try clear ho0)) | ((with_reducible refine aN (N := 3) rfl ?_); refine aQ ?hg (N := 3) ?hd (cs := #[.slice none 0 0]) (t := 29) ?hr ?_; (case hd => rfl); (case hg => rfl); (case hr => first | (go_simp; done) | (go_simp; rfl)); intro bX hg w8 hbox hb; replace iy := aM (ag (kR_ iy.out) hb); replace HB := aM (aA (by repeat (first | (with_reducible first | exact HB.out | apply bA | apply pD | apply bD | refine az ?_ (IsS95.ge HI0.out) | refine az ?_ cO.out) | exact HB.out)) hb); have bx := aM (hbox); have iz := aM ((by rw [hg]; exact (keep_size (w := w) (g := g) (row := none) (by repeat (first | (with_reducible first | exact HK.out | apply KeepBut.set_ | apply keep_drewN | apply keep_drew | apply keep_alloc | refine keep_far ?_ fo.out _) | exact HK.out))) : w.heap.size ≤ bX)); have cW := aM ((Nat.le_trans HW0.out (by rw [hg]; exact (keep_size (w := w) (g := g) (row := none) (by repeat (first | (with_reducible first | exact HK.out | apply KeepBut.set_ | apply keep_drewN | apply keep_drew | apply keep_alloc | refine keep_far ?_ fo.out _) | exact HK.out))) : w.heap.size ≤ bX) : w0.heap.size ≤ bX)); replace HK := aM (KeepBut.trans (by repeat (first | (with_reducible first | exact HK.out | apply KeepBut.set_ | apply keep_drewN | apply keep_drew | apply keep_alloc | refine keep_far ?_ fo.out _) | exact HK.out)) (KeepBut.of_below hb g none) (.inl rfl)); have cV := aM ((by rw [hg]; exact aD (ay (g := b9) (o := .cells #[.slice none 0 0] 29 (0, 0)) z12) : b9 ≠ bX)); have dA := aM ((by rw [hg]; exact aE (ay (g := b9) (o := .cells #[.slice none 0 0] 29 (0, 0)) z12) : bX ≠ b9)); replace bK := aM (bK_ bK.out hb); have bM := aM ((by rw [hg]; exact aD (IsS95.lt (show IsS95 w0 _ g s0_0 oa n9 from by (try simp only [Int.add_zero]); repeat (first | (with_reducible first | exact HI0.out | apply IsS95.alloc | apply IsS95.drewN | apply IsS95.drew | apply IsS95.set_1 | apply IsS95.set_2 | refine IsS95.far ?_ bP.out _) | exact HI0.out))) : g ≠ bX)); have cm := aM ((by rw [hg]; exact aE (IsS95.lt (show IsS95 w0 _ g s0_0 oa n9 from by (try simp only [Int.add_zero]); repeat (first | (with_reducible first | exact HI0.out | apply IsS95.alloc | apply IsS95.drewN | apply IsS95.drew | apply IsS95.set_1 | apply IsS95.set_2 | refine IsS95.far ?_ bP.out _) | exact HI0.out))) : bX ≠ g)); replace HI0 := aM (IsS95.below (by (try simp only [Int.add_zero]); repeat (first | (with_reducible first | exact HI0.out | apply IsS95.alloc | apply IsS95.drewN | apply IsS95.drew | apply IsS95.set_1 | apply IsS95.set_2 | refine IsS95.far ?_ bP.out _) | exact HI0.out)) hb); clear hb hbox hg; obtain ⟨ro, ra, eo9⟩ := Kd.R_slice iy.out; subst eo9; have hnb10 := dA.out; have hnc10 := cV.out; have hnb11 := cm.out; have hnc11 := bM.out; obtain ⟨fN, fM⟩ := cc1 bx.out) | ((with_reducible refine aK (f := 86) rfl ?_); refine aT (some 18) rfl rfl Try.func86 z1 rfl #[.pointer (some ⟨g, 0, none⟩), .int .i64 5] rfl z21 ?_; (with_reducible refine (spec_l1Cur_pick.calls g s0_0 oa n9 5 rN rM rL w0 _ ?side1 ?side2 A4.out).mono ?_); (case side1 => exact y48); (case side2 => exact y45); rintro e w13 ⟨rfl, hi, hb, hk⟩; refine ⟨_, rfl, ?_⟩; replace bK := aM (KeepBut.blk hk (g' := b9) (o := .cells #[.slice none 0 0] 29 (0, 0)) (by (with_reducible repeat (first | refine au ?_ _ | refine ar ?_ | refine av ?_ _)); refine aw ?_ cV.out _; (with_reducible repeat (first | refine au ?_ _ | refine ar ?_ | refine av ?_ _)); exact bK.out) cw.out (by simp)); replace iy := aM (ah (Kd.R_keep (IsS95.apart (show IsS95 w0 _ g s0_0 oa n9 from by (try simp only [Int.add_zero]); repeat (first | (with_reducible first | exact HI0.out | apply IsS95.alloc | apply IsS95.drewN | apply IsS95.drew | apply IsS95.set_1 | apply IsS95.set_2 | refine IsS95.far ?_ bP.out _ | refine IsS95.far ?_ bM.out _) | exact HI0.out)) (by (with_reducible repeat (first | apply ae | apply ac | apply aa)); exact (ah (ap (p := ⟨bX, 0, none⟩) (aq iy.out bx.out z0) (fun _ hk => hk.2) (.slice ro n8.length ra)) (fun _ h_ => h_.1))) z0) hk (fun _ h => h.2)) (fun _ h => h.1)); replace bx := aM (KeepBut.blk hk (g' := bX) (o := .cells #[.slice ro n8.length ra] 29 (0, 0)) (by (with_reducible repeat (first | refine au ?_ _ | refine ar ?_ | refine av ?_ _)); refine ax (cs := #[.slice none 0 0]) ?_ 0 _ rfl; (with_reducible repeat (first | refine au ?_ _ | refine ar ?_ | refine av ?_ _)); exact bx.out) cm.out (by simp)); replace HK := aM (KeepBut.trans z31 hk (.inl rfl)); replace HB := aM (hb); replace HI0 := aM (hi); (try clear hb); (try clear hk); (try clear hi); (try clear dX)))
 go_loopg [5] k (fun kq v5 w' => ∃ (x5_1 : Int) (x1001_1 : Int) (x1002_1 : Int) (x305000_1 : List (S58)) (u305000 : Value), v5 = .int .i64 x5_1 ∧ Aside0 (spec_l1Cur_rope.l0 kq x5_1 s0_0 x1001_1 x1002_1 x305000_1 = some (r1, r2, r3)) ∧ Aside0 (kq ≤ k) ∧ Aside0 (Kd.R k58 58 w' w.heap.size (fun _ => True) u305000 x305000_1) ∧ Aside0 (w'.heap[b9]? = some (.cells #[(.slice none 0 0)] 29 (0, 0))) ∧ Aside0 (w'.heap[bX]? = some (.cells #[u305000] 29 (0, 0))) ∧ Aside0 (IsS95 w0 w' g s0_0 x1001_1 x1002_1) ∧ Aside0 (KeepBut w w' g none) ∧ Aside0 (Below w0.heap.size w0 w'))
 case atStart => exact ⟨(rN), (rM), (rL), (n8), (.slice ro n8.length ra), z2, H', ⟨Nat.le_refl _⟩, ⟨kR_ iy.out⟩, ⟨kB_ bK.out⟩, ⟨kB_ bx.out⟩, ⟨y26⟩, ⟨y21⟩, ⟨y20⟩⟩
 case round =>
  clear H'
  try clear fN
  try clear fM
  obtain ⟨x5_1, x1001_1, x1002_1, x305000_1, u305000, rfl, HA, HK1, a9, bK, bx, HI0, HK, HB⟩ := hrel
  cases gk with
  | zero => exact absurd HA.out (by simp [spec_l1Cur_rope.l0])
  | succ k1 =>
   have H := HA.out
   clear HA
   simp only [spec_l1Cur_rope.l0] at H
   by_cases f5 : x5_1 > 0
   ·rw [if_pos f5] at H
    have c14b0 : decide (0 < x5_1) = true := dT f5
    clear f5
    obtain ⟨⟨gB, fV, fU⟩, rD, H⟩ := oA_ H
    try dsimp only at H
    by_cases fS : gB = 0
    ·rw [if_pos fS] at H
     have c16b0 : (gB == 0) = true := qT fS
     have c16b1 : (gB != 0) = false := nF fS
     clear fS
     obtain ⟨⟨nJ, jJ, jI⟩, rC, H⟩ := oA_ H
     try dsimp only at H
     obtain ⟨⟨eW, rK⟩, sT, H⟩ := oA_ H
     try dsimp only at H
     obtain ⟨⟨lN, t323⟩, tl, H⟩ := oA_ H
     try dsimp only at H
     by_cases oK : t323 = true
     ·subst oK
      rw [if_pos rfl] at H
      have H' := aM H
      clear H
      have hnb21 := dA.out
      have hnc21 := cV.out
      have hnb22 := cm.out
      have hnc22 := bM.out
      obtain ⟨kL, ko⟩ := cc1 bx.out
      go_wp2_with (first | ((with_reducible refine aN (N := 6) rfl ?_); refine aQ ?hg (N := 6) ?hd (cs := #[.slice none 0 0]) (t := 29) ?hr ?_; (case hd => rfl); (case hg => rfl); (case hr => first | (go_simp; done) | (go_simp; rfl)); intro bQ hg w24 hbox hb; replace a9 := aM (ag z9 hb); replace HB := aM (aA (by repeat (first | (with_reducible first | exact HB.out | apply bA | apply pD | apply bD | refine az ?_ (IsS95.ge HI0.out) | refine az ?_ cO.out | refine az ?_ cW.out) | exact HB.out)) hb); have b5 := aM (hbox); have gq := aM ((by rw [hg]; exact (keep_size (w := w) (g := g) (row := none) z31) : w.heap.size ≤ bQ)); have eF := aM ((Nat.le_trans HW0.out (by rw [hg]; exact (keep_size (w := w) (g := g) (row := none) z31) : w.heap.size ≤ bQ) : w0.heap.size ≤ bQ)); replace HK := aM (KeepBut.trans z31 (KeepBut.of_below hb g none) (.inl rfl)); have cT := aM ((by rw [hg]; exact aD (ay (g := b9) (o := .cells #[.slice none 0 0] 29 (0, 0)) z12) : b9 ≠ bQ)); have cS := aM ((by rw [hg]; exact aE (ay (g := b9) (o := .cells #[.slice none 0 0] 29 (0, 0)) z12) : bQ ≠ b9)); replace bK := aM (bK_ bK.out hb); have cp := aM ((by rw [hg]; exact aD (ay (g := bX) (o := .cells #[u305000] 29 (0, 0)) z13) : bX ≠ bQ)); have cQ := aM ((by rw [hg]; exact aE (ay (g := bX) (o := .cells #[u305000] 29 (0, 0)) z13) : bQ ≠ bX)); replace bx := aM (bK_ bx.out hb); have cd := aM ((by rw [hg]; exact aD (IsS95.lt (show IsS95 w0 _ g s0_0 x1001_1 x1002_1 from by (try simp only [Int.add_zero]); repeat (first | (with_reducible first | exact HI0.out | apply IsS95.alloc | apply IsS95.drewN | apply IsS95.drew | apply IsS95.set_1 | apply IsS95.set_2 | refine IsS95.far ?_ bP.out _ | refine IsS95.far ?_ bM.out _) | exact HI0.out))) : g ≠ bQ)); have cM := aM ((by rw [hg]; exact aE (IsS95.lt (show IsS95 w0 _ g s0_0 x1001_1 x1002_1 from by (try simp only [Int.add_zero]); repeat (first | (with_reducible first | exact HI0.out | apply IsS95.alloc | apply IsS95.drewN | apply IsS95.drew | apply IsS95.set_1 | apply IsS95.set_2 | refine IsS95.far ?_ bP.out _ | refine IsS95.far ?_ bM.out _) | exact HI0.out))) : bQ ≠ g)); replace HI0 := aM (IsS95.below z45 hb); clear hb hbox hg; obtain ⟨fu, fl, eo25⟩ := Kd.R_slice a9.out; subst eo25; have hnb26 := cS.out; have hnc26 := cT.out; have hnb27 := cQ.out; have hnc27 := cp.out; have hnb28 := cM.out; have hnc28 := cd.out; obtain ⟨hcz29_0, hfz29_0⟩ := cc1 b5.out) | ((with_reducible refine aK (f := 86) rfl ?_); refine aT (some 25) rfl rfl Try.func86 z1 rfl #[.pointer (some ⟨g, 0, none⟩), .int .i64 3] rfl z21 ?_; (with_reducible refine (spec_l1Cur_pick.calls g s0_0 x1001_1 x1002_1 3 gB fV fU w0 _ ?side1 ?side2 rD.out).mono ?_); (case side1 => exact y49); (case side2 => exact y47); rintro e w30 ⟨rfl, hi, hb, hk⟩; refine ⟨_, rfl, ?_⟩; replace a9 := aM (ah (Kd.R_keep (IsS95.apart (show IsS95 w0 _ g s0_0 x1001_1 x1002_1 from by (try simp only [Int.add_zero]); repeat (first | (with_reducible first | exact HI0.out | apply IsS95.alloc | apply IsS95.drewN | apply IsS95.drew | apply IsS95.set_1 | apply IsS95.set_2 | refine IsS95.far ?_ bP.out _ | refine IsS95.far ?_ bM.out _ | refine IsS95.far ?_ cd.out _) | exact HI0.out)) (by (with_reducible repeat (first | apply ae | apply ac | apply aa)); exact (ah (ap (p := ⟨bQ, 0, none⟩) (aq a9.out b5.out z0) (fun _ hk => hk.2) (.slice fu x305000_1.length fl)) (fun _ h_ => h_.1))) z0) hk (fun _ h => h.2)) (fun _ h => h.1)); replace bK := aM (KeepBut.blk hk (g' := b9) (o := .cells #[.slice none 0 0] 29 (0, 0)) z35 cw.out (by simp)); replace bx := aM (KeepBut.blk hk (g' := bX) (o := .cells #[.slice fu x305000_1.length fl] 29 (0, 0)) z36 cm.out (by simp)); replace b5 := aM (KeepBut.blk hk (g' := bQ) (o := .cells #[.slice fu x305000_1.length fl] 29 (0, 0)) z43 cM.out (by simp)); replace HK := aM (KeepBut.trans z34 hk (.inl rfl)); replace HB := aM (hb); replace HI0 := aM (hi); (try clear hb); (try clear hk); (try clear hi); (try clear dX)) | ((with_reducible refine aK (f := 90) rfl ?_); refine aT (some 40) rfl rfl Try.func90 z1 rfl #[.pointer (some ⟨g, 0, none⟩)] rfl z21 ?_; (with_reducible refine (spec_l1Cur_plainText.calls k1 g s0_0 fV fU nJ jJ jI w0 _ ?side1 ?side2 rC.out).mono ?_); (case side1 => exact y49); (case side2 => exact y47); rintro e w31 ⟨rfl, hi, hb, hk⟩; refine ⟨_, rfl, ?_⟩; replace a9 := aM (ah (Kd.R_keep (IsS95.apart (show IsS95 w0 _ g s0_0 fV fU from by (try simp only [Int.add_zero]); repeat (first | (with_reducible first | exact HI0.out | apply IsS95.alloc | apply IsS95.drewN | apply IsS95.drew | apply IsS95.set_1 | apply IsS95.set_2 | refine IsS95.far ?_ bP.out _ | refine IsS95.far ?_ bM.out _ | refine IsS95.far ?_ cd.out _) | exact HI0.out)) z9 z0) hk (fun _ h => h.2)) (fun _ h => h.1)); replace bK := aM (KeepBut.blk hk (g' := b9) (o := .cells #[.slice none 0 0] 29 (0, 0)) z12 cw.out (by simp)); replace bx := aM (KeepBut.blk hk (g' := bX) (o := .cells #[.slice fu x305000_1.length fl] 29 (0, 0)) z13 cm.out (by simp)); replace b5 := aM (KeepBut.blk hk (g' := bQ) (o := .cells #[.slice fu x305000_1.length fl] 29 (0, 0)) z14 cM.out (by simp)); replace HK := aM (KeepBut.trans z34 hk (.inl rfl)); replace HB := aM (hb); replace HI0 := aM (hi); (try clear hb); (try clear hk); (try clear hi); (try clear dX)) | ((with_reducible refine aK (f := 25) rfl ?_); refine aT (some 41) rfl rfl Try.func25 z1 rfl #[.string nJ] rfl z21 ?_; (with_reducible refine (spec_RopeOf.calls k1 nJ eW rK _ sT.out).mono ?_); rintro e w32 ⟨v316, rfl, ho0, hb⟩; refine ⟨_, rfl, ?_⟩; have eE := aM (aW (ak ho0 (am z9)) (keep_size (w := w) (g := g) (row := none) z34)); replace a9 := aM (aj z9 (al ho0) hb); replace bK := aM (bK_ bK.out hb); replace bx := aM (bK_ bx.out hb); replace b5 := aM (bK_ b5.out hb); replace HK := aM (KeepBut.trans z34 (KeepBut.of_below hb g none) (.inl rfl)); replace HB := aM (aA z42 hb); replace HI0 := aM (IsS95.below z47 hb); (try clear hb); (try clear ho0)) | ((with_reducible refine aN (N := 8) rfl ?_); refine aQ ?hg (N := 8) ?hd (cs := #[.slice none 0 0]) (t := 29) ?hr ?_; (case hd => rfl); (case hg => rfl); (case hr => first | (go_simp; done) | (go_simp; rfl)); intro cK hg w33 hbox hb; replace a9 := aM (ag z9 hb); replace eE := aM (ag (kR_ eE.out) hb); replace HB := aM (aA z42 hb); have ez := aM (hbox); have jx := aM ((by rw [hg]; exact (keep_size (w := w) (g := g) (row := none) z34) : w.heap.size ≤ cK)); have lE := aM ((Nat.le_trans HW0.out (by rw [hg]; exact (keep_size (w := w) (g := g) (row := none) z34) : w.heap.size ≤ cK) : w0.heap.size ≤ cK)); replace HK := aM (KeepBut.trans z34 (KeepBut.of_below hb g none) (.inl rfl)); have fG := aM ((by rw [hg]; exact aD (ay (g := b9) (o := .cells #[.slice none 0 0] 29 (0, 0)) z12) : b9 ≠ cK)); have iq := aM ((by rw [hg]; exact aE (ay (g := b9) (o := .cells #[.slice none 0 0] 29 (0, 0)) z12) : cK ≠ b9)); replace bK := aM (bK_ bK.out hb); have fF := aM ((by rw [hg]; exact aD (ay (g := bX) (o := .cells #[.slice fu x305000_1.length fl] 29 (0, 0)) z13) : bX ≠ cK)); have ip := aM ((by rw [hg]; exact aE (ay (g := bX) (o := .cells #[.slice fu x305000_1.length fl] 29 (0, 0)) z13) : cK ≠ bX)); replace bx := aM (bK_ bx.out hb); have fE := aM ((by rw [hg]; exact aD (ay (g := bQ) (o := .cells #[.slice fu x305000_1.length fl] 29 (0, 0)) z14) : bQ ≠ cK)); have im := aM ((by rw [hg]; exact aE (ay (g := bQ) (o := .cells #[.slice fu x305000_1.length fl] 29 (0, 0)) z14) : cK ≠ bQ)); replace b5 := aM (bK_ b5.out hb); have fO := aM ((by rw [hg]; exact aD (IsS95.lt (show IsS95 w0 _ g s0_0 jJ jI from by (try simp only [Int.add_zero]); repeat (first | (with_reducible first | exact HI0.out | apply IsS95.alloc | apply IsS95.drewN | apply IsS95.drew | apply IsS95.set_1 | apply IsS95.set_2 | refine IsS95.far ?_ bP.out _ | refine IsS95.far ?_ bM.out _ | refine IsS95.far ?_ cd.out _) | exact HI0.out))) : g ≠ cK)); have k8 := aM ((by rw [hg]; exact aE (IsS95.lt (show IsS95 w0 _ g s0_0 jJ jI from by (try simp only [Int.add_zero]); repeat (first | (with_reducible first | exact HI0.out | apply IsS95.alloc | apply IsS95.drewN | apply IsS95.drew | apply IsS95.set_1 | apply IsS95.set_2 | refine IsS95.far ?_ bP.out _ | refine IsS95.far ?_ bM.out _ | refine IsS95.far ?_ cd.out _) | exact HI0.out))) : cK ≠ g)); replace HI0 := aM (IsS95.below z47 hb); clear hb hbox hg; obtain ⟨jO, jh, eo34⟩ := Kd.R_slice eE.out; subst eo34; have hnb35 := iq.out; have hnc35 := fG.out; have hnb36 := ip.out; have hnc36 := fF.out; have hnb37 := im.out; have hnc37 := fE.out; have hnb38 := k8.out; have hnc38 := fO.out; obtain ⟨hcz39_0, hfz39_0⟩ := cc1 ez.out; obtain ⟨hcz40_0, hfz40_0⟩ := cc1 bx.out) | ((with_reducible refine aK (f := 34) rfl ?_); refine aT (some 47) rfl rfl Try.func34 z1 rfl #[.agg #[.slice fu x305000_1.length fl], .agg #[.slice jO eW.length jh]] rfl z21 ?_; (with_reducible refine (spec_JoinRopes.calls k1 _ _ x305000_1 _ _ eW lN true _ ?side1 ?side2 ?side3 ?side4 tl.out).mono ?_); (case side1 => refine (ai (e := 58) (base := w.heap.size) (ok := fun k_ => (True ∧ some k_ ≠ (.slice jO eW.length jh : Value).ownBlock)) (n := x305000_1.length) (c := fl) ?_).2.2; exact (by (with_reducible repeat (first | apply ae | apply ac | apply aa)); exact (ah (ap (p := ⟨cK, 0, none⟩) (aq a9.out ez.out z0) (fun _ hk => hk.2) (.slice jO eW.length jh)) (fun _ h_ => h_.1)))); (case side2 => exact (ai a9.out).2.1); (case side3 => refine (ai (e := 58) (base := w.heap.size) (ok := fun k_ => (True ∧ some k_ ≠ (.slice fu x305000_1.length fl : Value).ownBlock)) (n := eW.length) (c := jh) ?_).2.2; exact (by (with_reducible repeat (first | apply ae | apply ac | apply aa)); exact (ah (ap (p := ⟨cK, 0, none⟩) (aq eE.out ez.out z0) (fun _ hk => hk.2) (.slice jO eW.length jh)) (fun _ h_ => h_.1)))); (case side4 => exact (ai eE.out).2.1); rintro e w41 ⟨v321, rfl, ho0, hb⟩; refine ⟨_, rfl, ?_⟩; have nC := aM (aW (ak (ak ho0 (am (by (with_reducible repeat (first | apply ae | apply ac | apply aa)); exact (ah (ap (p := ⟨cK, 0, none⟩) (aq a9.out ez.out z0) (fun _ hk => hk.2) (.slice jO eW.length jh)) (fun _ h_ => h_.1))))) (am (by (with_reducible repeat (first | apply ae | apply ac | apply aa)); exact (ah (ap (p := ⟨cK, 0, none⟩) (aq eE.out ez.out z0) (fun _ hk => hk.2) (.slice jO eW.length jh)) (fun _ h_ => h_.1))))) (keep_size (w := w) (g := g) (row := none) (by repeat (first | (with_reducible first | exact HK.out | apply KeepBut.set_ | apply keep_drewN | apply keep_drew | apply keep_alloc | refine keep_far ?_ fo.out _ | refine keep_far ?_ iz.out _ | refine keep_far ?_ gq.out _ | refine keep_far ?_ jx.out _) | exact HK.out)))); replace a9 := aM (aj (by (with_reducible repeat (first | apply ae | apply ac | apply aa)); exact (ah (ap (p := ⟨cK, 0, none⟩) (aq a9.out ez.out z0) (fun _ hk => hk.2) (.slice jO eW.length jh)) (fun _ h_ => h_.1))) (al ho0) hb); replace eE := aM (aj (by (with_reducible repeat (first | apply ae | apply ac | apply aa)); exact (ah (ap (p := ⟨cK, 0, none⟩) (aq eE.out ez.out z0) (fun _ hk => hk.2) (.slice jO eW.length jh)) (fun _ h_ => h_.1))) (al ho0) hb); replace bK := aM (af (g := b9) (o := .cells #[.slice none 0 0] 29 (0, 0)) (by (with_reducible repeat (first | refine au ?_ _ | refine ar ?_ | refine av ?_ _)); refine aw ?_ fG.out _; (with_reducible repeat (first | refine au ?_ _ | refine ar ?_ | refine av ?_ _)); exact bK.out) hb); replace bx := aM (af (g := bX) (o := .cells #[.slice fu x305000_1.length fl] 29 (0, 0)) (by (with_reducible repeat (first | refine au ?_ _ | refine ar ?_ | refine av ?_ _)); refine aw ?_ fF.out _; (with_reducible repeat (first | refine au ?_ _ | refine ar ?_ | refine av ?_ _)); exact bx.out) hb); replace b5 := aM (af (g := bQ) (o := .cells #[.slice fu x305000_1.length fl] 29 (0, 0)) (by (with_reducible repeat (first | refine au ?_ _ | refine ar ?_ | refine av ?_ _)); refine aw ?_ fE.out _; (with_reducible repeat (first | refine au ?_ _ | refine ar ?_ | refine av ?_ _)); exact b5.out) hb); replace ez := aM (af (g := cK) (o := .cells #[.slice jO eW.length jh] 29 (0, 0)) (by (with_reducible repeat (first | refine au ?_ _ | refine ar ?_ | refine av ?_ _)); refine ax (cs := #[.slice none 0 0]) ?_ 0 _ rfl; (with_reducible repeat (first | refine au ?_ _ | refine ar ?_ | refine av ?_ _)); exact ez.out) hb); replace HK := aM (KeepBut.trans (by repeat (first | (with_reducible first | exact HK.out | apply KeepBut.set_ | apply keep_drewN | apply keep_drew | apply keep_alloc | refine keep_far ?_ fo.out _ | refine keep_far ?_ iz.out _ | refine keep_far ?_ gq.out _ | refine keep_far ?_ jx.out _) | exact HK.out)) (KeepBut.of_below hb g none) (.inl rfl)); replace HB := aM (aA (by repeat (first | (with_reducible first | exact HB.out | apply bA | apply pD | apply bD | refine az ?_ (IsS95.ge HI0.out) | refine az ?_ cO.out | refine az ?_ cW.out | refine az ?_ eF.out | refine az ?_ lE.out) | exact HB.out)) hb); replace HI0 := aM (IsS95.below (show IsS95 w0 (w33.setCell ⟨cK, 0, none⟩ (.slice jO eW.length jh)) g s0_0 jJ jI from by (try simp only [Int.add_zero]); repeat (first | (with_reducible first | exact HI0.out | apply IsS95.alloc | apply IsS95.drewN | apply IsS95.drew | apply IsS95.set_1 | apply IsS95.set_2 | refine IsS95.far ?_ bP.out _ | refine IsS95.far ?_ bM.out _ | refine IsS95.far ?_ cd.out _ | refine IsS95.far ?_ fO.out _) | exact HI0.out)) hb); (try clear hb); (try clear ho0); obtain ⟨rq, rc, eo42⟩ := Kd.R_slice nC.out; subst eo42; obtain ⟨kJ, kn⟩ := cc1 b5.out; obtain ⟨hcz44_0, hfz44_0⟩ := cc1 bx.out))
      go_roundg k1
      case measure => have := HK1.out; omega
      case rel => exact ⟨(wrap64 (x5_1 - 1)), (jJ), (jI), (lN), (.slice rq lN.length rc), z2, H', ⟨y0⟩, ⟨by (with_reducible repeat (first | apply ae | apply ac | apply aa)); exact ah (ap (p := ⟨bX, 0, none⟩) (ap (p := ⟨bQ, 0, none⟩) (aq (aq nC.out b5.out z0) bx.out z0) (fun _ hk => hk.1.2) (.slice rq lN.length rc)) (fun _ hk => hk.2) (.slice rq lN.length rc)) (fun _ hk => trivial)⟩, ⟨y29⟩, ⟨by (with_reducible repeat (first | refine au ?_ _ | refine ar ?_ | refine av ?_ _)); refine ax (cs := #[.slice fu x305000_1.length fl]) ?_ 0 _ rfl; (with_reducible repeat (first | refine au ?_ _ | refine ar ?_ | refine av ?_ _)); refine aw ?_ cp.out _; (with_reducible repeat (first | refine au ?_ _ | refine ar ?_ | refine av ?_ _)); exact bx.out⟩, ⟨by (try simp only [Int.add_zero]); repeat (first | (with_reducible first | exact HI0.out | apply IsS95.alloc | apply IsS95.drewN | apply IsS95.drew | apply IsS95.set_1 | apply IsS95.set_2 | refine IsS95.far ?_ bP.out _ | refine IsS95.far ?_ bM.out _ | refine IsS95.far ?_ cd.out _ | refine IsS95.far ?_ fO.out _) | exact HI0.out)⟩, ⟨by repeat (first | (with_reducible first | exact HK.out | apply KeepBut.set_ | apply keep_drewN | apply keep_drew | apply keep_alloc | refine keep_far ?_ fo.out _ | refine keep_far ?_ iz.out _ | refine keep_far ?_ gq.out _ | refine keep_far ?_ jx.out _) | exact HK.out)⟩, ⟨by repeat (first | (with_reducible first | exact HB.out | apply bA | apply pD | apply bD | refine az ?_ (IsS95.ge HI0.out) | refine az ?_ cO.out | refine az ?_ cW.out | refine az ?_ eF.out | refine az ?_ lE.out) | exact HB.out)⟩⟩
     ·replace oK := Bool.eq_false_iff.mpr oK
      subst oK
      rw [if_neg nF_] at H
      have H' := aM H
      clear H
      have hnb45 := dA.out
      have hnc45 := cV.out
      have hnb46 := cm.out
      have hnc46 := bM.out
      obtain ⟨hcz47_0, hfz47_0⟩ := cc1 bx.out
      go_wp2_with (first | ((with_reducible refine aN (N := 6) rfl ?_); refine aQ ?hg (N := 6) ?hd (cs := #[.slice none 0 0]) (t := 29) ?hr ?_; (case hd => rfl); (case hg => rfl); (case hr => first | (go_simp; done) | (go_simp; rfl)); intro bQ hg w48 hbox hb; replace a9 := aM (ag z9 hb); replace HB := aM (aA (by repeat (first | (with_reducible first | exact HB.out | apply bA | apply pD | apply bD | refine az ?_ (IsS95.ge HI0.out) | refine az ?_ cO.out | refine az ?_ cW.out) | exact HB.out)) hb); have b5 := aM (hbox); have gq := aM ((by rw [hg]; exact (keep_size (w := w) (g := g) (row := none) z31) : w.heap.size ≤ bQ)); have eF := aM ((Nat.le_trans HW0.out (by rw [hg]; exact (keep_size (w := w) (g := g) (row := none) z31) : w.heap.size ≤ bQ) : w0.heap.size ≤ bQ)); replace HK := aM (KeepBut.trans z31 (KeepBut.of_below hb g none) (.inl rfl)); have cT := aM ((by rw [hg]; exact aD (ay (g := b9) (o := .cells #[.slice none 0 0] 29 (0, 0)) z12) : b9 ≠ bQ)); have cS := aM ((by rw [hg]; exact aE (ay (g := b9) (o := .cells #[.slice none 0 0] 29 (0, 0)) z12) : bQ ≠ b9)); replace bK := aM (bK_ bK.out hb); have cp := aM ((by rw [hg]; exact aD (ay (g := bX) (o := .cells #[u305000] 29 (0, 0)) z13) : bX ≠ bQ)); have cQ := aM ((by rw [hg]; exact aE (ay (g := bX) (o := .cells #[u305000] 29 (0, 0)) z13) : bQ ≠ bX)); replace bx := aM (bK_ bx.out hb); have cd := aM ((by rw [hg]; exact aD (IsS95.lt (show IsS95 w0 _ g s0_0 x1001_1 x1002_1 from by (try simp only [Int.add_zero]); repeat (first | (with_reducible first | exact HI0.out | apply IsS95.alloc | apply IsS95.drewN | apply IsS95.drew | apply IsS95.set_1 | apply IsS95.set_2 | refine IsS95.far ?_ bP.out _ | refine IsS95.far ?_ bM.out _) | exact HI0.out))) : g ≠ bQ)); have cM := aM ((by rw [hg]; exact aE (IsS95.lt (show IsS95 w0 _ g s0_0 x1001_1 x1002_1 from by (try simp only [Int.add_zero]); repeat (first | (with_reducible first | exact HI0.out | apply IsS95.alloc | apply IsS95.drewN | apply IsS95.drew | apply IsS95.set_1 | apply IsS95.set_2 | refine IsS95.far ?_ bP.out _ | refine IsS95.far ?_ bM.out _) | exact HI0.out))) : bQ ≠ g)); replace HI0 := aM (IsS95.below z45 hb); clear hb hbox hg; obtain ⟨fJ, ft, eo49⟩ := Kd.R_slice a9.out; subst eo49; have hnb50 := cS.out; have hnc50 := cT.out; have hnb51 := cQ.out; have hnc51 := cp.out; have hnb52 := cM.out; have hnc52 := cd.out; obtain ⟨hcz53_0, hfz53_0⟩ := cc1 b5.out) | ((with_reducible refine aK (f := 86) rfl ?_); refine aT (some 25) rfl rfl Try.func86 z1 rfl #[.pointer (some ⟨g, 0, none⟩), .int .i64 3] rfl z21 ?_; (with_reducible refine (spec_l1Cur_pick.calls g s0_0 x1001_1 x1002_1 3 gB fV fU w0 _ ?side1 ?side2 rD.out).mono ?_); (case side1 => exact y49); (case side2 => exact y47); rintro e w54 ⟨rfl, hi, hb, hk⟩; refine ⟨_, rfl, ?_⟩; replace a9 := aM (ah (Kd.R_keep (IsS95.apart (show IsS95 w0 _ g s0_0 x1001_1 x1002_1 from by (try simp only [Int.add_zero]); repeat (first | (with_reducible first | exact HI0.out | apply IsS95.alloc | apply IsS95.drewN | apply IsS95.drew | apply IsS95.set_1 | apply IsS95.set_2 | refine IsS95.far ?_ bP.out _ | refine IsS95.far ?_ bM.out _ | refine IsS95.far ?_ cd.out _) | exact HI0.out)) (by (with_reducible repeat (first | apply ae | apply ac | apply aa)); exact (ah (ap (p := ⟨bQ, 0, none⟩) (aq a9.out b5.out z0) (fun _ hk => hk.2) (.slice fJ x305000_1.length ft)) (fun _ h_ => h_.1))) z0) hk (fun _ h => h.2)) (fun _ h => h.1)); replace bK := aM (KeepBut.blk hk (g' := b9) (o := .cells #[.slice none 0 0] 29 (0, 0)) z35 cw.out (by simp)); replace bx := aM (KeepBut.blk hk (g' := bX) (o := .cells #[.slice fJ x305000_1.length ft] 29 (0, 0)) z36 cm.out (by simp)); replace b5 := aM (KeepBut.blk hk (g' := bQ) (o := .cells #[.slice fJ x305000_1.length ft] 29 (0, 0)) z43 cM.out (by simp)); replace HK := aM (KeepBut.trans z34 hk (.inl rfl)); replace HB := aM (hb); replace HI0 := aM (hi); (try clear hb); (try clear hk); (try clear hi); (try clear dX)) | ((with_reducible refine aK (f := 90) rfl ?_); refine aT (some 40) rfl rfl Try.func90 z1 rfl #[.pointer (some ⟨g, 0, none⟩)] rfl z21 ?_; (with_reducible refine (spec_l1Cur_plainText.calls k1 g s0_0 fV fU nJ jJ jI w0 _ ?side1 ?side2 rC.out).mono ?_); (case side1 => exact y49); (case side2 => exact y47); rintro e w55 ⟨rfl, hi, hb, hk⟩; refine ⟨_, rfl, ?_⟩; replace a9 := aM (ah (Kd.R_keep (IsS95.apart (show IsS95 w0 _ g s0_0 fV fU from by (try simp only [Int.add_zero]); repeat (first | (with_reducible first | exact HI0.out | apply IsS95.alloc | apply IsS95.drewN | apply IsS95.drew | apply IsS95.set_1 | apply IsS95.set_2 | refine IsS95.far ?_ bP.out _ | refine IsS95.far ?_ bM.out _ | refine IsS95.far ?_ cd.out _) | exact HI0.out)) z9 z0) hk (fun _ h => h.2)) (fun _ h => h.1)); replace bK := aM (KeepBut.blk hk (g' := b9) (o := .cells #[.slice none 0 0] 29 (0, 0)) z12 cw.out (by simp)); replace bx := aM (KeepBut.blk hk (g' := bX) (o := .cells #[.slice fJ x305000_1.length ft] 29 (0, 0)) z13 cm.out (by simp)); replace b5 := aM (KeepBut.blk hk (g' := bQ) (o := .cells #[.slice fJ x305000_1.length ft] 29 (0, 0)) z14 cM.out (by simp)); replace HK := aM (KeepBut.trans z34 hk (.inl rfl)); replace HB := aM (hb); replace HI0 := aM (hi); (try clear hb); (try clear hk); (try clear hi); (try clear dX)) | ((with_reducible refine aK (f := 25) rfl ?_); refine aT (some 41) rfl rfl Try.func25 z1 rfl #[.string nJ] rfl z21 ?_; (with_reducible refine (spec_RopeOf.calls k1 nJ eW rK _ sT.out).mono ?_); rintro e w56 ⟨v316, rfl, ho0, hb⟩; refine ⟨_, rfl, ?_⟩; have eE := aM (aW (ak ho0 (am z9)) (keep_size (w := w) (g := g) (row := none) z34)); replace a9 := aM (aj z9 (al ho0) hb); replace bK := aM (bK_ bK.out hb); replace bx := aM (bK_ bx.out hb); replace b5 := aM (bK_ b5.out hb); replace HK := aM (KeepBut.trans z34 (KeepBut.of_below hb g none) (.inl rfl)); replace HB := aM (aA z42 hb); replace HI0 := aM (IsS95.below z47 hb); (try clear hb); (try clear ho0)) | ((with_reducible refine aN (N := 8) rfl ?_); refine aQ ?hg (N := 8) ?hd (cs := #[.slice none 0 0]) (t := 29) ?hr ?_; (case hd => rfl); (case hg => rfl); (case hr => first | (go_simp; done) | (go_simp; rfl)); intro cK hg w57 hbox hb; replace a9 := aM (ag z9 hb); replace eE := aM (ag (kR_ eE.out) hb); replace HB := aM (aA z42 hb); have ez := aM (hbox); have jx := aM ((by rw [hg]; exact (keep_size (w := w) (g := g) (row := none) z34) : w.heap.size ≤ cK)); have lE := aM ((Nat.le_trans HW0.out (by rw [hg]; exact (keep_size (w := w) (g := g) (row := none) z34) : w.heap.size ≤ cK) : w0.heap.size ≤ cK)); replace HK := aM (KeepBut.trans z34 (KeepBut.of_below hb g none) (.inl rfl)); have fG := aM ((by rw [hg]; exact aD (ay (g := b9) (o := .cells #[.slice none 0 0] 29 (0, 0)) z12) : b9 ≠ cK)); have iq := aM ((by rw [hg]; exact aE (ay (g := b9) (o := .cells #[.slice none 0 0] 29 (0, 0)) z12) : cK ≠ b9)); replace bK := aM (bK_ bK.out hb); have fF := aM ((by rw [hg]; exact aD (ay (g := bX) (o := .cells #[.slice fJ x305000_1.length ft] 29 (0, 0)) z13) : bX ≠ cK)); have ip := aM ((by rw [hg]; exact aE (ay (g := bX) (o := .cells #[.slice fJ x305000_1.length ft] 29 (0, 0)) z13) : cK ≠ bX)); replace bx := aM (bK_ bx.out hb); have fE := aM ((by rw [hg]; exact aD (ay (g := bQ) (o := .cells #[.slice fJ x305000_1.length ft] 29 (0, 0)) z14) : bQ ≠ cK)); have im := aM ((by rw [hg]; exact aE (ay (g := bQ) (o := .cells #[.slice fJ x305000_1.length ft] 29 (0, 0)) z14) : cK ≠ bQ)); replace b5 := aM (bK_ b5.out hb); have fO := aM ((by rw [hg]; exact aD (IsS95.lt (show IsS95 w0 _ g s0_0 jJ jI from by (try simp only [Int.add_zero]); repeat (first | (with_reducible first | exact HI0.out | apply IsS95.alloc | apply IsS95.drewN | apply IsS95.drew | apply IsS95.set_1 | apply IsS95.set_2 | refine IsS95.far ?_ bP.out _ | refine IsS95.far ?_ bM.out _ | refine IsS95.far ?_ cd.out _) | exact HI0.out))) : g ≠ cK)); have k8 := aM ((by rw [hg]; exact aE (IsS95.lt (show IsS95 w0 _ g s0_0 jJ jI from by (try simp only [Int.add_zero]); repeat (first | (with_reducible first | exact HI0.out | apply IsS95.alloc | apply IsS95.drewN | apply IsS95.drew | apply IsS95.set_1 | apply IsS95.set_2 | refine IsS95.far ?_ bP.out _ | refine IsS95.far ?_ bM.out _ | refine IsS95.far ?_ cd.out _) | exact HI0.out))) : cK ≠ g)); replace HI0 := aM (IsS95.below z47 hb); clear hb hbox hg; obtain ⟨jN, jg, eo58⟩ := Kd.R_slice eE.out; subst eo58; have hnb59 := iq.out; have hnc59 := fG.out; have hnb60 := ip.out; have hnc60 := fF.out; have hnb61 := im.out; have hnc61 := fE.out; have hnb62 := k8.out; have hnc62 := fO.out; obtain ⟨hcz63_0, hfz63_0⟩ := cc1 ez.out; obtain ⟨mM, l7⟩ := cc1 bx.out) | ((with_reducible refine aK (f := 34) rfl ?_); refine aT (some 47) rfl rfl Try.func34 z1 rfl #[.agg #[.slice fJ x305000_1.length ft], .agg #[.slice jN eW.length jg]] rfl z21 ?_; (with_reducible refine (spec_JoinRopes.calls k1 _ _ x305000_1 _ _ eW lN false _ ?side1 ?side2 ?side3 ?side4 tl.out).mono ?_); (case side1 => refine (ai (e := 58) (base := w.heap.size) (ok := fun k_ => (True ∧ some k_ ≠ (.slice jN eW.length jg : Value).ownBlock)) (n := x305000_1.length) (c := ft) ?_).2.2; exact (by (with_reducible repeat (first | apply ae | apply ac | apply aa)); exact (ah (ap (p := ⟨cK, 0, none⟩) (aq a9.out ez.out z0) (fun _ hk => hk.2) (.slice jN eW.length jg)) (fun _ h_ => h_.1)))); (case side2 => exact (ai a9.out).2.1); (case side3 => refine (ai (e := 58) (base := w.heap.size) (ok := fun k_ => (True ∧ some k_ ≠ (.slice fJ x305000_1.length ft : Value).ownBlock)) (n := eW.length) (c := jg) ?_).2.2; exact (by (with_reducible repeat (first | apply ae | apply ac | apply aa)); exact (ah (ap (p := ⟨cK, 0, none⟩) (aq eE.out ez.out z0) (fun _ hk => hk.2) (.slice jN eW.length jg)) (fun _ h_ => h_.1)))); (case side4 => exact (ai eE.out).2.1); rintro e w65 ⟨v321, rfl, ho0, hb⟩; refine ⟨_, rfl, ?_⟩; have nC := aM (aW (ak (ak ho0 (am (by (with_reducible repeat (first | apply ae | apply ac | apply aa)); exact (ah (ap (p := ⟨cK, 0, none⟩) (aq a9.out ez.out z0) (fun _ hk => hk.2) (.slice jN eW.length jg)) (fun _ h_ => h_.1))))) (am (by (with_reducible repeat (first | apply ae | apply ac | apply aa)); exact (ah (ap (p := ⟨cK, 0, none⟩) (aq eE.out ez.out z0) (fun _ hk => hk.2) (.slice jN eW.length jg)) (fun _ h_ => h_.1))))) (keep_size (w := w) (g := g) (row := none) (by repeat (first | (with_reducible first | exact HK.out | apply KeepBut.set_ | apply keep_drewN | apply keep_drew | apply keep_alloc | refine keep_far ?_ fo.out _ | refine keep_far ?_ iz.out _ | refine keep_far ?_ gq.out _ | refine keep_far ?_ jx.out _) | exact HK.out)))); replace a9 := aM (aj (by (with_reducible repeat (first | apply ae | apply ac | apply aa)); exact (ah (ap (p := ⟨cK, 0, none⟩) (aq a9.out ez.out z0) (fun _ hk => hk.2) (.slice jN eW.length jg)) (fun _ h_ => h_.1))) (al ho0) hb); replace eE := aM (aj (by (with_reducible repeat (first | apply ae | apply ac | apply aa)); exact (ah (ap (p := ⟨cK, 0, none⟩) (aq eE.out ez.out z0) (fun _ hk => hk.2) (.slice jN eW.length jg)) (fun _ h_ => h_.1))) (al ho0) hb); replace bK := aM (af (g := b9) (o := .cells #[.slice none 0 0] 29 (0, 0)) (by (with_reducible repeat (first | refine au ?_ _ | refine ar ?_ | refine av ?_ _)); refine aw ?_ fG.out _; (with_reducible repeat (first | refine au ?_ _ | refine ar ?_ | refine av ?_ _)); exact bK.out) hb); replace bx := aM (af (g := bX) (o := .cells #[.slice fJ x305000_1.length ft] 29 (0, 0)) (by (with_reducible repeat (first | refine au ?_ _ | refine ar ?_ | refine av ?_ _)); refine aw ?_ fF.out _; (with_reducible repeat (first | refine au ?_ _ | refine ar ?_ | refine av ?_ _)); exact bx.out) hb); replace b5 := aM (af (g := bQ) (o := .cells #[.slice fJ x305000_1.length ft] 29 (0, 0)) (by (with_reducible repeat (first | refine au ?_ _ | refine ar ?_ | refine av ?_ _)); refine aw ?_ fE.out _; (with_reducible repeat (first | refine au ?_ _ | refine ar ?_ | refine av ?_ _)); exact b5.out) hb); replace ez := aM (af (g := cK) (o := .cells #[.slice jN eW.length jg] 29 (0, 0)) (by (with_reducible repeat (first | refine au ?_ _ | refine ar ?_ | refine av ?_ _)); refine ax (cs := #[.slice none 0 0]) ?_ 0 _ rfl; (with_reducible repeat (first | refine au ?_ _ | refine ar ?_ | refine av ?_ _)); exact ez.out) hb); replace HK := aM (KeepBut.trans (by repeat (first | (with_reducible first | exact HK.out | apply KeepBut.set_ | apply keep_drewN | apply keep_drew | apply keep_alloc | refine keep_far ?_ fo.out _ | refine keep_far ?_ iz.out _ | refine keep_far ?_ gq.out _ | refine keep_far ?_ jx.out _) | exact HK.out)) (KeepBut.of_below hb g none) (.inl rfl)); replace HB := aM (aA (by repeat (first | (with_reducible first | exact HB.out | apply bA | apply pD | apply bD | refine az ?_ (IsS95.ge HI0.out) | refine az ?_ cO.out | refine az ?_ cW.out | refine az ?_ eF.out | refine az ?_ lE.out) | exact HB.out)) hb); replace HI0 := aM (IsS95.below (show IsS95 w0 (w57.setCell ⟨cK, 0, none⟩ (.slice jN eW.length jg)) g s0_0 jJ jI from by (try simp only [Int.add_zero]); repeat (first | (with_reducible first | exact HI0.out | apply IsS95.alloc | apply IsS95.drewN | apply IsS95.drew | apply IsS95.set_1 | apply IsS95.set_2 | refine IsS95.far ?_ bP.out _ | refine IsS95.far ?_ bM.out _ | refine IsS95.far ?_ cd.out _ | refine IsS95.far ?_ fO.out _) | exact HI0.out)) hb); (try clear hb); (try clear ho0); obtain ⟨Ao66, co66, eo66⟩ := Kd.R_slice nC.out; subst eo66; obtain ⟨hcz67_0, hfz67_0⟩ := cc1 b5.out))
      go_roundg k1
      case measure => have := HK1.out; omega
      case rel => exact ⟨(wrap64 (x5_1 - 1)), (jJ), (jI), (x305000_1), (.slice fJ x305000_1.length ft), z2, H', ⟨y0⟩, ⟨by (with_reducible repeat (first | apply ae | apply ac | apply aa)); exact ah (ap (p := ⟨bQ, 0, none⟩) (aq a9.out b5.out z0) (fun _ hk => hk.2) (.slice Ao66 lN.length co66)) (fun _ hk => trivial)⟩, ⟨y24⟩, ⟨y25⟩, ⟨by (try simp only [Int.add_zero]); repeat (first | (with_reducible first | exact HI0.out | apply IsS95.alloc | apply IsS95.drewN | apply IsS95.drew | apply IsS95.set_1 | apply IsS95.set_2 | refine IsS95.far ?_ bP.out _ | refine IsS95.far ?_ bM.out _ | refine IsS95.far ?_ cd.out _ | refine IsS95.far ?_ fO.out _) | exact HI0.out)⟩, ⟨by repeat (first | (with_reducible first | exact HK.out | apply KeepBut.set_ | apply keep_drewN | apply keep_drew | apply keep_alloc | refine keep_far ?_ fo.out _ | refine keep_far ?_ iz.out _ | refine keep_far ?_ gq.out _ | refine keep_far ?_ jx.out _) | exact HK.out)⟩, ⟨by repeat (first | (with_reducible first | exact HB.out | apply bA | apply pD | apply bD | refine az ?_ (IsS95.ge HI0.out) | refine az ?_ cO.out | refine az ?_ cW.out | refine az ?_ eF.out | refine az ?_ lE.out) | exact HB.out)⟩⟩
    ·rw [if_neg fS] at H
     have c16b0 : (gB == 0) = false := qF fS
     have c16b1 : (gB != 0) = true := nT fS
     by_cases pW : gB = 1
     ·rw [if_pos pW] at H
      have c68b0 : (gB == 1) = true := qT pW
      have c68b1 : (gB != 1) = false := nF pW
      clear pW
      obtain ⟨ll, ti, H⟩ := oA_ H
      try dsimp only at H
      obtain ⟨⟨nI, pu, pt⟩, qr, H⟩ := oA_ H
      try dsimp only at H
      obtain ⟨⟨rJ, lM, t334⟩, th, H⟩ := oA_ H
      try dsimp only at H
      by_cases s6 : t334 = true
      ·subst s6
       rw [if_pos rfl] at H
       have H' := aM H
       clear H
       have hnb73 := dA.out
       have hnc73 := cV.out
       have hnb74 := cm.out
       have hnc74 := bM.out
       obtain ⟨mL, l6⟩ := cc1 bx.out
       try go_wp2_with (first | ((with_reducible refine aN (N := 6) rfl ?_); refine aQ ?hg (N := 6) ?hd (cs := #[.slice none 0 0]) (t := 29) ?hr ?_; (case hd => rfl); (case hg => rfl); (case hr => first | (go_simp; done) | (go_simp; rfl)); intro bQ hg w76 hbox hb; replace a9 := aM (ag z9 hb); replace HB := aM (aA (by repeat (first | (with_reducible first | exact HB.out | apply bA | apply pD | apply bD | refine az ?_ (IsS95.ge HI0.out) | refine az ?_ cO.out | refine az ?_ cW.out) | exact HB.out)) hb); have b5 := aM (hbox); have gq := aM ((by rw [hg]; exact (keep_size (w := w) (g := g) (row := none) z31) : w.heap.size ≤ bQ)); have eF := aM ((Nat.le_trans HW0.out (by rw [hg]; exact (keep_size (w := w) (g := g) (row := none) z31) : w.heap.size ≤ bQ) : w0.heap.size ≤ bQ)); replace HK := aM (KeepBut.trans z31 (KeepBut.of_below hb g none) (.inl rfl)); have cT := aM ((by rw [hg]; exact aD (ay (g := b9) (o := .cells #[.slice none 0 0] 29 (0, 0)) z12) : b9 ≠ bQ)); have cS := aM ((by rw [hg]; exact aE (ay (g := b9) (o := .cells #[.slice none 0 0] 29 (0, 0)) z12) : bQ ≠ b9)); replace bK := aM (bK_ bK.out hb); have cp := aM ((by rw [hg]; exact aD (ay (g := bX) (o := .cells #[u305000] 29 (0, 0)) z13) : bX ≠ bQ)); have cQ := aM ((by rw [hg]; exact aE (ay (g := bX) (o := .cells #[u305000] 29 (0, 0)) z13) : bQ ≠ bX)); replace bx := aM (bK_ bx.out hb); have cd := aM ((by rw [hg]; exact aD (IsS95.lt (show IsS95 w0 _ g s0_0 x1001_1 x1002_1 from by (try simp only [Int.add_zero]); repeat (first | (with_reducible first | exact HI0.out | apply IsS95.alloc | apply IsS95.drewN | apply IsS95.drew | apply IsS95.set_1 | apply IsS95.set_2 | refine IsS95.far ?_ bP.out _ | refine IsS95.far ?_ bM.out _) | exact HI0.out))) : g ≠ bQ)); have cM := aM ((by rw [hg]; exact aE (IsS95.lt (show IsS95 w0 _ g s0_0 x1001_1 x1002_1 from by (try simp only [Int.add_zero]); repeat (first | (with_reducible first | exact HI0.out | apply IsS95.alloc | apply IsS95.drewN | apply IsS95.drew | apply IsS95.set_1 | apply IsS95.set_2 | refine IsS95.far ?_ bP.out _ | refine IsS95.far ?_ bM.out _) | exact HI0.out))) : bQ ≠ g)); replace HI0 := aM (IsS95.below z45 hb); clear hb hbox hg; obtain ⟨g8, gU, eo77⟩ := Kd.R_slice a9.out; subst eo77; have hnb78 := cS.out; have hnc78 := cT.out; have hnb79 := cQ.out; have hnc79 := cp.out; have hnb80 := cM.out; have hnc80 := cd.out; obtain ⟨hcz81_0, hfz81_0⟩ := cc1 b5.out) | ((with_reducible refine aK (f := 86) rfl ?_); refine aT (some 25) rfl rfl Try.func86 z1 rfl #[.pointer (some ⟨g, 0, none⟩), .int .i64 3] rfl z21 ?_; (with_reducible refine (spec_l1Cur_pick.calls g s0_0 x1001_1 x1002_1 3 gB fV fU w0 _ ?side1 ?side2 rD.out).mono ?_); (case side1 => exact y49); (case side2 => exact y47); rintro e w82 ⟨rfl, hi, hb, hk⟩; refine ⟨_, rfl, ?_⟩; replace a9 := aM (ah (Kd.R_keep (IsS95.apart (show IsS95 w0 _ g s0_0 x1001_1 x1002_1 from by (try simp only [Int.add_zero]); repeat (first | (with_reducible first | exact HI0.out | apply IsS95.alloc | apply IsS95.drewN | apply IsS95.drew | apply IsS95.set_1 | apply IsS95.set_2 | refine IsS95.far ?_ bP.out _ | refine IsS95.far ?_ bM.out _ | refine IsS95.far ?_ cd.out _) | exact HI0.out)) (by (with_reducible repeat (first | apply ae | apply ac | apply aa)); exact (ah (ap (p := ⟨bQ, 0, none⟩) (aq a9.out b5.out z0) (fun _ hk => hk.2) (.slice g8 x305000_1.length gU)) (fun _ h_ => h_.1))) z0) hk (fun _ h => h.2)) (fun _ h => h.1)); replace bK := aM (KeepBut.blk hk (g' := b9) (o := .cells #[.slice none 0 0] 29 (0, 0)) z35 cw.out (by simp)); replace bx := aM (KeepBut.blk hk (g' := bX) (o := .cells #[.slice g8 x305000_1.length gU] 29 (0, 0)) z36 cm.out (by simp)); replace b5 := aM (KeepBut.blk hk (g' := bQ) (o := .cells #[.slice g8 x305000_1.length gU] 29 (0, 0)) z43 cM.out (by simp)); replace HK := aM (KeepBut.trans z34 hk (.inl rfl)); replace HB := aM (hb); replace HI0 := aM (hi); (try clear hb); (try clear hk); (try clear hi); (try clear dX)))
       replace a9 := aM (aa a9.out)
       replace bK := aM (ar bK.out)
       replace bx := aM (ar bx.out)
       replace b5 := aM (ar b5.out)
       replace HI0 := aM (IsS95.drew HI0.out)
       replace HK := aM (keep_drew HK.out)
       replace HB := aM (bD HB.out)
       refine start_ (n := 14) (S := fun w' => w'.cell? ⟨bX, 0, none⟩ = some (.slice g8 x305000_1.length gU)) (ds := []) #[false, false, false, false, false, false, false, false, false, false, false, false, false, false] z1 rfl rfl ((bC bx.out 0).trans rfl) (fun hHeld => ?_); refine with_tabW spec_l1Cur_rope.tab12 spec_l1Cur_rope.bits12 (fun HT_ HW_ => ?_)
       generalize w82.drew = w83 at a9 bK bx b5 HI0 HK HB hHeld ⊢
       refine pA 1 54 ?_
       refine pA 2 55 ?_
       refine tA 0 53 ?_ (hy := by intro w' s0; go_simp; with_reducible rfl)
       refine tA 3 56 ?_ (hy := by intro w' s0; go_simp; with_reducible rfl)
       refine one_ (i := 4) (N := some 57) #[true, true, true, true, true, false, false, false, false, false, false, false, false, false] rfl rfl (one_of HT_.out z1) z0 (fun K hK => ?_)
       refine goes_ Try.func51 z1 rfl #[.slice g8 x305000_1.length gU] (by rfl) rfl rfl z21 ?_
       with_reducible refine (spec_l12Size.calls _ _ x305000_1 ll _ ?side1 ?side2 ti.out).mono ?_
       (case side1 => exact y35)
       (case side2 => exact (ai a9.out).2.1)
       rintro e w' ⟨rfl, ⟨nd, rfl⟩⟩
       refine ⟨_, rfl, ?_⟩
       refine hK.out _ _ ((bC bx.out 0).trans rfl) (fun hHeld => ?_)
       clear hK K
       refine norm_ (a' := ?_) ?_ ?_
       rotate_left
       ·show Act.put _ (some 57) _ = _
        simp only [Act.put, sA, sB, sC, i64_w, i32_w]
        rfl
       refine pA 5 58 ?_
       refine one_ (i := 6) (N := some 59) #[true, true, true, true, true, true, true, false, false, false, false, false, false, false] rfl rfl (one_of HT_.out z1) z0 (fun K hK => ?_)
       refine goes_ Try.func86 z1 rfl #[.pointer (some ⟨g, 0, none⟩), .int .i64 (wrap64 (ll + 1))] (by rfl) rfl rfl z21 ?_
       with_reducible refine (spec_l1Cur_pick.calls g s0_0 fV fU (wrap64 (ll + 1)) nI pu pt w0 _ ?side1 ?side2 qr.out).mono ?_
       (case side1 => exact y49)
       (case side2 => exact y47)
       rintro e w84 ⟨rfl, hi, hb, hk⟩
       refine ⟨_, rfl, ?_⟩
       replace a9 := aM (ah (Kd.R_keep (IsS95.apart (show IsS95 w0 _ g s0_0 fV fU from by (try simp only [Int.add_zero]); repeat (first | (with_reducible first | exact HI0.out | apply IsS95.alloc | apply IsS95.drewN | apply IsS95.drew | apply IsS95.set_1 | apply IsS95.set_2 | refine IsS95.far ?_ bP.out _ | refine IsS95.far ?_ bM.out _ | refine IsS95.far ?_ cd.out _) | exact HI0.out)) z9 z0) hk (fun _ h => h.2)) (fun _ h => h.1))
       replace bK := aM (KeepBut.blk hk (g' := b9) (o := .cells #[.slice none 0 0] 29 (0, 0)) z12 cw.out (by simp))
       replace bx := aM (KeepBut.blk hk (g' := bX) (o := .cells #[.slice g8 x305000_1.length gU] 29 (0, 0)) z13 cm.out (by simp))
       replace b5 := aM (KeepBut.blk hk (g' := bQ) (o := .cells #[.slice g8 x305000_1.length gU] 29 (0, 0)) z14 cM.out (by simp))
       replace HK := aM (KeepBut.trans z34 hk (.inl rfl))
       replace HB := aM (hb)
       replace HI0 := aM (hi)
       (try clear hb)
       skip
       (try clear hk)
       (try clear hi)
       (try clear dX)
       refine hK.out _ _ ((bC bx.out 0).trans rfl) (fun hHeld => ?_)
       clear hK K
       refine norm_ (a' := ?_) ?_ ?_
       rotate_left
       ·show Act.put _ (some 59) _ = _
        simp only [Act.put, sA, sB, sC, i64_w, i32_w]
        rfl
       refine one_ (i := 7) (N := some 60) #[true, true, true, true, true, true, true, true, false, false, false, false, false, false] rfl rfl (one_of HT_.out z1) z0 (fun K hK => ?_)
       refine goes_ Try.func38 z1 rfl #[.agg #[.slice g8 x305000_1.length gU], .int .i64 nI] (by rfl) rfl rfl z21 ?_
       with_reducible refine (spec_SplitRope.calls k1 _ _ x305000_1 nI rJ lM true _ ?side1 ?side2 th.out).mono ?_
       (case side1 => exact y35)
       (case side2 => exact (ai a9.out).2.1)
       rintro e w85 ⟨v329, v332, rfl, ho0, ho1, hb⟩
       refine ⟨_, rfl, ?_⟩
       have HO330 := aM (aW (ak ho0 (am z9)) (keep_size (w := w) (g := g) (row := none) z34))
       have nB := aM (aW (ak ho1 (am z9)) (keep_size (w := w) (g := g) (row := none) z34))
       replace a9 := aM (ah (Kd.R_told (Kd.R_told (Kd.R_old z9 hb) (al ho0)) (al ho1)) (fun _ h_ => h_.1))
       replace bK := aM (bK_ bK.out hb)
       replace bx := aM (bK_ bx.out hb)
       replace b5 := aM (bK_ b5.out hb)
       replace HK := aM (KeepBut.trans z34 (KeepBut.of_below hb g none) (.inl rfl))
       replace HB := aM (aA z42 hb)
       replace HI0 := aM (IsS95.below z47 hb)
       (try clear hb)
       skip
       skip
       skip
       (try clear ho0)
       (try clear ho1)
       obtain ⟨rp, rb, eo86⟩ := Kd.R_slice nB.out
       (first | subst eo86 | (injection eo86 with f1_ f2_ f3_; have f4_ := f1_.symm; have f5_ := f3_.symm; clear f1_ f2_ f3_; subst f4_; subst f5_))
       refine hK.out _ _ ((bC bx.out 0).trans rfl) (fun hHeld => ?_)
       clear hK K
       refine norm_ (a' := ?_) ?_ ?_
       rotate_left
       ·show Act.put _ (some 60) _ = _
        simp only [Act.put, sA, sB, sC, i64_w, i32_w]
        rfl
       refine pA 8 52 ?_
       refine pA 9 61 ?_
       refine pA 10 62 ?_
       refine pA 11 63 ?_
       refine one_ (i := 12) (N := none) #[true, true, true, true, true, true, true, true, true, true, true, true, true, false] rfl rfl (one_of HT_.out z1) z0 (fun K hK => ?_)
       obtain ⟨hs87, hfs87⟩ := cc1 b5.out
       have hns87_0 := cT.out
       have hns87_1 := cp.out
       have hms87_0 := cS.out
       have hms87_1 := cQ.out
       refine skip_ (w1 := ?_) (by rfl) rfl ?_ ?_
       rotate_left
       ·go_simp
        rfl
       refine hK.out _ _ (((cell_far (p := ⟨bQ, _, none⟩) cp.out _).trans (hHeld))) (fun hHeld => ?_)
       clear hK K
       refine pA 13 7 ?_
       refine done_ (done_of HT_.out z1) ?_
       obtain ⟨hcz88_0, hfz88_0⟩ := cc1 b5.out
       obtain ⟨hcz89_0, hfz89_0⟩ := cc1 bx.out
       try go_wp2
       go_roundg k1
       case measure => have := HK1.out; omega
       case rel => exact ⟨(wrap64 (x5_1 - 1)), (pu), (pt), (lM), (.slice rp lM.length rb), z2, H', ⟨y0⟩, ⟨by (with_reducible repeat (first | apply ae | apply ac | apply aa)); exact ah (ap (p := ⟨bX, 0, none⟩) (ap (p := ⟨bQ, 0, none⟩) (aq (aq nB.out b5.out z0) bx.out z0) (fun _ hk => hk.1.2) (.slice rp lM.length rb)) (fun _ hk => hk.2) (.slice rp lM.length rb)) (fun _ hk => trivial)⟩, ⟨y29⟩, ⟨by (with_reducible repeat (first | refine au ?_ _ | refine ar ?_ | refine av ?_ _)); refine ax (cs := #[.slice g8 x305000_1.length gU]) ?_ 0 _ rfl; (with_reducible repeat (first | refine au ?_ _ | refine ar ?_ | refine av ?_ _)); refine aw ?_ cp.out _; (with_reducible repeat (first | refine au ?_ _ | refine ar ?_ | refine av ?_ _)); exact bx.out⟩, ⟨y28⟩, ⟨y23⟩, ⟨y22⟩⟩
      ·replace s6 := Bool.eq_false_iff.mpr s6
       subst s6
       rw [if_neg nF_] at H
       have H' := aM H
       clear H
       have hnb90 := dA.out
       have hnc90 := cV.out
       have hnb91 := cm.out
       have hnc91 := bM.out
       obtain ⟨hcz92_0, hfz92_0⟩ := cc1 bx.out
       try go_wp2_with (first | ((with_reducible refine aN (N := 6) rfl ?_); refine aQ ?hg (N := 6) ?hd (cs := #[.slice none 0 0]) (t := 29) ?hr ?_; (case hd => rfl); (case hg => rfl); (case hr => first | (go_simp; done) | (go_simp; rfl)); intro bQ hg w93 hbox hb; replace a9 := aM (ag z9 hb); replace HB := aM (aA (by repeat (first | (with_reducible first | exact HB.out | apply bA | apply pD | apply bD | refine az ?_ (IsS95.ge HI0.out) | refine az ?_ cO.out | refine az ?_ cW.out) | exact HB.out)) hb); have b5 := aM (hbox); have gq := aM ((by rw [hg]; exact (keep_size (w := w) (g := g) (row := none) z31) : w.heap.size ≤ bQ)); have eF := aM ((Nat.le_trans HW0.out (by rw [hg]; exact (keep_size (w := w) (g := g) (row := none) z31) : w.heap.size ≤ bQ) : w0.heap.size ≤ bQ)); replace HK := aM (KeepBut.trans z31 (KeepBut.of_below hb g none) (.inl rfl)); have cT := aM ((by rw [hg]; exact aD (ay (g := b9) (o := .cells #[.slice none 0 0] 29 (0, 0)) z12) : b9 ≠ bQ)); have cS := aM ((by rw [hg]; exact aE (ay (g := b9) (o := .cells #[.slice none 0 0] 29 (0, 0)) z12) : bQ ≠ b9)); replace bK := aM (bK_ bK.out hb); have cp := aM ((by rw [hg]; exact aD (ay (g := bX) (o := .cells #[u305000] 29 (0, 0)) z13) : bX ≠ bQ)); have cQ := aM ((by rw [hg]; exact aE (ay (g := bX) (o := .cells #[u305000] 29 (0, 0)) z13) : bQ ≠ bX)); replace bx := aM (bK_ bx.out hb); have cd := aM ((by rw [hg]; exact aD (IsS95.lt (show IsS95 w0 _ g s0_0 x1001_1 x1002_1 from by (try simp only [Int.add_zero]); repeat (first | (with_reducible first | exact HI0.out | apply IsS95.alloc | apply IsS95.drewN | apply IsS95.drew | apply IsS95.set_1 | apply IsS95.set_2 | refine IsS95.far ?_ bP.out _ | refine IsS95.far ?_ bM.out _) | exact HI0.out))) : g ≠ bQ)); have cM := aM ((by rw [hg]; exact aE (IsS95.lt (show IsS95 w0 _ g s0_0 x1001_1 x1002_1 from by (try simp only [Int.add_zero]); repeat (first | (with_reducible first | exact HI0.out | apply IsS95.alloc | apply IsS95.drewN | apply IsS95.drew | apply IsS95.set_1 | apply IsS95.set_2 | refine IsS95.far ?_ bP.out _ | refine IsS95.far ?_ bM.out _) | exact HI0.out))) : bQ ≠ g)); replace HI0 := aM (IsS95.below z45 hb); clear hb hbox hg; obtain ⟨iF, iE, eo94⟩ := Kd.R_slice a9.out; subst eo94; have hnb95 := cS.out; have hnc95 := cT.out; have hnb96 := cQ.out; have hnc96 := cp.out; have hnb97 := cM.out; have hnc97 := cd.out; obtain ⟨hcz98_0, hfz98_0⟩ := cc1 b5.out) | ((with_reducible refine aK (f := 86) rfl ?_); refine aT (some 25) rfl rfl Try.func86 z1 rfl #[.pointer (some ⟨g, 0, none⟩), .int .i64 3] rfl z21 ?_; (with_reducible refine (spec_l1Cur_pick.calls g s0_0 x1001_1 x1002_1 3 gB fV fU w0 _ ?side1 ?side2 rD.out).mono ?_); (case side1 => exact y49); (case side2 => exact y47); rintro e w99 ⟨rfl, hi, hb, hk⟩; refine ⟨_, rfl, ?_⟩; replace a9 := aM (ah (Kd.R_keep (IsS95.apart (show IsS95 w0 _ g s0_0 x1001_1 x1002_1 from by (try simp only [Int.add_zero]); repeat (first | (with_reducible first | exact HI0.out | apply IsS95.alloc | apply IsS95.drewN | apply IsS95.drew | apply IsS95.set_1 | apply IsS95.set_2 | refine IsS95.far ?_ bP.out _ | refine IsS95.far ?_ bM.out _ | refine IsS95.far ?_ cd.out _) | exact HI0.out)) (by (with_reducible repeat (first | apply ae | apply ac | apply aa)); exact (ah (ap (p := ⟨bQ, 0, none⟩) (aq a9.out b5.out z0) (fun _ hk => hk.2) (.slice iF x305000_1.length iE)) (fun _ h_ => h_.1))) z0) hk (fun _ h => h.2)) (fun _ h => h.1)); replace bK := aM (KeepBut.blk hk (g' := b9) (o := .cells #[.slice none 0 0] 29 (0, 0)) z35 cw.out (by simp)); replace bx := aM (KeepBut.blk hk (g' := bX) (o := .cells #[.slice iF x305000_1.length iE] 29 (0, 0)) z36 cm.out (by simp)); replace b5 := aM (KeepBut.blk hk (g' := bQ) (o := .cells #[.slice iF x305000_1.length iE] 29 (0, 0)) z43 cM.out (by simp)); replace HK := aM (KeepBut.trans z34 hk (.inl rfl)); replace HB := aM (hb); replace HI0 := aM (hi); (try clear hb); (try clear hk); (try clear hi); (try clear dX)))
       replace a9 := aM (aa a9.out)
       replace bK := aM (ar bK.out)
       replace bx := aM (ar bx.out)
       replace b5 := aM (ar b5.out)
       replace HI0 := aM (IsS95.drew HI0.out)
       replace HK := aM (keep_drew HK.out)
       replace HB := aM (bD HB.out)
       refine start_ (n := 14) (S := fun w' => w'.cell? ⟨bX, 0, none⟩ = some (.slice iF x305000_1.length iE)) (ds := []) #[false, false, false, false, false, false, false, false, false, false, false, false, false, false] z1 rfl rfl ((bC bx.out 0).trans rfl) (fun hHeld => ?_); refine with_tabW spec_l1Cur_rope.tab12 spec_l1Cur_rope.bits12 (fun HT_ HW_ => ?_)
       generalize w99.drew = w100 at a9 bK bx b5 HI0 HK HB hHeld ⊢
       refine pA 1 54 ?_
       refine pA 2 55 ?_
       refine tA 0 53 ?_ (hy := by intro w' s0; go_simp; with_reducible rfl)
       refine tA 3 56 ?_ (hy := by intro w' s0; go_simp; with_reducible rfl)
       refine one_ (i := 4) (N := some 57) #[true, true, true, true, true, false, false, false, false, false, false, false, false, false] rfl rfl (one_of HT_.out z1) z0 (fun K hK => ?_)
       refine goes_ Try.func51 z1 rfl #[.slice iF x305000_1.length iE] (by rfl) rfl rfl z21 ?_
       with_reducible refine (spec_l12Size.calls _ _ x305000_1 ll _ ?side1 ?side2 ti.out).mono ?_
       (case side1 => exact y35)
       (case side2 => exact (ai a9.out).2.1)
       rintro e w' ⟨rfl, ⟨nd, rfl⟩⟩
       refine ⟨_, rfl, ?_⟩
       refine hK.out _ _ ((bC bx.out 0).trans rfl) (fun hHeld => ?_)
       clear hK K
       refine norm_ (a' := ?_) ?_ ?_
       rotate_left
       ·show Act.put _ (some 57) _ = _
        simp only [Act.put, sA, sB, sC, i64_w, i32_w]
        rfl
       refine pA 5 58 ?_
       refine one_ (i := 6) (N := some 59) #[true, true, true, true, true, true, true, false, false, false, false, false, false, false] rfl rfl (one_of HT_.out z1) z0 (fun K hK => ?_)
       refine goes_ Try.func86 z1 rfl #[.pointer (some ⟨g, 0, none⟩), .int .i64 (wrap64 (ll + 1))] (by rfl) rfl rfl z21 ?_
       with_reducible refine (spec_l1Cur_pick.calls g s0_0 fV fU (wrap64 (ll + 1)) nI pu pt w0 _ ?side1 ?side2 qr.out).mono ?_
       (case side1 => exact y49)
       (case side2 => exact y47)
       rintro e w101 ⟨rfl, hi, hb, hk⟩
       refine ⟨_, rfl, ?_⟩
       replace a9 := aM (ah (Kd.R_keep (IsS95.apart (show IsS95 w0 _ g s0_0 fV fU from by (try simp only [Int.add_zero]); repeat (first | (with_reducible first | exact HI0.out | apply IsS95.alloc | apply IsS95.drewN | apply IsS95.drew | apply IsS95.set_1 | apply IsS95.set_2 | refine IsS95.far ?_ bP.out _ | refine IsS95.far ?_ bM.out _ | refine IsS95.far ?_ cd.out _) | exact HI0.out)) z9 z0) hk (fun _ h => h.2)) (fun _ h => h.1))
       replace bK := aM (KeepBut.blk hk (g' := b9) (o := .cells #[.slice none 0 0] 29 (0, 0)) z12 cw.out (by simp))
       replace bx := aM (KeepBut.blk hk (g' := bX) (o := .cells #[.slice iF x305000_1.length iE] 29 (0, 0)) z13 cm.out (by simp))
       replace b5 := aM (KeepBut.blk hk (g' := bQ) (o := .cells #[.slice iF x305000_1.length iE] 29 (0, 0)) z14 cM.out (by simp))
       replace HK := aM (KeepBut.trans z34 hk (.inl rfl))
       replace HB := aM (hb)
       replace HI0 := aM (hi)
       (try clear hb)
       skip
       (try clear hk)
       (try clear hi)
       (try clear dX)
       refine hK.out _ _ ((bC bx.out 0).trans rfl) (fun hHeld => ?_)
       clear hK K
       refine norm_ (a' := ?_) ?_ ?_
       rotate_left
       ·show Act.put _ (some 59) _ = _
        simp only [Act.put, sA, sB, sC, i64_w, i32_w]
        rfl
       refine one_ (i := 7) (N := some 60) #[true, true, true, true, true, true, true, true, false, false, false, false, false, false] rfl rfl (one_of HT_.out z1) z0 (fun K hK => ?_)
       refine goes_ Try.func38 z1 rfl #[.agg #[.slice iF x305000_1.length iE], .int .i64 nI] (by rfl) rfl rfl z21 ?_
       with_reducible refine (spec_SplitRope.calls k1 _ _ x305000_1 nI rJ lM false _ ?side1 ?side2 th.out).mono ?_
       (case side1 => exact y35)
       (case side2 => exact (ai a9.out).2.1)
       rintro e w102 ⟨v329, v332, rfl, ho0, ho1, hb⟩
       refine ⟨_, rfl, ?_⟩
       have HO330 := aM (aW (ak ho0 (am z9)) (keep_size (w := w) (g := g) (row := none) z34))
       have nB := aM (aW (ak ho1 (am z9)) (keep_size (w := w) (g := g) (row := none) z34))
       replace a9 := aM (ah (Kd.R_told (Kd.R_told (Kd.R_old z9 hb) (al ho0)) (al ho1)) (fun _ h_ => h_.1))
       replace bK := aM (bK_ bK.out hb)
       replace bx := aM (bK_ bx.out hb)
       replace b5 := aM (bK_ b5.out hb)
       replace HK := aM (KeepBut.trans z34 (KeepBut.of_below hb g none) (.inl rfl))
       replace HB := aM (aA z42 hb)
       replace HI0 := aM (IsS95.below z47 hb)
       (try clear hb)
       skip
       skip
       skip
       (try clear ho0)
       (try clear ho1)
       obtain ⟨Ao103, co103, eo103⟩ := Kd.R_slice nB.out
       (first | subst eo103 | (injection eo103 with f1_ f2_ f3_; have f4_ := f1_.symm; have f5_ := f3_.symm; clear f1_ f2_ f3_; subst f4_; subst f5_))
       refine hK.out _ _ ((bC bx.out 0).trans rfl) (fun hHeld => ?_)
       clear hK K
       refine norm_ (a' := ?_) ?_ ?_
       rotate_left
       ·show Act.put _ (some 60) _ = _
        simp only [Act.put, sA, sB, sC, i64_w, i32_w]
        rfl
       refine pA 8 52 ?_
       refine pA 9 61 ?_
       refine pA 10 62 ?_
       refine pA 11 63 ?_
       refine one_ (i := 12) (N := none) #[true, true, true, true, true, true, true, true, true, true, true, true, true, false] rfl rfl (one_of HT_.out z1) z0 (fun K hK => ?_)
       obtain ⟨hs104, hfs104⟩ := cc1 b5.out
       have hns104_0 := cT.out
       have hns104_1 := cp.out
       have hms104_0 := cS.out
       have hms104_1 := cQ.out
       refine skip_ (w1 := ?_) (by rfl) rfl ?_ ?_
       rotate_left
       ·go_simp
        rfl
       refine hK.out _ _ (((cell_far (p := ⟨bQ, _, none⟩) cp.out _).trans (hHeld))) (fun hHeld => ?_)
       clear hK K
       refine pA 13 7 ?_
       refine done_ (done_of HT_.out z1) ?_
       try go_wp2
       go_roundg k1
       case measure => have := HK1.out; omega
       case rel => exact ⟨(wrap64 (x5_1 - 1)), (pu), (pt), (x305000_1), (.slice iF x305000_1.length iE), z2, H', ⟨y0⟩, ⟨by (with_reducible repeat (first | apply ae | apply ac | apply aa)); exact ah (ap (p := ⟨bQ, 0, none⟩) (aq a9.out b5.out z0) (fun _ hk => hk.2) (.slice Ao103 lM.length co103)) (fun _ hk => trivial)⟩, ⟨y24⟩, ⟨y25⟩, ⟨y28⟩, ⟨y23⟩, ⟨y22⟩⟩
     ·rw [if_neg pW] at H
      have c68b0 : (gB == 1) = false := qF pW
      have c68b1 : (gB != 1) = true := nT pW
      obtain ⟨lh, sZ, H⟩ := oA_ H
      try dsimp only at H
      obtain ⟨⟨nH, pr, pq⟩, sY, H⟩ := oA_ H
      try dsimp only at H
      obtain ⟨⟨lL, t344⟩, sX, H⟩ := oA_ H
      try dsimp only at H
      by_cases oN : t344 = true
      ·subst oN
       rw [if_pos rfl] at H
       have H' := aM H
       clear H
       have hnb109 := dA.out
       have hnc109 := cV.out
       have hnb110 := cm.out
       have hnc110 := bM.out
       obtain ⟨lr, lp⟩ := cc1 bx.out
       try go_wp2_with (first | ((with_reducible refine aN (N := 6) rfl ?_); refine aQ ?hg (N := 6) ?hd (cs := #[.slice none 0 0]) (t := 29) ?hr ?_; (case hd => rfl); (case hg => rfl); (case hr => first | (go_simp; done) | (go_simp; rfl)); intro bQ hg w112 hbox hb; replace a9 := aM (ag z9 hb); replace HB := aM (aA (by repeat (first | (with_reducible first | exact HB.out | apply bA | apply pD | apply bD | refine az ?_ (IsS95.ge HI0.out) | refine az ?_ cO.out | refine az ?_ cW.out) | exact HB.out)) hb); have b5 := aM (hbox); have gq := aM ((by rw [hg]; exact (keep_size (w := w) (g := g) (row := none) z31) : w.heap.size ≤ bQ)); have eF := aM ((Nat.le_trans HW0.out (by rw [hg]; exact (keep_size (w := w) (g := g) (row := none) z31) : w.heap.size ≤ bQ) : w0.heap.size ≤ bQ)); replace HK := aM (KeepBut.trans z31 (KeepBut.of_below hb g none) (.inl rfl)); have cT := aM ((by rw [hg]; exact aD (ay (g := b9) (o := .cells #[.slice none 0 0] 29 (0, 0)) z12) : b9 ≠ bQ)); have cS := aM ((by rw [hg]; exact aE (ay (g := b9) (o := .cells #[.slice none 0 0] 29 (0, 0)) z12) : bQ ≠ b9)); replace bK := aM (bK_ bK.out hb); have cp := aM ((by rw [hg]; exact aD (ay (g := bX) (o := .cells #[u305000] 29 (0, 0)) z13) : bX ≠ bQ)); have cQ := aM ((by rw [hg]; exact aE (ay (g := bX) (o := .cells #[u305000] 29 (0, 0)) z13) : bQ ≠ bX)); replace bx := aM (bK_ bx.out hb); have cd := aM ((by rw [hg]; exact aD (IsS95.lt (show IsS95 w0 _ g s0_0 x1001_1 x1002_1 from by (try simp only [Int.add_zero]); repeat (first | (with_reducible first | exact HI0.out | apply IsS95.alloc | apply IsS95.drewN | apply IsS95.drew | apply IsS95.set_1 | apply IsS95.set_2 | refine IsS95.far ?_ bP.out _ | refine IsS95.far ?_ bM.out _) | exact HI0.out))) : g ≠ bQ)); have cM := aM ((by rw [hg]; exact aE (IsS95.lt (show IsS95 w0 _ g s0_0 x1001_1 x1002_1 from by (try simp only [Int.add_zero]); repeat (first | (with_reducible first | exact HI0.out | apply IsS95.alloc | apply IsS95.drewN | apply IsS95.drew | apply IsS95.set_1 | apply IsS95.set_2 | refine IsS95.far ?_ bP.out _ | refine IsS95.far ?_ bM.out _) | exact HI0.out))) : bQ ≠ g)); replace HI0 := aM (IsS95.below z45 hb); clear hb hbox hg; obtain ⟨fd, fb, eo113⟩ := Kd.R_slice a9.out; subst eo113; have hnb114 := cS.out; have hnc114 := cT.out; have hnb115 := cQ.out; have hnc115 := cp.out; have hnb116 := cM.out; have hnc116 := cd.out; obtain ⟨hcz117_0, hfz117_0⟩ := cc1 b5.out) | ((with_reducible refine aK (f := 86) rfl ?_); refine aT (some 25) rfl rfl Try.func86 z1 rfl #[.pointer (some ⟨g, 0, none⟩), .int .i64 3] rfl z21 ?_; (with_reducible refine (spec_l1Cur_pick.calls g s0_0 x1001_1 x1002_1 3 gB fV fU w0 _ ?side1 ?side2 rD.out).mono ?_); (case side1 => exact y49); (case side2 => exact y47); rintro e w118 ⟨rfl, hi, hb, hk⟩; refine ⟨_, rfl, ?_⟩; replace a9 := aM (ah (Kd.R_keep (IsS95.apart (show IsS95 w0 _ g s0_0 x1001_1 x1002_1 from by (try simp only [Int.add_zero]); repeat (first | (with_reducible first | exact HI0.out | apply IsS95.alloc | apply IsS95.drewN | apply IsS95.drew | apply IsS95.set_1 | apply IsS95.set_2 | refine IsS95.far ?_ bP.out _ | refine IsS95.far ?_ bM.out _ | refine IsS95.far ?_ cd.out _) | exact HI0.out)) (by (with_reducible repeat (first | apply ae | apply ac | apply aa)); exact (ah (ap (p := ⟨bQ, 0, none⟩) (aq a9.out b5.out z0) (fun _ hk => hk.2) (.slice fd x305000_1.length fb)) (fun _ h_ => h_.1))) z0) hk (fun _ h => h.2)) (fun _ h => h.1)); replace bK := aM (KeepBut.blk hk (g' := b9) (o := .cells #[.slice none 0 0] 29 (0, 0)) z35 cw.out (by simp)); replace bx := aM (KeepBut.blk hk (g' := bX) (o := .cells #[.slice fd x305000_1.length fb] 29 (0, 0)) z36 cm.out (by simp)); replace b5 := aM (KeepBut.blk hk (g' := bQ) (o := .cells #[.slice fd x305000_1.length fb] 29 (0, 0)) z43 cM.out (by simp)); replace HK := aM (KeepBut.trans z34 hk (.inl rfl)); replace HB := aM (hb); replace HI0 := aM (hi); (try clear hb); (try clear hk); (try clear hi); (try clear dX)))
       replace a9 := aM (aa a9.out)
       replace bK := aM (ar bK.out)
       replace bx := aM (ar bx.out)
       replace b5 := aM (ar b5.out)
       replace HI0 := aM (IsS95.drew HI0.out)
       replace HK := aM (keep_drew HK.out)
       replace HB := aM (bD HB.out)
       refine start_ (n := 12) (S := fun w' => w'.cell? ⟨bX, 0, none⟩ = some (.slice fd x305000_1.length fb)) (ds := []) #[false, false, false, false, false, false, false, false, false, false, false, false] z1 rfl rfl ((bC bx.out 0).trans rfl) (fun hHeld => ?_); refine with_tabW spec_l1Cur_rope.tab7 spec_l1Cur_rope.bits7 (fun HT_ HW_ => ?_)
       generalize w118.drew = w119 at a9 bK bx b5 HI0 HK HB hHeld ⊢
       refine pA 1 28 ?_
       refine pA 2 29 ?_
       refine tA 0 27 ?_ (hy := by intro w' s0; go_simp; with_reducible rfl)
       refine tA 3 30 ?_ (hy := by intro w' s0; go_simp; with_reducible rfl)
       refine one_ (i := 4) (N := some 31) #[true, true, true, true, true, false, false, false, false, false, false, false] rfl rfl (one_of HT_.out z1) z0 (fun K hK => ?_)
       refine goes_ Try.func54 z1 rfl #[.slice fd x305000_1.length fb] (by rfl) rfl rfl z21 ?_
       with_reducible refine (spec_l12Text.calls k1 _ _ x305000_1 lh _ ?side1 ?side2 sZ.out).mono ?_
       (case side1 => exact y35)
       (case side2 => exact (ai a9.out).2.1)
       rintro e w120 ⟨rfl, hb⟩
       refine ⟨_, rfl, ?_⟩
       replace a9 := aM (ag z9 hb)
       replace bK := aM (bK_ bK.out hb)
       replace bx := aM (bK_ bx.out hb)
       replace b5 := aM (bK_ b5.out hb)
       replace HK := aM (KeepBut.trans z34 (KeepBut.of_below hb g none) (.inl rfl))
       replace HB := aM (aA z42 hb)
       replace HI0 := aM (IsS95.below z47 hb)
       (try clear hb)
       skip
       skip
       skip
       refine hK.out _ _ ((bC bx.out 0).trans rfl) (fun hHeld => ?_)
       clear hK K
       refine norm_ (a' := ?_) ?_ ?_
       rotate_left
       ·show Act.put _ (some 31) _ = _
        simp only [Act.put, sA, sB, sC, i64_w, i32_w]
        rfl
       refine one_ (i := 5) (N := some 32) #[true, true, true, true, true, true, false, false, false, false, false, false] rfl rfl (one_of HT_.out z1) z0 (fun K hK => ?_)
       refine goes_ Try.func92 z1 rfl #[.pointer (some ⟨g, 0, none⟩), .string lh] (by rfl) rfl rfl z21 ?_
       with_reducible refine (spec_l1Cur_opOn.calls k1 g s0_0 fV fU lh nH pr pq w0 _ ?side1 ?side2 sY.out).mono ?_
       (case side1 => exact y49)
       (case side2 => exact y47)
       rintro e w121 ⟨v337, rfl, ho0, hi, hb, hk⟩
       refine ⟨_, rfl, ?_⟩
       replace a9 := aM (ah (Kd.R_keep (IsS95.apart (show IsS95 w0 _ g s0_0 fV fU from by (try simp only [Int.add_zero]); repeat (first | (with_reducible first | exact HI0.out | apply IsS95.alloc | apply IsS95.drewN | apply IsS95.drew | apply IsS95.set_1 | apply IsS95.set_2 | refine IsS95.far ?_ bP.out _ | refine IsS95.far ?_ bM.out _ | refine IsS95.far ?_ cd.out _) | exact HI0.out)) z9 z0) hk (fun _ h => h.2)) (fun _ h => h.1))
       replace bK := aM (KeepBut.blk hk (g' := b9) (o := .cells #[.slice none 0 0] 29 (0, 0)) z12 cw.out (by simp))
       replace bx := aM (KeepBut.blk hk (g' := bX) (o := .cells #[.slice fd x305000_1.length fb] 29 (0, 0)) z13 cm.out (by simp))
       replace b5 := aM (KeepBut.blk hk (g' := bQ) (o := .cells #[.slice fd x305000_1.length fb] 29 (0, 0)) z14 cM.out (by simp))
       have fI := aM (aW ho0 (keep_size (w := w) (g := g) (row := none) z34))
       replace HK := aM (KeepBut.trans z34 hk (.inl rfl))
       replace HB := aM (hb)
       replace HI0 := aM (hi)
       (try clear hb)
       skip
       (try clear hk)
       (try clear hi)
       (try clear ho0)
       (try clear dX)
       obtain ⟨Ao122, co122, eo122⟩ := Kd.R_slice fI.out
       (first | subst eo122 | (injection eo122 with f1_ f2_ f3_; have f4_ := f1_.symm; have f5_ := f3_.symm; clear f1_ f2_ f3_; subst f4_; subst f5_))
       refine hK.out _ _ ((bC bx.out 0).trans rfl) (fun hHeld => ?_)
       clear hK K
       refine norm_ (a' := ?_) ?_ ?_
       rotate_left
       ·show Act.put _ (some 32) _ = _
        simp only [Act.put, sA, sB, sC, i64_w, i32_w]
        rfl
       refine one_ (i := 6) (N := some 33) #[true, true, true, true, true, true, true, false, false, false, false, false] rfl rfl (one_of HT_.out z1) z0 (fun K hK => ?_)
       refine goes_ Try.func91 z1 rfl #[.agg #[.slice fd x305000_1.length fb], .slice Ao122 nH.length co122] (by rfl) rfl rfl z21 ?_
       with_reducible refine (spec_EditRope.calls k1 _ _ x305000_1 _ _ nH lL true _ ?side1 ?side2 ?side3 ?side4 sX.out).mono ?_
       (case side1 => exact y35)
       (case side2 => exact (ai a9.out).2.1)
       (case side3 => exact y36)
       (case side4 => exact (ai fI.out).2.1)
       rintro e w123 ⟨v342, rfl, ho0, hb⟩
       refine ⟨_, rfl, ?_⟩
       replace fI := aM (ag (kR_ fI.out) hb)
       have nA := aM (aW (ak ho0 (am z9)) (keep_size (w := w) (g := g) (row := none) z34))
       replace a9 := aM (aj z9 (al ho0) hb)
       replace bK := aM (bK_ bK.out hb)
       replace bx := aM (bK_ bx.out hb)
       replace b5 := aM (bK_ b5.out hb)
       replace HK := aM (KeepBut.trans z34 (KeepBut.of_below hb g none) (.inl rfl))
       replace HB := aM (aA z42 hb)
       replace HI0 := aM (IsS95.below z47 hb)
       (try clear hb)
       skip
       skip
       skip
       (try clear ho0)
       obtain ⟨o9, oF, eo124⟩ := Kd.R_slice nA.out
       (first | subst eo124 | (injection eo124 with f1_ f2_ f3_; have f4_ := f1_.symm; have f5_ := f3_.symm; clear f1_ f2_ f3_; subst f4_; subst f5_))
       refine hK.out _ _ ((bC bx.out 0).trans rfl) (fun hHeld => ?_)
       clear hK K
       refine norm_ (a' := ?_) ?_ ?_
       rotate_left
       ·show Act.put _ (some 33) _ = _
        simp only [Act.put, sA, sB, sC, i64_w, i32_w]
        rfl
       refine pA 7 26 ?_
       refine pA 8 34 ?_
       refine pA 9 35 ?_
       refine one_ (i := 10) (N := none) #[true, true, true, true, true, true, true, true, true, true, true, false] rfl rfl (one_of HT_.out z1) z0 (fun K hK => ?_)
       obtain ⟨hs125, hfs125⟩ := cc1 b5.out
       have hns125_0 := cT.out
       have hns125_1 := cp.out
       have hms125_0 := cS.out
       have hms125_1 := cQ.out
       refine skip_ (w1 := ?_) (by rfl) rfl ?_ ?_
       rotate_left
       ·go_simp
        rfl
       refine hK.out _ _ (((cell_far (p := ⟨bQ, _, none⟩) cp.out _).trans (hHeld))) (fun hHeld => ?_)
       clear hK K
       refine pA 11 7 ?_
       refine done_ (done_of HT_.out z1) ?_
       obtain ⟨hcz126_0, hfz126_0⟩ := cc1 b5.out
       obtain ⟨hcz127_0, hfz127_0⟩ := cc1 bx.out
       try go_wp2
       go_roundg k1
       case measure => have := HK1.out; omega
       case rel => exact ⟨(wrap64 (x5_1 - 1)), (pr), (pq), (lL), (.slice o9 lL.length oF), z2, H', ⟨y0⟩, ⟨by (with_reducible repeat (first | apply ae | apply ac | apply aa)); exact ah (ap (p := ⟨bX, 0, none⟩) (ap (p := ⟨bQ, 0, none⟩) (aq (aq nA.out b5.out z0) bx.out z0) (fun _ hk => hk.1.2) (.slice o9 lL.length oF)) (fun _ hk => hk.2) (.slice o9 lL.length oF)) (fun _ hk => trivial)⟩, ⟨y29⟩, ⟨by (with_reducible repeat (first | refine au ?_ _ | refine ar ?_ | refine av ?_ _)); refine ax (cs := #[.slice fd x305000_1.length fb]) ?_ 0 _ rfl; (with_reducible repeat (first | refine au ?_ _ | refine ar ?_ | refine av ?_ _)); refine aw ?_ cp.out _; (with_reducible repeat (first | refine au ?_ _ | refine ar ?_ | refine av ?_ _)); exact bx.out⟩, ⟨y28⟩, ⟨y23⟩, ⟨y22⟩⟩
      ·replace oN := Bool.eq_false_iff.mpr oN
       subst oN
       rw [if_neg nF_] at H
       have H' := aM H
       clear H
       have hnb128 := dA.out
       have hnc128 := cV.out
       have hnb129 := cm.out
       have hnc129 := bM.out
       obtain ⟨hcz130_0, hfz130_0⟩ := cc1 bx.out
       try go_wp2_with (first | ((with_reducible refine aN (N := 6) rfl ?_); refine aQ ?hg (N := 6) ?hd (cs := #[.slice none 0 0]) (t := 29) ?hr ?_; (case hd => rfl); (case hg => rfl); (case hr => first | (go_simp; done) | (go_simp; rfl)); intro bQ hg w131 hbox hb; replace a9 := aM (ag z9 hb); replace HB := aM (aA (by repeat (first | (with_reducible first | exact HB.out | apply bA | apply pD | apply bD | refine az ?_ (IsS95.ge HI0.out) | refine az ?_ cO.out | refine az ?_ cW.out) | exact HB.out)) hb); have b5 := aM (hbox); have gq := aM ((by rw [hg]; exact (keep_size (w := w) (g := g) (row := none) z31) : w.heap.size ≤ bQ)); have eF := aM ((Nat.le_trans HW0.out (by rw [hg]; exact (keep_size (w := w) (g := g) (row := none) z31) : w.heap.size ≤ bQ) : w0.heap.size ≤ bQ)); replace HK := aM (KeepBut.trans z31 (KeepBut.of_below hb g none) (.inl rfl)); have cT := aM ((by rw [hg]; exact aD (ay (g := b9) (o := .cells #[.slice none 0 0] 29 (0, 0)) z12) : b9 ≠ bQ)); have cS := aM ((by rw [hg]; exact aE (ay (g := b9) (o := .cells #[.slice none 0 0] 29 (0, 0)) z12) : bQ ≠ b9)); replace bK := aM (bK_ bK.out hb); have cp := aM ((by rw [hg]; exact aD (ay (g := bX) (o := .cells #[u305000] 29 (0, 0)) z13) : bX ≠ bQ)); have cQ := aM ((by rw [hg]; exact aE (ay (g := bX) (o := .cells #[u305000] 29 (0, 0)) z13) : bQ ≠ bX)); replace bx := aM (bK_ bx.out hb); have cd := aM ((by rw [hg]; exact aD (IsS95.lt (show IsS95 w0 _ g s0_0 x1001_1 x1002_1 from by (try simp only [Int.add_zero]); repeat (first | (with_reducible first | exact HI0.out | apply IsS95.alloc | apply IsS95.drewN | apply IsS95.drew | apply IsS95.set_1 | apply IsS95.set_2 | refine IsS95.far ?_ bP.out _ | refine IsS95.far ?_ bM.out _) | exact HI0.out))) : g ≠ bQ)); have cM := aM ((by rw [hg]; exact aE (IsS95.lt (show IsS95 w0 _ g s0_0 x1001_1 x1002_1 from by (try simp only [Int.add_zero]); repeat (first | (with_reducible first | exact HI0.out | apply IsS95.alloc | apply IsS95.drewN | apply IsS95.drew | apply IsS95.set_1 | apply IsS95.set_2 | refine IsS95.far ?_ bP.out _ | refine IsS95.far ?_ bM.out _) | exact HI0.out))) : bQ ≠ g)); replace HI0 := aM (IsS95.below z45 hb); clear hb hbox hg; obtain ⟨fp, fm, eo132⟩ := Kd.R_slice a9.out; subst eo132; have hnb133 := cS.out; have hnc133 := cT.out; have hnb134 := cQ.out; have hnc134 := cp.out; have hnb135 := cM.out; have hnc135 := cd.out; obtain ⟨hcz136_0, hfz136_0⟩ := cc1 b5.out) | ((with_reducible refine aK (f := 86) rfl ?_); refine aT (some 25) rfl rfl Try.func86 z1 rfl #[.pointer (some ⟨g, 0, none⟩), .int .i64 3] rfl z21 ?_; (with_reducible refine (spec_l1Cur_pick.calls g s0_0 x1001_1 x1002_1 3 gB fV fU w0 _ ?side1 ?side2 rD.out).mono ?_); (case side1 => exact y49); (case side2 => exact y47); rintro e w137 ⟨rfl, hi, hb, hk⟩; refine ⟨_, rfl, ?_⟩; replace a9 := aM (ah (Kd.R_keep (IsS95.apart (show IsS95 w0 _ g s0_0 x1001_1 x1002_1 from by (try simp only [Int.add_zero]); repeat (first | (with_reducible first | exact HI0.out | apply IsS95.alloc | apply IsS95.drewN | apply IsS95.drew | apply IsS95.set_1 | apply IsS95.set_2 | refine IsS95.far ?_ bP.out _ | refine IsS95.far ?_ bM.out _ | refine IsS95.far ?_ cd.out _) | exact HI0.out)) (by (with_reducible repeat (first | apply ae | apply ac | apply aa)); exact (ah (ap (p := ⟨bQ, 0, none⟩) (aq a9.out b5.out z0) (fun _ hk => hk.2) (.slice fp x305000_1.length fm)) (fun _ h_ => h_.1))) z0) hk (fun _ h => h.2)) (fun _ h => h.1)); replace bK := aM (KeepBut.blk hk (g' := b9) (o := .cells #[.slice none 0 0] 29 (0, 0)) z35 cw.out (by simp)); replace bx := aM (KeepBut.blk hk (g' := bX) (o := .cells #[.slice fp x305000_1.length fm] 29 (0, 0)) z36 cm.out (by simp)); replace b5 := aM (KeepBut.blk hk (g' := bQ) (o := .cells #[.slice fp x305000_1.length fm] 29 (0, 0)) z43 cM.out (by simp)); replace HK := aM (KeepBut.trans z34 hk (.inl rfl)); replace HB := aM (hb); replace HI0 := aM (hi); (try clear hb); (try clear hk); (try clear hi); (try clear dX)))
       replace a9 := aM (aa a9.out)
       replace bK := aM (ar bK.out)
       replace bx := aM (ar bx.out)
       replace b5 := aM (ar b5.out)
       replace HI0 := aM (IsS95.drew HI0.out)
       replace HK := aM (keep_drew HK.out)
       replace HB := aM (bD HB.out)
       refine start_ (n := 12) (S := fun w' => w'.cell? ⟨bX, 0, none⟩ = some (.slice fp x305000_1.length fm)) (ds := []) #[false, false, false, false, false, false, false, false, false, false, false, false] z1 rfl rfl ((bC bx.out 0).trans rfl) (fun hHeld => ?_); refine with_tabW spec_l1Cur_rope.tab7 spec_l1Cur_rope.bits7 (fun HT_ HW_ => ?_)
       generalize w137.drew = w138 at a9 bK bx b5 HI0 HK HB hHeld ⊢
       refine pA 1 28 ?_
       refine pA 2 29 ?_
       refine tA 0 27 ?_ (hy := by intro w' s0; go_simp; with_reducible rfl)
       refine tA 3 30 ?_ (hy := by intro w' s0; go_simp; with_reducible rfl)
       refine one_ (i := 4) (N := some 31) #[true, true, true, true, true, false, false, false, false, false, false, false] rfl rfl (one_of HT_.out z1) z0 (fun K hK => ?_)
       refine goes_ Try.func54 z1 rfl #[.slice fp x305000_1.length fm] (by rfl) rfl rfl z21 ?_
       with_reducible refine (spec_l12Text.calls k1 _ _ x305000_1 lh _ ?side1 ?side2 sZ.out).mono ?_
       (case side1 => exact y35)
       (case side2 => exact (ai a9.out).2.1)
       rintro e w139 ⟨rfl, hb⟩
       refine ⟨_, rfl, ?_⟩
       replace a9 := aM (ag z9 hb)
       replace bK := aM (bK_ bK.out hb)
       replace bx := aM (bK_ bx.out hb)
       replace b5 := aM (bK_ b5.out hb)
       replace HK := aM (KeepBut.trans z34 (KeepBut.of_below hb g none) (.inl rfl))
       replace HB := aM (aA z42 hb)
       replace HI0 := aM (IsS95.below z47 hb)
       (try clear hb)
       skip
       skip
       skip
       refine hK.out _ _ ((bC bx.out 0).trans rfl) (fun hHeld => ?_)
       clear hK K
       refine norm_ (a' := ?_) ?_ ?_
       rotate_left
       ·show Act.put _ (some 31) _ = _
        simp only [Act.put, sA, sB, sC, i64_w, i32_w]
        rfl
       refine one_ (i := 5) (N := some 32) #[true, true, true, true, true, true, false, false, false, false, false, false] rfl rfl (one_of HT_.out z1) z0 (fun K hK => ?_)
       refine goes_ Try.func92 z1 rfl #[.pointer (some ⟨g, 0, none⟩), .string lh] (by rfl) rfl rfl z21 ?_
       with_reducible refine (spec_l1Cur_opOn.calls k1 g s0_0 fV fU lh nH pr pq w0 _ ?side1 ?side2 sY.out).mono ?_
       (case side1 => exact y49)
       (case side2 => exact y47)
       rintro e w140 ⟨v337, rfl, ho0, hi, hb, hk⟩
       refine ⟨_, rfl, ?_⟩
       replace a9 := aM (ah (Kd.R_keep (IsS95.apart (show IsS95 w0 _ g s0_0 fV fU from by (try simp only [Int.add_zero]); repeat (first | (with_reducible first | exact HI0.out | apply IsS95.alloc | apply IsS95.drewN | apply IsS95.drew | apply IsS95.set_1 | apply IsS95.set_2 | refine IsS95.far ?_ bP.out _ | refine IsS95.far ?_ bM.out _ | refine IsS95.far ?_ cd.out _) | exact HI0.out)) z9 z0) hk (fun _ h => h.2)) (fun _ h => h.1))
       replace bK := aM (KeepBut.blk hk (g' := b9) (o := .cells #[.slice none 0 0] 29 (0, 0)) z12 cw.out (by simp))
       replace bx := aM (KeepBut.blk hk (g' := bX) (o := .cells #[.slice fp x305000_1.length fm] 29 (0, 0)) z13 cm.out (by simp))
       replace b5 := aM (KeepBut.blk hk (g' := bQ) (o := .cells #[.slice fp x305000_1.length fm] 29 (0, 0)) z14 cM.out (by simp))
       have fI := aM (aW ho0 (keep_size (w := w) (g := g) (row := none) z34))
       replace HK := aM (KeepBut.trans z34 hk (.inl rfl))
       replace HB := aM (hb)
       replace HI0 := aM (hi)
       (try clear hb)
       skip
       (try clear hk)
       (try clear hi)
       (try clear ho0)
       (try clear dX)
       obtain ⟨Ao141, co141, eo141⟩ := Kd.R_slice fI.out
       (first | subst eo141 | (injection eo141 with f1_ f2_ f3_; have f4_ := f1_.symm; have f5_ := f3_.symm; clear f1_ f2_ f3_; subst f4_; subst f5_))
       refine hK.out _ _ ((bC bx.out 0).trans rfl) (fun hHeld => ?_)
       clear hK K
       refine norm_ (a' := ?_) ?_ ?_
       rotate_left
       ·show Act.put _ (some 32) _ = _
        simp only [Act.put, sA, sB, sC, i64_w, i32_w]
        rfl
       refine one_ (i := 6) (N := some 33) #[true, true, true, true, true, true, true, false, false, false, false, false] rfl rfl (one_of HT_.out z1) z0 (fun K hK => ?_)
       refine goes_ Try.func91 z1 rfl #[.agg #[.slice fp x305000_1.length fm], .slice Ao141 nH.length co141] (by rfl) rfl rfl z21 ?_
       with_reducible refine (spec_EditRope.calls k1 _ _ x305000_1 _ _ nH lL false _ ?side1 ?side2 ?side3 ?side4 sX.out).mono ?_
       (case side1 => exact y35)
       (case side2 => exact (ai a9.out).2.1)
       (case side3 => exact y36)
       (case side4 => exact (ai fI.out).2.1)
       rintro e w142 ⟨v342, rfl, ho0, hb⟩
       refine ⟨_, rfl, ?_⟩
       replace fI := aM (ag (kR_ fI.out) hb)
       have nA := aM (aW (ak ho0 (am z9)) (keep_size (w := w) (g := g) (row := none) z34))
       replace a9 := aM (aj z9 (al ho0) hb)
       replace bK := aM (bK_ bK.out hb)
       replace bx := aM (bK_ bx.out hb)
       replace b5 := aM (bK_ b5.out hb)
       replace HK := aM (KeepBut.trans z34 (KeepBut.of_below hb g none) (.inl rfl))
       replace HB := aM (aA z42 hb)
       replace HI0 := aM (IsS95.below z47 hb)
       (try clear hb)
       skip
       skip
       skip
       (try clear ho0)
       obtain ⟨Ao143, co143, eo143⟩ := Kd.R_slice nA.out
       (first | subst eo143 | (injection eo143 with f1_ f2_ f3_; have f4_ := f1_.symm; have f5_ := f3_.symm; clear f1_ f2_ f3_; subst f4_; subst f5_))
       refine hK.out _ _ ((bC bx.out 0).trans rfl) (fun hHeld => ?_)
       clear hK K
       refine norm_ (a' := ?_) ?_ ?_
       rotate_left
       ·show Act.put _ (some 33) _ = _
        simp only [Act.put, sA, sB, sC, i64_w, i32_w]
        rfl
       refine pA 7 26 ?_
       refine pA 8 34 ?_
       refine pA 9 35 ?_
       refine one_ (i := 10) (N := none) #[true, true, true, true, true, true, true, true, true, true, true, false] rfl rfl (one_of HT_.out z1) z0 (fun K hK => ?_)
       obtain ⟨hs144, hfs144⟩ := cc1 b5.out
       have hns144_0 := cT.out
       have hns144_1 := cp.out
       have hms144_0 := cS.out
       have hms144_1 := cQ.out
       refine skip_ (w1 := ?_) (by rfl) rfl ?_ ?_
       rotate_left
       ·go_simp
        rfl
       refine hK.out _ _ (((cell_far (p := ⟨bQ, _, none⟩) cp.out _).trans (hHeld))) (fun hHeld => ?_)
       clear hK K
       refine pA 11 7 ?_
       refine done_ (done_of HT_.out z1) ?_
       try go_wp2
       go_roundg k1
       case measure => have := HK1.out; omega
       case rel => exact ⟨(wrap64 (x5_1 - 1)), (pr), (pq), (x305000_1), (.slice fp x305000_1.length fm), z2, H', ⟨y0⟩, ⟨by (with_reducible repeat (first | apply ae | apply ac | apply aa)); exact ah (ap (p := ⟨bQ, 0, none⟩) (aq a9.out b5.out z0) (fun _ hk => hk.2) (.slice Ao143 lL.length co143)) (fun _ hk => trivial)⟩, ⟨y24⟩, ⟨y25⟩, ⟨y28⟩, ⟨y23⟩, ⟨y22⟩⟩
   ·rw [if_neg f5] at H
    have c14b0 : decide (0 < x5_1) = false := dF f5
    clear f5
    have o5 := aM H
    clear H
    go_upto_region 15 with (fail)
    go_cut [73] (fun v73 wc => ∃ (kq : Nat) (x73_144 : Bool) (x1001_144 : Int) (x1002_144 : Int), v73 = .bool x73_144 ∧ Aside0 (spec_l1Cur_rope.j1 kq x73_144 s0_0 x1001_144 x1002_144 x305000_1 = some (r1, r2, r3)) ∧ Aside0 (kq ≤ k1) ∧ Aside0 (Kd.R k58 58 wc w.heap.size (fun _ => True) u305000 x305000_1) ∧ Aside0 (wc.heap[b9]? = some (.cells #[(.slice none 0 0)] 29 (0, 0))) ∧ Aside0 (wc.heap[bX]? = some (.cells #[u305000] 29 (0, 0))) ∧ Aside0 (IsS95 w0 wc g s0_0 x1001_144 x1002_144) ∧ Aside0 (KeepBut w wc g none) ∧ Aside0 (Below w0.heap.size w0 wc))
    case first =>
     have H := o5.out
     clear o5
     by_cases lW : (x305000_1.length : Int) > 0
     ·rw [if_pos lW] at H
      have c146b0 : decide (0 < (x305000_1.length : Int)) = true := dT lW
      have c146b1 : decide (0 < x305000_1.length) = true := dT (by omega)
      clear lW
      (first | rw [c146b0] | (simp only [i64_w, i32_w]; rw [c146b0]) | skip)
      obtain ⟨⟨rI, rH, rG⟩, A147, H⟩ := oA_ H
      try dsimp only at H
      have H' := aM H
      clear H
      have hnb148 := dA.out
      have hnc148 := cV.out
      have hnb149 := cm.out
      have hnc149 := bM.out
      obtain ⟨hcz150_0, hfz150_0⟩ := cc1 bx.out
      obtain ⟨Ao151, co151, eo151⟩ := Kd.R_slice a9.out
      subst eo151
      go_wp2_with (first | (go_at_call 88; (with_reducible refine (spec_l1Cur_one.calls g s0_0 x1001_1 x1002_1 20 rI rH rG w0 _ ?side1 ?side2 A147.out).mono ?_); (case side1 => exact y48); (case side2 => exact y45); rintro e w152 ⟨rfl, hi, hb, hk⟩; replace a9 := aM (ah (Kd.R_keep (IsS95.apart (show IsS95 w0 _ g s0_0 x1001_1 x1002_1 from by (try simp only [Int.add_zero]); repeat (first | (with_reducible first | exact HI0.out | apply IsS95.alloc | apply IsS95.drewN | apply IsS95.drew | apply IsS95.set_1 | apply IsS95.set_2 | refine IsS95.far ?_ bP.out _ | refine IsS95.far ?_ bM.out _) | exact HI0.out)) z9 z0) hk (fun _ h => h.2)) (fun _ h => h.1)); replace bK := aM (KeepBut.blk hk (g' := b9) (o := .cells #[.slice none 0 0] 29 (0, 0)) z12 cw.out (by simp)); replace bx := aM (KeepBut.blk hk (g' := bX) (o := .cells #[.slice Ao151 x305000_1.length co151] 29 (0, 0)) z13 cm.out (by simp)); replace HK := aM (KeepBut.trans z31 hk (.inl rfl)); replace HB := aM (hb); replace HI0 := aM (hi); (try clear hb); (try clear hk); (try clear hi); (try clear dX)))
      go_meet
      case rel => exact ⟨_, (rI), (rH), (rG), z2, H', ⟨y2⟩, ⟨kR_ a9.out⟩, ⟨kB_ bK.out⟩, ⟨kB_ bx.out⟩, ⟨y26⟩, ⟨y21⟩, ⟨y20⟩⟩
     ·rw [if_neg lW] at H
      have c146b0 : decide (0 < (x305000_1.length : Int)) = false := dF lW
      have c146b1 : decide (0 < x305000_1.length) = false := dF (by omega)
      clear lW
      (first | rw [c146b0] | (simp only [i64_w, i32_w]; rw [c146b0]) | skip)
      have H' := aM H
      clear H
      have hnb153 := dA.out
      have hnc153 := cV.out
      have hnb154 := cm.out
      have hnc154 := bM.out
      obtain ⟨lq, ln⟩ := cc1 bx.out
      obtain ⟨Ao156, co156, eo156⟩ := Kd.R_slice a9.out
      subst eo156
      go_wp2
      go_meet
      case rel => exact ⟨_, (false), (x1001_1), (x1002_1), z2, H', ⟨y2⟩, ⟨kR_ a9.out⟩, ⟨kB_ bK.out⟩, ⟨kB_ bx.out⟩, ⟨y26⟩, ⟨y21⟩, ⟨y20⟩⟩
    case rest =>
     clear o5
     try clear c1
     try clear p2
     try clear c8
     try clear c9
     try clear eH
     try clear e9
     try clear f5
     try clear c14b0
     obtain ⟨kq, x73_144, x1001_144, x1002_144, rfl, HA, HJ144, a9, bK, bx, HI0, HK, HB⟩ := hcut
     cases kq with
     | zero => exact absurd HA.out (by simp [spec_l1Cur_rope.j1])
     | succ kj144 =>
      have H := HA.out
      clear HA
      simp only [spec_l1Cur_rope.j1] at H
      by_cases pO : x73_144 = true
      ·subst pO
       rw [if_pos rfl] at H
       obtain ⟨⟨b4, kd, kc⟩, ry, H⟩ := oA_ H
       try dsimp only at H
       obtain ⟨⟨hJ, lg, ld⟩, rx, H⟩ := oA_ H
       try dsimp only at H
       by_cases lV : hJ = 0
       ·rw [if_pos lV] at H
        have c160b0 : (hJ == 0) = true := qT lV
        have c160b1 : (hJ != 0) = false := nF lV
        clear lV
        by_cases pN : 0 ≤ b4
        ·rw [if_pos pN] at H
         have c161b0 : decide (0 ≤ b4) = true := dT pN
         clear pN
         by_cases pM : b4 < (x305000_1.length : Int)
         ·rw [if_pos pM] at H
          have c162b0 : decide (b4 < (x305000_1.length : Int)) = true := dT pM
          clear pM
          obtain ⟨⟨iC, qN, qM⟩, A163, H⟩ := oA_ H
          try dsimp only at H
          obtain ⟨y358, hy358⟩ : ∃ y_ : List (S58), y_ = (x305000_1.set (b4 : Int).toNat (⟨(rd_T58 x305000_1 b4).f0, (rd_T58 x305000_1 b4).f1, (rd_T58 x305000_1 b4).f2, wrap64 (((rd_T58 x305000_1 b4).f3) + (wrap64 (iC - 1))), (rd_T58 x305000_1 b4).f4⟩ : S58)) := ⟨_, rfl⟩
          replace H : (some (y358, qN, qM)) = some (r1, r2, r3) := by first | (rw [hy358]; with_reducible exact H) | (have H2_ := (Option.bind_some _ _).symm.trans H; rw [hy358]; with_reducible exact H2_) | (have H2_ := (Option.bind_some _ _).symm.trans H; with_reducible exact H2_) | with_reducible exact H | (rw [hy358]; exact H) | exact H
          have Ny358 := aM hy358
          clear hy358
          simp only [Option.some.injEq, Prod.mk.injEq] at H
          obtain ⟨rfl, rfl, rfl⟩ := H
          have hnb165 := dA.out
          have hnc165 := cV.out
          have hnb166 := cm.out
          have hnc166 := bM.out
          obtain ⟨hcz167_0, hfz167_0⟩ := cc1 bx.out
          obtain ⟨qq, gX, eo168⟩ := Kd.R_slice a9.out
          subst eo168
          try go_wp2_with (first | ((with_reducible refine aK (f := 86) rfl ?_); refine aT (some 78) rfl rfl Try.func86 z1 rfl #[.pointer (some ⟨g, 0, none⟩), .int .i64 (x305000_1.length : Int)] rfl z21 ?_; (with_reducible refine (spec_l1Cur_pick.calls g s0_0 x1001_144 x1002_144 (x305000_1.length : Int) b4 kd kc w0 _ ?side1 ?side2 ry.out).mono ?_); (case side1 => exact y48); (case side2 => exact y45); rintro e w169 ⟨rfl, hi, hb, hk⟩; refine ⟨_, rfl, ?_⟩; replace a9 := aM (ah (Kd.R_keep (IsS95.apart (show IsS95 w0 _ g s0_0 x1001_144 x1002_144 from by (try simp only [Int.add_zero]); repeat (first | (with_reducible first | exact HI0.out | apply IsS95.alloc | apply IsS95.drewN | apply IsS95.drew | apply IsS95.set_1 | apply IsS95.set_2 | refine IsS95.far ?_ bP.out _ | refine IsS95.far ?_ bM.out _) | exact HI0.out)) z9 z0) hk (fun _ h => h.2)) (fun _ h => h.1)); replace bK := aM (KeepBut.blk hk (g' := b9) (o := .cells #[.slice none 0 0] 29 (0, 0)) z12 cw.out (by simp)); replace bx := aM (KeepBut.blk hk (g' := bX) (o := .cells #[.slice qq x305000_1.length gX] 29 (0, 0)) z13 cm.out (by simp)); replace HK := aM (KeepBut.trans z31 hk (.inl rfl)); replace HB := aM (hb); replace HI0 := aM (hi); (try clear hb); (try clear hk); (try clear hi); (try clear dX)) | ((with_reducible refine aK (f := 86) rfl ?_); refine aT (some 80) rfl rfl Try.func86 z1 rfl #[.pointer (some ⟨g, 0, none⟩), .int .i64 3] rfl z21 ?_; (with_reducible refine (spec_l1Cur_pick.calls g s0_0 kd kc 3 hJ lg ld w0 _ ?side1 ?side2 rx.out).mono ?_); (case side1 => exact y48); (case side2 => exact y45); rintro e w170 ⟨rfl, hi, hb, hk⟩; refine ⟨_, rfl, ?_⟩; replace a9 := aM (ah (Kd.R_keep (IsS95.apart (show IsS95 w0 _ g s0_0 kd kc from by (try simp only [Int.add_zero]); repeat (first | (with_reducible first | exact HI0.out | apply IsS95.alloc | apply IsS95.drewN | apply IsS95.drew | apply IsS95.set_1 | apply IsS95.set_2 | refine IsS95.far ?_ bP.out _ | refine IsS95.far ?_ bM.out _) | exact HI0.out)) z9 z0) hk (fun _ h => h.2)) (fun _ h => h.1)); replace bK := aM (KeepBut.blk hk (g' := b9) (o := .cells #[.slice none 0 0] 29 (0, 0)) z12 cw.out (by simp)); replace bx := aM (KeepBut.blk hk (g' := bX) (o := .cells #[.slice qq x305000_1.length gX] 29 (0, 0)) z13 cm.out (by simp)); replace HK := aM (KeepBut.trans z31 hk (.inl rfl)); replace HB := aM (hb); replace HI0 := aM (hi); (try clear hb); (try clear hk); (try clear hi); (try clear dX)))
          replace a9 := aM (aa a9.out)
          replace bK := aM (ar bK.out)
          replace bx := aM (ar bx.out)
          replace HI0 := aM (IsS95.drew HI0.out)
          replace HK := aM (keep_drew HK.out)
          replace HB := aM (bD HB.out)
          have p354 : 0 ≤ (b4 : Int) := oD z3
          have q354 : b4 < (x305000_1.length : Int) := oD z3
          obtain ⟨ad354, e354, hx354_0, hx354_1, hx354_2, hx354_3, hx354_4⟩ := at_T58 (ai a9.out).2.2 b4 p354 q354
          cases e354
          replace p354 := eq_true p354
          replace q354 := eq_true q354
          refine start_ (n := 13) (S := fun w' => w'.cell? ⟨bX, 0, none⟩ = some (.slice (some ad354) x305000_1.length gX) ∧ w'.cell? (ad354.add ((b4).toNat * 5)) = some (.int .i64 ((rd_T58 x305000_1 b4).f0)) ∧ w'.cell? ⟨(ad354.add ((b4).toNat * 5)).block, (ad354.add ((b4).toNat * 5)).off + 1, none⟩ = some (.int .i64 ((rd_T58 x305000_1 b4).f1)) ∧ w'.cell? ⟨(ad354.add ((b4).toNat * 5)).block, (ad354.add ((b4).toNat * 5)).off + 2, none⟩ = some (.string ((rd_T58 x305000_1 b4).f2)) ∧ w'.cell? ⟨(ad354.add ((b4).toNat * 5)).block, (ad354.add ((b4).toNat * 5)).off + 3, none⟩ = some (.int .i64 ((rd_T58 x305000_1 b4).f3)) ∧ w'.cell? ⟨(ad354.add ((b4).toNat * 5)).block, (ad354.add ((b4).toNat * 5)).off + 4, none⟩ = some (.int .i64 ((rd_T58 x305000_1 b4).f4))) (ds := [12]) #[false, false, false, false, false, false, false, false, false, false, false, false, false] z1 rfl rfl ⟨(bC bx.out 0).trans rfl, hx354_0, hx354_1, hx354_2, hx354_3, hx354_4⟩ (fun hHeld => ?_); refine with_tabW spec_l1Cur_rope.tab20 spec_l1Cur_rope.bits20 (fun HT_ HW_ => ?_)
          (first | generalize w170.drew = w171 at a9 bK bx HI0 HK HB hx354_0 hx354_1 hx354_2 hx354_3 hx354_4 hHeld ⊢ | generalize w170.drew = w171 at a9 bK bx HI0 HK HB hHeld ⊢)
          refine pA 0 92 ?_
          refine pA 2 94 ?_
          refine pA 6 98 ?_
          refine t6_ 1 93 ?_
          refine pA 3 95 ?_
          refine pA 4 96 ?_
          refine t6_ 5 97 ?_
          refine one_ (i := 7) (N := some 99) #[true, true, true, true, true, true, true, true, false, false, false, false, false] rfl rfl (one_of HT_.out z1) z0 (fun K hK => ?_)
          refine goes_ Try.func86 z1 rfl #[.pointer (some ⟨g, 0, none⟩), .int .i64 3] (by rfl) rfl rfl z21 ?_
          with_reducible refine (spec_l1Cur_pick.calls g s0_0 lg ld 3 iC qN qM w0 _ ?side1 ?side2 A163.out).mono ?_
          (case side1 => exact y48)
          (case side2 => exact y45)
          rintro e w172 ⟨rfl, hi, hb, hk⟩
          have HS1_ := keep_cell hk (hHeld.2.1) (by first | (rw [add_block]; exact Kd.own_blk (IsS95.own_ne HI0.out a9.out z0)) | (show (Addr.add _ _).block ≠ _; rw [add_block]; exact Kd.own_blk (IsS95.own_ne HI0.out a9.out z0)) | exact Kd.own_blk (IsS95.own_ne HI0.out a9.out z0))
          have HS2_ := keep_cell hk (hHeld.2.2.1) (by first | (rw [add_block]; exact Kd.own_blk (IsS95.own_ne HI0.out a9.out z0)) | (show (Addr.add _ _).block ≠ _; rw [add_block]; exact Kd.own_blk (IsS95.own_ne HI0.out a9.out z0)) | exact Kd.own_blk (IsS95.own_ne HI0.out a9.out z0))
          have HS3_ := keep_cell hk (hHeld.2.2.2.1) (by first | (rw [add_block]; exact Kd.own_blk (IsS95.own_ne HI0.out a9.out z0)) | (show (Addr.add _ _).block ≠ _; rw [add_block]; exact Kd.own_blk (IsS95.own_ne HI0.out a9.out z0)) | exact Kd.own_blk (IsS95.own_ne HI0.out a9.out z0))
          have HS4_ := keep_cell hk (hHeld.2.2.2.2.1) (by first | (rw [add_block]; exact Kd.own_blk (IsS95.own_ne HI0.out a9.out z0)) | (show (Addr.add _ _).block ≠ _; rw [add_block]; exact Kd.own_blk (IsS95.own_ne HI0.out a9.out z0)) | exact Kd.own_blk (IsS95.own_ne HI0.out a9.out z0))
          have HS5_ := keep_cell hk (hHeld.2.2.2.2.2) (by first | (rw [add_block]; exact Kd.own_blk (IsS95.own_ne HI0.out a9.out z0)) | (show (Addr.add _ _).block ≠ _; rw [add_block]; exact Kd.own_blk (IsS95.own_ne HI0.out a9.out z0)) | exact Kd.own_blk (IsS95.own_ne HI0.out a9.out z0))
          refine ⟨_, rfl, ?_⟩
          replace a9 := aM (ah (Kd.R_keep (IsS95.apart (show IsS95 w0 _ g s0_0 lg ld from by (try simp only [Int.add_zero]); repeat (first | (with_reducible first | exact HI0.out | apply IsS95.alloc | apply IsS95.drewN | apply IsS95.drew | apply IsS95.set_1 | apply IsS95.set_2 | refine IsS95.far ?_ bP.out _ | refine IsS95.far ?_ bM.out _) | exact HI0.out)) z9 z0) hk (fun _ h => h.2)) (fun _ h => h.1))
          replace bK := aM (KeepBut.blk hk (g' := b9) (o := .cells #[.slice none 0 0] 29 (0, 0)) z12 cw.out (by simp))
          replace bx := aM (KeepBut.blk hk (g' := bX) (o := .cells #[.slice (some ad354) x305000_1.length gX] 29 (0, 0)) z13 cm.out (by simp))
          replace HK := aM (KeepBut.trans z31 hk (.inl rfl))
          replace HB := aM (hb)
          replace HI0 := aM (hi)
          (try clear hb)
          skip
          (try clear hk)
          (try clear hi)
          (try clear dX)
          have p164 : 0 ≤ (b4 : Int) := oD z3
          have q164 : (b4 : Int) < ((x305000_1.length : Int) : Int) := oD z3
          obtain ⟨go164, cY, eo164, pU, gl164, cl164, HG164⟩ := Kd.R_form a9.out (by omega)
          (first | cases eo164 | (injection eo164 with ea_ en_ ec_; (first | subst ea_ | (injection ea_ with ea_; subst ea_)); subst ec_; clear en_))
          have GB164 := aM pU
          have GG164 := aM HG164
          clear pU gl164 HG164
          (first | simp only [add_plain] at hx354_0 | skip)
          (first | simp only [add_plain] at hx354_1 | skip)
          (first | simp only [add_plain] at hx354_2 | skip)
          (first | simp only [add_plain] at hx354_3 | skip)
          (first | simp only [add_plain] at hx354_4 | skip)
          obtain ⟨ce164, hcl164, hM164, hcc164, hfr164⟩ := Kd.R_elem a9.out z58 (b4 : Int) p164 q164
          obtain rfl := k58_openM hM164
          have hx164_0 : World.cell? _ ⟨go164, (b4 : Int).toNat * 5, none⟩ = some (.int .i64 ((rd_T58 x305000_1 b4).f0)) := hcc164 0 _ rfl
          have hx164_1 : World.cell? _ ⟨go164, (b4 : Int).toNat * 5 + 1, none⟩ = some (.int .i64 ((rd_T58 x305000_1 b4).f1)) := hcc164 1 _ rfl
          have hx164_2 : World.cell? _ ⟨go164, (b4 : Int).toNat * 5 + 2, none⟩ = some (.string ((rd_T58 x305000_1 b4).f2)) := hcc164 2 _ rfl
          have hx164_3 : World.cell? _ ⟨go164, (b4 : Int).toNat * 5 + 3, none⟩ = some (.int .i64 ((rd_T58 x305000_1 b4).f3)) := hcc164 3 _ rfl
          have hx164_4 : World.cell? _ ⟨go164, (b4 : Int).toNat * 5 + 4, none⟩ = some (.int .i64 ((rd_T58 x305000_1 b4).f4)) := hcc164 4 _ rfl
          have hf164_0 : World.frozen? _ ⟨go164, (b4 : Int).toNat * 5, none⟩ = false := hfr164 0
          have hf164_1 : World.frozen? _ ⟨go164, (b4 : Int).toNat * 5 + 1, none⟩ = false := hfr164 1
          have hf164_2 : World.frozen? _ ⟨go164, (b4 : Int).toNat * 5 + 2, none⟩ = false := hfr164 2
          have hf164_3 : World.frozen? _ ⟨go164, (b4 : Int).toNat * 5 + 3, none⟩ = false := hfr164 3
          have hf164_4 : World.frozen? _ ⟨go164, (b4 : Int).toNat * 5 + 4, none⟩ = false := hfr164 4
          clear hcl164 hcc164 hfr164; (try clear hM164)
          replace p164 := eq_true p164
          replace q164 := eq_true q164
          have HN0_go164 := aM (show g ≠ go164 from by have h_ := IsS95.own_ne HI0.out a9.out z0; intro e_; exact h_ (by rw [e_]; rfl))
          obtain ⟨ce173, hcl173, hM173, hcc173, hfr173⟩ := Kd.R_elem a9.out z58 (b4 : Int) (oD z3) (by have h_ : (b4 : Int) < ((x305000_1.length : Int) : Int) := oD z3; first | exact h_ | (have e_ := (ai a9.out).1; omega) | simpa using h_)
          obtain rfl := k58_openM hM173
          have HP173 := (Kd.R_seg a9.out (b4 : Int) (oD z3) (by have h_ : (b4 : Int) < ((x305000_1.length : Int) : Int) := oD z3; first | exact h_ | (have e_ := (ai a9.out).1; omega) | simpa using h_) (seg := [.int .i64 (wrap64 (((rd_T58 x305000_1 b4).f3) + (wrap64 (iC - 1))))]) (j := 3) hcl173 hcc173 (show 4 ≤ 5 from by decide) (x' := (⟨(rd_T58 x305000_1 b4).f0, (rd_T58 x305000_1 b4).f1, (rd_T58 x305000_1 b4).f2, wrap64 (((rd_T58 x305000_1 b4).f3) + (wrap64 (iC - 1))), (rd_T58 x305000_1 b4).f4⟩ : S58)) (k58_mkM _ _ _ (⟨(rd_T58 x305000_1 b4).f0, (rd_T58 x305000_1 b4).f1, (rd_T58 x305000_1 b4).f2, wrap64 (((rd_T58 x305000_1 b4).f3) + (wrap64 (iC - 1))), (rd_T58 x305000_1 b4).f4⟩ : S58) ) (fun _ hk => hk)).1
          rw [← Ny358.out] at HP173
          have HQ173 := aM HP173
          clear hcl173 hcc173 hfr173 HP173; (try clear hM173)
          refine hK.out _ _ ⟨(bC bx.out 0).trans rfl, HS1_, HS2_, HS3_, HS4_, HS5_⟩ (fun hHeld => ?_)
          clear hK K
          refine norm_ (a' := ?_) ?_ ?_
          rotate_left
          ·show Act.put _ (some 99) _ = _
           simp only [Act.put, sA, sB, sC, i64_w, i32_w]
           rfl
          refine pA 8 100 ?_
          refine pA 9 101 ?_
          refine pA 10 102 ?_
          refine pA 11 103 ?_
          refine last_ (i := 12) (N := none) #[true, true, true, true, true, true, true, true, true, true, true, true, true] rfl rfl (one_of HT_.out z1) z0 (fun K hK => ?_)
          refine skip_ (w1 := ?_) (by rfl) rfl ?_ ?_
          rotate_left
          ·go_simp
           rfl
          refine hK.out _ _ ?_
          clear hK K
          refine done_ (done_of HT_.out z1) ?_
          have bc : Aside0 (Kd.R k58 58 (w172.setCell ⟨go164, (b4 : Int).toNat * 5 + 3, none⟩ (.int .i64 (wrap64 (((rd_T58 x305000_1 b4).f3) + (wrap64 (iC - 1)))))) w.heap.size (fun _ => True) (.slice (some ⟨go164, 0, none⟩) x305000_1.length gX) y358) := ⟨kR_ HQ173.out⟩
          have bd : Aside0 ((w172.setCell ⟨go164, (b4 : Int).toNat * 5 + 3, none⟩ (.int .i64 (wrap64 (((rd_T58 x305000_1 b4).f3) + (wrap64 (iC - 1)))))).heap[b9]? = some (.cells #[.slice none 0 0] 29 (0, 0))) := ⟨by (with_reducible repeat (first | refine au ?_ _ | refine ar ?_ | refine av ?_ _)); refine aw ?_ (by have h_ := Kd.R_ne a9.out bK.out z0; intro e_; exact h_ (by rw [e_]; rfl)) _; (with_reducible repeat (first | refine au ?_ _ | refine ar ?_ | refine av ?_ _)); exact bK.out⟩
          have bg : Aside0 ((w172.setCell ⟨go164, (b4 : Int).toNat * 5 + 3, none⟩ (.int .i64 (wrap64 (((rd_T58 x305000_1 b4).f3) + (wrap64 (iC - 1)))))).heap[bX]? = some (.cells #[.slice (some ⟨go164, 0, none⟩) x305000_1.length gX] 29 (0, 0))) := ⟨by (with_reducible repeat (first | refine au ?_ _ | refine ar ?_ | refine av ?_ _)); refine aw ?_ (by have h_ := Kd.R_ne a9.out bx.out z0; intro e_; exact h_ (by rw [e_]; rfl)) _; (with_reducible repeat (first | refine au ?_ _ | refine ar ?_ | refine av ?_ _)); exact bx.out⟩
          have bn : Aside0 (IsS95 w0 (w172.setCell ⟨go164, (b4 : Int).toNat * 5 + 3, none⟩ (.int .i64 (wrap64 (((rd_T58 x305000_1 b4).f3) + (wrap64 (iC - 1)))))) g s0_0 qN qM) := ⟨by (try simp only [Int.add_zero]); repeat (first | (with_reducible first | exact HI0.out | apply IsS95.alloc | apply IsS95.drewN | apply IsS95.drew | apply IsS95.set_1 | apply IsS95.set_2 | refine IsS95.far ?_ HN0_go164.out _ | refine IsS95.far ?_ bP.out _ | refine IsS95.far ?_ bM.out _) | exact HI0.out)⟩
          have bL : Aside0 (KeepBut w (w172.setCell ⟨go164, (b4 : Int).toNat * 5 + 3, none⟩ (.int .i64 (wrap64 (((rd_T58 x305000_1 b4).f3) + (wrap64 (iC - 1)))))) g none) := ⟨by repeat (first | (with_reducible first | exact HK.out | apply KeepBut.set_ | apply keep_drewN | apply keep_drew | apply keep_alloc | refine keep_far ?_ GB164.out _ | refine keep_far ?_ fo.out _ | refine keep_far ?_ iz.out _) | exact HK.out)⟩
          have bR : Aside0 (Below w0.heap.size w0 (w172.setCell ⟨go164, (b4 : Int).toNat * 5 + 3, none⟩ (.int .i64 (wrap64 (((rd_T58 x305000_1 b4).f3) + (wrap64 (iC - 1))))))) := ⟨by repeat (first | (with_reducible first | exact HB.out | apply bA | apply pD | apply bD | refine az ?_ (Nat.le_trans HL.out GB164.out) | refine az ?_ (IsS95.ge HI0.out) | refine az ?_ cO.out | refine az ?_ cW.out) | exact HB.out)⟩
          (try clear a9)
          (try clear bK)
          (try clear bx)
          (try clear HI0)
          (try clear HK)
          (try clear HB)
          generalize (w172.setCell ⟨go164, (b4 : Int).toNat * 5 + 3, none⟩ (.int .i64 (wrap64 (((rd_T58 x305000_1 b4).f3) + (wrap64 (iC - 1)))))) = w174 at bc bd bg bn bL bR ⊢
          have a9 := bc
          have bK := bd
          have bx := bg
          have HI0 := bn
          have HK := bL
          have HB := bR
          clear bc bd bg bn bL bR
          obtain ⟨hcz175_0, hfz175_0⟩ := cc1 bx.out
          have hnb176 := cw.out
          have hnc176 := bP.out
          obtain ⟨hcz177_0, hfz177_0⟩ := cc1 bK.out
          try go_wp2
          refine aU (results_cell_row rfl _ _ b9 29 #[.slice (some ⟨go164, 0, none⟩) x305000_1.length gX] (0, 0) _ rfl (by (with_reducible repeat (first | refine au ?_ _ | refine ar ?_ | refine av ?_ _)); refine ax (cs := #[.slice none 0 0]) ?_ 0 _ rfl; (with_reducible repeat (first | refine au ?_ _ | refine ar ?_ | refine av ?_ _)); exact bK.out) Try.underlying29 rfl z1) rfl ?_
          exact ⟨_, y4, by (with_reducible repeat (first | apply ae | apply ac | apply aa)); exact ah (ap (p := ⟨b9, 0, none⟩) (aq a9.out bK.out z0) (fun _ hk => hk.2) (.slice (some ⟨go164, 0, none⟩) x305000_1.length gX)) (fun _ hk => trivial), y26, y20, y21⟩
         ·rw [if_neg pM] at H
          exact absurd H (by simp)
        ·rw [if_neg pN] at H
         exact absurd H (by simp)
       ·rw [if_neg lV] at H
        have c160b0 : (hJ == 0) = false := qF lV
        have c160b1 : (hJ != 0) = true := nT lV
        by_cases lU : hJ = 1
        ·rw [if_pos lU] at H
         have c178b0 : (hJ == 1) = true := qT lU
         have c178b1 : (hJ != 1) = false := nF lU
         clear lU
         obtain ⟨⟨iB, qL, qK⟩, A179, H⟩ := oA_ H
         try dsimp only at H
         by_cases pL : 0 ≤ b4
         ·rw [if_pos pL] at H
          have c180b0 : decide (0 ≤ b4) = true := dT pL
          clear pL
          by_cases pK : b4 < (x305000_1.length : Int)
          ·rw [if_pos pK] at H
           have c181b0 : decide (b4 < (x305000_1.length : Int)) = true := dT pK
           clear pK
           obtain ⟨y362, hy362⟩ : ∃ y_ : List (S58), y_ = (x305000_1.set (b4 : Int).toNat (⟨wrap64 (iB - 1), (rd_T58 x305000_1 b4).f1, (rd_T58 x305000_1 b4).f2, (rd_T58 x305000_1 b4).f3, (rd_T58 x305000_1 b4).f4⟩ : S58)) := ⟨_, rfl⟩
           replace H : (some (y362, qL, qK)) = some (r1, r2, r3) := by first | (rw [hy362]; with_reducible exact H) | (have H2_ := (Option.bind_some _ _).symm.trans H; rw [hy362]; with_reducible exact H2_) | (have H2_ := (Option.bind_some _ _).symm.trans H; with_reducible exact H2_) | with_reducible exact H | (rw [hy362]; exact H) | exact H
           have Ny362 := aM hy362
           clear hy362
           simp only [Option.some.injEq, Prod.mk.injEq] at H
           obtain ⟨rfl, rfl, rfl⟩ := H
           have hnb183 := dA.out
           have hnc183 := cV.out
           have hnb184 := cm.out
           have hnc184 := bM.out
           obtain ⟨hcz185_0, hfz185_0⟩ := cc1 bx.out
           obtain ⟨nD, gW, eo186⟩ := Kd.R_slice a9.out
           subst eo186
           try go_wp2_with (first | ((with_reducible refine aK (f := 86) rfl ?_); refine aT (some 78) rfl rfl Try.func86 z1 rfl #[.pointer (some ⟨g, 0, none⟩), .int .i64 (x305000_1.length : Int)] rfl z21 ?_; (with_reducible refine (spec_l1Cur_pick.calls g s0_0 x1001_144 x1002_144 (x305000_1.length : Int) b4 kd kc w0 _ ?side1 ?side2 ry.out).mono ?_); (case side1 => exact y48); (case side2 => exact y45); rintro e w187 ⟨rfl, hi, hb, hk⟩; refine ⟨_, rfl, ?_⟩; replace a9 := aM (ah (Kd.R_keep (IsS95.apart (show IsS95 w0 _ g s0_0 x1001_144 x1002_144 from by (try simp only [Int.add_zero]); repeat (first | (with_reducible first | exact HI0.out | apply IsS95.alloc | apply IsS95.drewN | apply IsS95.drew | apply IsS95.set_1 | apply IsS95.set_2 | refine IsS95.far ?_ bP.out _ | refine IsS95.far ?_ bM.out _) | exact HI0.out)) z9 z0) hk (fun _ h => h.2)) (fun _ h => h.1)); replace bK := aM (KeepBut.blk hk (g' := b9) (o := .cells #[.slice none 0 0] 29 (0, 0)) z12 cw.out (by simp)); replace bx := aM (KeepBut.blk hk (g' := bX) (o := .cells #[.slice nD x305000_1.length gW] 29 (0, 0)) z13 cm.out (by simp)); replace HK := aM (KeepBut.trans z31 hk (.inl rfl)); replace HB := aM (hb); replace HI0 := aM (hi); (try clear hb); (try clear hk); (try clear hi); (try clear dX)) | ((with_reducible refine aK (f := 86) rfl ?_); refine aT (some 80) rfl rfl Try.func86 z1 rfl #[.pointer (some ⟨g, 0, none⟩), .int .i64 3] rfl z21 ?_; (with_reducible refine (spec_l1Cur_pick.calls g s0_0 kd kc 3 hJ lg ld w0 _ ?side1 ?side2 rx.out).mono ?_); (case side1 => exact y48); (case side2 => exact y45); rintro e w188 ⟨rfl, hi, hb, hk⟩; refine ⟨_, rfl, ?_⟩; replace a9 := aM (ah (Kd.R_keep (IsS95.apart (show IsS95 w0 _ g s0_0 kd kc from by (try simp only [Int.add_zero]); repeat (first | (with_reducible first | exact HI0.out | apply IsS95.alloc | apply IsS95.drewN | apply IsS95.drew | apply IsS95.set_1 | apply IsS95.set_2 | refine IsS95.far ?_ bP.out _ | refine IsS95.far ?_ bM.out _) | exact HI0.out)) z9 z0) hk (fun _ h => h.2)) (fun _ h => h.1)); replace bK := aM (KeepBut.blk hk (g' := b9) (o := .cells #[.slice none 0 0] 29 (0, 0)) z12 cw.out (by simp)); replace bx := aM (KeepBut.blk hk (g' := bX) (o := .cells #[.slice nD x305000_1.length gW] 29 (0, 0)) z13 cm.out (by simp)); replace HK := aM (KeepBut.trans z31 hk (.inl rfl)); replace HB := aM (hb); replace HI0 := aM (hi); (try clear hb); (try clear hk); (try clear hi); (try clear dX)))
           replace a9 := aM (aa a9.out)
           replace bK := aM (ar bK.out)
           replace bx := aM (ar bx.out)
           replace HI0 := aM (IsS95.drew HI0.out)
           replace HK := aM (keep_drew HK.out)
           replace HB := aM (bD HB.out)
           refine start_ (n := 9) (S := fun w' => w'.cell? ⟨bX, 0, none⟩ = some (.slice nD x305000_1.length gW)) (ds := [8]) #[false, false, false, false, false, false, false, false, false] z1 rfl rfl ((bC bx.out 0).trans rfl) (fun hHeld => ?_); refine with_tabW spec_l1Cur_rope.tab22 spec_l1Cur_rope.bits22 (fun HT_ HW_ => ?_)
           generalize w188.drew = w189 at a9 bK bx HI0 HK HB hHeld ⊢
           refine pA 0 106 ?_
           refine pA 2 108 ?_
           refine pA 3 109 ?_
           refine tA 1 107 ?_ (hy := by intro w' s0; go_simp; with_reducible rfl)
           refine one_ (i := 4) (N := some 110) #[true, true, true, true, true, false, false, false, false] rfl rfl (one_of HT_.out z1) z0 (fun K hK => ?_)
           refine goes_ Try.func86 z1 rfl #[.pointer (some ⟨g, 0, none⟩), .int .i64 5] (by rfl) rfl rfl z21 ?_
           with_reducible refine (spec_l1Cur_pick.calls g s0_0 lg ld 5 iB qL qK w0 _ ?side1 ?side2 A179.out).mono ?_
           (case side1 => exact y48)
           (case side2 => exact y45)
           rintro e w190 ⟨rfl, hi, hb, hk⟩
           refine ⟨_, rfl, ?_⟩
           replace a9 := aM (ah (Kd.R_keep (IsS95.apart (show IsS95 w0 _ g s0_0 lg ld from by (try simp only [Int.add_zero]); repeat (first | (with_reducible first | exact HI0.out | apply IsS95.alloc | apply IsS95.drewN | apply IsS95.drew | apply IsS95.set_1 | apply IsS95.set_2 | refine IsS95.far ?_ bP.out _ | refine IsS95.far ?_ bM.out _) | exact HI0.out)) z9 z0) hk (fun _ h => h.2)) (fun _ h => h.1))
           replace bK := aM (KeepBut.blk hk (g' := b9) (o := .cells #[.slice none 0 0] 29 (0, 0)) z12 cw.out (by simp))
           replace bx := aM (KeepBut.blk hk (g' := bX) (o := .cells #[.slice nD x305000_1.length gW] 29 (0, 0)) z13 cm.out (by simp))
           replace HK := aM (KeepBut.trans z31 hk (.inl rfl))
           replace HB := aM (hb)
           replace HI0 := aM (hi)
           (try clear hb)
           skip
           (try clear hk)
           (try clear hi)
           (try clear dX)
           have p182 : 0 ≤ (b4 : Int) := oD z3
           have q182 : (b4 : Int) < ((x305000_1.length : Int) : Int) := oD z3
           obtain ⟨go182, co182, eo182, pT, gl182, cl182, HG182⟩ := Kd.R_form a9.out (by omega)
           (first | cases eo182 | (injection eo182 with ea_ en_ ec_; (first | subst ea_ | (injection ea_ with ea_; subst ea_)); subst ec_; clear en_))
           have GB182 := aM pT
           have GG182 := aM HG182
           clear pT gl182 HG182
           obtain ⟨ce182, hcl182, hM182, hcc182, hfr182⟩ := Kd.R_elem a9.out z58 (b4 : Int) p182 q182
           obtain rfl := k58_openM hM182
           have hx182_0 : World.cell? _ ⟨go182, (b4 : Int).toNat * 5, none⟩ = some (.int .i64 ((rd_T58 x305000_1 b4).f0)) := hcc182 0 _ rfl
           have hx182_1 : World.cell? _ ⟨go182, (b4 : Int).toNat * 5 + 1, none⟩ = some (.int .i64 ((rd_T58 x305000_1 b4).f1)) := hcc182 1 _ rfl
           have hx182_2 : World.cell? _ ⟨go182, (b4 : Int).toNat * 5 + 2, none⟩ = some (.string ((rd_T58 x305000_1 b4).f2)) := hcc182 2 _ rfl
           have hx182_3 : World.cell? _ ⟨go182, (b4 : Int).toNat * 5 + 3, none⟩ = some (.int .i64 ((rd_T58 x305000_1 b4).f3)) := hcc182 3 _ rfl
           have hx182_4 : World.cell? _ ⟨go182, (b4 : Int).toNat * 5 + 4, none⟩ = some (.int .i64 ((rd_T58 x305000_1 b4).f4)) := hcc182 4 _ rfl
           have hf182_0 : World.frozen? _ ⟨go182, (b4 : Int).toNat * 5, none⟩ = false := hfr182 0
           have hf182_1 : World.frozen? _ ⟨go182, (b4 : Int).toNat * 5 + 1, none⟩ = false := hfr182 1
           have hf182_2 : World.frozen? _ ⟨go182, (b4 : Int).toNat * 5 + 2, none⟩ = false := hfr182 2
           have hf182_3 : World.frozen? _ ⟨go182, (b4 : Int).toNat * 5 + 3, none⟩ = false := hfr182 3
           have hf182_4 : World.frozen? _ ⟨go182, (b4 : Int).toNat * 5 + 4, none⟩ = false := hfr182 4
           clear hcl182 hcc182 hfr182; (try clear hM182)
           replace p182 := eq_true p182
           replace q182 := eq_true q182
           have HN0_go182 := aM (show g ≠ go182 from by have h_ := IsS95.own_ne HI0.out a9.out z0; intro e_; exact h_ (by rw [e_]; rfl))
           obtain ⟨ce191, hcl191, hM191, hcc191, hfr191⟩ := Kd.R_elem a9.out z58 (b4 : Int) (oD z3) (by have h_ : (b4 : Int) < ((x305000_1.length : Int) : Int) := oD z3; first | exact h_ | (have e_ := (ai a9.out).1; omega) | simpa using h_)
           obtain rfl := k58_openM hM191
           have HP191 := (Kd.R_seg a9.out (b4 : Int) (oD z3) (by have h_ : (b4 : Int) < ((x305000_1.length : Int) : Int) := oD z3; first | exact h_ | (have e_ := (ai a9.out).1; omega) | simpa using h_) (seg := [.int .i64 (wrap64 (iB - 1))]) (j := 0) hcl191 hcc191 (show 1 ≤ 5 from by decide) (x' := (⟨wrap64 (iB - 1), (rd_T58 x305000_1 b4).f1, (rd_T58 x305000_1 b4).f2, (rd_T58 x305000_1 b4).f3, (rd_T58 x305000_1 b4).f4⟩ : S58)) (k58_mkM _ _ _ (⟨wrap64 (iB - 1), (rd_T58 x305000_1 b4).f1, (rd_T58 x305000_1 b4).f2, (rd_T58 x305000_1 b4).f3, (rd_T58 x305000_1 b4).f4⟩ : S58) ) (fun _ hk => hk)).1
           rw [← Ny362.out] at HP191
           have HQ191 := aM HP191
           clear hcl191 hcc191 hfr191 HP191; (try clear hM191)
           refine hK.out _ _ ((bC bx.out 0).trans rfl) (fun hHeld => ?_)
           clear hK K
           refine norm_ (a' := ?_) ?_ ?_
           rotate_left
           ·show Act.put _ (some 110) _ = _
            simp only [Act.put, sA, sB, sC, i64_w, i32_w]
            rfl
           refine pA 5 111 ?_
           refine pA 6 112 ?_
           refine pA 7 113 ?_
           refine last_ (i := 8) (N := none) #[true, true, true, true, true, true, true, true, true] rfl rfl (one_of HT_.out z1) z0 (fun K hK => ?_)
           refine skip_ (w1 := ?_) (by rfl) rfl ?_ ?_
           rotate_left
           ·go_simp
            rfl
           refine hK.out _ _ ?_
           clear hK K
           refine done_ (done_of HT_.out z1) ?_
           have bc : Aside0 (Kd.R k58 58 (w190.setCell ⟨go182, (b4 : Int).toNat * 5, none⟩ (.int .i64 (wrap64 (iB - 1)))) w.heap.size (fun _ => True) (.slice (some ⟨go182, 0, none⟩) x305000_1.length gW) y362) := ⟨kR_ HQ191.out⟩
           have bd : Aside0 ((w190.setCell ⟨go182, (b4 : Int).toNat * 5, none⟩ (.int .i64 (wrap64 (iB - 1)))).heap[b9]? = some (.cells #[.slice none 0 0] 29 (0, 0))) := ⟨by (with_reducible repeat (first | refine au ?_ _ | refine ar ?_ | refine av ?_ _)); refine aw ?_ (by have h_ := Kd.R_ne a9.out bK.out z0; intro e_; exact h_ (by rw [e_]; rfl)) _; (with_reducible repeat (first | refine au ?_ _ | refine ar ?_ | refine av ?_ _)); exact bK.out⟩
           have bg : Aside0 ((w190.setCell ⟨go182, (b4 : Int).toNat * 5, none⟩ (.int .i64 (wrap64 (iB - 1)))).heap[bX]? = some (.cells #[.slice (some ⟨go182, 0, none⟩) x305000_1.length gW] 29 (0, 0))) := ⟨by (with_reducible repeat (first | refine au ?_ _ | refine ar ?_ | refine av ?_ _)); refine aw ?_ (by have h_ := Kd.R_ne a9.out bx.out z0; intro e_; exact h_ (by rw [e_]; rfl)) _; (with_reducible repeat (first | refine au ?_ _ | refine ar ?_ | refine av ?_ _)); exact bx.out⟩
           have bn : Aside0 (IsS95 w0 (w190.setCell ⟨go182, (b4 : Int).toNat * 5, none⟩ (.int .i64 (wrap64 (iB - 1)))) g s0_0 qL qK) := ⟨by (try simp only [Int.add_zero]); repeat (first | (with_reducible first | exact HI0.out | apply IsS95.alloc | apply IsS95.drewN | apply IsS95.drew | apply IsS95.set_1 | apply IsS95.set_2 | refine IsS95.far ?_ HN0_go182.out _ | refine IsS95.far ?_ bP.out _ | refine IsS95.far ?_ bM.out _) | exact HI0.out)⟩
           have bL : Aside0 (KeepBut w (w190.setCell ⟨go182, (b4 : Int).toNat * 5, none⟩ (.int .i64 (wrap64 (iB - 1)))) g none) := ⟨by repeat (first | (with_reducible first | exact HK.out | apply KeepBut.set_ | apply keep_drewN | apply keep_drew | apply keep_alloc | refine keep_far ?_ GB182.out _ | refine keep_far ?_ fo.out _ | refine keep_far ?_ iz.out _) | exact HK.out)⟩
           have bR : Aside0 (Below w0.heap.size w0 (w190.setCell ⟨go182, (b4 : Int).toNat * 5, none⟩ (.int .i64 (wrap64 (iB - 1))))) := ⟨by repeat (first | (with_reducible first | exact HB.out | apply bA | apply pD | apply bD | refine az ?_ (Nat.le_trans HL.out GB182.out) | refine az ?_ (IsS95.ge HI0.out) | refine az ?_ cO.out | refine az ?_ cW.out) | exact HB.out)⟩
           (try clear a9)
           (try clear bK)
           (try clear bx)
           (try clear HI0)
           (try clear HK)
           (try clear HB)
           generalize (w190.setCell ⟨go182, (b4 : Int).toNat * 5, none⟩ (.int .i64 (wrap64 (iB - 1)))) = w192 at bc bd bg bn bL bR ⊢
           have a9 := bc
           have bK := bd
           have bx := bg
           have HI0 := bn
           have HK := bL
           have HB := bR
           clear bc bd bg bn bL bR
           obtain ⟨hcz193_0, hfz193_0⟩ := cc1 bx.out
           have hnb194 := cw.out
           have hnc194 := bP.out
           obtain ⟨hcz195_0, hfz195_0⟩ := cc1 bK.out
           try go_wp2
           refine aU (results_cell_row rfl _ _ b9 29 #[.slice (some ⟨go182, 0, none⟩) x305000_1.length gW] (0, 0) _ rfl (by (with_reducible repeat (first | refine au ?_ _ | refine ar ?_ | refine av ?_ _)); refine ax (cs := #[.slice none 0 0]) ?_ 0 _ rfl; (with_reducible repeat (first | refine au ?_ _ | refine ar ?_ | refine av ?_ _)); exact bK.out) Try.underlying29 rfl z1) rfl ?_
           exact ⟨_, y4, by (with_reducible repeat (first | apply ae | apply ac | apply aa)); exact ah (ap (p := ⟨b9, 0, none⟩) (aq a9.out bK.out z0) (fun _ hk => hk.2) (.slice (some ⟨go182, 0, none⟩) x305000_1.length gW)) (fun _ hk => trivial), y26, y20, y21⟩
          ·rw [if_neg pK] at H
           exact absurd H (by simp)
         ·rw [if_neg pL] at H
          exact absurd H (by simp)
        ·rw [if_neg lU] at H
         have c178b0 : (hJ == 1) = false := qF lU
         have c178b1 : (hJ != 1) = true := nT lU
         by_cases pJ : 0 ≤ b4
         ·rw [if_pos pJ] at H
          have c196b0 : decide (0 ≤ b4) = true := dT pJ
          clear pJ
          by_cases pI : b4 < (x305000_1.length : Int)
          ·rw [if_pos pI] at H
           have c197b0 : decide (b4 < (x305000_1.length : Int)) = true := dT pI
           clear pI
           obtain ⟨y364, hy364⟩ : ∃ y_ : List (S58), y_ = (x305000_1.set (b4 : Int).toNat (⟨(rd_T58 x305000_1 b4).f0, (rd_T58 x305000_1 b4).f1, (rd_T58 x305000_1 b4).f2, (rd_T58 x305000_1 b4).f3, wrap64 (((rd_T58 x305000_1 b4).f4) + 1)⟩ : S58)) := ⟨_, rfl⟩
           replace H : (some (y364, lg, ld)) = some (r1, r2, r3) := by first | (rw [hy364]; with_reducible exact H) | (have H2_ := (Option.bind_some _ _).symm.trans H; rw [hy364]; with_reducible exact H2_) | (have H2_ := (Option.bind_some _ _).symm.trans H; with_reducible exact H2_) | with_reducible exact H | (rw [hy364]; exact H) | exact H
           have Ny364 := aM hy364
           clear hy364
           simp only [Option.some.injEq, Prod.mk.injEq] at H
           obtain ⟨rfl, rfl, rfl⟩ := H
           have hnb199 := dA.out
           have hnc199 := cV.out
           have hnb200 := cm.out
           have hnc200 := bM.out
           obtain ⟨hcz201_0, hfz201_0⟩ := cc1 bx.out
           obtain ⟨o8, gV, eo202⟩ := Kd.R_slice a9.out
           subst eo202
           go_wp2_with (first | ((with_reducible refine aK (f := 86) rfl ?_); refine aT (some 78) rfl rfl Try.func86 z1 rfl #[.pointer (some ⟨g, 0, none⟩), .int .i64 (x305000_1.length : Int)] rfl z21 ?_; (with_reducible refine (spec_l1Cur_pick.calls g s0_0 x1001_144 x1002_144 (x305000_1.length : Int) b4 kd kc w0 _ ?side1 ?side2 ry.out).mono ?_); (case side1 => exact y48); (case side2 => exact y45); rintro e w203 ⟨rfl, hi, hb, hk⟩; refine ⟨_, rfl, ?_⟩; replace a9 := aM (ah (Kd.R_keep (IsS95.apart (show IsS95 w0 _ g s0_0 x1001_144 x1002_144 from by (try simp only [Int.add_zero]); repeat (first | (with_reducible first | exact HI0.out | apply IsS95.alloc | apply IsS95.drewN | apply IsS95.drew | apply IsS95.set_1 | apply IsS95.set_2 | refine IsS95.far ?_ bP.out _ | refine IsS95.far ?_ bM.out _) | exact HI0.out)) z9 z0) hk (fun _ h => h.2)) (fun _ h => h.1)); replace bK := aM (KeepBut.blk hk (g' := b9) (o := .cells #[.slice none 0 0] 29 (0, 0)) z12 cw.out (by simp)); replace bx := aM (KeepBut.blk hk (g' := bX) (o := .cells #[.slice o8 x305000_1.length gV] 29 (0, 0)) z13 cm.out (by simp)); replace HK := aM (KeepBut.trans z31 hk (.inl rfl)); replace HB := aM (hb); replace HI0 := aM (hi); (try clear hb); (try clear hk); (try clear hi); (try clear dX)) | ((with_reducible refine aK (f := 86) rfl ?_); refine aT (some 80) rfl rfl Try.func86 z1 rfl #[.pointer (some ⟨g, 0, none⟩), .int .i64 3] rfl z21 ?_; (with_reducible refine (spec_l1Cur_pick.calls g s0_0 kd kc 3 hJ lg ld w0 _ ?side1 ?side2 rx.out).mono ?_); (case side1 => exact y48); (case side2 => exact y45); rintro e w204 ⟨rfl, hi, hb, hk⟩; refine ⟨_, rfl, ?_⟩; replace a9 := aM (ah (Kd.R_keep (IsS95.apart (show IsS95 w0 _ g s0_0 kd kc from by (try simp only [Int.add_zero]); repeat (first | (with_reducible first | exact HI0.out | apply IsS95.alloc | apply IsS95.drewN | apply IsS95.drew | apply IsS95.set_1 | apply IsS95.set_2 | refine IsS95.far ?_ bP.out _ | refine IsS95.far ?_ bM.out _) | exact HI0.out)) z9 z0) hk (fun _ h => h.2)) (fun _ h => h.1)); replace bK := aM (KeepBut.blk hk (g' := b9) (o := .cells #[.slice none 0 0] 29 (0, 0)) z12 cw.out (by simp)); replace bx := aM (KeepBut.blk hk (g' := bX) (o := .cells #[.slice o8 x305000_1.length gV] 29 (0, 0)) z13 cm.out (by simp)); replace HK := aM (KeepBut.trans z31 hk (.inl rfl)); replace HB := aM (hb); replace HI0 := aM (hi); (try clear hb); (try clear hk); (try clear hi); (try clear dX); obtain ⟨hcz205_0, hfz205_0⟩ := cc1 bx.out; have p363 : 0 ≤ (b4 : Int) := oD z3; have q363 : b4 < (x305000_1.length : Int) := oD z3; obtain ⟨ad363, e363, hx363_0, hx363_1, hx363_2, hx363_3, hx363_4⟩ := at_T58 (ai a9.out).2.2 b4 p363 q363; cases e363; replace p363 := eq_true p363; replace q363 := eq_true q363; have p198 : 0 ≤ (b4 : Int) := oD z3; have q198 : (b4 : Int) < ((x305000_1.length : Int) : Int) := oD z3; obtain ⟨go198, co198, eo198, pS, gl198, cl198, HG198⟩ := Kd.R_form a9.out (by omega); (first | cases eo198 | (injection eo198 with ea_ en_ ec_; (first | subst ea_ | (injection ea_ with ea_; subst ea_)); subst ec_; clear en_)); have GB198 := aM pS; have GG198 := aM HG198; clear pS gl198 HG198; (first | simp only [add_plain] at hx363_0 | skip); (first | simp only [add_plain] at hx363_1 | skip); (first | simp only [add_plain] at hx363_2 | skip); (first | simp only [add_plain] at hx363_3 | skip); (first | simp only [add_plain] at hx363_4 | skip); obtain ⟨ce198, hcl198, hM198, hcc198, hfr198⟩ := Kd.R_elem a9.out z58 (b4 : Int) p198 q198; obtain rfl := k58_openM hM198; have hx198_0 : w204.cell? ⟨go198, (b4 : Int).toNat * 5, none⟩ = some (.int .i64 ((rd_T58 x305000_1 b4).f0)) := hcc198 0 _ rfl; have hx198_1 : w204.cell? ⟨go198, (b4 : Int).toNat * 5 + 1, none⟩ = some (.int .i64 ((rd_T58 x305000_1 b4).f1)) := hcc198 1 _ rfl; have hx198_2 : w204.cell? ⟨go198, (b4 : Int).toNat * 5 + 2, none⟩ = some (.string ((rd_T58 x305000_1 b4).f2)) := hcc198 2 _ rfl; have hx198_3 : w204.cell? ⟨go198, (b4 : Int).toNat * 5 + 3, none⟩ = some (.int .i64 ((rd_T58 x305000_1 b4).f3)) := hcc198 3 _ rfl; have hx198_4 : w204.cell? ⟨go198, (b4 : Int).toNat * 5 + 4, none⟩ = some (.int .i64 ((rd_T58 x305000_1 b4).f4)) := hcc198 4 _ rfl; have hf198_0 : w204.frozen? ⟨go198, (b4 : Int).toNat * 5, none⟩ = false := hfr198 0; have hf198_1 : w204.frozen? ⟨go198, (b4 : Int).toNat * 5 + 1, none⟩ = false := hfr198 1; have hf198_2 : w204.frozen? ⟨go198, (b4 : Int).toNat * 5 + 2, none⟩ = false := hfr198 2; have hf198_3 : w204.frozen? ⟨go198, (b4 : Int).toNat * 5 + 3, none⟩ = false := hfr198 3; have hf198_4 : w204.frozen? ⟨go198, (b4 : Int).toNat * 5 + 4, none⟩ = false := hfr198 4; clear hcl198 hcc198 hfr198; (try clear hM198); replace p198 := eq_true p198; replace q198 := eq_true q198; have HX206 := aM (show Kd.R k58 58 w204 w.heap.size (fun _ => True) (.slice (some ⟨go198, 0, none⟩) x305000_1.length gV) x305000_1 from z9); obtain ⟨ce206, hcl206, hM206, hcc206, hfr206⟩ := Kd.R_elem HX206.out z58 (b4 : Int) (oD z3) (by have h_ : (b4 : Int) < ((x305000_1.length : Int) : Int) := oD z3; first | exact h_ | (have e_ := (ai a9.out).1; omega) | simpa using h_); obtain rfl := k58_openM hM206; have HP206 := Kd.R_seg HX206.out (b4 : Int) (oD z3) (by have h_ : (b4 : Int) < ((x305000_1.length : Int) : Int) := oD z3; first | exact h_ | (have e_ := (ai a9.out).1; omega) | simpa using h_) (seg := [.int .i64 (wrap64 (((rd_T58 x305000_1 b4).f4) + 1))]) (j := 4) hcl206 hcc206 (show 5 ≤ 5 from by decide) (x' := (⟨(rd_T58 x305000_1 b4).f0, (rd_T58 x305000_1 b4).f1, (rd_T58 x305000_1 b4).f2, (rd_T58 x305000_1 b4).f3, wrap64 (((rd_T58 x305000_1 b4).f4) + 1)⟩ : S58)) (k58_mkM _ _ _ (⟨(rd_T58 x305000_1 b4).f0, (rd_T58 x305000_1 b4).f1, (rd_T58 x305000_1 b4).f2, (rd_T58 x305000_1 b4).f3, wrap64 (((rd_T58 x305000_1 b4).f4) + 1)⟩ : S58) ) (fun _ hk => hk); have hx206_4 := hcc206 4 _ rfl; (try simp only [show (k58).sz = 5 from rfl, Nat.mul_one, Nat.add_zero] at hx206_4); have hf206_4 := hfr206 4; (try simp only [show (k58).sz = 5 from rfl, Nat.mul_one, Nat.add_zero] at hf206_4); clear hcl206 hcc206 hfr206; (try clear hM206)) | ((with_reducible refine gate_store (t := 3) (p := 89) rfl ?_); refine store_event (t := 3) (p := 89) (v := ?vo_w207) (w1 := (w204.setCell ⟨go198, (b4 : Int).toNat * 5 + 4, none⟩ (.int .i64 (wrap64 (((rd_T58 x305000_1 b4).f4) + 1))))) ?hg ?ho ?hn ?hr ?_; (case ho => rfl); (case hg => rfl); (case hn => rfl); (case hr => first | (go_simp; done) | (go_simp; rfl) | ((try simp only [aY] at *); go_simp; first | done | rfl)); intro w207 hw; have hg : w204.grownBy w207 (some go198) := (by rw [hw]; exact HP206.2); have hp_ : Kd.R k58 58 w207 w.heap.size (fun _ => True) (.slice (some ⟨go198, 0, none⟩) x305000_1.length gV) y364 := (by rw [hw, Ny364.out]; exact HP206.1); clear HP206; replace bK := aM (blk_grown (g := b9) (o := .cells #[.slice none 0 0] 29 (0, 0)) z12 hg (Kd.R_ne a9.out bK.out z0)); replace bx := aM (blk_grown (g := bX) (o := .cells #[.slice (some ⟨go198, 0, none⟩) x305000_1.length gV] 29 (0, 0)) z13 hg (Kd.R_ne a9.out bx.out z0)); replace HI0 := aM (IsS95.grown z45 hg (IsS95.own_ne HI0.out a9.out z0)); replace HB := aM ((by rw [hw]; exact az (HB.out) (Nat.le_trans HL.out GB198.out) : Below w0.heap.size w0 w207)); replace HK := aM (KeepBut.trans z31 (KeepBut.of_grown hg g) (Kd.R_base2 a9.out)); replace a9 := aM (hp_); clear hg hw hp_; obtain ⟨hcz208_0, hfz208_0⟩ := cc1 bx.out; have hnb209 := cw.out; have hnc209 := bP.out; obtain ⟨hcz210_0, hfz210_0⟩ := cc1 bK.out))
           refine aU (results_cell_row rfl _ _ b9 29 #[.slice (some ⟨go198, 0, none⟩) x305000_1.length gV] (0, 0) _ rfl (by (with_reducible repeat (first | refine au ?_ _ | refine ar ?_ | refine av ?_ _)); refine ax (cs := #[.slice none 0 0]) ?_ 0 _ rfl; (with_reducible repeat (first | refine au ?_ _ | refine ar ?_ | refine av ?_ _)); exact bK.out) Try.underlying29 rfl z1) rfl ?_
           exact ⟨_, y4, by (with_reducible repeat (first | apply ae | apply ac | apply aa)); exact ah (ap (p := ⟨b9, 0, none⟩) (aq a9.out bK.out z0) (fun _ hk => hk.2) (.slice (some ⟨go198, 0, none⟩) x305000_1.length gV)) (fun _ hk => trivial), y26, y20, y21⟩
          ·rw [if_neg pI] at H
           exact absurd H (by simp)
         ·rw [if_neg pJ] at H
          exact absurd H (by simp)
      ·replace pO := Bool.eq_false_iff.mpr pO
       subst pO
       rw [if_neg nF_] at H
       simp only [Option.some.injEq, Prod.mk.injEq] at H
       obtain ⟨rfl, rfl, rfl⟩ := H
       have hnb211 := dA.out
       have hnc211 := cV.out
       have hnb212 := cm.out
       have hnc212 := bM.out
       obtain ⟨hcz213_0, hfz213_0⟩ := cc1 bx.out
       obtain ⟨qp, pV, eo214⟩ := Kd.R_slice a9.out
       subst eo214
       have hnb215 := cw.out
       have hnc215 := bP.out
       obtain ⟨hcz216_0, hfz216_0⟩ := cc1 bK.out
       go_wp2
       refine aU (results_cell_row rfl _ _ b9 29 #[.slice qp x305000_1.length pV] (0, 0) _ rfl (by (with_reducible repeat (first | refine au ?_ _ | refine ar ?_ | refine av ?_ _)); refine ax (cs := #[.slice none 0 0]) ?_ 0 _ rfl; (with_reducible repeat (first | refine au ?_ _ | refine ar ?_ | refine av ?_ _)); exact bK.out) Try.underlying29 rfl z1) rfl ?_
       exact ⟨_, y4, by (with_reducible repeat (first | apply ae | apply ac | apply aa)); exact ah (ap (p := ⟨b9, 0, none⟩) (aq a9.out bK.out z0) (fun _ hk => hk.2) (.slice qp x305000_1.length pV)) (fun _ hk => trivial), y26, y20, y21⟩

end Go.Proofs.Ytmkenlejdaphnaa.AFnRopes
