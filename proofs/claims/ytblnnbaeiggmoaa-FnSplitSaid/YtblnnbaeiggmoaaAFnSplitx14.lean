-- this session's own text: written by wip/tools/ownprint.py over the kit's print
import Derived.Test.YtblnnbaeiggmoaaAFnSplitx0
import Derived.Test.YtblnnbaeiggmoaaAFnSplitx4
import Derived.Test.YtblnnbaeiggmoaaAFnSplitx5
import Derived.Test.YtblnnbaeiggmoaaAFnSplitx6
import Derived.Test.YtblnnbaeiggmoaaAFnSplitx9
import Derived.Test.YtblnnbaeiggmoaaAFnSplitx10
import Derived.Test.YtblnnbaeiggmoaaAFnSplitx11
import Derived.Test.YtblnnbaeiggmoaaAFnSplitx13
namespace Go.Proofs.Ytblnnbaeiggmoaa.AFnSplit
open Go.RowKit Go.Proofs.YtblnnbaeiggmoaaW.PrintWords Go.Proofs.YtblnnbaeiggmoaaW.PrintLast Go.Proofs.YtblnnbaeiggmoaaW.PrintMore
attribute [local go_sem] max2_int min2_int max_two min_two max_three min_three max_four min_four   -- for this text's walks alone
set_option linter.unusedVariables false
set_option linter.unusedSimpArgs false

/-! ### spec_l1Cur_rope: function 51 -/
mutual
def spec_l1Cur_rope.l0 : Nat → Int → List Int → Int → Int → List (S101) → Option ((List (S101)) × Int × Int)
 | 0, _, _, _, _, _ => none
 | k + 1, x5, x1000, x1001, x1002, x319000 => if x5 > 0 then ((spec_l1Cur_pick.f x1000 x1001 x1002 3).bind fun j5 => (if j5.1 = 0 then ((spec_l1Cur_plainText.f k x1000 j5.2.1 j5.2.2).bind fun nP => ((spec_RopeOf.f k nP.1).bind fun bt329 => ((spec_JoinRopes.f k x319000 bt329.1).bind fun sr => (if sr.2 = true then (spec_l1Cur_rope.l0 k (wrap64 (x5 - 1)) x1000 nP.2.1 nP.2.2 sr.1) else (spec_l1Cur_rope.l0 k (wrap64 (x5 - 1)) x1000 nP.2.1 nP.2.2 x319000))))) else (if j5.1 = 1 then ((spec_l12Size.f x319000).bind fun nx => ((spec_l1Cur_pick.f x1000 j5.2.1 j5.2.2 (wrap64 (nx + 1))).bind fun nO => ((spec_SplitRope.f k x319000 nO.1).bind fun sq => (if sq.2.2 = true then (spec_l1Cur_rope.l0 k (wrap64 (x5 - 1)) x1000 nO.2.1 nO.2.2 sq.2.1) else (spec_l1Cur_rope.l0 k (wrap64 (x5 - 1)) x1000 nO.2.1 nO.2.2 x319000))))) else ((spec_l12Text.f k x319000).bind fun nw => ((spec_l1Cur_opOn.f k x1000 j5.2.1 j5.2.2 nw).bind fun nN => ((spec_EditRope.f k x319000 nN.1).bind fun sp => (if sp.2 = true then (spec_l1Cur_rope.l0 k (wrap64 (x5 - 1)) x1000 nN.2.1 nN.2.2 sp.1) else (spec_l1Cur_rope.l0 k (wrap64 (x5 - 1)) x1000 nN.2.1 nN.2.2 x319000)))))))) else (if (x319000.length : Int) > 0 then ((spec_l1Cur_one.f x1000 x1001 x1002 20).bind fun rb => (spec_l1Cur_rope.j1 k rb.1 x1000 rb.2.1 rb.2.2 x319000)) else (spec_l1Cur_rope.j1 k false x1000 x1001 x1002 x319000))
def spec_l1Cur_rope.j1 : Nat → Bool → List Int → Int → Int → List (S101) → Option ((List (S101)) × Int × Int)
 | 0, _, _, _, _, _ => none
 | k + 1, x73, x1000, x1001, x1002, x319000 => if x73 = true then ((spec_l1Cur_pick.f x1000 x1001 x1002 (x319000.length : Int)).bind fun fw => ((spec_l1Cur_pick.f x1000 fw.2.1 fw.2.2 3).bind fun j4 => (if j4.1 = 0 then (if 0 ≤ fw.1 then (if fw.1 < (x319000.length : Int) then ((spec_l1Cur_pick.f x1000 j4.2.1 j4.2.2 3).bind fun ra => (some ((x319000.set (fw.1 : Int).toNat (⟨(rd_T101 x319000 fw.1).f0, (rd_T101 x319000 fw.1).f1, (rd_T101 x319000 fw.1).f2, wrap64 (((rd_T101 x319000 fw.1).f3) + (wrap64 (ra.1 - 1))), (rd_T101 x319000 fw.1).f4⟩ : S101)), ra.2.1, ra.2.2))) else (none)) else (none)) else (if j4.1 = 1 then ((spec_l1Cur_pick.f x1000 j4.2.1 j4.2.2 5).bind fun q9 => (if 0 ≤ fw.1 then (if fw.1 < (x319000.length : Int) then (some ((x319000.set (fw.1 : Int).toNat (⟨wrap64 (q9.1 - 1), (rd_T101 x319000 fw.1).f1, (rd_T101 x319000 fw.1).f2, (rd_T101 x319000 fw.1).f3, (rd_T101 x319000 fw.1).f4⟩ : S101)), q9.2.1, q9.2.2)) else (none)) else (none))) else (if 0 ≤ fw.1 then (if fw.1 < (x319000.length : Int) then (some ((x319000.set (fw.1 : Int).toNat (⟨(rd_T101 x319000 fw.1).f0, (rd_T101 x319000 fw.1).f1, (rd_T101 x319000 fw.1).f2, (rd_T101 x319000 fw.1).f3, wrap64 (((rd_T101 x319000 fw.1).f4) + 1)⟩ : S101)), j4.2.1, j4.2.2)) else (none)) else (none)))))) else (some (x319000, x1001, x1002))
end
def spec_l1Cur_rope.f (k : Nat) (s0_0 : List Int) (s0_1 : Int) (s0_2 : Int) : Option ((List (S101)) × Int × Int) := (spec_l1Cur_plainText.f k s0_0 s0_1 s0_2).bind fun lw => ((spec_RopeOf.f k lw.1).bind fun rc => ((spec_l1Cur_pick.f s0_0 lw.2.1 lw.2.2 5).bind fun lv => (spec_l1Cur_rope.l0 k lv.1 s0_0 lv.2.1 lv.2.2 rc.1)))
theorem spec_l1Cur_rope.mono_l : ∀ k, (∀ y0 y1 y2 y3 y4, LeO (spec_l1Cur_rope.l0 k y0 y1 y2 y3 y4) (spec_l1Cur_rope.l0 (k + 1) y0 y1 y2 y3 y4)) ∧ (∀ y0 y1 y2 y3 y4, LeO (spec_l1Cur_rope.j1 k y0 y1 y2 y3 y4) (spec_l1Cur_rope.j1 (k + 1) y0 y1 y2 y3 y4))
 | 0 => ⟨fun _ _ _ _ _ r h => by simp [spec_l1Cur_rope.l0] at h, fun _ _ _ _ _ r h => by simp [spec_l1Cur_rope.j1] at h⟩
 | k + 1 => by
  obtain ⟨ih0, ih1⟩ := spec_l1Cur_rope.mono_l k
  refine ⟨?_, ?_⟩
  ·intro y0 y1 y2 y3 y4
   unfold spec_l1Cur_rope.l0
   repeat' first
   | (with_reducible exact ih0 _ _ _ _ _)
   | (with_reducible exact ih1 _ _ _ _ _)
   | (with_reducible exact spec_EditRope.mono _ _ _)
   | (with_reducible exact spec_JoinRopes.mono _ _ _)
   | (with_reducible exact spec_RopeOf.mono _ _)
   | (with_reducible exact spec_SplitRope.mono _ _ _)
   | (with_reducible exact spec_l12Text.mono _ _)
   | (with_reducible exact spec_l1Cur_opOn.mono _ _ _ _ _)
   | (with_reducible exact spec_l1Cur_plainText.mono _ _ _ _)
   | (with_reducible exact LeO.refl _)
   | (with_reducible exact LeO.none _)
   | (with_reducible refine LeO.ite ?_ ?_)
   | (with_reducible refine LeO.bind ?_ (fun _ => ?_))
  ·intro y0 y1 y2 y3 y4
   unfold spec_l1Cur_rope.j1
   repeat' first
   | (with_reducible exact ih0 _ _ _ _ _)
   | (with_reducible exact ih1 _ _ _ _ _)
   | (with_reducible exact spec_EditRope.mono _ _ _)
   | (with_reducible exact spec_JoinRopes.mono _ _ _)
   | (with_reducible exact spec_RopeOf.mono _ _)
   | (with_reducible exact spec_SplitRope.mono _ _ _)
   | (with_reducible exact spec_l12Text.mono _ _)
   | (with_reducible exact spec_l1Cur_opOn.mono _ _ _ _ _)
   | (with_reducible exact spec_l1Cur_plainText.mono _ _ _ _)
   | (with_reducible exact LeO.refl _)
   | (with_reducible exact LeO.none _)
   | (with_reducible refine LeO.ite ?_ ?_)
   | (with_reducible refine LeO.bind ?_ (fun _ => ?_))
theorem spec_l1Cur_rope.mono : ∀ a0 a1 a2 k, LeO (spec_l1Cur_rope.f k a0 a1 a2) (spec_l1Cur_rope.f (k + 1) a0 a1 a2) := by
 intro a0 a1 a2 k
 obtain ⟨ih0, ih1⟩ := spec_l1Cur_rope.mono_l k
 unfold spec_l1Cur_rope.f
 repeat' first
   | (with_reducible exact ih0 _ _ _ _ _)
   | (with_reducible exact ih1 _ _ _ _ _)
   | (with_reducible exact spec_EditRope.mono _ _ _)
   | (with_reducible exact spec_JoinRopes.mono _ _ _)
   | (with_reducible exact spec_RopeOf.mono _ _)
   | (with_reducible exact spec_SplitRope.mono _ _ _)
   | (with_reducible exact spec_l12Text.mono _ _)
   | (with_reducible exact spec_l1Cur_opOn.mono _ _ _ _ _)
   | (with_reducible exact spec_l1Cur_plainText.mono _ _ _ _)
   | (with_reducible exact LeO.refl _)
   | (with_reducible exact LeO.none _)
   | (with_reducible refine LeO.ite ?_ ?_)
   | (with_reducible refine LeO.bind ?_ (fun _ => ?_))
def spec_l1Cur_rope.T7 : Bool × List (List Nat × List Nat) := (true, [([], []), ([], []), ([], []), ([2], [2]), ([3], [3]), ([1, 4, 4], [1, 4]), ([0, 5, 5], [0, 5]), ([6], [6]), ([7], [7]), ([7], [7]), ([8, 6, 0, 1, 2, 3, 4, 5, 6, 7, 8], [8]), ([9, 10, 0, 1, 2, 3, 4, 5, 6, 7, 8, 9, 10], [9])])
def spec_l1Cur_rope.B7 : List Nat := [0, 0, 0, 4, 12, 30, 63, 127, 255, 255, 511, 2047]
theorem spec_l1Cur_rope.tab7 : rtab .any (opsOf Try.f51 7) = spec_l1Cur_rope.T7 := by kernel_rfl
theorem spec_l1Cur_rope.bits7 : waitsOk spec_l1Cur_rope.T7.2 spec_l1Cur_rope.B7 = true := by kernel_rfl
def spec_l1Cur_rope.T12 : Bool × List (List Nat × List Nat) := (true, [([], []), ([], []), ([], []), ([2], [2]), ([3], [3]), ([4], [4]), ([1, 5, 4], [1, 5]), ([0, 6, 6], [0, 6]), ([7], [7]), ([8], [8]), ([8], [8]), ([8], [8]), ([10, 7, 0, 1, 2, 3, 4, 5, 6, 7, 8, 9, 10], [10]), ([11, 12, 0, 1, 2, 3, 4, 5, 6, 7, 8, 9, 10, 11, 12], [11])])
def spec_l1Cur_rope.B12 : List Nat := [0, 0, 0, 4, 12, 28, 62, 127, 255, 511, 511, 511, 2047, 8191]
theorem spec_l1Cur_rope.tab12 : rtab .any (opsOf Try.f51 12) = spec_l1Cur_rope.T12 := by kernel_rfl
theorem spec_l1Cur_rope.bits12 : waitsOk spec_l1Cur_rope.T12.2 spec_l1Cur_rope.B12 = true := by kernel_rfl
def spec_l1Cur_rope.T20 : Bool × List (List Nat × List Nat) := (true, [([], []), ([0], [0]), ([], []), ([1, 2], [1, 2]), ([3], [3]), ([4], [4]), ([], []), ([6], [6]), ([7], [7]), ([5, 8], [5, 8]), ([1, 2, 0, 1, 2, 3, 4, 5, 6, 7, 8, 9], [1, 2]), ([10, 0, 1, 2, 3, 4, 5, 6, 7, 8, 9], [10]), ([11, 9, 7, 0, 1, 2, 3, 4, 5, 6, 7, 8, 9], [9, 11])])
def spec_l1Cur_rope.B20 : List Nat := [0, 1, 0, 7, 15, 31, 0, 64, 192, 511, 1023, 2047, 4095]
theorem spec_l1Cur_rope.tab20 : rtab .any (opsOf Try.f51 20) = spec_l1Cur_rope.T20 := by kernel_rfl
theorem spec_l1Cur_rope.bits20 : waitsOk spec_l1Cur_rope.T20.2 spec_l1Cur_rope.B20 = true := by kernel_rfl
def spec_l1Cur_rope.T22 : Bool × List (List Nat × List Nat) := (true, [([], []), ([0], [0]), ([], []), ([], []), ([3], [3]), ([4], [4]), ([1, 2, 0, 1, 2, 3, 4, 5], [1, 2]), ([6, 0, 1, 2, 3, 4, 5], [6]), ([7, 5, 4, 0, 1, 2, 3, 4, 5], [5, 7])])
def spec_l1Cur_rope.B22 : List Nat := [0, 1, 0, 0, 8, 24, 63, 127, 255]
theorem spec_l1Cur_rope.tab22 : rtab .any (opsOf Try.f51 22) = spec_l1Cur_rope.T22 := by kernel_rfl
theorem spec_l1Cur_rope.bits22 : waitsOk spec_l1Cur_rope.T22.2 spec_l1Cur_rope.B22 = true := by kernel_rfl
set_option maxHeartbeats 8000000 in
set_option maxRecDepth 100000 in
theorem spec_l1Cur_rope.calls (k : Nat) (g : Nat) (s0_0 : List Int) (s0_1 : Int) (s0_2 : Int) (r1 : List (S101)) (r2 : Int) (r3 : Int) (w0 w : World) (hI : IsS90 w0 w g s0_0 s0_1 s0_2) (hB : Below w0.heap.size w0 w) (h : spec_l1Cur_rope.f k s0_0 s0_1 s0_2 = some (r1, r2, r3)) :
  Calls Try.prog 51 #[.pointer (some ⟨g, 0, none⟩)] w fun e w' => ∃ v0_ : Value, e = .returned (.agg #[v0_]) ∧ Kd.R k101 101 w' w.heap.size (fun _ => True) v0_ r1 ∧ IsS90 w0 w' g s0_0 r2 r3 ∧ Below w0.heap.size w0 w' ∧ KeepBut w w' g none := by
 have hu30 := Try.underlying30
 have HI0 := aM hI
 have HK := aM (KeepBut.refl w g none)
 have HL := aM hB.size
 clear hI
 have HW0 := aM hB.size
 have HB := aM hB
 clear hB
 have H : ((spec_l1Cur_plainText.f k s0_0 s0_1 s0_2).bind fun lw => ((spec_RopeOf.f k lw.1).bind fun rc => ((spec_l1Cur_pick.f s0_0 lw.2.1 lw.2.2 5).bind fun lv => (spec_l1Cur_rope.l0 k lv.1 s0_0 lv.2.1 lv.2.2 rc.1)))) = some (r1, r2, r3) := h
 clear h
 obtain ⟨⟨tm, qr, qq⟩, A2, H⟩ := oA_ H
 try dsimp only at H
 obtain ⟨⟨qp, t317⟩, A3, H⟩ := oA_ H
 try dsimp only at H
 obtain ⟨⟨uG, uF, uE⟩, A4, H⟩ := oA_ H
 try dsimp only at H
 have H' := aM H
 clear H
 go_enter Try.func51, Try.ntmps51
 go_wp2_with (first | ((with_reducible refine aN (N := 2) rfl ?_); refine aQ ?hg (N := 2) ?hd (cs := #[.slice none 0 0]) (t := 30) ?hr ?_; (case hd => rfl); (case hg => rfl); (case hr => first | (go_simp; done) | (go_simp; rfl)); intro cm hg w5 hbox hb; replace HB := aM (aA z41 hb); have bQ := aM (hbox); have gW := aM ((by rw [hg]; exact (keep_size (w := w) (g := g) (row := none) z34) : w.heap.size ≤ cm)); have dx := aM ((Nat.le_trans HW0.out (by rw [hg]; exact (keep_size (w := w) (g := g) (row := none) z34) : w.heap.size ≤ cm) : w0.heap.size ≤ cm)); replace HK := aM (KeepBut.trans z34 (KeepBut.of_below hb g none) (.inl rfl)); have bW := aM ((by rw [hg]; exact aD (IsS90.lt (show IsS90 w0 _ g s0_0 s0_1 s0_2 from by (try simp only [Int.add_zero]); repeat (first | (with_reducible first | exact HI0.out | apply IsS90.alloc | apply IsS90.drewN | apply IsS90.drew | apply IsS90.set_1 | apply IsS90.set_2) | exact HI0.out))) : g ≠ cm)); have db := aM ((by rw [hg]; exact aE (IsS90.lt (show IsS90 w0 _ g s0_0 s0_1 s0_2 from by (try simp only [Int.add_zero]); repeat (first | (with_reducible first | exact HI0.out | apply IsS90.alloc | apply IsS90.drewN | apply IsS90.drew | apply IsS90.set_1 | apply IsS90.set_2) | exact HI0.out))) : cm ≠ g)); replace HI0 := aM (IsS90.below z42 hb); clear hb hbox hg) | ((with_reducible refine aK (f := 68) rfl ?_); refine aT (some 13) rfl rfl Try.func68 z1 rfl #[.pointer (some ⟨g, 0, none⟩)] rfl z33 ?_; (with_reducible refine (spec_l1Cur_plainText.calls k g s0_0 s0_1 s0_2 tm qr qq w0 _ ?side1 ?side2 A2.out).mono ?_); (case side1 => repeat (first | (with_reducible first | exact HI0.out | apply IsS90.alloc | apply IsS90.drewN | apply IsS90.drew | apply IsS90.set_1 | apply IsS90.set_2 | refine IsS90.far ?_ bW.out _) | exact HI0.out)); (case side2 => repeat (first | (with_reducible first | exact HB.out | apply bA | apply pD | apply bD | refine az ?_ (IsS90.ge HI0.out) | refine az ?_ dx.out) | exact HB.out)); rintro e w6 ⟨rfl, hi, hb, hk⟩; refine ⟨_, rfl, ?_⟩; replace bQ := aM (KeepBut.blk hk (g' := cm) (o := .cells #[.slice none 0 0] 30 (0, 0)) z20 db.out (by simp)); replace HK := aM (KeepBut.trans (by repeat (first | (with_reducible first | exact HK.out | apply KeepBut.set_ | apply keep_drewN | apply keep_drew | apply keep_alloc | refine keep_far ?_ gW.out _) | exact HK.out)) hk (.inl rfl)); replace HB := aM (hb); replace HI0 := aM (hi); (try clear hb); (try clear hk); (try clear hi); (try clear d7)) | ((with_reducible refine aK (f := 67) rfl ?_); refine aT (some 14) rfl rfl Try.func67 z1 rfl #[.string tm] rfl z33 ?_; (with_reducible refine (spec_RopeOf.calls k tm qp t317 _ A3.out).mono ?_); rintro e w7 ⟨v315, rfl, ho0, hb⟩; refine ⟨_, rfl, ?_⟩; have j7 := aM (aW ho0 (keep_size (w := w) (g := g) (row := none) (by repeat (first | (with_reducible first | exact HK.out | apply KeepBut.set_ | apply keep_drewN | apply keep_drew | apply keep_alloc | refine keep_far ?_ gW.out _) | exact HK.out)))); replace bQ := aM (bK_ bQ.out hb); replace HK := aM (KeepBut.trans (by repeat (first | (with_reducible first | exact HK.out | apply KeepBut.set_ | apply keep_drewN | apply keep_drew | apply keep_alloc | refine keep_far ?_ gW.out _) | exact HK.out)) (KeepBut.of_below hb g none) (.inl rfl)); replace HB := aM (aA (by repeat (first | (with_reducible first | exact HB.out | apply bA | apply pD | apply bD | refine az ?_ (IsS90.ge HI0.out) | refine az ?_ dx.out) | exact HB.out)) hb); replace HI0 := aM (IsS90.below (by (try simp only [Int.add_zero]); repeat (first | (with_reducible first | exact HI0.out | apply IsS90.alloc | apply IsS90.drewN | apply IsS90.drew | apply IsS90.set_1 | apply IsS90.set_2 | refine IsS90.far ?_ bW.out _) | exact HI0.out)) hb); (try clear hb); (try clear ho0)) | ((with_reducible refine aN (N := 3) rfl ?_); refine aQ ?hg (N := 3) ?hd (cs := #[.slice none 0 0]) (t := 30) ?hr ?_; (case hd => rfl); (case hg => rfl); (case hr => first | (go_simp; done) | (go_simp; rfl)); intro b8 hg w8 hbox hb; replace j7 := aM (ag (kR_ j7.out) hb); replace HB := aM (aA (by repeat (first | (with_reducible first | exact HB.out | apply bA | apply pD | apply bD | refine az ?_ (IsS90.ge HI0.out) | refine az ?_ dx.out) | exact HB.out)) hb); have bz := aM (hbox); have j8 := aM ((by rw [hg]; exact (keep_size (w := w) (g := g) (row := none) (by repeat (first | (with_reducible first | exact HK.out | apply KeepBut.set_ | apply keep_drewN | apply keep_drew | apply keep_alloc | refine keep_far ?_ gW.out _) | exact HK.out))) : w.heap.size ≤ b8)); have dZ := aM ((Nat.le_trans HW0.out (by rw [hg]; exact (keep_size (w := w) (g := g) (row := none) (by repeat (first | (with_reducible first | exact HK.out | apply KeepBut.set_ | apply keep_drewN | apply keep_drew | apply keep_alloc | refine keep_far ?_ gW.out _) | exact HK.out))) : w.heap.size ≤ b8) : w0.heap.size ≤ b8)); replace HK := aM (KeepBut.trans (by repeat (first | (with_reducible first | exact HK.out | apply KeepBut.set_ | apply keep_drewN | apply keep_drew | apply keep_alloc | refine keep_far ?_ gW.out _) | exact HK.out)) (KeepBut.of_below hb g none) (.inl rfl)); have dX := aM ((by rw [hg]; exact aD (ay (g := cm) (o := .cells #[.slice none 0 0] 30 (0, 0)) z20) : cm ≠ b8)); have ea := aM ((by rw [hg]; exact aE (ay (g := cm) (o := .cells #[.slice none 0 0] 30 (0, 0)) z20) : b8 ≠ cm)); replace bQ := aM (bK_ bQ.out hb); have bV := aM ((by rw [hg]; exact aD (IsS90.lt (show IsS90 w0 _ g s0_0 qr qq from by (try simp only [Int.add_zero]); repeat (first | (with_reducible first | exact HI0.out | apply IsS90.alloc | apply IsS90.drewN | apply IsS90.drew | apply IsS90.set_1 | apply IsS90.set_2 | refine IsS90.far ?_ bW.out _) | exact HI0.out))) : g ≠ b8)); have cO := aM ((by rw [hg]; exact aE (IsS90.lt (show IsS90 w0 _ g s0_0 qr qq from by (try simp only [Int.add_zero]); repeat (first | (with_reducible first | exact HI0.out | apply IsS90.alloc | apply IsS90.drewN | apply IsS90.drew | apply IsS90.set_1 | apply IsS90.set_2 | refine IsS90.far ?_ bW.out _) | exact HI0.out))) : b8 ≠ g)); replace HI0 := aM (IsS90.below (by (try simp only [Int.add_zero]); repeat (first | (with_reducible first | exact HI0.out | apply IsS90.alloc | apply IsS90.drewN | apply IsS90.drew | apply IsS90.set_1 | apply IsS90.set_2 | refine IsS90.far ?_ bW.out _) | exact HI0.out)) hb); clear hb hbox hg; obtain ⟨vU, vQ, eo9⟩ := Kd.R_slice j7.out; subst eo9; have hnb10 := ea.out; have hnc10 := dX.out; have hnb11 := cO.out; have hnc11 := bV.out; obtain ⟨ng, mR⟩ := cc1 bz.out) | ((with_reducible refine aK (f := 66) rfl ?_); refine aT (some 18) rfl rfl Try.func66 z1 rfl #[.pointer (some ⟨g, 0, none⟩), .int .i64 5] rfl z33 ?_; (with_reducible refine (spec_l1Cur_pick.calls g s0_0 qr qq 5 uG uF uE w0 _ ?side1 ?side2 A4.out).mono ?_); (case side1 => exact y47); (case side2 => exact y43); rintro e w13 ⟨rfl, hi, hb, hk⟩; refine ⟨_, rfl, ?_⟩; replace bQ := aM (KeepBut.blk hk (g' := cm) (o := .cells #[.slice none 0 0] 30 (0, 0)) (by (with_reducible repeat (first | refine au ?_ _ | refine ar ?_ | refine av ?_ _)); refine aw ?_ dX.out _; (with_reducible repeat (first | refine au ?_ _ | refine ar ?_ | refine av ?_ _)); exact bQ.out) db.out (by simp)); replace j7 := aM (ah (Kd.R_keep (IsS90.apart (show IsS90 w0 _ g s0_0 qr qq from by (try simp only [Int.add_zero]); repeat (first | (with_reducible first | exact HI0.out | apply IsS90.alloc | apply IsS90.drewN | apply IsS90.drew | apply IsS90.set_1 | apply IsS90.set_2 | refine IsS90.far ?_ bW.out _ | refine IsS90.far ?_ bV.out _) | exact HI0.out)) (by (with_reducible repeat (first | apply ae | apply ac | apply aa)); exact (ah (ap (p := ⟨b8, 0, none⟩) (aq j7.out bz.out z0) (fun _ hk => hk.2) (.slice vU qp.length vQ)) (fun _ h_ => h_.1))) z0) hk (fun _ h => h.2)) (fun _ h => h.1)); replace bz := aM (KeepBut.blk hk (g' := b8) (o := .cells #[.slice vU qp.length vQ] 30 (0, 0)) (by (with_reducible repeat (first | refine au ?_ _ | refine ar ?_ | refine av ?_ _)); refine ax (cs := #[.slice none 0 0]) ?_ 0 _ rfl; (with_reducible repeat (first | refine au ?_ _ | refine ar ?_ | refine av ?_ _)); exact bz.out) cO.out (by simp)); replace HK := aM (KeepBut.trans z44 hk (.inl rfl)); replace HB := aM (hb); replace HI0 := aM (hi); (try clear hb); (try clear hk); (try clear hi); (try clear d7)))
 go_loopg [5] k (fun kq v5 w' => ∃ (x5_1 : Int) (x1001_1 : Int) (x1002_1 : Int) (x319000_1 : List (S101)) (u319000 : Value), v5 = .int .i64 x5_1 ∧ Aside0 (spec_l1Cur_rope.l0 kq x5_1 s0_0 x1001_1 x1002_1 x319000_1 = some (r1, r2, r3)) ∧ Aside0 (kq ≤ k) ∧ Aside0 (Kd.R k101 101 w' w.heap.size (fun _ => True) u319000 x319000_1) ∧ Aside0 (w'.heap[cm]? = some (.cells #[(.slice none 0 0)] 30 (0, 0))) ∧ Aside0 (w'.heap[b8]? = some (.cells #[u319000] 30 (0, 0))) ∧ Aside0 (IsS90 w0 w' g s0_0 x1001_1 x1002_1) ∧ Aside0 (KeepBut w w' g none) ∧ Aside0 (Below w0.heap.size w0 w'))
 case atStart => exact ⟨(uG), (uF), (uE), (qp), (.slice vU qp.length vQ), z2, H', ⟨Nat.le_refl _⟩, ⟨kR_ j7.out⟩, ⟨kB_ bQ.out⟩, ⟨kB_ bz.out⟩, ⟨y29⟩, ⟨y23⟩, ⟨y20⟩⟩
 case round =>
  clear H'
  try clear ng
  try clear mR
  obtain ⟨x5_1, x1001_1, x1002_1, x319000_1, u319000, rfl, HA, HK1, ba, bQ, bz, HI0, HK, HB⟩ := hrel
  cases gk with
  | zero => exact absurd HA.out (by simp [spec_l1Cur_rope.l0])
  | succ k1 =>
   have H := HA.out
   clear HA
   simp only [spec_l1Cur_rope.l0] at H
   by_cases gF : x5_1 > 0
   ·rw [if_pos gF] at H
    have c14b0 : decide (0 < x5_1) = true := dT gF
    clear gF
    obtain ⟨⟨iY, ir, iq⟩, rE, H⟩ := oA_ H
    try dsimp only at H
    by_cases gE : iY = 0
    ·rw [if_pos gE] at H
     have c16b0 : (iY == 0) = true := qT gE
     have c16b1 : (iY != 0) = false := nF gE
     clear gE
     obtain ⟨⟨pY, l6, lZ⟩, uk, H⟩ := oA_ H
     try dsimp only at H
     obtain ⟨⟨gu, uD⟩, tX, H⟩ := oA_ H
     try dsimp only at H
     obtain ⟨⟨ox, t337⟩, we, H⟩ := oA_ H
     try dsimp only at H
     by_cases np : t337 = true
     ·subst np
      rw [if_pos rfl] at H
      have H' := aM H
      clear H
      have hnb21 := ea.out
      have hnc21 := dX.out
      have hnb22 := cO.out
      have hnc22 := bV.out
      obtain ⟨hcz23_0, hfz23_0⟩ := cc1 bz.out
      go_wp2_with (first | ((with_reducible refine aN (N := 6) rfl ?_); refine aQ ?hg (N := 6) ?hd (cs := #[.slice none 0 0]) (t := 30) ?hr ?_; (case hd => rfl); (case hg => rfl); (case hr => first | (go_simp; done) | (go_simp; rfl)); intro bZ hg w24 hbox hb; replace ba := aM (ag z14 hb); replace HB := aM (aA (by repeat (first | (with_reducible first | exact HB.out | apply bA | apply pD | apply bD | refine az ?_ (IsS90.ge HI0.out) | refine az ?_ dx.out | refine az ?_ dZ.out) | exact HB.out)) hb); have cb := aM (hbox); have iM := aM ((by rw [hg]; exact (keep_size (w := w) (g := g) (row := none) z44) : w.heap.size ≤ bZ)); have fX := aM ((Nat.le_trans HW0.out (by rw [hg]; exact (keep_size (w := w) (g := g) (row := none) z44) : w.heap.size ≤ bZ) : w0.heap.size ≤ bZ)); replace HK := aM (KeepBut.trans z44 (KeepBut.of_below hb g none) (.inl rfl)); have dK := aM ((by rw [hg]; exact aD (ay (g := cm) (o := .cells #[.slice none 0 0] 30 (0, 0)) z20) : cm ≠ bZ)); have dJ := aM ((by rw [hg]; exact aE (ay (g := cm) (o := .cells #[.slice none 0 0] 30 (0, 0)) z20) : bZ ≠ cm)); replace bQ := aM (bK_ bQ.out hb); have cT := aM ((by rw [hg]; exact aD (ay (g := b8) (o := .cells #[u319000] 30 (0, 0)) z21) : b8 ≠ bZ)); have dI := aM ((by rw [hg]; exact aE (ay (g := b8) (o := .cells #[u319000] 30 (0, 0)) z21) : bZ ≠ b8)); replace bz := aM (bK_ bz.out hb); have cJ := aM ((by rw [hg]; exact aD (IsS90.lt (show IsS90 w0 _ g s0_0 x1001_1 x1002_1 from by (try simp only [Int.add_zero]); repeat (first | (with_reducible first | exact HI0.out | apply IsS90.alloc | apply IsS90.drewN | apply IsS90.drew | apply IsS90.set_1 | apply IsS90.set_2 | refine IsS90.far ?_ bW.out _ | refine IsS90.far ?_ bV.out _) | exact HI0.out))) : g ≠ bZ)); have dr := aM ((by rw [hg]; exact aE (IsS90.lt (show IsS90 w0 _ g s0_0 x1001_1 x1002_1 from by (try simp only [Int.add_zero]); repeat (first | (with_reducible first | exact HI0.out | apply IsS90.alloc | apply IsS90.drewN | apply IsS90.drew | apply IsS90.set_1 | apply IsS90.set_2 | refine IsS90.far ?_ bW.out _ | refine IsS90.far ?_ bV.out _) | exact HI0.out))) : bZ ≠ g)); replace HI0 := aM (IsS90.below z67 hb); clear hb hbox hg; obtain ⟨g9, gP, eo25⟩ := Kd.R_slice ba.out; subst eo25; have hnb26 := dJ.out; have hnc26 := dK.out; have hnb27 := dI.out; have hnc27 := cT.out; have hnb28 := dr.out; have hnc28 := cJ.out; obtain ⟨m7, mK⟩ := cc1 cb.out) | ((with_reducible refine aK (f := 66) rfl ?_); refine aT (some 25) rfl rfl Try.func66 z1 rfl #[.pointer (some ⟨g, 0, none⟩), .int .i64 3] rfl z33 ?_; (with_reducible refine (spec_l1Cur_pick.calls g s0_0 x1001_1 x1002_1 3 iY ir iq w0 _ ?side1 ?side2 rE.out).mono ?_); (case side1 => exact y50); (case side2 => exact y46); rintro e w30 ⟨rfl, hi, hb, hk⟩; refine ⟨_, rfl, ?_⟩; replace ba := aM (ah (Kd.R_keep (IsS90.apart (show IsS90 w0 _ g s0_0 x1001_1 x1002_1 from by (try simp only [Int.add_zero]); repeat (first | (with_reducible first | exact HI0.out | apply IsS90.alloc | apply IsS90.drewN | apply IsS90.drew | apply IsS90.set_1 | apply IsS90.set_2 | refine IsS90.far ?_ bW.out _ | refine IsS90.far ?_ bV.out _ | refine IsS90.far ?_ cJ.out _) | exact HI0.out)) (by (with_reducible repeat (first | apply ae | apply ac | apply aa)); exact (ah (ap (p := ⟨bZ, 0, none⟩) (aq ba.out cb.out z0) (fun _ hk => hk.2) (.slice g9 x319000_1.length gP)) (fun _ h_ => h_.1))) z0) hk (fun _ h => h.2)) (fun _ h => h.1)); replace bQ := aM (KeepBut.blk hk (g' := cm) (o := .cells #[.slice none 0 0] 30 (0, 0)) z48 db.out (by simp)); replace bz := aM (KeepBut.blk hk (g' := b8) (o := .cells #[.slice g9 x319000_1.length gP] 30 (0, 0)) z49 cO.out (by simp)); replace cb := aM (KeepBut.blk hk (g' := bZ) (o := .cells #[.slice g9 x319000_1.length gP] 30 (0, 0)) z64 dr.out (by simp)); replace HK := aM (KeepBut.trans z47 hk (.inl rfl)); replace HB := aM (hb); replace HI0 := aM (hi); (try clear hb); (try clear hk); (try clear hi); (try clear d7)) | ((with_reducible refine aK (f := 68) rfl ?_); refine aT (some 40) rfl rfl Try.func68 z1 rfl #[.pointer (some ⟨g, 0, none⟩)] rfl z33 ?_; (with_reducible refine (spec_l1Cur_plainText.calls k1 g s0_0 ir iq pY l6 lZ w0 _ ?side1 ?side2 uk.out).mono ?_); (case side1 => exact y50); (case side2 => exact y46); rintro e w31 ⟨rfl, hi, hb, hk⟩; refine ⟨_, rfl, ?_⟩; replace ba := aM (ah (Kd.R_keep (IsS90.apart (show IsS90 w0 _ g s0_0 ir iq from by (try simp only [Int.add_zero]); repeat (first | (with_reducible first | exact HI0.out | apply IsS90.alloc | apply IsS90.drewN | apply IsS90.drew | apply IsS90.set_1 | apply IsS90.set_2 | refine IsS90.far ?_ bW.out _ | refine IsS90.far ?_ bV.out _ | refine IsS90.far ?_ cJ.out _) | exact HI0.out)) z14 z0) hk (fun _ h => h.2)) (fun _ h => h.1)); replace bQ := aM (KeepBut.blk hk (g' := cm) (o := .cells #[.slice none 0 0] 30 (0, 0)) z20 db.out (by simp)); replace bz := aM (KeepBut.blk hk (g' := b8) (o := .cells #[.slice g9 x319000_1.length gP] 30 (0, 0)) z21 cO.out (by simp)); replace cb := aM (KeepBut.blk hk (g' := bZ) (o := .cells #[.slice g9 x319000_1.length gP] 30 (0, 0)) z22 dr.out (by simp)); replace HK := aM (KeepBut.trans z47 hk (.inl rfl)); replace HB := aM (hb); replace HI0 := aM (hi); (try clear hb); (try clear hk); (try clear hi); (try clear d7)) | ((with_reducible refine aK (f := 67) rfl ?_); refine aT (some 41) rfl rfl Try.func67 z1 rfl #[.string pY] rfl z33 ?_; (with_reducible refine (spec_RopeOf.calls k1 pY gu uD _ tX.out).mono ?_); rintro e w32 ⟨v330, rfl, ho0, hb⟩; refine ⟨_, rfl, ?_⟩; have fW := aM (aW (ak ho0 (am z14)) (keep_size (w := w) (g := g) (row := none) z47)); replace ba := aM (aj z14 (al ho0) hb); replace bQ := aM (bK_ bQ.out hb); replace bz := aM (bK_ bz.out hb); replace cb := aM (bK_ cb.out hb); replace HK := aM (KeepBut.trans z47 (KeepBut.of_below hb g none) (.inl rfl)); replace HB := aM (aA z63 hb); replace HI0 := aM (IsS90.below z69 hb); (try clear hb); (try clear ho0)) | ((with_reducible refine aN (N := 8) rfl ?_); refine aQ ?hg (N := 8) ?hd (cs := #[.slice none 0 0]) (t := 30) ?hr ?_; (case hd => rfl); (case hg => rfl); (case hr => first | (go_simp; done) | (go_simp; rfl)); intro di hg w33 hbox hb; replace ba := aM (ag z14 hb); replace fW := aM (ag (kR_ fW.out) hb); replace HB := aM (aA z63 hb); have fL := aM (hbox); have lK := aM ((by rw [hg]; exact (keep_size (w := w) (g := g) (row := none) z47) : w.heap.size ≤ di)); have oc := aM ((Nat.le_trans HW0.out (by rw [hg]; exact (keep_size (w := w) (g := g) (row := none) z47) : w.heap.size ≤ di) : w0.heap.size ≤ di)); replace HK := aM (KeepBut.trans z47 (KeepBut.of_below hb g none) (.inl rfl)); have ic := aM ((by rw [hg]; exact aD (ay (g := cm) (o := .cells #[.slice none 0 0] 30 (0, 0)) z20) : cm ≠ di)); have jY := aM ((by rw [hg]; exact aE (ay (g := cm) (o := .cells #[.slice none 0 0] 30 (0, 0)) z20) : di ≠ cm)); replace bQ := aM (bK_ bQ.out hb); have ib := aM ((by rw [hg]; exact aD (ay (g := b8) (o := .cells #[.slice g9 x319000_1.length gP] 30 (0, 0)) z21) : b8 ≠ di)); have jX := aM ((by rw [hg]; exact aE (ay (g := b8) (o := .cells #[.slice g9 x319000_1.length gP] 30 (0, 0)) z21) : di ≠ b8)); replace bz := aM (bK_ bz.out hb); have ia := aM ((by rw [hg]; exact aD (ay (g := bZ) (o := .cells #[.slice g9 x319000_1.length gP] 30 (0, 0)) z22) : bZ ≠ di)); have jW := aM ((by rw [hg]; exact aE (ay (g := bZ) (o := .cells #[.slice g9 x319000_1.length gP] 30 (0, 0)) z22) : di ≠ bZ)); replace cb := aM (bK_ cb.out hb); have im := aM ((by rw [hg]; exact aD (IsS90.lt (show IsS90 w0 _ g s0_0 l6 lZ from by (try simp only [Int.add_zero]); repeat (first | (with_reducible first | exact HI0.out | apply IsS90.alloc | apply IsS90.drewN | apply IsS90.drew | apply IsS90.set_1 | apply IsS90.set_2 | refine IsS90.far ?_ bW.out _ | refine IsS90.far ?_ bV.out _ | refine IsS90.far ?_ cJ.out _) | exact HI0.out))) : g ≠ di)); have nn := aM ((by rw [hg]; exact aE (IsS90.lt (show IsS90 w0 _ g s0_0 l6 lZ from by (try simp only [Int.add_zero]); repeat (first | (with_reducible first | exact HI0.out | apply IsS90.alloc | apply IsS90.drewN | apply IsS90.drew | apply IsS90.set_1 | apply IsS90.set_2 | refine IsS90.far ?_ bW.out _ | refine IsS90.far ?_ bV.out _ | refine IsS90.far ?_ cJ.out _) | exact HI0.out))) : di ≠ g)); replace HI0 := aM (IsS90.below z69 hb); clear hb hbox hg; obtain ⟨mc, lm, eo34⟩ := Kd.R_slice fW.out; subst eo34; have hnb35 := jY.out; have hnc35 := ic.out; have hnb36 := jX.out; have hnc36 := ib.out; have hnb37 := jW.out; have hnc37 := ia.out; have hnb38 := nn.out; have hnc38 := im.out; obtain ⟨hcz39_0, hfz39_0⟩ := cc1 fL.out; obtain ⟨hcz40_0, hfz40_0⟩ := cc1 bz.out) | ((with_reducible refine aK (f := 69) rfl ?_); refine aT (some 47) rfl rfl Try.func69 z1 rfl #[.agg #[.slice g9 x319000_1.length gP], .agg #[.slice mc gu.length lm]] rfl z33 ?_; (with_reducible refine (spec_JoinRopes.calls k1 _ _ x319000_1 _ _ gu ox true _ ?side1 ?side2 ?side3 ?side4 we.out).mono ?_); (case side1 => refine (ai (e := 101) (base := w.heap.size) (ok := fun k_ => (True ∧ some k_ ≠ (.slice mc gu.length lm : Value).ownBlock)) (n := x319000_1.length) (c := gP) ?_).2.2; exact (by (with_reducible repeat (first | apply ae | apply ac | apply aa)); exact (ah (ap (p := ⟨di, 0, none⟩) (aq ba.out fL.out z0) (fun _ hk => hk.2) (.slice mc gu.length lm)) (fun _ h_ => h_.1)))); (case side2 => exact (ai ba.out).2.1); (case side3 => refine (ai (e := 101) (base := w.heap.size) (ok := fun k_ => (True ∧ some k_ ≠ (.slice g9 x319000_1.length gP : Value).ownBlock)) (n := gu.length) (c := lm) ?_).2.2; exact (by (with_reducible repeat (first | apply ae | apply ac | apply aa)); exact (ah (ap (p := ⟨di, 0, none⟩) (aq fW.out fL.out z0) (fun _ hk => hk.2) (.slice mc gu.length lm)) (fun _ h_ => h_.1)))); (case side4 => exact (ai fW.out).2.1); rintro e w41 ⟨v335, rfl, ho0, hb⟩; refine ⟨_, rfl, ?_⟩; have pT := aM (aW (ak (ak ho0 (am (by (with_reducible repeat (first | apply ae | apply ac | apply aa)); exact (ah (ap (p := ⟨di, 0, none⟩) (aq ba.out fL.out z0) (fun _ hk => hk.2) (.slice mc gu.length lm)) (fun _ h_ => h_.1))))) (am (by (with_reducible repeat (first | apply ae | apply ac | apply aa)); exact (ah (ap (p := ⟨di, 0, none⟩) (aq fW.out fL.out z0) (fun _ hk => hk.2) (.slice mc gu.length lm)) (fun _ h_ => h_.1))))) (keep_size (w := w) (g := g) (row := none) (by repeat (first | (with_reducible first | exact HK.out | apply KeepBut.set_ | apply keep_drewN | apply keep_drew | apply keep_alloc | refine keep_far ?_ gW.out _ | refine keep_far ?_ j8.out _ | refine keep_far ?_ iM.out _ | refine keep_far ?_ lK.out _) | exact HK.out)))); replace ba := aM (aj (by (with_reducible repeat (first | apply ae | apply ac | apply aa)); exact (ah (ap (p := ⟨di, 0, none⟩) (aq ba.out fL.out z0) (fun _ hk => hk.2) (.slice mc gu.length lm)) (fun _ h_ => h_.1))) (al ho0) hb); replace fW := aM (aj (by (with_reducible repeat (first | apply ae | apply ac | apply aa)); exact (ah (ap (p := ⟨di, 0, none⟩) (aq fW.out fL.out z0) (fun _ hk => hk.2) (.slice mc gu.length lm)) (fun _ h_ => h_.1))) (al ho0) hb); replace bQ := aM (af (g := cm) (o := .cells #[.slice none 0 0] 30 (0, 0)) (by (with_reducible repeat (first | refine au ?_ _ | refine ar ?_ | refine av ?_ _)); refine aw ?_ ic.out _; (with_reducible repeat (first | refine au ?_ _ | refine ar ?_ | refine av ?_ _)); exact bQ.out) hb); replace bz := aM (af (g := b8) (o := .cells #[.slice g9 x319000_1.length gP] 30 (0, 0)) (by (with_reducible repeat (first | refine au ?_ _ | refine ar ?_ | refine av ?_ _)); refine aw ?_ ib.out _; (with_reducible repeat (first | refine au ?_ _ | refine ar ?_ | refine av ?_ _)); exact bz.out) hb); replace cb := aM (af (g := bZ) (o := .cells #[.slice g9 x319000_1.length gP] 30 (0, 0)) (by (with_reducible repeat (first | refine au ?_ _ | refine ar ?_ | refine av ?_ _)); refine aw ?_ ia.out _; (with_reducible repeat (first | refine au ?_ _ | refine ar ?_ | refine av ?_ _)); exact cb.out) hb); replace fL := aM (af (g := di) (o := .cells #[.slice mc gu.length lm] 30 (0, 0)) (by (with_reducible repeat (first | refine au ?_ _ | refine ar ?_ | refine av ?_ _)); refine ax (cs := #[.slice none 0 0]) ?_ 0 _ rfl; (with_reducible repeat (first | refine au ?_ _ | refine ar ?_ | refine av ?_ _)); exact fL.out) hb); replace HK := aM (KeepBut.trans (by repeat (first | (with_reducible first | exact HK.out | apply KeepBut.set_ | apply keep_drewN | apply keep_drew | apply keep_alloc | refine keep_far ?_ gW.out _ | refine keep_far ?_ j8.out _ | refine keep_far ?_ iM.out _ | refine keep_far ?_ lK.out _) | exact HK.out)) (KeepBut.of_below hb g none) (.inl rfl)); replace HB := aM (aA (by repeat (first | (with_reducible first | exact HB.out | apply bA | apply pD | apply bD | refine az ?_ (IsS90.ge HI0.out) | refine az ?_ dx.out | refine az ?_ dZ.out | refine az ?_ fX.out | refine az ?_ oc.out) | exact HB.out)) hb); replace HI0 := aM (IsS90.below (show IsS90 w0 (w33.setCell ⟨di, 0, none⟩ (.slice mc gu.length lm)) g s0_0 l6 lZ from by (try simp only [Int.add_zero]); repeat (first | (with_reducible first | exact HI0.out | apply IsS90.alloc | apply IsS90.drewN | apply IsS90.drew | apply IsS90.set_1 | apply IsS90.set_2 | refine IsS90.far ?_ bW.out _ | refine IsS90.far ?_ bV.out _ | refine IsS90.far ?_ cJ.out _ | refine IsS90.far ?_ im.out _) | exact HI0.out)) hb); (try clear hb); (try clear ho0); obtain ⟨tV, tL, eo42⟩ := Kd.R_slice pT.out; subst eo42; obtain ⟨hcz43_0, hfz43_0⟩ := cc1 cb.out; obtain ⟨hcz44_0, hfz44_0⟩ := cc1 bz.out))
      go_roundg k1
      case measure => have := HK1.out; omega
      case rel => exact ⟨(wrap64 (x5_1 - 1)), (l6), (lZ), (ox), (.slice tV ox.length tL), z2, H', ⟨y0⟩, ⟨by (with_reducible repeat (first | apply ae | apply ac | apply aa)); exact ah (ap (p := ⟨b8, 0, none⟩) (ap (p := ⟨bZ, 0, none⟩) (aq (aq pT.out cb.out z0) bz.out z0) (fun _ hk => hk.1.2) (.slice tV ox.length tL)) (fun _ hk => hk.2) (.slice tV ox.length tL)) (fun _ hk => trivial)⟩, ⟨y32⟩, ⟨by (with_reducible repeat (first | refine au ?_ _ | refine ar ?_ | refine av ?_ _)); refine ax (cs := #[.slice g9 x319000_1.length gP]) ?_ 0 _ rfl; (with_reducible repeat (first | refine au ?_ _ | refine ar ?_ | refine av ?_ _)); refine aw ?_ cT.out _; (with_reducible repeat (first | refine au ?_ _ | refine ar ?_ | refine av ?_ _)); exact bz.out⟩, ⟨by (try simp only [Int.add_zero]); repeat (first | (with_reducible first | exact HI0.out | apply IsS90.alloc | apply IsS90.drewN | apply IsS90.drew | apply IsS90.set_1 | apply IsS90.set_2 | refine IsS90.far ?_ bW.out _ | refine IsS90.far ?_ bV.out _ | refine IsS90.far ?_ cJ.out _ | refine IsS90.far ?_ im.out _) | exact HI0.out)⟩, ⟨by repeat (first | (with_reducible first | exact HK.out | apply KeepBut.set_ | apply keep_drewN | apply keep_drew | apply keep_alloc | refine keep_far ?_ gW.out _ | refine keep_far ?_ j8.out _ | refine keep_far ?_ iM.out _ | refine keep_far ?_ lK.out _) | exact HK.out)⟩, ⟨by repeat (first | (with_reducible first | exact HB.out | apply bA | apply pD | apply bD | refine az ?_ (IsS90.ge HI0.out) | refine az ?_ dx.out | refine az ?_ dZ.out | refine az ?_ fX.out | refine az ?_ oc.out) | exact HB.out)⟩⟩
     ·replace np := Bool.eq_false_iff.mpr np
      subst np
      rw [if_neg nF_] at H
      have H' := aM H
      clear H
      have hnb45 := ea.out
      have hnc45 := dX.out
      have hnb46 := cO.out
      have hnc46 := bV.out
      obtain ⟨hcz47_0, hfz47_0⟩ := cc1 bz.out
      go_wp2_with (first | ((with_reducible refine aN (N := 6) rfl ?_); refine aQ ?hg (N := 6) ?hd (cs := #[.slice none 0 0]) (t := 30) ?hr ?_; (case hd => rfl); (case hg => rfl); (case hr => first | (go_simp; done) | (go_simp; rfl)); intro bZ hg w48 hbox hb; replace ba := aM (ag z14 hb); replace HB := aM (aA (by repeat (first | (with_reducible first | exact HB.out | apply bA | apply pD | apply bD | refine az ?_ (IsS90.ge HI0.out) | refine az ?_ dx.out | refine az ?_ dZ.out) | exact HB.out)) hb); have cb := aM (hbox); have iM := aM ((by rw [hg]; exact (keep_size (w := w) (g := g) (row := none) z44) : w.heap.size ≤ bZ)); have fX := aM ((Nat.le_trans HW0.out (by rw [hg]; exact (keep_size (w := w) (g := g) (row := none) z44) : w.heap.size ≤ bZ) : w0.heap.size ≤ bZ)); replace HK := aM (KeepBut.trans z44 (KeepBut.of_below hb g none) (.inl rfl)); have dK := aM ((by rw [hg]; exact aD (ay (g := cm) (o := .cells #[.slice none 0 0] 30 (0, 0)) z20) : cm ≠ bZ)); have dJ := aM ((by rw [hg]; exact aE (ay (g := cm) (o := .cells #[.slice none 0 0] 30 (0, 0)) z20) : bZ ≠ cm)); replace bQ := aM (bK_ bQ.out hb); have cT := aM ((by rw [hg]; exact aD (ay (g := b8) (o := .cells #[u319000] 30 (0, 0)) z21) : b8 ≠ bZ)); have dI := aM ((by rw [hg]; exact aE (ay (g := b8) (o := .cells #[u319000] 30 (0, 0)) z21) : bZ ≠ b8)); replace bz := aM (bK_ bz.out hb); have cJ := aM ((by rw [hg]; exact aD (IsS90.lt (show IsS90 w0 _ g s0_0 x1001_1 x1002_1 from by (try simp only [Int.add_zero]); repeat (first | (with_reducible first | exact HI0.out | apply IsS90.alloc | apply IsS90.drewN | apply IsS90.drew | apply IsS90.set_1 | apply IsS90.set_2 | refine IsS90.far ?_ bW.out _ | refine IsS90.far ?_ bV.out _) | exact HI0.out))) : g ≠ bZ)); have dr := aM ((by rw [hg]; exact aE (IsS90.lt (show IsS90 w0 _ g s0_0 x1001_1 x1002_1 from by (try simp only [Int.add_zero]); repeat (first | (with_reducible first | exact HI0.out | apply IsS90.alloc | apply IsS90.drewN | apply IsS90.drew | apply IsS90.set_1 | apply IsS90.set_2 | refine IsS90.far ?_ bW.out _ | refine IsS90.far ?_ bV.out _) | exact HI0.out))) : bZ ≠ g)); replace HI0 := aM (IsS90.below z67 hb); clear hb hbox hg; obtain ⟨b6, b5, eo49⟩ := Kd.R_slice ba.out; subst eo49; have hnb50 := dJ.out; have hnc50 := dK.out; have hnb51 := dI.out; have hnc51 := cT.out; have hnb52 := dr.out; have hnc52 := cJ.out; obtain ⟨hcz53_0, hfz53_0⟩ := cc1 cb.out) | ((with_reducible refine aK (f := 66) rfl ?_); refine aT (some 25) rfl rfl Try.func66 z1 rfl #[.pointer (some ⟨g, 0, none⟩), .int .i64 3] rfl z33 ?_; (with_reducible refine (spec_l1Cur_pick.calls g s0_0 x1001_1 x1002_1 3 iY ir iq w0 _ ?side1 ?side2 rE.out).mono ?_); (case side1 => exact y50); (case side2 => exact y46); rintro e w54 ⟨rfl, hi, hb, hk⟩; refine ⟨_, rfl, ?_⟩; replace ba := aM (ah (Kd.R_keep (IsS90.apart (show IsS90 w0 _ g s0_0 x1001_1 x1002_1 from by (try simp only [Int.add_zero]); repeat (first | (with_reducible first | exact HI0.out | apply IsS90.alloc | apply IsS90.drewN | apply IsS90.drew | apply IsS90.set_1 | apply IsS90.set_2 | refine IsS90.far ?_ bW.out _ | refine IsS90.far ?_ bV.out _ | refine IsS90.far ?_ cJ.out _) | exact HI0.out)) (by (with_reducible repeat (first | apply ae | apply ac | apply aa)); exact (ah (ap (p := ⟨bZ, 0, none⟩) (aq ba.out cb.out z0) (fun _ hk => hk.2) (.slice b6 x319000_1.length b5)) (fun _ h_ => h_.1))) z0) hk (fun _ h => h.2)) (fun _ h => h.1)); replace bQ := aM (KeepBut.blk hk (g' := cm) (o := .cells #[.slice none 0 0] 30 (0, 0)) z48 db.out (by simp)); replace bz := aM (KeepBut.blk hk (g' := b8) (o := .cells #[.slice b6 x319000_1.length b5] 30 (0, 0)) z49 cO.out (by simp)); replace cb := aM (KeepBut.blk hk (g' := bZ) (o := .cells #[.slice b6 x319000_1.length b5] 30 (0, 0)) z64 dr.out (by simp)); replace HK := aM (KeepBut.trans z47 hk (.inl rfl)); replace HB := aM (hb); replace HI0 := aM (hi); (try clear hb); (try clear hk); (try clear hi); (try clear d7)) | ((with_reducible refine aK (f := 68) rfl ?_); refine aT (some 40) rfl rfl Try.func68 z1 rfl #[.pointer (some ⟨g, 0, none⟩)] rfl z33 ?_; (with_reducible refine (spec_l1Cur_plainText.calls k1 g s0_0 ir iq pY l6 lZ w0 _ ?side1 ?side2 uk.out).mono ?_); (case side1 => exact y50); (case side2 => exact y46); rintro e w55 ⟨rfl, hi, hb, hk⟩; refine ⟨_, rfl, ?_⟩; replace ba := aM (ah (Kd.R_keep (IsS90.apart (show IsS90 w0 _ g s0_0 ir iq from by (try simp only [Int.add_zero]); repeat (first | (with_reducible first | exact HI0.out | apply IsS90.alloc | apply IsS90.drewN | apply IsS90.drew | apply IsS90.set_1 | apply IsS90.set_2 | refine IsS90.far ?_ bW.out _ | refine IsS90.far ?_ bV.out _ | refine IsS90.far ?_ cJ.out _) | exact HI0.out)) z14 z0) hk (fun _ h => h.2)) (fun _ h => h.1)); replace bQ := aM (KeepBut.blk hk (g' := cm) (o := .cells #[.slice none 0 0] 30 (0, 0)) z20 db.out (by simp)); replace bz := aM (KeepBut.blk hk (g' := b8) (o := .cells #[.slice b6 x319000_1.length b5] 30 (0, 0)) z21 cO.out (by simp)); replace cb := aM (KeepBut.blk hk (g' := bZ) (o := .cells #[.slice b6 x319000_1.length b5] 30 (0, 0)) z22 dr.out (by simp)); replace HK := aM (KeepBut.trans z47 hk (.inl rfl)); replace HB := aM (hb); replace HI0 := aM (hi); (try clear hb); (try clear hk); (try clear hi); (try clear d7)) | ((with_reducible refine aK (f := 67) rfl ?_); refine aT (some 41) rfl rfl Try.func67 z1 rfl #[.string pY] rfl z33 ?_; (with_reducible refine (spec_RopeOf.calls k1 pY gu uD _ tX.out).mono ?_); rintro e w56 ⟨v330, rfl, ho0, hb⟩; refine ⟨_, rfl, ?_⟩; have fW := aM (aW (ak ho0 (am z14)) (keep_size (w := w) (g := g) (row := none) z47)); replace ba := aM (aj z14 (al ho0) hb); replace bQ := aM (bK_ bQ.out hb); replace bz := aM (bK_ bz.out hb); replace cb := aM (bK_ cb.out hb); replace HK := aM (KeepBut.trans z47 (KeepBut.of_below hb g none) (.inl rfl)); replace HB := aM (aA z63 hb); replace HI0 := aM (IsS90.below z69 hb); (try clear hb); (try clear ho0)) | ((with_reducible refine aN (N := 8) rfl ?_); refine aQ ?hg (N := 8) ?hd (cs := #[.slice none 0 0]) (t := 30) ?hr ?_; (case hd => rfl); (case hg => rfl); (case hr => first | (go_simp; done) | (go_simp; rfl)); intro di hg w57 hbox hb; replace ba := aM (ag z14 hb); replace fW := aM (ag (kR_ fW.out) hb); replace HB := aM (aA z63 hb); have fL := aM (hbox); have lK := aM ((by rw [hg]; exact (keep_size (w := w) (g := g) (row := none) z47) : w.heap.size ≤ di)); have oc := aM ((Nat.le_trans HW0.out (by rw [hg]; exact (keep_size (w := w) (g := g) (row := none) z47) : w.heap.size ≤ di) : w0.heap.size ≤ di)); replace HK := aM (KeepBut.trans z47 (KeepBut.of_below hb g none) (.inl rfl)); have ic := aM ((by rw [hg]; exact aD (ay (g := cm) (o := .cells #[.slice none 0 0] 30 (0, 0)) z20) : cm ≠ di)); have jY := aM ((by rw [hg]; exact aE (ay (g := cm) (o := .cells #[.slice none 0 0] 30 (0, 0)) z20) : di ≠ cm)); replace bQ := aM (bK_ bQ.out hb); have ib := aM ((by rw [hg]; exact aD (ay (g := b8) (o := .cells #[.slice b6 x319000_1.length b5] 30 (0, 0)) z21) : b8 ≠ di)); have jX := aM ((by rw [hg]; exact aE (ay (g := b8) (o := .cells #[.slice b6 x319000_1.length b5] 30 (0, 0)) z21) : di ≠ b8)); replace bz := aM (bK_ bz.out hb); have ia := aM ((by rw [hg]; exact aD (ay (g := bZ) (o := .cells #[.slice b6 x319000_1.length b5] 30 (0, 0)) z22) : bZ ≠ di)); have jW := aM ((by rw [hg]; exact aE (ay (g := bZ) (o := .cells #[.slice b6 x319000_1.length b5] 30 (0, 0)) z22) : di ≠ bZ)); replace cb := aM (bK_ cb.out hb); have im := aM ((by rw [hg]; exact aD (IsS90.lt (show IsS90 w0 _ g s0_0 l6 lZ from by (try simp only [Int.add_zero]); repeat (first | (with_reducible first | exact HI0.out | apply IsS90.alloc | apply IsS90.drewN | apply IsS90.drew | apply IsS90.set_1 | apply IsS90.set_2 | refine IsS90.far ?_ bW.out _ | refine IsS90.far ?_ bV.out _ | refine IsS90.far ?_ cJ.out _) | exact HI0.out))) : g ≠ di)); have nn := aM ((by rw [hg]; exact aE (IsS90.lt (show IsS90 w0 _ g s0_0 l6 lZ from by (try simp only [Int.add_zero]); repeat (first | (with_reducible first | exact HI0.out | apply IsS90.alloc | apply IsS90.drewN | apply IsS90.drew | apply IsS90.set_1 | apply IsS90.set_2 | refine IsS90.far ?_ bW.out _ | refine IsS90.far ?_ bV.out _ | refine IsS90.far ?_ cJ.out _) | exact HI0.out))) : di ≠ g)); replace HI0 := aM (IsS90.below z69 hb); clear hb hbox hg; obtain ⟨mb, ll, eo58⟩ := Kd.R_slice fW.out; subst eo58; have hnb59 := jY.out; have hnc59 := ic.out; have hnb60 := jX.out; have hnc60 := ib.out; have hnb61 := jW.out; have hnc61 := ia.out; have hnb62 := nn.out; have hnc62 := im.out; obtain ⟨hcz63_0, hfz63_0⟩ := cc1 fL.out; obtain ⟨hcz64_0, hfz64_0⟩ := cc1 bz.out) | ((with_reducible refine aK (f := 69) rfl ?_); refine aT (some 47) rfl rfl Try.func69 z1 rfl #[.agg #[.slice b6 x319000_1.length b5], .agg #[.slice mb gu.length ll]] rfl z33 ?_; (with_reducible refine (spec_JoinRopes.calls k1 _ _ x319000_1 _ _ gu ox false _ ?side1 ?side2 ?side3 ?side4 we.out).mono ?_); (case side1 => refine (ai (e := 101) (base := w.heap.size) (ok := fun k_ => (True ∧ some k_ ≠ (.slice mb gu.length ll : Value).ownBlock)) (n := x319000_1.length) (c := b5) ?_).2.2; exact (by (with_reducible repeat (first | apply ae | apply ac | apply aa)); exact (ah (ap (p := ⟨di, 0, none⟩) (aq ba.out fL.out z0) (fun _ hk => hk.2) (.slice mb gu.length ll)) (fun _ h_ => h_.1)))); (case side2 => exact (ai ba.out).2.1); (case side3 => refine (ai (e := 101) (base := w.heap.size) (ok := fun k_ => (True ∧ some k_ ≠ (.slice b6 x319000_1.length b5 : Value).ownBlock)) (n := gu.length) (c := ll) ?_).2.2; exact (by (with_reducible repeat (first | apply ae | apply ac | apply aa)); exact (ah (ap (p := ⟨di, 0, none⟩) (aq fW.out fL.out z0) (fun _ hk => hk.2) (.slice mb gu.length ll)) (fun _ h_ => h_.1)))); (case side4 => exact (ai fW.out).2.1); rintro e w65 ⟨v335, rfl, ho0, hb⟩; refine ⟨_, rfl, ?_⟩; have pT := aM (aW (ak (ak ho0 (am (by (with_reducible repeat (first | apply ae | apply ac | apply aa)); exact (ah (ap (p := ⟨di, 0, none⟩) (aq ba.out fL.out z0) (fun _ hk => hk.2) (.slice mb gu.length ll)) (fun _ h_ => h_.1))))) (am (by (with_reducible repeat (first | apply ae | apply ac | apply aa)); exact (ah (ap (p := ⟨di, 0, none⟩) (aq fW.out fL.out z0) (fun _ hk => hk.2) (.slice mb gu.length ll)) (fun _ h_ => h_.1))))) (keep_size (w := w) (g := g) (row := none) (by repeat (first | (with_reducible first | exact HK.out | apply KeepBut.set_ | apply keep_drewN | apply keep_drew | apply keep_alloc | refine keep_far ?_ gW.out _ | refine keep_far ?_ j8.out _ | refine keep_far ?_ iM.out _ | refine keep_far ?_ lK.out _) | exact HK.out)))); replace ba := aM (aj (by (with_reducible repeat (first | apply ae | apply ac | apply aa)); exact (ah (ap (p := ⟨di, 0, none⟩) (aq ba.out fL.out z0) (fun _ hk => hk.2) (.slice mb gu.length ll)) (fun _ h_ => h_.1))) (al ho0) hb); replace fW := aM (aj (by (with_reducible repeat (first | apply ae | apply ac | apply aa)); exact (ah (ap (p := ⟨di, 0, none⟩) (aq fW.out fL.out z0) (fun _ hk => hk.2) (.slice mb gu.length ll)) (fun _ h_ => h_.1))) (al ho0) hb); replace bQ := aM (af (g := cm) (o := .cells #[.slice none 0 0] 30 (0, 0)) (by (with_reducible repeat (first | refine au ?_ _ | refine ar ?_ | refine av ?_ _)); refine aw ?_ ic.out _; (with_reducible repeat (first | refine au ?_ _ | refine ar ?_ | refine av ?_ _)); exact bQ.out) hb); replace bz := aM (af (g := b8) (o := .cells #[.slice b6 x319000_1.length b5] 30 (0, 0)) (by (with_reducible repeat (first | refine au ?_ _ | refine ar ?_ | refine av ?_ _)); refine aw ?_ ib.out _; (with_reducible repeat (first | refine au ?_ _ | refine ar ?_ | refine av ?_ _)); exact bz.out) hb); replace cb := aM (af (g := bZ) (o := .cells #[.slice b6 x319000_1.length b5] 30 (0, 0)) (by (with_reducible repeat (first | refine au ?_ _ | refine ar ?_ | refine av ?_ _)); refine aw ?_ ia.out _; (with_reducible repeat (first | refine au ?_ _ | refine ar ?_ | refine av ?_ _)); exact cb.out) hb); replace fL := aM (af (g := di) (o := .cells #[.slice mb gu.length ll] 30 (0, 0)) (by (with_reducible repeat (first | refine au ?_ _ | refine ar ?_ | refine av ?_ _)); refine ax (cs := #[.slice none 0 0]) ?_ 0 _ rfl; (with_reducible repeat (first | refine au ?_ _ | refine ar ?_ | refine av ?_ _)); exact fL.out) hb); replace HK := aM (KeepBut.trans (by repeat (first | (with_reducible first | exact HK.out | apply KeepBut.set_ | apply keep_drewN | apply keep_drew | apply keep_alloc | refine keep_far ?_ gW.out _ | refine keep_far ?_ j8.out _ | refine keep_far ?_ iM.out _ | refine keep_far ?_ lK.out _) | exact HK.out)) (KeepBut.of_below hb g none) (.inl rfl)); replace HB := aM (aA (by repeat (first | (with_reducible first | exact HB.out | apply bA | apply pD | apply bD | refine az ?_ (IsS90.ge HI0.out) | refine az ?_ dx.out | refine az ?_ dZ.out | refine az ?_ fX.out | refine az ?_ oc.out) | exact HB.out)) hb); replace HI0 := aM (IsS90.below (show IsS90 w0 (w57.setCell ⟨di, 0, none⟩ (.slice mb gu.length ll)) g s0_0 l6 lZ from by (try simp only [Int.add_zero]); repeat (first | (with_reducible first | exact HI0.out | apply IsS90.alloc | apply IsS90.drewN | apply IsS90.drew | apply IsS90.set_1 | apply IsS90.set_2 | refine IsS90.far ?_ bW.out _ | refine IsS90.far ?_ bV.out _ | refine IsS90.far ?_ cJ.out _ | refine IsS90.far ?_ im.out _) | exact HI0.out)) hb); (try clear hb); (try clear ho0); obtain ⟨Ao66, co66, eo66⟩ := Kd.R_slice pT.out; subst eo66; obtain ⟨hcz67_0, hfz67_0⟩ := cc1 cb.out))
      go_roundg k1
      case measure => have := HK1.out; omega
      case rel => exact ⟨(wrap64 (x5_1 - 1)), (l6), (lZ), (x319000_1), (.slice b6 x319000_1.length b5), z2, H', ⟨y0⟩, ⟨by (with_reducible repeat (first | apply ae | apply ac | apply aa)); exact ah (ap (p := ⟨bZ, 0, none⟩) (aq ba.out cb.out z0) (fun _ hk => hk.2) (.slice Ao66 ox.length co66)) (fun _ hk => trivial)⟩, ⟨y26⟩, ⟨y27⟩, ⟨by (try simp only [Int.add_zero]); repeat (first | (with_reducible first | exact HI0.out | apply IsS90.alloc | apply IsS90.drewN | apply IsS90.drew | apply IsS90.set_1 | apply IsS90.set_2 | refine IsS90.far ?_ bW.out _ | refine IsS90.far ?_ bV.out _ | refine IsS90.far ?_ cJ.out _ | refine IsS90.far ?_ im.out _) | exact HI0.out)⟩, ⟨by repeat (first | (with_reducible first | exact HK.out | apply KeepBut.set_ | apply keep_drewN | apply keep_drew | apply keep_alloc | refine keep_far ?_ gW.out _ | refine keep_far ?_ j8.out _ | refine keep_far ?_ iM.out _ | refine keep_far ?_ lK.out _) | exact HK.out)⟩, ⟨by repeat (first | (with_reducible first | exact HB.out | apply bA | apply pD | apply bD | refine az ?_ (IsS90.ge HI0.out) | refine az ?_ dx.out | refine az ?_ dZ.out | refine az ?_ fX.out | refine az ?_ oc.out) | exact HB.out)⟩⟩
    ·rw [if_neg gE] at H
     have c16b0 : (iY == 0) = false := qF gE
     have c16b1 : (iY != 0) = true := nT gE
     by_cases sj : iY = 1
     ·rw [if_pos sj] at H
      have c68b0 : (iY == 1) = true := qT sj
      have c68b1 : (iY != 1) = false := nF sj
      clear sj
      obtain ⟨nx, r8, H⟩ := oA_ H
      try dsimp only at H
      obtain ⟨⟨pX, rO, rN⟩, nr, H⟩ := oA_ H
      try dsimp only at H
      obtain ⟨⟨uC, ow, t348⟩, wa, H⟩ := oA_ H
      try dsimp only at H
      by_cases rB : t348 = true
      ·subst rB
       rw [if_pos rfl] at H
       have H' := aM H
       clear H
       have hnb73 := ea.out
       have hnc73 := dX.out
       have hnb74 := cO.out
       have hnc74 := bV.out
       obtain ⟨hcz75_0, hfz75_0⟩ := cc1 bz.out
       try go_wp2_with (first | ((with_reducible refine aN (N := 6) rfl ?_); refine aQ ?hg (N := 6) ?hd (cs := #[.slice none 0 0]) (t := 30) ?hr ?_; (case hd => rfl); (case hg => rfl); (case hr => first | (go_simp; done) | (go_simp; rfl)); intro bZ hg w76 hbox hb; replace ba := aM (ag z14 hb); replace HB := aM (aA (by repeat (first | (with_reducible first | exact HB.out | apply bA | apply pD | apply bD | refine az ?_ (IsS90.ge HI0.out) | refine az ?_ dx.out | refine az ?_ dZ.out) | exact HB.out)) hb); have cb := aM (hbox); have iM := aM ((by rw [hg]; exact (keep_size (w := w) (g := g) (row := none) z44) : w.heap.size ≤ bZ)); have fX := aM ((Nat.le_trans HW0.out (by rw [hg]; exact (keep_size (w := w) (g := g) (row := none) z44) : w.heap.size ≤ bZ) : w0.heap.size ≤ bZ)); replace HK := aM (KeepBut.trans z44 (KeepBut.of_below hb g none) (.inl rfl)); have dK := aM ((by rw [hg]; exact aD (ay (g := cm) (o := .cells #[.slice none 0 0] 30 (0, 0)) z20) : cm ≠ bZ)); have dJ := aM ((by rw [hg]; exact aE (ay (g := cm) (o := .cells #[.slice none 0 0] 30 (0, 0)) z20) : bZ ≠ cm)); replace bQ := aM (bK_ bQ.out hb); have cT := aM ((by rw [hg]; exact aD (ay (g := b8) (o := .cells #[u319000] 30 (0, 0)) z21) : b8 ≠ bZ)); have dI := aM ((by rw [hg]; exact aE (ay (g := b8) (o := .cells #[u319000] 30 (0, 0)) z21) : bZ ≠ b8)); replace bz := aM (bK_ bz.out hb); have cJ := aM ((by rw [hg]; exact aD (IsS90.lt (show IsS90 w0 _ g s0_0 x1001_1 x1002_1 from by (try simp only [Int.add_zero]); repeat (first | (with_reducible first | exact HI0.out | apply IsS90.alloc | apply IsS90.drewN | apply IsS90.drew | apply IsS90.set_1 | apply IsS90.set_2 | refine IsS90.far ?_ bW.out _ | refine IsS90.far ?_ bV.out _) | exact HI0.out))) : g ≠ bZ)); have dr := aM ((by rw [hg]; exact aE (IsS90.lt (show IsS90 w0 _ g s0_0 x1001_1 x1002_1 from by (try simp only [Int.add_zero]); repeat (first | (with_reducible first | exact HI0.out | apply IsS90.alloc | apply IsS90.drewN | apply IsS90.drew | apply IsS90.set_1 | apply IsS90.set_2 | refine IsS90.far ?_ bW.out _ | refine IsS90.far ?_ bV.out _) | exact HI0.out))) : bZ ≠ g)); replace HI0 := aM (IsS90.below z67 hb); clear hb hbox hg; obtain ⟨jK, jz, eo77⟩ := Kd.R_slice ba.out; subst eo77; have hnb78 := dJ.out; have hnc78 := dK.out; have hnb79 := dI.out; have hnc79 := cT.out; have hnb80 := dr.out; have hnc80 := cJ.out; obtain ⟨hcz81_0, hfz81_0⟩ := cc1 cb.out) | ((with_reducible refine aK (f := 66) rfl ?_); refine aT (some 25) rfl rfl Try.func66 z1 rfl #[.pointer (some ⟨g, 0, none⟩), .int .i64 3] rfl z33 ?_; (with_reducible refine (spec_l1Cur_pick.calls g s0_0 x1001_1 x1002_1 3 iY ir iq w0 _ ?side1 ?side2 rE.out).mono ?_); (case side1 => exact y50); (case side2 => exact y46); rintro e w82 ⟨rfl, hi, hb, hk⟩; refine ⟨_, rfl, ?_⟩; replace ba := aM (ah (Kd.R_keep (IsS90.apart (show IsS90 w0 _ g s0_0 x1001_1 x1002_1 from by (try simp only [Int.add_zero]); repeat (first | (with_reducible first | exact HI0.out | apply IsS90.alloc | apply IsS90.drewN | apply IsS90.drew | apply IsS90.set_1 | apply IsS90.set_2 | refine IsS90.far ?_ bW.out _ | refine IsS90.far ?_ bV.out _ | refine IsS90.far ?_ cJ.out _) | exact HI0.out)) (by (with_reducible repeat (first | apply ae | apply ac | apply aa)); exact (ah (ap (p := ⟨bZ, 0, none⟩) (aq ba.out cb.out z0) (fun _ hk => hk.2) (.slice jK x319000_1.length jz)) (fun _ h_ => h_.1))) z0) hk (fun _ h => h.2)) (fun _ h => h.1)); replace bQ := aM (KeepBut.blk hk (g' := cm) (o := .cells #[.slice none 0 0] 30 (0, 0)) z48 db.out (by simp)); replace bz := aM (KeepBut.blk hk (g' := b8) (o := .cells #[.slice jK x319000_1.length jz] 30 (0, 0)) z49 cO.out (by simp)); replace cb := aM (KeepBut.blk hk (g' := bZ) (o := .cells #[.slice jK x319000_1.length jz] 30 (0, 0)) z64 dr.out (by simp)); replace HK := aM (KeepBut.trans z47 hk (.inl rfl)); replace HB := aM (hb); replace HI0 := aM (hi); (try clear hb); (try clear hk); (try clear hi); (try clear d7)))
       replace ba := aM (aa ba.out)
       replace bQ := aM (ar bQ.out)
       replace bz := aM (ar bz.out)
       replace cb := aM (ar cb.out)
       replace HI0 := aM (IsS90.drew HI0.out)
       replace HK := aM (keep_drew HK.out)
       replace HB := aM (bD HB.out)
       refine start_ (n := 14) (S := fun w' => w'.cell? ⟨b8, 0, none⟩ = some (.slice jK x319000_1.length jz)) (ds := []) #[false, false, false, false, false, false, false, false, false, false, false, false, false, false] z1 rfl rfl ((bC bz.out 0).trans rfl) (fun hHeld => ?_); refine with_tabW spec_l1Cur_rope.tab12 spec_l1Cur_rope.bits12 (fun HT_ HW_ => ?_)
       generalize w82.drew = w83 at ba bQ bz cb HI0 HK HB hHeld ⊢
       refine pA 1 54 ?_
       refine pA 2 55 ?_
       refine tA 0 53 ?_ (hy := by intro w' s0; go_simp; with_reducible rfl)
       refine tA 3 56 ?_ (hy := by intro w' s0; go_simp; with_reducible rfl)
       refine one_ (i := 4) (N := some 57) #[true, true, true, true, true, false, false, false, false, false, false, false, false, false] rfl rfl (one_of HT_.out z1) z0 (fun K hK => ?_)
       refine goes_ Try.func50 z1 rfl #[.slice jK x319000_1.length jz] (by rfl) rfl rfl z33 ?_
       with_reducible refine (spec_l12Size.calls _ _ x319000_1 nx _ ?side1 ?side2 r8.out).mono ?_
       (case side1 => exact y36)
       (case side2 => exact (ai ba.out).2.1)
       rintro e w' ⟨rfl, ⟨nd, rfl⟩⟩
       refine ⟨_, rfl, ?_⟩
       refine hK.out _ _ ((bC bz.out 0).trans rfl) (fun hHeld => ?_)
       clear hK K
       refine norm_ (a' := ?_) ?_ ?_
       rotate_left
       ·show Act.put _ (some 57) _ = _
        simp only [Act.put, sA, sB, sC, i64_w, i32_w]
        rfl
       refine pA 5 58 ?_
       refine one_ (i := 6) (N := some 59) #[true, true, true, true, true, true, true, false, false, false, false, false, false, false] rfl rfl (one_of HT_.out z1) z0 (fun K hK => ?_)
       refine goes_ Try.func66 z1 rfl #[.pointer (some ⟨g, 0, none⟩), .int .i64 (wrap64 (nx + 1))] (by rfl) rfl rfl z33 ?_
       with_reducible refine (spec_l1Cur_pick.calls g s0_0 ir iq (wrap64 (nx + 1)) pX rO rN w0 _ ?side1 ?side2 nr.out).mono ?_
       (case side1 => exact y50)
       (case side2 => exact y46)
       rintro e w84 ⟨rfl, hi, hb, hk⟩
       refine ⟨_, rfl, ?_⟩
       replace ba := aM (ah (Kd.R_keep (IsS90.apart (show IsS90 w0 _ g s0_0 ir iq from by (try simp only [Int.add_zero]); repeat (first | (with_reducible first | exact HI0.out | apply IsS90.alloc | apply IsS90.drewN | apply IsS90.drew | apply IsS90.set_1 | apply IsS90.set_2 | refine IsS90.far ?_ bW.out _ | refine IsS90.far ?_ bV.out _ | refine IsS90.far ?_ cJ.out _) | exact HI0.out)) z14 z0) hk (fun _ h => h.2)) (fun _ h => h.1))
       replace bQ := aM (KeepBut.blk hk (g' := cm) (o := .cells #[.slice none 0 0] 30 (0, 0)) z20 db.out (by simp))
       replace bz := aM (KeepBut.blk hk (g' := b8) (o := .cells #[.slice jK x319000_1.length jz] 30 (0, 0)) z21 cO.out (by simp))
       replace cb := aM (KeepBut.blk hk (g' := bZ) (o := .cells #[.slice jK x319000_1.length jz] 30 (0, 0)) z22 dr.out (by simp))
       replace HK := aM (KeepBut.trans z47 hk (.inl rfl))
       replace HB := aM (hb)
       replace HI0 := aM (hi)
       (try clear hb)
       skip
       (try clear hk)
       (try clear hi)
       (try clear d7)
       refine hK.out _ _ ((bC bz.out 0).trans rfl) (fun hHeld => ?_)
       clear hK K
       refine norm_ (a' := ?_) ?_ ?_
       rotate_left
       ·show Act.put _ (some 59) _ = _
        simp only [Act.put, sA, sB, sC, i64_w, i32_w]
        rfl
       refine one_ (i := 7) (N := some 60) #[true, true, true, true, true, true, true, true, false, false, false, false, false, false] rfl rfl (one_of HT_.out z1) z0 (fun K hK => ?_)
       refine goes_ Try.func18 z1 rfl #[.agg #[.slice jK x319000_1.length jz], .int .i64 pX] (by rfl) rfl rfl z33 ?_
       with_reducible refine (spec_SplitRope.calls k1 _ _ x319000_1 pX uC ow true _ ?side1 ?side2 wa.out).mono ?_
       (case side1 => exact y36)
       (case side2 => exact (ai ba.out).2.1)
       rintro e w85 ⟨v343, v346, rfl, ho0, ho1, hb⟩
       refine ⟨_, rfl, ?_⟩
       have HO344 := aM (aW (ak ho0 (am z14)) (keep_size (w := w) (g := g) (row := none) z47))
       have pS := aM (aW (ak ho1 (am z14)) (keep_size (w := w) (g := g) (row := none) z47))
       replace ba := aM (ah (Kd.R_told (Kd.R_told (Kd.R_old z14 hb) (al ho0)) (al ho1)) (fun _ h_ => h_.1))
       replace bQ := aM (bK_ bQ.out hb)
       replace bz := aM (bK_ bz.out hb)
       replace cb := aM (bK_ cb.out hb)
       replace HK := aM (KeepBut.trans z47 (KeepBut.of_below hb g none) (.inl rfl))
       replace HB := aM (aA z63 hb)
       replace HI0 := aM (IsS90.below z69 hb)
       (try clear hb)
       skip
       skip
       skip
       (try clear ho0)
       (try clear ho1)
       obtain ⟨tU, tK, eo86⟩ := Kd.R_slice pS.out
       (first | subst eo86 | (injection eo86 with f1_ f2_ f3_; have f4_ := f1_.symm; have f5_ := f3_.symm; clear f1_ f2_ f3_; subst f4_; subst f5_))
       refine hK.out _ _ ((bC bz.out 0).trans rfl) (fun hHeld => ?_)
       clear hK K
       refine norm_ (a' := ?_) ?_ ?_
       rotate_left
       ·show Act.put _ (some 60) _ = _
        simp only [Act.put, sA, sB, sC, i64_w, i32_w]
        rfl
       refine pA 8 52 ?_
       refine pA 9 61 ?_
       refine pA 10 62 ?_
       refine pA 11 63 ?_
       refine one_ (i := 12) (N := none) #[true, true, true, true, true, true, true, true, true, true, true, true, true, false] rfl rfl (one_of HT_.out z1) z0 (fun K hK => ?_)
       obtain ⟨hs87, hfs87⟩ := cc1 cb.out
       have hns87_0 := dK.out
       have hns87_1 := cT.out
       have hms87_0 := dJ.out
       have hms87_1 := dI.out
       refine skip_ (w1 := ?_) (by rfl) rfl ?_ ?_
       rotate_left
       ·go_simp
        rfl
       refine hK.out _ _ (((cell_far (p := ⟨bZ, _, none⟩) cT.out _).trans (hHeld))) (fun hHeld => ?_)
       clear hK K
       refine pA 13 7 ?_
       refine done_ (done_of HT_.out z1) ?_
       obtain ⟨hcz88_0, hfz88_0⟩ := cc1 cb.out
       obtain ⟨pe, oJ⟩ := cc1 bz.out
       try go_wp2
       go_roundg k1
       case measure => have := HK1.out; omega
       case rel => exact ⟨(wrap64 (x5_1 - 1)), (rO), (rN), (ow), (.slice tU ow.length tK), z2, H', ⟨y0⟩, ⟨by (with_reducible repeat (first | apply ae | apply ac | apply aa)); exact ah (ap (p := ⟨b8, 0, none⟩) (ap (p := ⟨bZ, 0, none⟩) (aq (aq pS.out cb.out z0) bz.out z0) (fun _ hk => hk.1.2) (.slice tU ow.length tK)) (fun _ hk => hk.2) (.slice tU ow.length tK)) (fun _ hk => trivial)⟩, ⟨y32⟩, ⟨by (with_reducible repeat (first | refine au ?_ _ | refine ar ?_ | refine av ?_ _)); refine ax (cs := #[.slice jK x319000_1.length jz]) ?_ 0 _ rfl; (with_reducible repeat (first | refine au ?_ _ | refine ar ?_ | refine av ?_ _)); refine aw ?_ cT.out _; (with_reducible repeat (first | refine au ?_ _ | refine ar ?_ | refine av ?_ _)); exact bz.out⟩, ⟨y30⟩, ⟨y25⟩, ⟨y24⟩⟩
      ·replace rB := Bool.eq_false_iff.mpr rB
       subst rB
       rw [if_neg nF_] at H
       have H' := aM H
       clear H
       have hnb90 := ea.out
       have hnc90 := dX.out
       have hnb91 := cO.out
       have hnc91 := bV.out
       obtain ⟨hcz92_0, hfz92_0⟩ := cc1 bz.out
       try go_wp2_with (first | ((with_reducible refine aN (N := 6) rfl ?_); refine aQ ?hg (N := 6) ?hd (cs := #[.slice none 0 0]) (t := 30) ?hr ?_; (case hd => rfl); (case hg => rfl); (case hr => first | (go_simp; done) | (go_simp; rfl)); intro bZ hg w93 hbox hb; replace ba := aM (ag z14 hb); replace HB := aM (aA (by repeat (first | (with_reducible first | exact HB.out | apply bA | apply pD | apply bD | refine az ?_ (IsS90.ge HI0.out) | refine az ?_ dx.out | refine az ?_ dZ.out) | exact HB.out)) hb); have cb := aM (hbox); have iM := aM ((by rw [hg]; exact (keep_size (w := w) (g := g) (row := none) z44) : w.heap.size ≤ bZ)); have fX := aM ((Nat.le_trans HW0.out (by rw [hg]; exact (keep_size (w := w) (g := g) (row := none) z44) : w.heap.size ≤ bZ) : w0.heap.size ≤ bZ)); replace HK := aM (KeepBut.trans z44 (KeepBut.of_below hb g none) (.inl rfl)); have dK := aM ((by rw [hg]; exact aD (ay (g := cm) (o := .cells #[.slice none 0 0] 30 (0, 0)) z20) : cm ≠ bZ)); have dJ := aM ((by rw [hg]; exact aE (ay (g := cm) (o := .cells #[.slice none 0 0] 30 (0, 0)) z20) : bZ ≠ cm)); replace bQ := aM (bK_ bQ.out hb); have cT := aM ((by rw [hg]; exact aD (ay (g := b8) (o := .cells #[u319000] 30 (0, 0)) z21) : b8 ≠ bZ)); have dI := aM ((by rw [hg]; exact aE (ay (g := b8) (o := .cells #[u319000] 30 (0, 0)) z21) : bZ ≠ b8)); replace bz := aM (bK_ bz.out hb); have cJ := aM ((by rw [hg]; exact aD (IsS90.lt (show IsS90 w0 _ g s0_0 x1001_1 x1002_1 from by (try simp only [Int.add_zero]); repeat (first | (with_reducible first | exact HI0.out | apply IsS90.alloc | apply IsS90.drewN | apply IsS90.drew | apply IsS90.set_1 | apply IsS90.set_2 | refine IsS90.far ?_ bW.out _ | refine IsS90.far ?_ bV.out _) | exact HI0.out))) : g ≠ bZ)); have dr := aM ((by rw [hg]; exact aE (IsS90.lt (show IsS90 w0 _ g s0_0 x1001_1 x1002_1 from by (try simp only [Int.add_zero]); repeat (first | (with_reducible first | exact HI0.out | apply IsS90.alloc | apply IsS90.drewN | apply IsS90.drew | apply IsS90.set_1 | apply IsS90.set_2 | refine IsS90.far ?_ bW.out _ | refine IsS90.far ?_ bV.out _) | exact HI0.out))) : bZ ≠ g)); replace HI0 := aM (IsS90.below z67 hb); clear hb hbox hg; obtain ⟨kf, ke, eo94⟩ := Kd.R_slice ba.out; subst eo94; have hnb95 := dJ.out; have hnc95 := dK.out; have hnb96 := dI.out; have hnc96 := cT.out; have hnb97 := dr.out; have hnc97 := cJ.out; obtain ⟨hcz98_0, hfz98_0⟩ := cc1 cb.out) | ((with_reducible refine aK (f := 66) rfl ?_); refine aT (some 25) rfl rfl Try.func66 z1 rfl #[.pointer (some ⟨g, 0, none⟩), .int .i64 3] rfl z33 ?_; (with_reducible refine (spec_l1Cur_pick.calls g s0_0 x1001_1 x1002_1 3 iY ir iq w0 _ ?side1 ?side2 rE.out).mono ?_); (case side1 => exact y50); (case side2 => exact y46); rintro e w99 ⟨rfl, hi, hb, hk⟩; refine ⟨_, rfl, ?_⟩; replace ba := aM (ah (Kd.R_keep (IsS90.apart (show IsS90 w0 _ g s0_0 x1001_1 x1002_1 from by (try simp only [Int.add_zero]); repeat (first | (with_reducible first | exact HI0.out | apply IsS90.alloc | apply IsS90.drewN | apply IsS90.drew | apply IsS90.set_1 | apply IsS90.set_2 | refine IsS90.far ?_ bW.out _ | refine IsS90.far ?_ bV.out _ | refine IsS90.far ?_ cJ.out _) | exact HI0.out)) (by (with_reducible repeat (first | apply ae | apply ac | apply aa)); exact (ah (ap (p := ⟨bZ, 0, none⟩) (aq ba.out cb.out z0) (fun _ hk => hk.2) (.slice kf x319000_1.length ke)) (fun _ h_ => h_.1))) z0) hk (fun _ h => h.2)) (fun _ h => h.1)); replace bQ := aM (KeepBut.blk hk (g' := cm) (o := .cells #[.slice none 0 0] 30 (0, 0)) z48 db.out (by simp)); replace bz := aM (KeepBut.blk hk (g' := b8) (o := .cells #[.slice kf x319000_1.length ke] 30 (0, 0)) z49 cO.out (by simp)); replace cb := aM (KeepBut.blk hk (g' := bZ) (o := .cells #[.slice kf x319000_1.length ke] 30 (0, 0)) z64 dr.out (by simp)); replace HK := aM (KeepBut.trans z47 hk (.inl rfl)); replace HB := aM (hb); replace HI0 := aM (hi); (try clear hb); (try clear hk); (try clear hi); (try clear d7)))
       replace ba := aM (aa ba.out)
       replace bQ := aM (ar bQ.out)
       replace bz := aM (ar bz.out)
       replace cb := aM (ar cb.out)
       replace HI0 := aM (IsS90.drew HI0.out)
       replace HK := aM (keep_drew HK.out)
       replace HB := aM (bD HB.out)
       refine start_ (n := 14) (S := fun w' => w'.cell? ⟨b8, 0, none⟩ = some (.slice kf x319000_1.length ke)) (ds := []) #[false, false, false, false, false, false, false, false, false, false, false, false, false, false] z1 rfl rfl ((bC bz.out 0).trans rfl) (fun hHeld => ?_); refine with_tabW spec_l1Cur_rope.tab12 spec_l1Cur_rope.bits12 (fun HT_ HW_ => ?_)
       generalize w99.drew = w100 at ba bQ bz cb HI0 HK HB hHeld ⊢
       refine pA 1 54 ?_
       refine pA 2 55 ?_
       refine tA 0 53 ?_ (hy := by intro w' s0; go_simp; with_reducible rfl)
       refine tA 3 56 ?_ (hy := by intro w' s0; go_simp; with_reducible rfl)
       refine one_ (i := 4) (N := some 57) #[true, true, true, true, true, false, false, false, false, false, false, false, false, false] rfl rfl (one_of HT_.out z1) z0 (fun K hK => ?_)
       refine goes_ Try.func50 z1 rfl #[.slice kf x319000_1.length ke] (by rfl) rfl rfl z33 ?_
       with_reducible refine (spec_l12Size.calls _ _ x319000_1 nx _ ?side1 ?side2 r8.out).mono ?_
       (case side1 => exact y36)
       (case side2 => exact (ai ba.out).2.1)
       rintro e w' ⟨rfl, ⟨nd, rfl⟩⟩
       refine ⟨_, rfl, ?_⟩
       refine hK.out _ _ ((bC bz.out 0).trans rfl) (fun hHeld => ?_)
       clear hK K
       refine norm_ (a' := ?_) ?_ ?_
       rotate_left
       ·show Act.put _ (some 57) _ = _
        simp only [Act.put, sA, sB, sC, i64_w, i32_w]
        rfl
       refine pA 5 58 ?_
       refine one_ (i := 6) (N := some 59) #[true, true, true, true, true, true, true, false, false, false, false, false, false, false] rfl rfl (one_of HT_.out z1) z0 (fun K hK => ?_)
       refine goes_ Try.func66 z1 rfl #[.pointer (some ⟨g, 0, none⟩), .int .i64 (wrap64 (nx + 1))] (by rfl) rfl rfl z33 ?_
       with_reducible refine (spec_l1Cur_pick.calls g s0_0 ir iq (wrap64 (nx + 1)) pX rO rN w0 _ ?side1 ?side2 nr.out).mono ?_
       (case side1 => exact y50)
       (case side2 => exact y46)
       rintro e w101 ⟨rfl, hi, hb, hk⟩
       refine ⟨_, rfl, ?_⟩
       replace ba := aM (ah (Kd.R_keep (IsS90.apart (show IsS90 w0 _ g s0_0 ir iq from by (try simp only [Int.add_zero]); repeat (first | (with_reducible first | exact HI0.out | apply IsS90.alloc | apply IsS90.drewN | apply IsS90.drew | apply IsS90.set_1 | apply IsS90.set_2 | refine IsS90.far ?_ bW.out _ | refine IsS90.far ?_ bV.out _ | refine IsS90.far ?_ cJ.out _) | exact HI0.out)) z14 z0) hk (fun _ h => h.2)) (fun _ h => h.1))
       replace bQ := aM (KeepBut.blk hk (g' := cm) (o := .cells #[.slice none 0 0] 30 (0, 0)) z20 db.out (by simp))
       replace bz := aM (KeepBut.blk hk (g' := b8) (o := .cells #[.slice kf x319000_1.length ke] 30 (0, 0)) z21 cO.out (by simp))
       replace cb := aM (KeepBut.blk hk (g' := bZ) (o := .cells #[.slice kf x319000_1.length ke] 30 (0, 0)) z22 dr.out (by simp))
       replace HK := aM (KeepBut.trans z47 hk (.inl rfl))
       replace HB := aM (hb)
       replace HI0 := aM (hi)
       (try clear hb)
       skip
       (try clear hk)
       (try clear hi)
       (try clear d7)
       refine hK.out _ _ ((bC bz.out 0).trans rfl) (fun hHeld => ?_)
       clear hK K
       refine norm_ (a' := ?_) ?_ ?_
       rotate_left
       ·show Act.put _ (some 59) _ = _
        simp only [Act.put, sA, sB, sC, i64_w, i32_w]
        rfl
       refine one_ (i := 7) (N := some 60) #[true, true, true, true, true, true, true, true, false, false, false, false, false, false] rfl rfl (one_of HT_.out z1) z0 (fun K hK => ?_)
       refine goes_ Try.func18 z1 rfl #[.agg #[.slice kf x319000_1.length ke], .int .i64 pX] (by rfl) rfl rfl z33 ?_
       with_reducible refine (spec_SplitRope.calls k1 _ _ x319000_1 pX uC ow false _ ?side1 ?side2 wa.out).mono ?_
       (case side1 => exact y36)
       (case side2 => exact (ai ba.out).2.1)
       rintro e w102 ⟨v343, v346, rfl, ho0, ho1, hb⟩
       refine ⟨_, rfl, ?_⟩
       have HO344 := aM (aW (ak ho0 (am z14)) (keep_size (w := w) (g := g) (row := none) z47))
       have pS := aM (aW (ak ho1 (am z14)) (keep_size (w := w) (g := g) (row := none) z47))
       replace ba := aM (ah (Kd.R_told (Kd.R_told (Kd.R_old z14 hb) (al ho0)) (al ho1)) (fun _ h_ => h_.1))
       replace bQ := aM (bK_ bQ.out hb)
       replace bz := aM (bK_ bz.out hb)
       replace cb := aM (bK_ cb.out hb)
       replace HK := aM (KeepBut.trans z47 (KeepBut.of_below hb g none) (.inl rfl))
       replace HB := aM (aA z63 hb)
       replace HI0 := aM (IsS90.below z69 hb)
       (try clear hb)
       skip
       skip
       skip
       (try clear ho0)
       (try clear ho1)
       obtain ⟨Ao103, co103, eo103⟩ := Kd.R_slice pS.out
       (first | subst eo103 | (injection eo103 with f1_ f2_ f3_; have f4_ := f1_.symm; have f5_ := f3_.symm; clear f1_ f2_ f3_; subst f4_; subst f5_))
       refine hK.out _ _ ((bC bz.out 0).trans rfl) (fun hHeld => ?_)
       clear hK K
       refine norm_ (a' := ?_) ?_ ?_
       rotate_left
       ·show Act.put _ (some 60) _ = _
        simp only [Act.put, sA, sB, sC, i64_w, i32_w]
        rfl
       refine pA 8 52 ?_
       refine pA 9 61 ?_
       refine pA 10 62 ?_
       refine pA 11 63 ?_
       refine one_ (i := 12) (N := none) #[true, true, true, true, true, true, true, true, true, true, true, true, true, false] rfl rfl (one_of HT_.out z1) z0 (fun K hK => ?_)
       obtain ⟨hs104, hfs104⟩ := cc1 cb.out
       have hns104_0 := dK.out
       have hns104_1 := cT.out
       have hms104_0 := dJ.out
       have hms104_1 := dI.out
       refine skip_ (w1 := ?_) (by rfl) rfl ?_ ?_
       rotate_left
       ·go_simp
        rfl
       refine hK.out _ _ (((cell_far (p := ⟨bZ, _, none⟩) cT.out _).trans (hHeld))) (fun hHeld => ?_)
       clear hK K
       refine pA 13 7 ?_
       refine done_ (done_of HT_.out z1) ?_
       try go_wp2
       go_roundg k1
       case measure => have := HK1.out; omega
       case rel => exact ⟨(wrap64 (x5_1 - 1)), (rO), (rN), (x319000_1), (.slice kf x319000_1.length ke), z2, H', ⟨y0⟩, ⟨by (with_reducible repeat (first | apply ae | apply ac | apply aa)); exact ah (ap (p := ⟨bZ, 0, none⟩) (aq ba.out cb.out z0) (fun _ hk => hk.2) (.slice Ao103 ow.length co103)) (fun _ hk => trivial)⟩, ⟨y26⟩, ⟨y27⟩, ⟨y30⟩, ⟨y25⟩, ⟨y24⟩⟩
     ·rw [if_neg sj] at H
      have c68b0 : (iY == 1) = false := qF sj
      have c68b1 : (iY != 1) = true := nT sj
      obtain ⟨nw, vP, H⟩ := oA_ H
      try dsimp only at H
      obtain ⟨⟨pW, rM, rL⟩, vO, H⟩ := oA_ H
      try dsimp only at H
      obtain ⟨⟨ov, t358⟩, vN, H⟩ := oA_ H
      try dsimp only at H
      by_cases qX : t358 = true
      ·subst qX
       rw [if_pos rfl] at H
       have H' := aM H
       clear H
       have hnb109 := ea.out
       have hnc109 := dX.out
       have hnb110 := cO.out
       have hnc110 := bV.out
       obtain ⟨hcz111_0, hfz111_0⟩ := cc1 bz.out
       try go_wp2_with (first | ((with_reducible refine aN (N := 6) rfl ?_); refine aQ ?hg (N := 6) ?hd (cs := #[.slice none 0 0]) (t := 30) ?hr ?_; (case hd => rfl); (case hg => rfl); (case hr => first | (go_simp; done) | (go_simp; rfl)); intro bZ hg w112 hbox hb; replace ba := aM (ag z14 hb); replace HB := aM (aA (by repeat (first | (with_reducible first | exact HB.out | apply bA | apply pD | apply bD | refine az ?_ (IsS90.ge HI0.out) | refine az ?_ dx.out | refine az ?_ dZ.out) | exact HB.out)) hb); have cb := aM (hbox); have iM := aM ((by rw [hg]; exact (keep_size (w := w) (g := g) (row := none) z44) : w.heap.size ≤ bZ)); have fX := aM ((Nat.le_trans HW0.out (by rw [hg]; exact (keep_size (w := w) (g := g) (row := none) z44) : w.heap.size ≤ bZ) : w0.heap.size ≤ bZ)); replace HK := aM (KeepBut.trans z44 (KeepBut.of_below hb g none) (.inl rfl)); have dK := aM ((by rw [hg]; exact aD (ay (g := cm) (o := .cells #[.slice none 0 0] 30 (0, 0)) z20) : cm ≠ bZ)); have dJ := aM ((by rw [hg]; exact aE (ay (g := cm) (o := .cells #[.slice none 0 0] 30 (0, 0)) z20) : bZ ≠ cm)); replace bQ := aM (bK_ bQ.out hb); have cT := aM ((by rw [hg]; exact aD (ay (g := b8) (o := .cells #[u319000] 30 (0, 0)) z21) : b8 ≠ bZ)); have dI := aM ((by rw [hg]; exact aE (ay (g := b8) (o := .cells #[u319000] 30 (0, 0)) z21) : bZ ≠ b8)); replace bz := aM (bK_ bz.out hb); have cJ := aM ((by rw [hg]; exact aD (IsS90.lt (show IsS90 w0 _ g s0_0 x1001_1 x1002_1 from by (try simp only [Int.add_zero]); repeat (first | (with_reducible first | exact HI0.out | apply IsS90.alloc | apply IsS90.drewN | apply IsS90.drew | apply IsS90.set_1 | apply IsS90.set_2 | refine IsS90.far ?_ bW.out _ | refine IsS90.far ?_ bV.out _) | exact HI0.out))) : g ≠ bZ)); have dr := aM ((by rw [hg]; exact aE (IsS90.lt (show IsS90 w0 _ g s0_0 x1001_1 x1002_1 from by (try simp only [Int.add_zero]); repeat (first | (with_reducible first | exact HI0.out | apply IsS90.alloc | apply IsS90.drewN | apply IsS90.drew | apply IsS90.set_1 | apply IsS90.set_2 | refine IsS90.far ?_ bW.out _ | refine IsS90.far ?_ bV.out _) | exact HI0.out))) : bZ ≠ g)); replace HI0 := aM (IsS90.below z67 hb); clear hb hbox hg; obtain ⟨gI, gD, eo113⟩ := Kd.R_slice ba.out; subst eo113; have hnb114 := dJ.out; have hnc114 := dK.out; have hnb115 := dI.out; have hnc115 := cT.out; have hnb116 := dr.out; have hnc116 := cJ.out; obtain ⟨hcz117_0, hfz117_0⟩ := cc1 cb.out) | ((with_reducible refine aK (f := 66) rfl ?_); refine aT (some 25) rfl rfl Try.func66 z1 rfl #[.pointer (some ⟨g, 0, none⟩), .int .i64 3] rfl z33 ?_; (with_reducible refine (spec_l1Cur_pick.calls g s0_0 x1001_1 x1002_1 3 iY ir iq w0 _ ?side1 ?side2 rE.out).mono ?_); (case side1 => exact y50); (case side2 => exact y46); rintro e w118 ⟨rfl, hi, hb, hk⟩; refine ⟨_, rfl, ?_⟩; replace ba := aM (ah (Kd.R_keep (IsS90.apart (show IsS90 w0 _ g s0_0 x1001_1 x1002_1 from by (try simp only [Int.add_zero]); repeat (first | (with_reducible first | exact HI0.out | apply IsS90.alloc | apply IsS90.drewN | apply IsS90.drew | apply IsS90.set_1 | apply IsS90.set_2 | refine IsS90.far ?_ bW.out _ | refine IsS90.far ?_ bV.out _ | refine IsS90.far ?_ cJ.out _) | exact HI0.out)) (by (with_reducible repeat (first | apply ae | apply ac | apply aa)); exact (ah (ap (p := ⟨bZ, 0, none⟩) (aq ba.out cb.out z0) (fun _ hk => hk.2) (.slice gI x319000_1.length gD)) (fun _ h_ => h_.1))) z0) hk (fun _ h => h.2)) (fun _ h => h.1)); replace bQ := aM (KeepBut.blk hk (g' := cm) (o := .cells #[.slice none 0 0] 30 (0, 0)) z48 db.out (by simp)); replace bz := aM (KeepBut.blk hk (g' := b8) (o := .cells #[.slice gI x319000_1.length gD] 30 (0, 0)) z49 cO.out (by simp)); replace cb := aM (KeepBut.blk hk (g' := bZ) (o := .cells #[.slice gI x319000_1.length gD] 30 (0, 0)) z64 dr.out (by simp)); replace HK := aM (KeepBut.trans z47 hk (.inl rfl)); replace HB := aM (hb); replace HI0 := aM (hi); (try clear hb); (try clear hk); (try clear hi); (try clear d7)))
       replace ba := aM (aa ba.out)
       replace bQ := aM (ar bQ.out)
       replace bz := aM (ar bz.out)
       replace cb := aM (ar cb.out)
       replace HI0 := aM (IsS90.drew HI0.out)
       replace HK := aM (keep_drew HK.out)
       replace HB := aM (bD HB.out)
       refine start_ (n := 12) (S := fun w' => w'.cell? ⟨b8, 0, none⟩ = some (.slice gI x319000_1.length gD)) (ds := []) #[false, false, false, false, false, false, false, false, false, false, false, false] z1 rfl rfl ((bC bz.out 0).trans rfl) (fun hHeld => ?_); refine with_tabW spec_l1Cur_rope.tab7 spec_l1Cur_rope.bits7 (fun HT_ HW_ => ?_)
       generalize w118.drew = w119 at ba bQ bz cb HI0 HK HB hHeld ⊢
       refine pA 1 28 ?_
       refine pA 2 29 ?_
       refine tA 0 27 ?_ (hy := by intro w' s0; go_simp; with_reducible rfl)
       refine tA 3 30 ?_ (hy := by intro w' s0; go_simp; with_reducible rfl)
       refine one_ (i := 4) (N := some 31) #[true, true, true, true, true, false, false, false, false, false, false, false] rfl rfl (one_of HT_.out z1) z0 (fun K hK => ?_)
       refine goes_ Try.func27 z1 rfl #[.slice gI x319000_1.length gD] (by rfl) rfl rfl z33 ?_
       with_reducible refine (spec_l12Text.calls k1 _ _ x319000_1 nw _ ?side1 ?side2 vP.out).mono ?_
       (case side1 => exact y36)
       (case side2 => exact (ai ba.out).2.1)
       rintro e w120 ⟨rfl, hb⟩
       refine ⟨_, rfl, ?_⟩
       replace ba := aM (ag z14 hb)
       replace bQ := aM (bK_ bQ.out hb)
       replace bz := aM (bK_ bz.out hb)
       replace cb := aM (bK_ cb.out hb)
       replace HK := aM (KeepBut.trans z47 (KeepBut.of_below hb g none) (.inl rfl))
       replace HB := aM (aA z63 hb)
       replace HI0 := aM (IsS90.below z69 hb)
       (try clear hb)
       skip
       skip
       skip
       refine hK.out _ _ ((bC bz.out 0).trans rfl) (fun hHeld => ?_)
       clear hK K
       refine norm_ (a' := ?_) ?_ ?_
       rotate_left
       ·show Act.put _ (some 31) _ = _
        simp only [Act.put, sA, sB, sC, i64_w, i32_w]
        rfl
       refine one_ (i := 5) (N := some 32) #[true, true, true, true, true, true, false, false, false, false, false, false] rfl rfl (one_of HT_.out z1) z0 (fun K hK => ?_)
       refine goes_ Try.func54 z1 rfl #[.pointer (some ⟨g, 0, none⟩), .string nw] (by rfl) rfl rfl z33 ?_
       with_reducible refine (spec_l1Cur_opOn.calls k1 g s0_0 ir iq nw pW rM rL w0 _ ?side1 ?side2 vO.out).mono ?_
       (case side1 => exact y50)
       (case side2 => exact y46)
       rintro e w121 ⟨v351, rfl, ho0, hi, hb, hk⟩
       refine ⟨_, rfl, ?_⟩
       replace ba := aM (ah (Kd.R_keep (IsS90.apart (show IsS90 w0 _ g s0_0 ir iq from by (try simp only [Int.add_zero]); repeat (first | (with_reducible first | exact HI0.out | apply IsS90.alloc | apply IsS90.drewN | apply IsS90.drew | apply IsS90.set_1 | apply IsS90.set_2 | refine IsS90.far ?_ bW.out _ | refine IsS90.far ?_ bV.out _ | refine IsS90.far ?_ cJ.out _) | exact HI0.out)) z14 z0) hk (fun _ h => h.2)) (fun _ h => h.1))
       replace bQ := aM (KeepBut.blk hk (g' := cm) (o := .cells #[.slice none 0 0] 30 (0, 0)) z20 db.out (by simp))
       replace bz := aM (KeepBut.blk hk (g' := b8) (o := .cells #[.slice gI x319000_1.length gD] 30 (0, 0)) z21 cO.out (by simp))
       replace cb := aM (KeepBut.blk hk (g' := bZ) (o := .cells #[.slice gI x319000_1.length gD] 30 (0, 0)) z22 dr.out (by simp))
       have ig := aM (aW ho0 (keep_size (w := w) (g := g) (row := none) z47))
       replace HK := aM (KeepBut.trans z47 hk (.inl rfl))
       replace HB := aM (hb)
       replace HI0 := aM (hi)
       (try clear hb)
       skip
       (try clear hk)
       (try clear hi)
       (try clear ho0)
       (try clear d7)
       obtain ⟨Ao122, co122, eo122⟩ := Kd.R_slice ig.out
       (first | subst eo122 | (injection eo122 with f1_ f2_ f3_; have f4_ := f1_.symm; have f5_ := f3_.symm; clear f1_ f2_ f3_; subst f4_; subst f5_))
       refine hK.out _ _ ((bC bz.out 0).trans rfl) (fun hHeld => ?_)
       clear hK K
       refine norm_ (a' := ?_) ?_ ?_
       rotate_left
       ·show Act.put _ (some 32) _ = _
        simp only [Act.put, sA, sB, sC, i64_w, i32_w]
        rfl
       refine one_ (i := 6) (N := some 33) #[true, true, true, true, true, true, true, false, false, false, false, false] rfl rfl (one_of HT_.out z1) z0 (fun K hK => ?_)
       refine goes_ Try.func7 z1 rfl #[.agg #[.slice gI x319000_1.length gD], .slice Ao122 pW.length co122] (by rfl) rfl rfl z33 ?_
       with_reducible refine (spec_EditRope.calls k1 _ _ x319000_1 _ _ pW ov true _ ?side1 ?side2 ?side3 ?side4 vN.out).mono ?_
       (case side1 => exact y36)
       (case side2 => exact (ai ba.out).2.1)
       (case side3 => exact y37)
       (case side4 => exact (ai ig.out).2.1)
       rintro e w123 ⟨v356, rfl, ho0, hb⟩
       refine ⟨_, rfl, ?_⟩
       replace ig := aM (ag (kR_ ig.out) hb)
       have pR := aM (aW (ak ho0 (am z14)) (keep_size (w := w) (g := g) (row := none) z47))
       replace ba := aM (aj z14 (al ho0) hb)
       replace bQ := aM (bK_ bQ.out hb)
       replace bz := aM (bK_ bz.out hb)
       replace cb := aM (bK_ cb.out hb)
       replace HK := aM (KeepBut.trans z47 (KeepBut.of_below hb g none) (.inl rfl))
       replace HB := aM (aA z63 hb)
       replace HI0 := aM (IsS90.below z69 hb)
       (try clear hb)
       skip
       skip
       skip
       (try clear ho0)
       obtain ⟨ru, qR, eo124⟩ := Kd.R_slice pR.out
       (first | subst eo124 | (injection eo124 with f1_ f2_ f3_; have f4_ := f1_.symm; have f5_ := f3_.symm; clear f1_ f2_ f3_; subst f4_; subst f5_))
       refine hK.out _ _ ((bC bz.out 0).trans rfl) (fun hHeld => ?_)
       clear hK K
       refine norm_ (a' := ?_) ?_ ?_
       rotate_left
       ·show Act.put _ (some 33) _ = _
        simp only [Act.put, sA, sB, sC, i64_w, i32_w]
        rfl
       refine pA 7 26 ?_
       refine pA 8 34 ?_
       refine pA 9 35 ?_
       refine one_ (i := 10) (N := none) #[true, true, true, true, true, true, true, true, true, true, true, false] rfl rfl (one_of HT_.out z1) z0 (fun K hK => ?_)
       obtain ⟨hs125, hfs125⟩ := cc1 cb.out
       have hns125_0 := dK.out
       have hns125_1 := cT.out
       have hms125_0 := dJ.out
       have hms125_1 := dI.out
       refine skip_ (w1 := ?_) (by rfl) rfl ?_ ?_
       rotate_left
       ·go_simp
        rfl
       refine hK.out _ _ (((cell_far (p := ⟨bZ, _, none⟩) cT.out _).trans (hHeld))) (fun hHeld => ?_)
       clear hK K
       refine pA 11 7 ?_
       refine done_ (done_of HT_.out z1) ?_
       obtain ⟨hcz126_0, hfz126_0⟩ := cc1 cb.out
       obtain ⟨hcz127_0, hfz127_0⟩ := cc1 bz.out
       try go_wp2
       go_roundg k1
       case measure => have := HK1.out; omega
       case rel => exact ⟨(wrap64 (x5_1 - 1)), (rM), (rL), (ov), (.slice ru ov.length qR), z2, H', ⟨y0⟩, ⟨by (with_reducible repeat (first | apply ae | apply ac | apply aa)); exact ah (ap (p := ⟨b8, 0, none⟩) (ap (p := ⟨bZ, 0, none⟩) (aq (aq pR.out cb.out z0) bz.out z0) (fun _ hk => hk.1.2) (.slice ru ov.length qR)) (fun _ hk => hk.2) (.slice ru ov.length qR)) (fun _ hk => trivial)⟩, ⟨y32⟩, ⟨by (with_reducible repeat (first | refine au ?_ _ | refine ar ?_ | refine av ?_ _)); refine ax (cs := #[.slice gI x319000_1.length gD]) ?_ 0 _ rfl; (with_reducible repeat (first | refine au ?_ _ | refine ar ?_ | refine av ?_ _)); refine aw ?_ cT.out _; (with_reducible repeat (first | refine au ?_ _ | refine ar ?_ | refine av ?_ _)); exact bz.out⟩, ⟨y30⟩, ⟨y25⟩, ⟨y24⟩⟩
      ·replace qX := Bool.eq_false_iff.mpr qX
       subst qX
       rw [if_neg nF_] at H
       have H' := aM H
       clear H
       have hnb128 := ea.out
       have hnc128 := dX.out
       have hnb129 := cO.out
       have hnc129 := bV.out
       obtain ⟨hcz130_0, hfz130_0⟩ := cc1 bz.out
       try go_wp2_with (first | ((with_reducible refine aN (N := 6) rfl ?_); refine aQ ?hg (N := 6) ?hd (cs := #[.slice none 0 0]) (t := 30) ?hr ?_; (case hd => rfl); (case hg => rfl); (case hr => first | (go_simp; done) | (go_simp; rfl)); intro bZ hg w131 hbox hb; replace ba := aM (ag z14 hb); replace HB := aM (aA (by repeat (first | (with_reducible first | exact HB.out | apply bA | apply pD | apply bD | refine az ?_ (IsS90.ge HI0.out) | refine az ?_ dx.out | refine az ?_ dZ.out) | exact HB.out)) hb); have cb := aM (hbox); have iM := aM ((by rw [hg]; exact (keep_size (w := w) (g := g) (row := none) z44) : w.heap.size ≤ bZ)); have fX := aM ((Nat.le_trans HW0.out (by rw [hg]; exact (keep_size (w := w) (g := g) (row := none) z44) : w.heap.size ≤ bZ) : w0.heap.size ≤ bZ)); replace HK := aM (KeepBut.trans z44 (KeepBut.of_below hb g none) (.inl rfl)); have dK := aM ((by rw [hg]; exact aD (ay (g := cm) (o := .cells #[.slice none 0 0] 30 (0, 0)) z20) : cm ≠ bZ)); have dJ := aM ((by rw [hg]; exact aE (ay (g := cm) (o := .cells #[.slice none 0 0] 30 (0, 0)) z20) : bZ ≠ cm)); replace bQ := aM (bK_ bQ.out hb); have cT := aM ((by rw [hg]; exact aD (ay (g := b8) (o := .cells #[u319000] 30 (0, 0)) z21) : b8 ≠ bZ)); have dI := aM ((by rw [hg]; exact aE (ay (g := b8) (o := .cells #[u319000] 30 (0, 0)) z21) : bZ ≠ b8)); replace bz := aM (bK_ bz.out hb); have cJ := aM ((by rw [hg]; exact aD (IsS90.lt (show IsS90 w0 _ g s0_0 x1001_1 x1002_1 from by (try simp only [Int.add_zero]); repeat (first | (with_reducible first | exact HI0.out | apply IsS90.alloc | apply IsS90.drewN | apply IsS90.drew | apply IsS90.set_1 | apply IsS90.set_2 | refine IsS90.far ?_ bW.out _ | refine IsS90.far ?_ bV.out _) | exact HI0.out))) : g ≠ bZ)); have dr := aM ((by rw [hg]; exact aE (IsS90.lt (show IsS90 w0 _ g s0_0 x1001_1 x1002_1 from by (try simp only [Int.add_zero]); repeat (first | (with_reducible first | exact HI0.out | apply IsS90.alloc | apply IsS90.drewN | apply IsS90.drew | apply IsS90.set_1 | apply IsS90.set_2 | refine IsS90.far ?_ bW.out _ | refine IsS90.far ?_ bV.out _) | exact HI0.out))) : bZ ≠ g)); replace HI0 := aM (IsS90.below z67 hb); clear hb hbox hg; obtain ⟨g6, gV, eo132⟩ := Kd.R_slice ba.out; subst eo132; have hnb133 := dJ.out; have hnc133 := dK.out; have hnb134 := dI.out; have hnc134 := cT.out; have hnb135 := dr.out; have hnc135 := cJ.out; obtain ⟨hcz136_0, hfz136_0⟩ := cc1 cb.out) | ((with_reducible refine aK (f := 66) rfl ?_); refine aT (some 25) rfl rfl Try.func66 z1 rfl #[.pointer (some ⟨g, 0, none⟩), .int .i64 3] rfl z33 ?_; (with_reducible refine (spec_l1Cur_pick.calls g s0_0 x1001_1 x1002_1 3 iY ir iq w0 _ ?side1 ?side2 rE.out).mono ?_); (case side1 => exact y50); (case side2 => exact y46); rintro e w137 ⟨rfl, hi, hb, hk⟩; refine ⟨_, rfl, ?_⟩; replace ba := aM (ah (Kd.R_keep (IsS90.apart (show IsS90 w0 _ g s0_0 x1001_1 x1002_1 from by (try simp only [Int.add_zero]); repeat (first | (with_reducible first | exact HI0.out | apply IsS90.alloc | apply IsS90.drewN | apply IsS90.drew | apply IsS90.set_1 | apply IsS90.set_2 | refine IsS90.far ?_ bW.out _ | refine IsS90.far ?_ bV.out _ | refine IsS90.far ?_ cJ.out _) | exact HI0.out)) (by (with_reducible repeat (first | apply ae | apply ac | apply aa)); exact (ah (ap (p := ⟨bZ, 0, none⟩) (aq ba.out cb.out z0) (fun _ hk => hk.2) (.slice g6 x319000_1.length gV)) (fun _ h_ => h_.1))) z0) hk (fun _ h => h.2)) (fun _ h => h.1)); replace bQ := aM (KeepBut.blk hk (g' := cm) (o := .cells #[.slice none 0 0] 30 (0, 0)) z48 db.out (by simp)); replace bz := aM (KeepBut.blk hk (g' := b8) (o := .cells #[.slice g6 x319000_1.length gV] 30 (0, 0)) z49 cO.out (by simp)); replace cb := aM (KeepBut.blk hk (g' := bZ) (o := .cells #[.slice g6 x319000_1.length gV] 30 (0, 0)) z64 dr.out (by simp)); replace HK := aM (KeepBut.trans z47 hk (.inl rfl)); replace HB := aM (hb); replace HI0 := aM (hi); (try clear hb); (try clear hk); (try clear hi); (try clear d7)))
       replace ba := aM (aa ba.out)
       replace bQ := aM (ar bQ.out)
       replace bz := aM (ar bz.out)
       replace cb := aM (ar cb.out)
       replace HI0 := aM (IsS90.drew HI0.out)
       replace HK := aM (keep_drew HK.out)
       replace HB := aM (bD HB.out)
       refine start_ (n := 12) (S := fun w' => w'.cell? ⟨b8, 0, none⟩ = some (.slice g6 x319000_1.length gV)) (ds := []) #[false, false, false, false, false, false, false, false, false, false, false, false] z1 rfl rfl ((bC bz.out 0).trans rfl) (fun hHeld => ?_); refine with_tabW spec_l1Cur_rope.tab7 spec_l1Cur_rope.bits7 (fun HT_ HW_ => ?_)
       generalize w137.drew = w138 at ba bQ bz cb HI0 HK HB hHeld ⊢
       refine pA 1 28 ?_
       refine pA 2 29 ?_
       refine tA 0 27 ?_ (hy := by intro w' s0; go_simp; with_reducible rfl)
       refine tA 3 30 ?_ (hy := by intro w' s0; go_simp; with_reducible rfl)
       refine one_ (i := 4) (N := some 31) #[true, true, true, true, true, false, false, false, false, false, false, false] rfl rfl (one_of HT_.out z1) z0 (fun K hK => ?_)
       refine goes_ Try.func27 z1 rfl #[.slice g6 x319000_1.length gV] (by rfl) rfl rfl z33 ?_
       with_reducible refine (spec_l12Text.calls k1 _ _ x319000_1 nw _ ?side1 ?side2 vP.out).mono ?_
       (case side1 => exact y36)
       (case side2 => exact (ai ba.out).2.1)
       rintro e w139 ⟨rfl, hb⟩
       refine ⟨_, rfl, ?_⟩
       replace ba := aM (ag z14 hb)
       replace bQ := aM (bK_ bQ.out hb)
       replace bz := aM (bK_ bz.out hb)
       replace cb := aM (bK_ cb.out hb)
       replace HK := aM (KeepBut.trans z47 (KeepBut.of_below hb g none) (.inl rfl))
       replace HB := aM (aA z63 hb)
       replace HI0 := aM (IsS90.below z69 hb)
       (try clear hb)
       skip
       skip
       skip
       refine hK.out _ _ ((bC bz.out 0).trans rfl) (fun hHeld => ?_)
       clear hK K
       refine norm_ (a' := ?_) ?_ ?_
       rotate_left
       ·show Act.put _ (some 31) _ = _
        simp only [Act.put, sA, sB, sC, i64_w, i32_w]
        rfl
       refine one_ (i := 5) (N := some 32) #[true, true, true, true, true, true, false, false, false, false, false, false] rfl rfl (one_of HT_.out z1) z0 (fun K hK => ?_)
       refine goes_ Try.func54 z1 rfl #[.pointer (some ⟨g, 0, none⟩), .string nw] (by rfl) rfl rfl z33 ?_
       with_reducible refine (spec_l1Cur_opOn.calls k1 g s0_0 ir iq nw pW rM rL w0 _ ?side1 ?side2 vO.out).mono ?_
       (case side1 => exact y50)
       (case side2 => exact y46)
       rintro e w140 ⟨v351, rfl, ho0, hi, hb, hk⟩
       refine ⟨_, rfl, ?_⟩
       replace ba := aM (ah (Kd.R_keep (IsS90.apart (show IsS90 w0 _ g s0_0 ir iq from by (try simp only [Int.add_zero]); repeat (first | (with_reducible first | exact HI0.out | apply IsS90.alloc | apply IsS90.drewN | apply IsS90.drew | apply IsS90.set_1 | apply IsS90.set_2 | refine IsS90.far ?_ bW.out _ | refine IsS90.far ?_ bV.out _ | refine IsS90.far ?_ cJ.out _) | exact HI0.out)) z14 z0) hk (fun _ h => h.2)) (fun _ h => h.1))
       replace bQ := aM (KeepBut.blk hk (g' := cm) (o := .cells #[.slice none 0 0] 30 (0, 0)) z20 db.out (by simp))
       replace bz := aM (KeepBut.blk hk (g' := b8) (o := .cells #[.slice g6 x319000_1.length gV] 30 (0, 0)) z21 cO.out (by simp))
       replace cb := aM (KeepBut.blk hk (g' := bZ) (o := .cells #[.slice g6 x319000_1.length gV] 30 (0, 0)) z22 dr.out (by simp))
       have ig := aM (aW ho0 (keep_size (w := w) (g := g) (row := none) z47))
       replace HK := aM (KeepBut.trans z47 hk (.inl rfl))
       replace HB := aM (hb)
       replace HI0 := aM (hi)
       (try clear hb)
       skip
       (try clear hk)
       (try clear hi)
       (try clear ho0)
       (try clear d7)
       obtain ⟨Ao141, co141, eo141⟩ := Kd.R_slice ig.out
       (first | subst eo141 | (injection eo141 with f1_ f2_ f3_; have f4_ := f1_.symm; have f5_ := f3_.symm; clear f1_ f2_ f3_; subst f4_; subst f5_))
       refine hK.out _ _ ((bC bz.out 0).trans rfl) (fun hHeld => ?_)
       clear hK K
       refine norm_ (a' := ?_) ?_ ?_
       rotate_left
       ·show Act.put _ (some 32) _ = _
        simp only [Act.put, sA, sB, sC, i64_w, i32_w]
        rfl
       refine one_ (i := 6) (N := some 33) #[true, true, true, true, true, true, true, false, false, false, false, false] rfl rfl (one_of HT_.out z1) z0 (fun K hK => ?_)
       refine goes_ Try.func7 z1 rfl #[.agg #[.slice g6 x319000_1.length gV], .slice Ao141 pW.length co141] (by rfl) rfl rfl z33 ?_
       with_reducible refine (spec_EditRope.calls k1 _ _ x319000_1 _ _ pW ov false _ ?side1 ?side2 ?side3 ?side4 vN.out).mono ?_
       (case side1 => exact y36)
       (case side2 => exact (ai ba.out).2.1)
       (case side3 => exact y37)
       (case side4 => exact (ai ig.out).2.1)
       rintro e w142 ⟨v356, rfl, ho0, hb⟩
       refine ⟨_, rfl, ?_⟩
       replace ig := aM (ag (kR_ ig.out) hb)
       have pR := aM (aW (ak ho0 (am z14)) (keep_size (w := w) (g := g) (row := none) z47))
       replace ba := aM (aj z14 (al ho0) hb)
       replace bQ := aM (bK_ bQ.out hb)
       replace bz := aM (bK_ bz.out hb)
       replace cb := aM (bK_ cb.out hb)
       replace HK := aM (KeepBut.trans z47 (KeepBut.of_below hb g none) (.inl rfl))
       replace HB := aM (aA z63 hb)
       replace HI0 := aM (IsS90.below z69 hb)
       (try clear hb)
       skip
       skip
       skip
       (try clear ho0)
       obtain ⟨Ao143, co143, eo143⟩ := Kd.R_slice pR.out
       (first | subst eo143 | (injection eo143 with f1_ f2_ f3_; have f4_ := f1_.symm; have f5_ := f3_.symm; clear f1_ f2_ f3_; subst f4_; subst f5_))
       refine hK.out _ _ ((bC bz.out 0).trans rfl) (fun hHeld => ?_)
       clear hK K
       refine norm_ (a' := ?_) ?_ ?_
       rotate_left
       ·show Act.put _ (some 33) _ = _
        simp only [Act.put, sA, sB, sC, i64_w, i32_w]
        rfl
       refine pA 7 26 ?_
       refine pA 8 34 ?_
       refine pA 9 35 ?_
       refine one_ (i := 10) (N := none) #[true, true, true, true, true, true, true, true, true, true, true, false] rfl rfl (one_of HT_.out z1) z0 (fun K hK => ?_)
       obtain ⟨hs144, hfs144⟩ := cc1 cb.out
       have hns144_0 := dK.out
       have hns144_1 := cT.out
       have hms144_0 := dJ.out
       have hms144_1 := dI.out
       refine skip_ (w1 := ?_) (by rfl) rfl ?_ ?_
       rotate_left
       ·go_simp
        rfl
       refine hK.out _ _ (((cell_far (p := ⟨bZ, _, none⟩) cT.out _).trans (hHeld))) (fun hHeld => ?_)
       clear hK K
       refine pA 11 7 ?_
       refine done_ (done_of HT_.out z1) ?_
       try go_wp2
       go_roundg k1
       case measure => have := HK1.out; omega
       case rel => exact ⟨(wrap64 (x5_1 - 1)), (rM), (rL), (x319000_1), (.slice g6 x319000_1.length gV), z2, H', ⟨y0⟩, ⟨by (with_reducible repeat (first | apply ae | apply ac | apply aa)); exact ah (ap (p := ⟨bZ, 0, none⟩) (aq ba.out cb.out z0) (fun _ hk => hk.2) (.slice Ao143 ov.length co143)) (fun _ hk => trivial)⟩, ⟨y26⟩, ⟨y27⟩, ⟨y30⟩, ⟨y25⟩, ⟨y24⟩⟩
   ·rw [if_neg gF] at H
    have c14b0 : decide (0 < x5_1) = false := dF gF
    clear gF
    have rk := aM H
    clear H
    go_upto_region 15 with (fail)
    go_cut [73] (fun v73 wc => ∃ (kq : Nat) (x73_144 : Bool) (x1001_144 : Int) (x1002_144 : Int), v73 = .bool x73_144 ∧ Aside0 (spec_l1Cur_rope.j1 kq x73_144 s0_0 x1001_144 x1002_144 x319000_1 = some (r1, r2, r3)) ∧ Aside0 (kq ≤ k1) ∧ Aside0 (Kd.R k101 101 wc w.heap.size (fun _ => True) u319000 x319000_1) ∧ Aside0 (wc.heap[cm]? = some (.cells #[(.slice none 0 0)] 30 (0, 0))) ∧ Aside0 (wc.heap[b8]? = some (.cells #[u319000] 30 (0, 0))) ∧ Aside0 (IsS90 w0 wc g s0_0 x1001_144 x1002_144) ∧ Aside0 (KeepBut w wc g none) ∧ Aside0 (Below w0.heap.size w0 wc))
    case first =>
     have H := rk.out
     clear rk
     by_cases nJ : (x319000_1.length : Int) > 0
     ·rw [if_pos nJ] at H
      have c146b0 : decide (0 < (x319000_1.length : Int)) = true := dT nJ
      have c146b1 : decide (0 < x319000_1.length) = true := dT (by omega)
      clear nJ
      (first | rw [c146b0] | (simp only [i64_w, i32_w]; rw [c146b0]) | skip)
      obtain ⟨⟨uB, uA, uz⟩, A147, H⟩ := oA_ H
      try dsimp only at H
      have H' := aM H
      clear H
      have hnb148 := ea.out
      have hnc148 := dX.out
      have hnb149 := cO.out
      have hnc149 := bV.out
      obtain ⟨hcz150_0, hfz150_0⟩ := cc1 bz.out
      obtain ⟨Ao151, co151, eo151⟩ := Kd.R_slice ba.out
      subst eo151
      go_wp2_with (first | (go_at_call 52; (with_reducible refine (spec_l1Cur_one.calls g s0_0 x1001_1 x1002_1 20 uB uA uz w0 _ ?side1 ?side2 A147.out).mono ?_); (case side1 => exact y47); (case side2 => exact y43); rintro e w152 ⟨rfl, hi, hb, hk⟩; replace ba := aM (ah (Kd.R_keep (IsS90.apart (show IsS90 w0 _ g s0_0 x1001_1 x1002_1 from by (try simp only [Int.add_zero]); repeat (first | (with_reducible first | exact HI0.out | apply IsS90.alloc | apply IsS90.drewN | apply IsS90.drew | apply IsS90.set_1 | apply IsS90.set_2 | refine IsS90.far ?_ bW.out _ | refine IsS90.far ?_ bV.out _) | exact HI0.out)) z14 z0) hk (fun _ h => h.2)) (fun _ h => h.1)); replace bQ := aM (KeepBut.blk hk (g' := cm) (o := .cells #[.slice none 0 0] 30 (0, 0)) z20 db.out (by simp)); replace bz := aM (KeepBut.blk hk (g' := b8) (o := .cells #[.slice Ao151 x319000_1.length co151] 30 (0, 0)) z21 cO.out (by simp)); replace HK := aM (KeepBut.trans z44 hk (.inl rfl)); replace HB := aM (hb); replace HI0 := aM (hi); (try clear hb); (try clear hk); (try clear hi); (try clear d7)))
      go_meet
      case rel => exact ⟨_, (uB), (uA), (uz), z2, H', ⟨y2⟩, ⟨kR_ ba.out⟩, ⟨kB_ bQ.out⟩, ⟨kB_ bz.out⟩, ⟨y29⟩, ⟨y23⟩, ⟨y20⟩⟩
     ·rw [if_neg nJ] at H
      have c146b0 : decide (0 < (x319000_1.length : Int)) = false := dF nJ
      have c146b1 : decide (0 < x319000_1.length) = false := dF (by omega)
      clear nJ
      (first | rw [c146b0] | (simp only [i64_w, i32_w]; rw [c146b0]) | skip)
      have H' := aM H
      clear H
      have hnb153 := ea.out
      have hnc153 := dX.out
      have hnb154 := cO.out
      have hnc154 := bV.out
      obtain ⟨hcz155_0, hfz155_0⟩ := cc1 bz.out
      obtain ⟨Ao156, co156, eo156⟩ := Kd.R_slice ba.out
      subst eo156
      go_wp2
      go_meet
      case rel => exact ⟨_, (false), (x1001_1), (x1002_1), z2, H', ⟨y2⟩, ⟨kR_ ba.out⟩, ⟨kB_ bQ.out⟩, ⟨kB_ bz.out⟩, ⟨y29⟩, ⟨y23⟩, ⟨y20⟩⟩
    case rest =>
     clear rk
     try clear c1
     try clear p2
     try clear c5
     try clear c6
     try clear fo
     try clear fY
     try clear gF
     try clear c14b0
     obtain ⟨kq, x73_144, x1001_144, x1002_144, rfl, HA, HJ144, ba, bQ, bz, HI0, HK, HB⟩ := hcut
     cases kq with
     | zero => exact absurd HA.out (by simp [spec_l1Cur_rope.j1])
     | succ kj144 =>
      have H := HA.out
      clear HA
      simp only [spec_l1Cur_rope.j1] at H
      by_cases qW : x73_144 = true
      ·subst qW
       rw [if_pos rfl] at H
       obtain ⟨⟨b9, mw, mv⟩, tZ, H⟩ := oA_ H
       try dsimp only at H
       obtain ⟨⟨jS, nv, nu⟩, tY, H⟩ := oA_ H
       try dsimp only at H
       by_cases oG : jS = 0
       ·rw [if_pos oG] at H
        have c160b0 : (jS == 0) = true := qT oG
        have c160b1 : (jS != 0) = false := nF oG
        clear oG
        by_cases qV : 0 ≤ b9
        ·rw [if_pos qV] at H
         have c161b0 : decide (0 ≤ b9) = true := dT qV
         clear qV
         by_cases qU : b9 < (x319000_1.length : Int)
         ·rw [if_pos qU] at H
          have c162b0 : decide (b9 < (x319000_1.length : Int)) = true := dT qU
          clear qU
          obtain ⟨⟨kd, tl, tk⟩, A163, H⟩ := oA_ H
          try dsimp only at H
          obtain ⟨y372, hy372⟩ : ∃ y_ : List (S101), y_ = (x319000_1.set (b9 : Int).toNat (⟨(rd_T101 x319000_1 b9).f0, (rd_T101 x319000_1 b9).f1, (rd_T101 x319000_1 b9).f2, wrap64 (((rd_T101 x319000_1 b9).f3) + (wrap64 (kd - 1))), (rd_T101 x319000_1 b9).f4⟩ : S101)) := ⟨_, rfl⟩
          replace H : (some (y372, tl, tk)) = some (r1, r2, r3) := by first | (rw [hy372]; with_reducible exact H) | (have H2_ := (Option.bind_some _ _).symm.trans H; rw [hy372]; with_reducible exact H2_) | (have H2_ := (Option.bind_some _ _).symm.trans H; with_reducible exact H2_) | with_reducible exact H | (rw [hy372]; exact H) | exact H
          have Ny372 := aM hy372
          clear hy372
          simp only [Option.some.injEq, Prod.mk.injEq] at H
          obtain ⟨rfl, rfl, rfl⟩ := H
          have hnb165 := ea.out
          have hnc165 := dX.out
          have hnb166 := cO.out
          have hnc166 := bV.out
          obtain ⟨hcz167_0, hfz167_0⟩ := cc1 bz.out
          obtain ⟨sP, jB, eo168⟩ := Kd.R_slice ba.out
          subst eo168
          try go_wp2_with (first | ((with_reducible refine aK (f := 66) rfl ?_); refine aT (some 78) rfl rfl Try.func66 z1 rfl #[.pointer (some ⟨g, 0, none⟩), .int .i64 (x319000_1.length : Int)] rfl z33 ?_; (with_reducible refine (spec_l1Cur_pick.calls g s0_0 x1001_144 x1002_144 (x319000_1.length : Int) b9 mw mv w0 _ ?side1 ?side2 tZ.out).mono ?_); (case side1 => exact y47); (case side2 => exact y43); rintro e w169 ⟨rfl, hi, hb, hk⟩; refine ⟨_, rfl, ?_⟩; replace ba := aM (ah (Kd.R_keep (IsS90.apart (show IsS90 w0 _ g s0_0 x1001_144 x1002_144 from by (try simp only [Int.add_zero]); repeat (first | (with_reducible first | exact HI0.out | apply IsS90.alloc | apply IsS90.drewN | apply IsS90.drew | apply IsS90.set_1 | apply IsS90.set_2 | refine IsS90.far ?_ bW.out _ | refine IsS90.far ?_ bV.out _) | exact HI0.out)) z14 z0) hk (fun _ h => h.2)) (fun _ h => h.1)); replace bQ := aM (KeepBut.blk hk (g' := cm) (o := .cells #[.slice none 0 0] 30 (0, 0)) z20 db.out (by simp)); replace bz := aM (KeepBut.blk hk (g' := b8) (o := .cells #[.slice sP x319000_1.length jB] 30 (0, 0)) z21 cO.out (by simp)); replace HK := aM (KeepBut.trans z44 hk (.inl rfl)); replace HB := aM (hb); replace HI0 := aM (hi); (try clear hb); (try clear hk); (try clear hi); (try clear d7)) | ((with_reducible refine aK (f := 66) rfl ?_); refine aT (some 80) rfl rfl Try.func66 z1 rfl #[.pointer (some ⟨g, 0, none⟩), .int .i64 3] rfl z33 ?_; (with_reducible refine (spec_l1Cur_pick.calls g s0_0 mw mv 3 jS nv nu w0 _ ?side1 ?side2 tY.out).mono ?_); (case side1 => exact y47); (case side2 => exact y43); rintro e w170 ⟨rfl, hi, hb, hk⟩; refine ⟨_, rfl, ?_⟩; replace ba := aM (ah (Kd.R_keep (IsS90.apart (show IsS90 w0 _ g s0_0 mw mv from by (try simp only [Int.add_zero]); repeat (first | (with_reducible first | exact HI0.out | apply IsS90.alloc | apply IsS90.drewN | apply IsS90.drew | apply IsS90.set_1 | apply IsS90.set_2 | refine IsS90.far ?_ bW.out _ | refine IsS90.far ?_ bV.out _) | exact HI0.out)) z14 z0) hk (fun _ h => h.2)) (fun _ h => h.1)); replace bQ := aM (KeepBut.blk hk (g' := cm) (o := .cells #[.slice none 0 0] 30 (0, 0)) z20 db.out (by simp)); replace bz := aM (KeepBut.blk hk (g' := b8) (o := .cells #[.slice sP x319000_1.length jB] 30 (0, 0)) z21 cO.out (by simp)); replace HK := aM (KeepBut.trans z44 hk (.inl rfl)); replace HB := aM (hb); replace HI0 := aM (hi); (try clear hb); (try clear hk); (try clear hi); (try clear d7)))
          replace ba := aM (aa ba.out)
          replace bQ := aM (ar bQ.out)
          replace bz := aM (ar bz.out)
          replace HI0 := aM (IsS90.drew HI0.out)
          replace HK := aM (keep_drew HK.out)
          replace HB := aM (bD HB.out)
          have p368 : 0 ≤ (b9 : Int) := oD z3
          have q368 : b9 < (x319000_1.length : Int) := oD z3
          obtain ⟨ad368, e368, hx368_0, hx368_1, hx368_2, hx368_3, hx368_4⟩ := at_T101 (ai ba.out).2.2 b9 p368 q368
          cases e368
          replace p368 := eq_true p368
          replace q368 := eq_true q368
          refine start_ (n := 13) (S := fun w' => w'.cell? ⟨b8, 0, none⟩ = some (.slice (some ad368) x319000_1.length jB) ∧ w'.cell? (ad368.add ((b9).toNat * 5)) = some (.int .i64 ((rd_T101 x319000_1 b9).f0)) ∧ w'.cell? ⟨(ad368.add ((b9).toNat * 5)).block, (ad368.add ((b9).toNat * 5)).off + 1, none⟩ = some (.int .i64 ((rd_T101 x319000_1 b9).f1)) ∧ w'.cell? ⟨(ad368.add ((b9).toNat * 5)).block, (ad368.add ((b9).toNat * 5)).off + 2, none⟩ = some (.string ((rd_T101 x319000_1 b9).f2)) ∧ w'.cell? ⟨(ad368.add ((b9).toNat * 5)).block, (ad368.add ((b9).toNat * 5)).off + 3, none⟩ = some (.int .i64 ((rd_T101 x319000_1 b9).f3)) ∧ w'.cell? ⟨(ad368.add ((b9).toNat * 5)).block, (ad368.add ((b9).toNat * 5)).off + 4, none⟩ = some (.int .i64 ((rd_T101 x319000_1 b9).f4))) (ds := [12]) #[false, false, false, false, false, false, false, false, false, false, false, false, false] z1 rfl rfl ⟨(bC bz.out 0).trans rfl, hx368_0, hx368_1, hx368_2, hx368_3, hx368_4⟩ (fun hHeld => ?_); refine with_tabW spec_l1Cur_rope.tab20 spec_l1Cur_rope.bits20 (fun HT_ HW_ => ?_)
          (first | generalize w170.drew = w171 at ba bQ bz HI0 HK HB hx368_0 hx368_1 hx368_2 hx368_3 hx368_4 hHeld ⊢ | generalize w170.drew = w171 at ba bQ bz HI0 HK HB hHeld ⊢)
          refine pA 0 92 ?_
          refine pA 2 94 ?_
          refine pA 6 98 ?_
          refine t6_ 1 93 ?_
          refine pA 3 95 ?_
          refine pA 4 96 ?_
          refine t6_ 5 97 ?_
          refine one_ (i := 7) (N := some 99) #[true, true, true, true, true, true, true, true, false, false, false, false, false] rfl rfl (one_of HT_.out z1) z0 (fun K hK => ?_)
          refine goes_ Try.func66 z1 rfl #[.pointer (some ⟨g, 0, none⟩), .int .i64 3] (by rfl) rfl rfl z33 ?_
          with_reducible refine (spec_l1Cur_pick.calls g s0_0 nv nu 3 kd tl tk w0 _ ?side1 ?side2 A163.out).mono ?_
          (case side1 => exact y47)
          (case side2 => exact y43)
          rintro e w172 ⟨rfl, hi, hb, hk⟩
          have HS1_ := keep_cell hk (hHeld.2.1) (by first | (rw [add_block]; exact Kd.own_blk (IsS90.own_ne HI0.out ba.out z0)) | (show (Addr.add _ _).block ≠ _; rw [add_block]; exact Kd.own_blk (IsS90.own_ne HI0.out ba.out z0)) | exact Kd.own_blk (IsS90.own_ne HI0.out ba.out z0))
          have HS2_ := keep_cell hk (hHeld.2.2.1) (by first | (rw [add_block]; exact Kd.own_blk (IsS90.own_ne HI0.out ba.out z0)) | (show (Addr.add _ _).block ≠ _; rw [add_block]; exact Kd.own_blk (IsS90.own_ne HI0.out ba.out z0)) | exact Kd.own_blk (IsS90.own_ne HI0.out ba.out z0))
          have HS3_ := keep_cell hk (hHeld.2.2.2.1) (by first | (rw [add_block]; exact Kd.own_blk (IsS90.own_ne HI0.out ba.out z0)) | (show (Addr.add _ _).block ≠ _; rw [add_block]; exact Kd.own_blk (IsS90.own_ne HI0.out ba.out z0)) | exact Kd.own_blk (IsS90.own_ne HI0.out ba.out z0))
          have HS4_ := keep_cell hk (hHeld.2.2.2.2.1) (by first | (rw [add_block]; exact Kd.own_blk (IsS90.own_ne HI0.out ba.out z0)) | (show (Addr.add _ _).block ≠ _; rw [add_block]; exact Kd.own_blk (IsS90.own_ne HI0.out ba.out z0)) | exact Kd.own_blk (IsS90.own_ne HI0.out ba.out z0))
          have HS5_ := keep_cell hk (hHeld.2.2.2.2.2) (by first | (rw [add_block]; exact Kd.own_blk (IsS90.own_ne HI0.out ba.out z0)) | (show (Addr.add _ _).block ≠ _; rw [add_block]; exact Kd.own_blk (IsS90.own_ne HI0.out ba.out z0)) | exact Kd.own_blk (IsS90.own_ne HI0.out ba.out z0))
          refine ⟨_, rfl, ?_⟩
          replace ba := aM (ah (Kd.R_keep (IsS90.apart (show IsS90 w0 _ g s0_0 nv nu from by (try simp only [Int.add_zero]); repeat (first | (with_reducible first | exact HI0.out | apply IsS90.alloc | apply IsS90.drewN | apply IsS90.drew | apply IsS90.set_1 | apply IsS90.set_2 | refine IsS90.far ?_ bW.out _ | refine IsS90.far ?_ bV.out _) | exact HI0.out)) z14 z0) hk (fun _ h => h.2)) (fun _ h => h.1))
          replace bQ := aM (KeepBut.blk hk (g' := cm) (o := .cells #[.slice none 0 0] 30 (0, 0)) z20 db.out (by simp))
          replace bz := aM (KeepBut.blk hk (g' := b8) (o := .cells #[.slice (some ad368) x319000_1.length jB] 30 (0, 0)) z21 cO.out (by simp))
          replace HK := aM (KeepBut.trans z44 hk (.inl rfl))
          replace HB := aM (hb)
          replace HI0 := aM (hi)
          (try clear hb)
          skip
          (try clear hk)
          (try clear hi)
          (try clear d7)
          have p164 : 0 ≤ (b9 : Int) := oD z3
          have q164 : (b9 : Int) < ((x319000_1.length : Int) : Int) := oD z3
          obtain ⟨go164, co164, eo164, se, gl164, cl164, HG164⟩ := Kd.R_form ba.out (by omega)
          (first | cases eo164 | (injection eo164 with ea_ en_ ec_; (first | subst ea_ | (injection ea_ with ea_; subst ea_)); subst ec_; clear en_))
          have GB164 := aM se
          have GG164 := aM HG164
          clear se gl164 HG164
          (first | simp only [add_plain] at hx368_0 | skip)
          (first | simp only [add_plain] at hx368_1 | skip)
          (first | simp only [add_plain] at hx368_2 | skip)
          (first | simp only [add_plain] at hx368_3 | skip)
          (first | simp only [add_plain] at hx368_4 | skip)
          obtain ⟨ce164, hcl164, hM164, hcc164, hfr164⟩ := Kd.R_elem ba.out z101 (b9 : Int) p164 q164
          obtain rfl := k101_openM hM164
          have hx164_0 : World.cell? _ ⟨go164, (b9 : Int).toNat * 5, none⟩ = some (.int .i64 ((rd_T101 x319000_1 b9).f0)) := hcc164 0 _ rfl
          have hx164_1 : World.cell? _ ⟨go164, (b9 : Int).toNat * 5 + 1, none⟩ = some (.int .i64 ((rd_T101 x319000_1 b9).f1)) := hcc164 1 _ rfl
          have hx164_2 : World.cell? _ ⟨go164, (b9 : Int).toNat * 5 + 2, none⟩ = some (.string ((rd_T101 x319000_1 b9).f2)) := hcc164 2 _ rfl
          have hx164_3 : World.cell? _ ⟨go164, (b9 : Int).toNat * 5 + 3, none⟩ = some (.int .i64 ((rd_T101 x319000_1 b9).f3)) := hcc164 3 _ rfl
          have hx164_4 : World.cell? _ ⟨go164, (b9 : Int).toNat * 5 + 4, none⟩ = some (.int .i64 ((rd_T101 x319000_1 b9).f4)) := hcc164 4 _ rfl
          have hf164_0 : World.frozen? _ ⟨go164, (b9 : Int).toNat * 5, none⟩ = false := hfr164 0
          have hf164_1 : World.frozen? _ ⟨go164, (b9 : Int).toNat * 5 + 1, none⟩ = false := hfr164 1
          have hf164_2 : World.frozen? _ ⟨go164, (b9 : Int).toNat * 5 + 2, none⟩ = false := hfr164 2
          have hf164_3 : World.frozen? _ ⟨go164, (b9 : Int).toNat * 5 + 3, none⟩ = false := hfr164 3
          have hf164_4 : World.frozen? _ ⟨go164, (b9 : Int).toNat * 5 + 4, none⟩ = false := hfr164 4
          clear hcl164 hcc164 hfr164; (try clear hM164)
          replace p164 := eq_true p164
          replace q164 := eq_true q164
          have HN0_go164 := aM (show g ≠ go164 from by have h_ := IsS90.own_ne HI0.out ba.out z0; intro e_; exact h_ (by rw [e_]; rfl))
          obtain ⟨ce173, hcl173, hM173, hcc173, hfr173⟩ := Kd.R_elem ba.out z101 (b9 : Int) (oD z3) (by have h_ : (b9 : Int) < ((x319000_1.length : Int) : Int) := oD z3; first | exact h_ | (have e_ := (ai ba.out).1; omega) | simpa using h_)
          obtain rfl := k101_openM hM173
          have HP173 := (Kd.R_seg ba.out (b9 : Int) (oD z3) (by have h_ : (b9 : Int) < ((x319000_1.length : Int) : Int) := oD z3; first | exact h_ | (have e_ := (ai ba.out).1; omega) | simpa using h_) (seg := [.int .i64 (wrap64 (((rd_T101 x319000_1 b9).f3) + (wrap64 (kd - 1))))]) (j := 3) hcl173 hcc173 (show 4 ≤ 5 from by decide) (x' := (⟨(rd_T101 x319000_1 b9).f0, (rd_T101 x319000_1 b9).f1, (rd_T101 x319000_1 b9).f2, wrap64 (((rd_T101 x319000_1 b9).f3) + (wrap64 (kd - 1))), (rd_T101 x319000_1 b9).f4⟩ : S101)) (k101_mkM _ _ _ (⟨(rd_T101 x319000_1 b9).f0, (rd_T101 x319000_1 b9).f1, (rd_T101 x319000_1 b9).f2, wrap64 (((rd_T101 x319000_1 b9).f3) + (wrap64 (kd - 1))), (rd_T101 x319000_1 b9).f4⟩ : S101) ) (fun _ hk => hk)).1
          rw [← Ny372.out] at HP173
          have HQ173 := aM HP173
          clear hcl173 hcc173 hfr173 HP173; (try clear hM173)
          refine hK.out _ _ ⟨(bC bz.out 0).trans rfl, HS1_, HS2_, HS3_, HS4_, HS5_⟩ (fun hHeld => ?_)
          clear hK K
          refine norm_ (a' := ?_) ?_ ?_
          rotate_left
          ·show Act.put _ (some 99) _ = _
           simp only [Act.put, sA, sB, sC, i64_w, i32_w]
           rfl
          refine pA 8 100 ?_
          refine pA 9 101 ?_
          refine pA 10 102 ?_
          refine pA 11 103 ?_
          refine last_ (i := 12) (N := none) #[true, true, true, true, true, true, true, true, true, true, true, true, true] rfl rfl (one_of HT_.out z1) z0 (fun K hK => ?_)
          refine skip_ (w1 := ?_) (by rfl) rfl ?_ ?_
          rotate_left
          ·go_simp
           rfl
          refine hK.out _ _ ?_
          clear hK K
          refine done_ (done_of HT_.out z1) ?_
          have bb : Aside0 (Kd.R k101 101 (w172.setCell ⟨go164, (b9 : Int).toNat * 5 + 3, none⟩ (.int .i64 (wrap64 (((rd_T101 x319000_1 b9).f3) + (wrap64 (kd - 1)))))) w.heap.size (fun _ => True) (.slice (some ⟨go164, 0, none⟩) x319000_1.length jB) y372) := ⟨kR_ HQ173.out⟩
          have bc : Aside0 ((w172.setCell ⟨go164, (b9 : Int).toNat * 5 + 3, none⟩ (.int .i64 (wrap64 (((rd_T101 x319000_1 b9).f3) + (wrap64 (kd - 1)))))).heap[cm]? = some (.cells #[.slice none 0 0] 30 (0, 0))) := ⟨by (with_reducible repeat (first | refine au ?_ _ | refine ar ?_ | refine av ?_ _)); refine aw ?_ (by have h_ := Kd.R_ne ba.out bQ.out z0; intro e_; exact h_ (by rw [e_]; rfl)) _; (with_reducible repeat (first | refine au ?_ _ | refine ar ?_ | refine av ?_ _)); exact bQ.out⟩
          have bd : Aside0 ((w172.setCell ⟨go164, (b9 : Int).toNat * 5 + 3, none⟩ (.int .i64 (wrap64 (((rd_T101 x319000_1 b9).f3) + (wrap64 (kd - 1)))))).heap[b8]? = some (.cells #[.slice (some ⟨go164, 0, none⟩) x319000_1.length jB] 30 (0, 0))) := ⟨by (with_reducible repeat (first | refine au ?_ _ | refine ar ?_ | refine av ?_ _)); refine aw ?_ (by have h_ := Kd.R_ne ba.out bz.out z0; intro e_; exact h_ (by rw [e_]; rfl)) _; (with_reducible repeat (first | refine au ?_ _ | refine ar ?_ | refine av ?_ _)); exact bz.out⟩
          have bk : Aside0 (IsS90 w0 (w172.setCell ⟨go164, (b9 : Int).toNat * 5 + 3, none⟩ (.int .i64 (wrap64 (((rd_T101 x319000_1 b9).f3) + (wrap64 (kd - 1)))))) g s0_0 tl tk) := ⟨by (try simp only [Int.add_zero]); repeat (first | (with_reducible first | exact HI0.out | apply IsS90.alloc | apply IsS90.drewN | apply IsS90.drew | apply IsS90.set_1 | apply IsS90.set_2 | refine IsS90.far ?_ HN0_go164.out _ | refine IsS90.far ?_ bW.out _ | refine IsS90.far ?_ bV.out _) | exact HI0.out)⟩
          have bJ : Aside0 (KeepBut w (w172.setCell ⟨go164, (b9 : Int).toNat * 5 + 3, none⟩ (.int .i64 (wrap64 (((rd_T101 x319000_1 b9).f3) + (wrap64 (kd - 1)))))) g none) := ⟨by repeat (first | (with_reducible first | exact HK.out | apply KeepBut.set_ | apply keep_drewN | apply keep_drew | apply keep_alloc | refine keep_far ?_ GB164.out _ | refine keep_far ?_ gW.out _ | refine keep_far ?_ j8.out _) | exact HK.out)⟩
          have bT : Aside0 (Below w0.heap.size w0 (w172.setCell ⟨go164, (b9 : Int).toNat * 5 + 3, none⟩ (.int .i64 (wrap64 (((rd_T101 x319000_1 b9).f3) + (wrap64 (kd - 1))))))) := ⟨by repeat (first | (with_reducible first | exact HB.out | apply bA | apply pD | apply bD | refine az ?_ (Nat.le_trans HL.out GB164.out) | refine az ?_ (IsS90.ge HI0.out) | refine az ?_ dx.out | refine az ?_ dZ.out) | exact HB.out)⟩
          (try clear ba)
          (try clear bQ)
          (try clear bz)
          (try clear HI0)
          (try clear HK)
          (try clear HB)
          generalize (w172.setCell ⟨go164, (b9 : Int).toNat * 5 + 3, none⟩ (.int .i64 (wrap64 (((rd_T101 x319000_1 b9).f3) + (wrap64 (kd - 1)))))) = w174 at bb bc bd bk bJ bT ⊢
          have ba := bb
          have bQ := bc
          have bz := bd
          have HI0 := bk
          have HK := bJ
          have HB := bT
          clear bb bc bd bk bJ bT
          obtain ⟨hcz175_0, hfz175_0⟩ := cc1 bz.out
          have hnb176 := db.out
          have hnc176 := bW.out
          obtain ⟨hcz177_0, hfz177_0⟩ := cc1 bQ.out
          try go_wp2
          refine aU (results_cell_row rfl _ _ cm 30 #[.slice (some ⟨go164, 0, none⟩) x319000_1.length jB] (0, 0) _ rfl (by (with_reducible repeat (first | refine au ?_ _ | refine ar ?_ | refine av ?_ _)); refine ax (cs := #[.slice none 0 0]) ?_ 0 _ rfl; (with_reducible repeat (first | refine au ?_ _ | refine ar ?_ | refine av ?_ _)); exact bQ.out) Try.underlying30 rfl z1) rfl ?_
          exact ⟨_, y4, by (with_reducible repeat (first | apply ae | apply ac | apply aa)); exact ah (ap (p := ⟨cm, 0, none⟩) (aq ba.out bQ.out z0) (fun _ hk => hk.2) (.slice (some ⟨go164, 0, none⟩) x319000_1.length jB)) (fun _ hk => trivial), y29, y20, y23⟩
         ·rw [if_neg qU] at H
          exact absurd H (by simp)
        ·rw [if_neg qV] at H
         exact absurd H (by simp)
       ·rw [if_neg oG] at H
        have c160b0 : (jS == 0) = false := qF oG
        have c160b1 : (jS != 0) = true := nT oG
        by_cases oF : jS = 1
        ·rw [if_pos oF] at H
         have c178b0 : (jS == 1) = true := qT oF
         have c178b1 : (jS != 1) = false := nF oF
         clear oF
         obtain ⟨⟨kc, tj, ti⟩, A179, H⟩ := oA_ H
         try dsimp only at H
         by_cases r4 : 0 ≤ b9
         ·rw [if_pos r4] at H
          have c180b0 : decide (0 ≤ b9) = true := dT r4
          clear r4
          by_cases r0 : b9 < (x319000_1.length : Int)
          ·rw [if_pos r0] at H
           have c181b0 : decide (b9 < (x319000_1.length : Int)) = true := dT r0
           clear r0
           obtain ⟨y376, hy376⟩ : ∃ y_ : List (S101), y_ = (x319000_1.set (b9 : Int).toNat (⟨wrap64 (kc - 1), (rd_T101 x319000_1 b9).f1, (rd_T101 x319000_1 b9).f2, (rd_T101 x319000_1 b9).f3, (rd_T101 x319000_1 b9).f4⟩ : S101)) := ⟨_, rfl⟩
           replace H : (some (y376, tj, ti)) = some (r1, r2, r3) := by first | (rw [hy376]; with_reducible exact H) | (have H2_ := (Option.bind_some _ _).symm.trans H; rw [hy376]; with_reducible exact H2_) | (have H2_ := (Option.bind_some _ _).symm.trans H; with_reducible exact H2_) | with_reducible exact H | (rw [hy376]; exact H) | exact H
           have Ny376 := aM hy376
           clear hy376
           simp only [Option.some.injEq, Prod.mk.injEq] at H
           obtain ⟨rfl, rfl, rfl⟩ := H
           have hnb183 := ea.out
           have hnc183 := dX.out
           have hnb184 := cO.out
           have hnc184 := bV.out
           obtain ⟨hcz185_0, hfz185_0⟩ := cc1 bz.out
           obtain ⟨fm, d8, eo186⟩ := Kd.R_slice ba.out
           subst eo186
           try go_wp2_with (first | ((with_reducible refine aK (f := 66) rfl ?_); refine aT (some 78) rfl rfl Try.func66 z1 rfl #[.pointer (some ⟨g, 0, none⟩), .int .i64 (x319000_1.length : Int)] rfl z33 ?_; (with_reducible refine (spec_l1Cur_pick.calls g s0_0 x1001_144 x1002_144 (x319000_1.length : Int) b9 mw mv w0 _ ?side1 ?side2 tZ.out).mono ?_); (case side1 => exact y47); (case side2 => exact y43); rintro e w187 ⟨rfl, hi, hb, hk⟩; refine ⟨_, rfl, ?_⟩; replace ba := aM (ah (Kd.R_keep (IsS90.apart (show IsS90 w0 _ g s0_0 x1001_144 x1002_144 from by (try simp only [Int.add_zero]); repeat (first | (with_reducible first | exact HI0.out | apply IsS90.alloc | apply IsS90.drewN | apply IsS90.drew | apply IsS90.set_1 | apply IsS90.set_2 | refine IsS90.far ?_ bW.out _ | refine IsS90.far ?_ bV.out _) | exact HI0.out)) z14 z0) hk (fun _ h => h.2)) (fun _ h => h.1)); replace bQ := aM (KeepBut.blk hk (g' := cm) (o := .cells #[.slice none 0 0] 30 (0, 0)) z20 db.out (by simp)); replace bz := aM (KeepBut.blk hk (g' := b8) (o := .cells #[.slice fm x319000_1.length d8] 30 (0, 0)) z21 cO.out (by simp)); replace HK := aM (KeepBut.trans z44 hk (.inl rfl)); replace HB := aM (hb); replace HI0 := aM (hi); (try clear hb); (try clear hk); (try clear hi); (try clear d7)) | ((with_reducible refine aK (f := 66) rfl ?_); refine aT (some 80) rfl rfl Try.func66 z1 rfl #[.pointer (some ⟨g, 0, none⟩), .int .i64 3] rfl z33 ?_; (with_reducible refine (spec_l1Cur_pick.calls g s0_0 mw mv 3 jS nv nu w0 _ ?side1 ?side2 tY.out).mono ?_); (case side1 => exact y47); (case side2 => exact y43); rintro e w188 ⟨rfl, hi, hb, hk⟩; refine ⟨_, rfl, ?_⟩; replace ba := aM (ah (Kd.R_keep (IsS90.apart (show IsS90 w0 _ g s0_0 mw mv from by (try simp only [Int.add_zero]); repeat (first | (with_reducible first | exact HI0.out | apply IsS90.alloc | apply IsS90.drewN | apply IsS90.drew | apply IsS90.set_1 | apply IsS90.set_2 | refine IsS90.far ?_ bW.out _ | refine IsS90.far ?_ bV.out _) | exact HI0.out)) z14 z0) hk (fun _ h => h.2)) (fun _ h => h.1)); replace bQ := aM (KeepBut.blk hk (g' := cm) (o := .cells #[.slice none 0 0] 30 (0, 0)) z20 db.out (by simp)); replace bz := aM (KeepBut.blk hk (g' := b8) (o := .cells #[.slice fm x319000_1.length d8] 30 (0, 0)) z21 cO.out (by simp)); replace HK := aM (KeepBut.trans z44 hk (.inl rfl)); replace HB := aM (hb); replace HI0 := aM (hi); (try clear hb); (try clear hk); (try clear hi); (try clear d7)))
           replace ba := aM (aa ba.out)
           replace bQ := aM (ar bQ.out)
           replace bz := aM (ar bz.out)
           replace HI0 := aM (IsS90.drew HI0.out)
           replace HK := aM (keep_drew HK.out)
           replace HB := aM (bD HB.out)
           refine start_ (n := 9) (S := fun w' => w'.cell? ⟨b8, 0, none⟩ = some (.slice fm x319000_1.length d8)) (ds := [8]) #[false, false, false, false, false, false, false, false, false] z1 rfl rfl ((bC bz.out 0).trans rfl) (fun hHeld => ?_); refine with_tabW spec_l1Cur_rope.tab22 spec_l1Cur_rope.bits22 (fun HT_ HW_ => ?_)
           generalize w188.drew = w189 at ba bQ bz HI0 HK HB hHeld ⊢
           refine pA 0 106 ?_
           refine pA 2 108 ?_
           refine pA 3 109 ?_
           refine tA 1 107 ?_ (hy := by intro w' s0; go_simp; with_reducible rfl)
           refine one_ (i := 4) (N := some 110) #[true, true, true, true, true, false, false, false, false] rfl rfl (one_of HT_.out z1) z0 (fun K hK => ?_)
           refine goes_ Try.func66 z1 rfl #[.pointer (some ⟨g, 0, none⟩), .int .i64 5] (by rfl) rfl rfl z33 ?_
           with_reducible refine (spec_l1Cur_pick.calls g s0_0 nv nu 5 kc tj ti w0 _ ?side1 ?side2 A179.out).mono ?_
           (case side1 => exact y47)
           (case side2 => exact y43)
           rintro e w190 ⟨rfl, hi, hb, hk⟩
           refine ⟨_, rfl, ?_⟩
           replace ba := aM (ah (Kd.R_keep (IsS90.apart (show IsS90 w0 _ g s0_0 nv nu from by (try simp only [Int.add_zero]); repeat (first | (with_reducible first | exact HI0.out | apply IsS90.alloc | apply IsS90.drewN | apply IsS90.drew | apply IsS90.set_1 | apply IsS90.set_2 | refine IsS90.far ?_ bW.out _ | refine IsS90.far ?_ bV.out _) | exact HI0.out)) z14 z0) hk (fun _ h => h.2)) (fun _ h => h.1))
           replace bQ := aM (KeepBut.blk hk (g' := cm) (o := .cells #[.slice none 0 0] 30 (0, 0)) z20 db.out (by simp))
           replace bz := aM (KeepBut.blk hk (g' := b8) (o := .cells #[.slice fm x319000_1.length d8] 30 (0, 0)) z21 cO.out (by simp))
           replace HK := aM (KeepBut.trans z44 hk (.inl rfl))
           replace HB := aM (hb)
           replace HI0 := aM (hi)
           (try clear hb)
           skip
           (try clear hk)
           (try clear hi)
           (try clear d7)
           have p182 : 0 ≤ (b9 : Int) := oD z3
           have q182 : (b9 : Int) < ((x319000_1.length : Int) : Int) := oD z3
           obtain ⟨go182, co182, eo182, sd, gl182, cl182, HG182⟩ := Kd.R_form ba.out (by omega)
           (first | cases eo182 | (injection eo182 with ea_ en_ ec_; (first | subst ea_ | (injection ea_ with ea_; subst ea_)); subst ec_; clear en_))
           have GB182 := aM sd
           have GG182 := aM HG182
           clear sd gl182 HG182
           obtain ⟨ce182, hcl182, hM182, hcc182, hfr182⟩ := Kd.R_elem ba.out z101 (b9 : Int) p182 q182
           obtain rfl := k101_openM hM182
           have hx182_0 : World.cell? _ ⟨go182, (b9 : Int).toNat * 5, none⟩ = some (.int .i64 ((rd_T101 x319000_1 b9).f0)) := hcc182 0 _ rfl
           have hx182_1 : World.cell? _ ⟨go182, (b9 : Int).toNat * 5 + 1, none⟩ = some (.int .i64 ((rd_T101 x319000_1 b9).f1)) := hcc182 1 _ rfl
           have hx182_2 : World.cell? _ ⟨go182, (b9 : Int).toNat * 5 + 2, none⟩ = some (.string ((rd_T101 x319000_1 b9).f2)) := hcc182 2 _ rfl
           have hx182_3 : World.cell? _ ⟨go182, (b9 : Int).toNat * 5 + 3, none⟩ = some (.int .i64 ((rd_T101 x319000_1 b9).f3)) := hcc182 3 _ rfl
           have hx182_4 : World.cell? _ ⟨go182, (b9 : Int).toNat * 5 + 4, none⟩ = some (.int .i64 ((rd_T101 x319000_1 b9).f4)) := hcc182 4 _ rfl
           have hf182_0 : World.frozen? _ ⟨go182, (b9 : Int).toNat * 5, none⟩ = false := hfr182 0
           have hf182_1 : World.frozen? _ ⟨go182, (b9 : Int).toNat * 5 + 1, none⟩ = false := hfr182 1
           have hf182_2 : World.frozen? _ ⟨go182, (b9 : Int).toNat * 5 + 2, none⟩ = false := hfr182 2
           have hf182_3 : World.frozen? _ ⟨go182, (b9 : Int).toNat * 5 + 3, none⟩ = false := hfr182 3
           have hf182_4 : World.frozen? _ ⟨go182, (b9 : Int).toNat * 5 + 4, none⟩ = false := hfr182 4
           clear hcl182 hcc182 hfr182; (try clear hM182)
           replace p182 := eq_true p182
           replace q182 := eq_true q182
           have HN0_go182 := aM (show g ≠ go182 from by have h_ := IsS90.own_ne HI0.out ba.out z0; intro e_; exact h_ (by rw [e_]; rfl))
           obtain ⟨ce191, hcl191, hM191, hcc191, hfr191⟩ := Kd.R_elem ba.out z101 (b9 : Int) (oD z3) (by have h_ : (b9 : Int) < ((x319000_1.length : Int) : Int) := oD z3; first | exact h_ | (have e_ := (ai ba.out).1; omega) | simpa using h_)
           obtain rfl := k101_openM hM191
           have HP191 := (Kd.R_seg ba.out (b9 : Int) (oD z3) (by have h_ : (b9 : Int) < ((x319000_1.length : Int) : Int) := oD z3; first | exact h_ | (have e_ := (ai ba.out).1; omega) | simpa using h_) (seg := [.int .i64 (wrap64 (kc - 1))]) (j := 0) hcl191 hcc191 (show 1 ≤ 5 from by decide) (x' := (⟨wrap64 (kc - 1), (rd_T101 x319000_1 b9).f1, (rd_T101 x319000_1 b9).f2, (rd_T101 x319000_1 b9).f3, (rd_T101 x319000_1 b9).f4⟩ : S101)) (k101_mkM _ _ _ (⟨wrap64 (kc - 1), (rd_T101 x319000_1 b9).f1, (rd_T101 x319000_1 b9).f2, (rd_T101 x319000_1 b9).f3, (rd_T101 x319000_1 b9).f4⟩ : S101) ) (fun _ hk => hk)).1
           rw [← Ny376.out] at HP191
           have HQ191 := aM HP191
           clear hcl191 hcc191 hfr191 HP191; (try clear hM191)
           refine hK.out _ _ ((bC bz.out 0).trans rfl) (fun hHeld => ?_)
           clear hK K
           refine norm_ (a' := ?_) ?_ ?_
           rotate_left
           ·show Act.put _ (some 110) _ = _
            simp only [Act.put, sA, sB, sC, i64_w, i32_w]
            rfl
           refine pA 5 111 ?_
           refine pA 6 112 ?_
           refine pA 7 113 ?_
           refine last_ (i := 8) (N := none) #[true, true, true, true, true, true, true, true, true] rfl rfl (one_of HT_.out z1) z0 (fun K hK => ?_)
           refine skip_ (w1 := ?_) (by rfl) rfl ?_ ?_
           rotate_left
           ·go_simp
            rfl
           refine hK.out _ _ ?_
           clear hK K
           refine done_ (done_of HT_.out z1) ?_
           have bb : Aside0 (Kd.R k101 101 (w190.setCell ⟨go182, (b9 : Int).toNat * 5, none⟩ (.int .i64 (wrap64 (kc - 1)))) w.heap.size (fun _ => True) (.slice (some ⟨go182, 0, none⟩) x319000_1.length d8) y376) := ⟨kR_ HQ191.out⟩
           have bc : Aside0 ((w190.setCell ⟨go182, (b9 : Int).toNat * 5, none⟩ (.int .i64 (wrap64 (kc - 1)))).heap[cm]? = some (.cells #[.slice none 0 0] 30 (0, 0))) := ⟨by (with_reducible repeat (first | refine au ?_ _ | refine ar ?_ | refine av ?_ _)); refine aw ?_ (by have h_ := Kd.R_ne ba.out bQ.out z0; intro e_; exact h_ (by rw [e_]; rfl)) _; (with_reducible repeat (first | refine au ?_ _ | refine ar ?_ | refine av ?_ _)); exact bQ.out⟩
           have bd : Aside0 ((w190.setCell ⟨go182, (b9 : Int).toNat * 5, none⟩ (.int .i64 (wrap64 (kc - 1)))).heap[b8]? = some (.cells #[.slice (some ⟨go182, 0, none⟩) x319000_1.length d8] 30 (0, 0))) := ⟨by (with_reducible repeat (first | refine au ?_ _ | refine ar ?_ | refine av ?_ _)); refine aw ?_ (by have h_ := Kd.R_ne ba.out bz.out z0; intro e_; exact h_ (by rw [e_]; rfl)) _; (with_reducible repeat (first | refine au ?_ _ | refine ar ?_ | refine av ?_ _)); exact bz.out⟩
           have bk : Aside0 (IsS90 w0 (w190.setCell ⟨go182, (b9 : Int).toNat * 5, none⟩ (.int .i64 (wrap64 (kc - 1)))) g s0_0 tj ti) := ⟨by (try simp only [Int.add_zero]); repeat (first | (with_reducible first | exact HI0.out | apply IsS90.alloc | apply IsS90.drewN | apply IsS90.drew | apply IsS90.set_1 | apply IsS90.set_2 | refine IsS90.far ?_ HN0_go182.out _ | refine IsS90.far ?_ bW.out _ | refine IsS90.far ?_ bV.out _) | exact HI0.out)⟩
           have bJ : Aside0 (KeepBut w (w190.setCell ⟨go182, (b9 : Int).toNat * 5, none⟩ (.int .i64 (wrap64 (kc - 1)))) g none) := ⟨by repeat (first | (with_reducible first | exact HK.out | apply KeepBut.set_ | apply keep_drewN | apply keep_drew | apply keep_alloc | refine keep_far ?_ GB182.out _ | refine keep_far ?_ gW.out _ | refine keep_far ?_ j8.out _) | exact HK.out)⟩
           have bT : Aside0 (Below w0.heap.size w0 (w190.setCell ⟨go182, (b9 : Int).toNat * 5, none⟩ (.int .i64 (wrap64 (kc - 1))))) := ⟨by repeat (first | (with_reducible first | exact HB.out | apply bA | apply pD | apply bD | refine az ?_ (Nat.le_trans HL.out GB182.out) | refine az ?_ (IsS90.ge HI0.out) | refine az ?_ dx.out | refine az ?_ dZ.out) | exact HB.out)⟩
           (try clear ba)
           (try clear bQ)
           (try clear bz)
           (try clear HI0)
           (try clear HK)
           (try clear HB)
           generalize (w190.setCell ⟨go182, (b9 : Int).toNat * 5, none⟩ (.int .i64 (wrap64 (kc - 1)))) = w192 at bb bc bd bk bJ bT ⊢
           have ba := bb
           have bQ := bc
           have bz := bd
           have HI0 := bk
           have HK := bJ
           have HB := bT
           clear bb bc bd bk bJ bT
           obtain ⟨hcz193_0, hfz193_0⟩ := cc1 bz.out
           have hnb194 := db.out
           have hnc194 := bW.out
           obtain ⟨hcz195_0, hfz195_0⟩ := cc1 bQ.out
           try go_wp2
           refine aU (results_cell_row rfl _ _ cm 30 #[.slice (some ⟨go182, 0, none⟩) x319000_1.length d8] (0, 0) _ rfl (by (with_reducible repeat (first | refine au ?_ _ | refine ar ?_ | refine av ?_ _)); refine ax (cs := #[.slice none 0 0]) ?_ 0 _ rfl; (with_reducible repeat (first | refine au ?_ _ | refine ar ?_ | refine av ?_ _)); exact bQ.out) Try.underlying30 rfl z1) rfl ?_
           exact ⟨_, y4, by (with_reducible repeat (first | apply ae | apply ac | apply aa)); exact ah (ap (p := ⟨cm, 0, none⟩) (aq ba.out bQ.out z0) (fun _ hk => hk.2) (.slice (some ⟨go182, 0, none⟩) x319000_1.length d8)) (fun _ hk => trivial), y29, y20, y23⟩
          ·rw [if_neg r0] at H
           exact absurd H (by simp)
         ·rw [if_neg r4] at H
          exact absurd H (by simp)
        ·rw [if_neg oF] at H
         have c178b0 : (jS == 1) = false := qF oF
         have c178b1 : (jS != 1) = true := nT oF
         by_cases rZ : 0 ≤ b9
         ·rw [if_pos rZ] at H
          have c196b0 : decide (0 ≤ b9) = true := dT rZ
          clear rZ
          by_cases rY : b9 < (x319000_1.length : Int)
          ·rw [if_pos rY] at H
           have c197b0 : decide (b9 < (x319000_1.length : Int)) = true := dT rY
           clear rY
           obtain ⟨y378, hy378⟩ : ∃ y_ : List (S101), y_ = (x319000_1.set (b9 : Int).toNat (⟨(rd_T101 x319000_1 b9).f0, (rd_T101 x319000_1 b9).f1, (rd_T101 x319000_1 b9).f2, (rd_T101 x319000_1 b9).f3, wrap64 (((rd_T101 x319000_1 b9).f4) + 1)⟩ : S101)) := ⟨_, rfl⟩
           replace H : (some (y378, nv, nu)) = some (r1, r2, r3) := by first | (rw [hy378]; with_reducible exact H) | (have H2_ := (Option.bind_some _ _).symm.trans H; rw [hy378]; with_reducible exact H2_) | (have H2_ := (Option.bind_some _ _).symm.trans H; with_reducible exact H2_) | with_reducible exact H | (rw [hy378]; exact H) | exact H
           have Ny378 := aM hy378
           clear hy378
           simp only [Option.some.injEq, Prod.mk.injEq] at H
           obtain ⟨rfl, rfl, rfl⟩ := H
           have hnb199 := ea.out
           have hnc199 := dX.out
           have hnb200 := cO.out
           have hnc200 := bV.out
           obtain ⟨hcz201_0, hfz201_0⟩ := cc1 bz.out
           obtain ⟨rt, jA, eo202⟩ := Kd.R_slice ba.out
           subst eo202
           go_wp2_with (first | ((with_reducible refine aK (f := 66) rfl ?_); refine aT (some 78) rfl rfl Try.func66 z1 rfl #[.pointer (some ⟨g, 0, none⟩), .int .i64 (x319000_1.length : Int)] rfl z33 ?_; (with_reducible refine (spec_l1Cur_pick.calls g s0_0 x1001_144 x1002_144 (x319000_1.length : Int) b9 mw mv w0 _ ?side1 ?side2 tZ.out).mono ?_); (case side1 => exact y47); (case side2 => exact y43); rintro e w203 ⟨rfl, hi, hb, hk⟩; refine ⟨_, rfl, ?_⟩; replace ba := aM (ah (Kd.R_keep (IsS90.apart (show IsS90 w0 _ g s0_0 x1001_144 x1002_144 from by (try simp only [Int.add_zero]); repeat (first | (with_reducible first | exact HI0.out | apply IsS90.alloc | apply IsS90.drewN | apply IsS90.drew | apply IsS90.set_1 | apply IsS90.set_2 | refine IsS90.far ?_ bW.out _ | refine IsS90.far ?_ bV.out _) | exact HI0.out)) z14 z0) hk (fun _ h => h.2)) (fun _ h => h.1)); replace bQ := aM (KeepBut.blk hk (g' := cm) (o := .cells #[.slice none 0 0] 30 (0, 0)) z20 db.out (by simp)); replace bz := aM (KeepBut.blk hk (g' := b8) (o := .cells #[.slice rt x319000_1.length jA] 30 (0, 0)) z21 cO.out (by simp)); replace HK := aM (KeepBut.trans z44 hk (.inl rfl)); replace HB := aM (hb); replace HI0 := aM (hi); (try clear hb); (try clear hk); (try clear hi); (try clear d7)) | ((with_reducible refine aK (f := 66) rfl ?_); refine aT (some 80) rfl rfl Try.func66 z1 rfl #[.pointer (some ⟨g, 0, none⟩), .int .i64 3] rfl z33 ?_; (with_reducible refine (spec_l1Cur_pick.calls g s0_0 mw mv 3 jS nv nu w0 _ ?side1 ?side2 tY.out).mono ?_); (case side1 => exact y47); (case side2 => exact y43); rintro e w204 ⟨rfl, hi, hb, hk⟩; refine ⟨_, rfl, ?_⟩; replace ba := aM (ah (Kd.R_keep (IsS90.apart (show IsS90 w0 _ g s0_0 mw mv from by (try simp only [Int.add_zero]); repeat (first | (with_reducible first | exact HI0.out | apply IsS90.alloc | apply IsS90.drewN | apply IsS90.drew | apply IsS90.set_1 | apply IsS90.set_2 | refine IsS90.far ?_ bW.out _ | refine IsS90.far ?_ bV.out _) | exact HI0.out)) z14 z0) hk (fun _ h => h.2)) (fun _ h => h.1)); replace bQ := aM (KeepBut.blk hk (g' := cm) (o := .cells #[.slice none 0 0] 30 (0, 0)) z20 db.out (by simp)); replace bz := aM (KeepBut.blk hk (g' := b8) (o := .cells #[.slice rt x319000_1.length jA] 30 (0, 0)) z21 cO.out (by simp)); replace HK := aM (KeepBut.trans z44 hk (.inl rfl)); replace HB := aM (hb); replace HI0 := aM (hi); (try clear hb); (try clear hk); (try clear hi); (try clear d7); obtain ⟨hcz205_0, hfz205_0⟩ := cc1 bz.out; have p377 : 0 ≤ (b9 : Int) := oD z3; have q377 : b9 < (x319000_1.length : Int) := oD z3; obtain ⟨ad377, e377, hx377_0, hx377_1, hx377_2, hx377_3, hx377_4⟩ := at_T101 (ai ba.out).2.2 b9 p377 q377; cases e377; replace p377 := eq_true p377; replace q377 := eq_true q377; have p198 : 0 ≤ (b9 : Int) := oD z3; have q198 : (b9 : Int) < ((x319000_1.length : Int) : Int) := oD z3; obtain ⟨go198, co198, eo198, sc, gl198, cl198, HG198⟩ := Kd.R_form ba.out (by omega); (first | cases eo198 | (injection eo198 with ea_ en_ ec_; (first | subst ea_ | (injection ea_ with ea_; subst ea_)); subst ec_; clear en_)); have GB198 := aM sc; have GG198 := aM HG198; clear sc gl198 HG198; (first | simp only [add_plain] at hx377_0 | skip); (first | simp only [add_plain] at hx377_1 | skip); (first | simp only [add_plain] at hx377_2 | skip); (first | simp only [add_plain] at hx377_3 | skip); (first | simp only [add_plain] at hx377_4 | skip); obtain ⟨ce198, hcl198, hM198, hcc198, hfr198⟩ := Kd.R_elem ba.out z101 (b9 : Int) p198 q198; obtain rfl := k101_openM hM198; have hx198_0 : w204.cell? ⟨go198, (b9 : Int).toNat * 5, none⟩ = some (.int .i64 ((rd_T101 x319000_1 b9).f0)) := hcc198 0 _ rfl; have hx198_1 : w204.cell? ⟨go198, (b9 : Int).toNat * 5 + 1, none⟩ = some (.int .i64 ((rd_T101 x319000_1 b9).f1)) := hcc198 1 _ rfl; have hx198_2 : w204.cell? ⟨go198, (b9 : Int).toNat * 5 + 2, none⟩ = some (.string ((rd_T101 x319000_1 b9).f2)) := hcc198 2 _ rfl; have hx198_3 : w204.cell? ⟨go198, (b9 : Int).toNat * 5 + 3, none⟩ = some (.int .i64 ((rd_T101 x319000_1 b9).f3)) := hcc198 3 _ rfl; have hx198_4 : w204.cell? ⟨go198, (b9 : Int).toNat * 5 + 4, none⟩ = some (.int .i64 ((rd_T101 x319000_1 b9).f4)) := hcc198 4 _ rfl; have hf198_0 : w204.frozen? ⟨go198, (b9 : Int).toNat * 5, none⟩ = false := hfr198 0; have hf198_1 : w204.frozen? ⟨go198, (b9 : Int).toNat * 5 + 1, none⟩ = false := hfr198 1; have hf198_2 : w204.frozen? ⟨go198, (b9 : Int).toNat * 5 + 2, none⟩ = false := hfr198 2; have hf198_3 : w204.frozen? ⟨go198, (b9 : Int).toNat * 5 + 3, none⟩ = false := hfr198 3; have hf198_4 : w204.frozen? ⟨go198, (b9 : Int).toNat * 5 + 4, none⟩ = false := hfr198 4; clear hcl198 hcc198 hfr198; (try clear hM198); replace p198 := eq_true p198; replace q198 := eq_true q198; have HX206 := aM (show Kd.R k101 101 w204 w.heap.size (fun _ => True) (.slice (some ⟨go198, 0, none⟩) x319000_1.length jA) x319000_1 from z14); obtain ⟨ce206, hcl206, hM206, hcc206, hfr206⟩ := Kd.R_elem HX206.out z101 (b9 : Int) (oD z3) (by have h_ : (b9 : Int) < ((x319000_1.length : Int) : Int) := oD z3; first | exact h_ | (have e_ := (ai ba.out).1; omega) | simpa using h_); obtain rfl := k101_openM hM206; have HP206 := Kd.R_seg HX206.out (b9 : Int) (oD z3) (by have h_ : (b9 : Int) < ((x319000_1.length : Int) : Int) := oD z3; first | exact h_ | (have e_ := (ai ba.out).1; omega) | simpa using h_) (seg := [.int .i64 (wrap64 (((rd_T101 x319000_1 b9).f4) + 1))]) (j := 4) hcl206 hcc206 (show 5 ≤ 5 from by decide) (x' := (⟨(rd_T101 x319000_1 b9).f0, (rd_T101 x319000_1 b9).f1, (rd_T101 x319000_1 b9).f2, (rd_T101 x319000_1 b9).f3, wrap64 (((rd_T101 x319000_1 b9).f4) + 1)⟩ : S101)) (k101_mkM _ _ _ (⟨(rd_T101 x319000_1 b9).f0, (rd_T101 x319000_1 b9).f1, (rd_T101 x319000_1 b9).f2, (rd_T101 x319000_1 b9).f3, wrap64 (((rd_T101 x319000_1 b9).f4) + 1)⟩ : S101) ) (fun _ hk => hk); have hx206_4 := hcc206 4 _ rfl; (try simp only [show (k101).sz = 5 from rfl, Nat.mul_one, Nat.add_zero] at hx206_4); have hf206_4 := hfr206 4; (try simp only [show (k101).sz = 5 from rfl, Nat.mul_one, Nat.add_zero] at hf206_4); clear hcl206 hcc206 hfr206; (try clear hM206)) | ((with_reducible refine gate_store (t := 3) (p := 89) rfl ?_); refine store_event (t := 3) (p := 89) (v := ?vo_w207) (w1 := (w204.setCell ⟨go198, (b9 : Int).toNat * 5 + 4, none⟩ (.int .i64 (wrap64 (((rd_T101 x319000_1 b9).f4) + 1))))) ?hg ?ho ?hn ?hr ?_; (case ho => rfl); (case hg => rfl); (case hn => rfl); (case hr => first | (go_simp; done) | (go_simp; rfl) | ((try simp only [aZ] at *); go_simp; first | done | rfl)); intro w207 hw; have hg : w204.grownBy w207 (some go198) := (by rw [hw]; exact HP206.2); have hp_ : Kd.R k101 101 w207 w.heap.size (fun _ => True) (.slice (some ⟨go198, 0, none⟩) x319000_1.length jA) y378 := (by rw [hw, Ny378.out]; exact HP206.1); clear HP206; replace bQ := aM (blk_grown (g := cm) (o := .cells #[.slice none 0 0] 30 (0, 0)) z20 hg (Kd.R_ne ba.out bQ.out z0)); replace bz := aM (blk_grown (g := b8) (o := .cells #[.slice (some ⟨go198, 0, none⟩) x319000_1.length jA] 30 (0, 0)) z21 hg (Kd.R_ne ba.out bz.out z0)); replace HI0 := aM (IsS90.grown z67 hg (IsS90.own_ne HI0.out ba.out z0)); replace HB := aM ((by rw [hw]; exact az (HB.out) (Nat.le_trans HL.out GB198.out) : Below w0.heap.size w0 w207)); replace HK := aM (KeepBut.trans z44 (KeepBut.of_grown hg g) (Kd.R_base2 ba.out)); replace ba := aM (hp_); clear hg hw hp_; obtain ⟨hcz208_0, hfz208_0⟩ := cc1 bz.out; have hnb209 := db.out; have hnc209 := bW.out; obtain ⟨hcz210_0, hfz210_0⟩ := cc1 bQ.out))
           refine aU (results_cell_row rfl _ _ cm 30 #[.slice (some ⟨go198, 0, none⟩) x319000_1.length jA] (0, 0) _ rfl (by (with_reducible repeat (first | refine au ?_ _ | refine ar ?_ | refine av ?_ _)); refine ax (cs := #[.slice none 0 0]) ?_ 0 _ rfl; (with_reducible repeat (first | refine au ?_ _ | refine ar ?_ | refine av ?_ _)); exact bQ.out) Try.underlying30 rfl z1) rfl ?_
           exact ⟨_, y4, by (with_reducible repeat (first | apply ae | apply ac | apply aa)); exact ah (ap (p := ⟨cm, 0, none⟩) (aq ba.out bQ.out z0) (fun _ hk => hk.2) (.slice (some ⟨go198, 0, none⟩) x319000_1.length jA)) (fun _ hk => trivial), y29, y20, y23⟩
          ·rw [if_neg rY] at H
           exact absurd H (by simp)
         ·rw [if_neg rZ] at H
          exact absurd H (by simp)
      ·replace qW := Bool.eq_false_iff.mpr qW
       subst qW
       rw [if_neg nF_] at H
       simp only [Option.some.injEq, Prod.mk.injEq] at H
       obtain ⟨rfl, rfl, rfl⟩ := H
       have hnb211 := ea.out
       have hnc211 := dX.out
       have hnb212 := cO.out
       have hnc212 := bV.out
       obtain ⟨hcz213_0, hfz213_0⟩ := cc1 bz.out
       obtain ⟨sN, sg, eo214⟩ := Kd.R_slice ba.out
       subst eo214
       have hnb215 := db.out
       have hnc215 := bW.out
       obtain ⟨hcz216_0, hfz216_0⟩ := cc1 bQ.out
       go_wp2
       refine aU (results_cell_row rfl _ _ cm 30 #[.slice sN x319000_1.length sg] (0, 0) _ rfl (by (with_reducible repeat (first | refine au ?_ _ | refine ar ?_ | refine av ?_ _)); refine ax (cs := #[.slice none 0 0]) ?_ 0 _ rfl; (with_reducible repeat (first | refine au ?_ _ | refine ar ?_ | refine av ?_ _)); exact bQ.out) Try.underlying30 rfl z1) rfl ?_
       exact ⟨_, y4, by (with_reducible repeat (first | apply ae | apply ac | apply aa)); exact ah (ap (p := ⟨cm, 0, none⟩) (aq ba.out bQ.out z0) (fun _ hk => hk.2) (.slice sN x319000_1.length sg)) (fun _ hk => trivial), y29, y20, y23⟩

end Go.Proofs.Ytblnnbaeiggmoaa.AFnSplit
