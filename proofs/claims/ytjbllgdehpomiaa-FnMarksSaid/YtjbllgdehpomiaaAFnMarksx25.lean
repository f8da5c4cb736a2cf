-- this session's own text: written by wip/tools/ownprint.py over the kit's print
import Derived.Test.YtjbllgdehpomiaaAFnMarksx0
namespace Go.Proofs.Ytjbllgdehpomiaa.AFnMarks
open Go.RowKit Go.Proofs.YtjbllgdehpomiaaW.PrintWords Go.Proofs.YtjbllgdehpomiaaW.PrintLast Go.Proofs.YtjbllgdehpomiaaW.PrintMore
attribute [local go_sem] max2_int min2_int max_two min_two max_three min_three max_four min_four   -- for this text's walks alone
set_option linter.unusedVariables false
set_option maxHeartbeats 8000000
set_option maxRecDepth 100000
set_option linter.unusedSimpArgs false
/-! ### spec_l3Add: function 61 -/
mutual
def spec_l3Add.j0 : Nat → List (S68) → Int → Bool → Int → ByteArray → ByteArray → Option ((List (S68)))
 | 0, _, _, _, _, _, _ => none
 | k + 1, x0, x5, x9, x548000, x548001, x548002 => if x9 = true then (some x0) else (if x5 = 0 then (if x0.length < 3518437208883 then (some (x0 ++ [(⟨x548000, x548001, x548002⟩ : S68)])) else (none)) else (if 0 ≤ (wrap64 (x5 - 1)) then (if (wrap64 (x5 - 1)) < (x0.length : Int) then (if x548000 > 0 then (spec_l3Add.j1 k x0 x5 (decide (((sp x0 (wrap64 (x5 - 1))).f0) > 0)) x548000 x548001 x548002 ((sp x0 (wrap64 (x5 - 1))).f0) ((sp x0 (wrap64 (x5 - 1))).f1) ((sp x0 (wrap64 (x5 - 1))).f2)) else (spec_l3Add.j1 k x0 x5 false x548000 x548001 x548002 ((sp x0 (wrap64 (x5 - 1))).f0) ((sp x0 (wrap64 (x5 - 1))).f1) ((sp x0 (wrap64 (x5 - 1))).f2))) else (none)) else (none)))
def spec_l3Add.j1 : Nat → List (S68) → Int → Bool → Int → ByteArray → ByteArray → Int → ByteArray → ByteArray → Option ((List (S68)))
 | 0, _, _, _, _, _, _, _, _, _ => none
 | k + 1, x0, x5, x40, x548000, x548001, x548002, x553000, x553001, x553002 => if x40 = true then (if 0 ≤ (wrap64 (x5 - 1)) then (if (wrap64 (x5 - 1)) < (x0.length : Int) then (some (x0.set ((wrap64 (x5 - 1)) : Int).toNat (⟨wrap64 (((sp x0 (wrap64 (x5 - 1))).f0) + x548000), (sp x0 (wrap64 (x5 - 1))).f1, (sp x0 (wrap64 (x5 - 1))).f2⟩ : S68))) else (none)) else (none)) else (if x548002.toList = ([] : List UInt8) then (spec_l3Add.j2 k x0 x5 false x548000 x548001 x548002 x553000 x553001 x553002) else (spec_l3Add.j2 k x0 x5 (x553002.toList != ([] : List UInt8)) x548000 x548001 x548002 x553000 x553001 x553002))
def spec_l3Add.j2 : Nat → List (S68) → Int → Bool → Int → ByteArray → ByteArray → Int → ByteArray → ByteArray → Option ((List (S68)))
 | 0, _, _, _, _, _, _, _, _, _ => none
 | k + 1, x0, x5, x60, x548000, x548001, x548002, x553000, x553001, x553002 => if x60 = true then (if 0 ≤ (wrap64 (x5 - 1)) then (if (wrap64 (x5 - 1)) < (x0.length : Int) then (if ((sp x0 (wrap64 (x5 - 1))).f2).size + x548002.size ≤ 9223372036854775807 then (some (x0.set ((wrap64 (x5 - 1)) : Int).toNat (⟨(sp x0 (wrap64 (x5 - 1))).f0, (sp x0 (wrap64 (x5 - 1))).f1, ((sp x0 (wrap64 (x5 - 1))).f2) ++ x548002⟩ : S68))) else (none)) else (none)) else (none)) else (if x548001.toList = ([] : List UInt8) then (spec_l3Add.j3 k x0 x5 false x548000 x548001 x548002 x553000 x553001 x553002) else (spec_l3Add.j3 k x0 x5 (x553001.toList != ([] : List UInt8)) x548000 x548001 x548002 x553000 x553001 x553002))
def spec_l3Add.j3 : Nat → List (S68) → Int → Bool → Int → ByteArray → ByteArray → Int → ByteArray → ByteArray → Option ((List (S68)))
 | 0, _, _, _, _, _, _, _, _, _ => none
 | k + 1, x0, x5, x80, x548000, x548001, x548002, x553000, x553001, x553002 => if x80 = true then (if 0 ≤ (wrap64 (x5 - 1)) then (if (wrap64 (x5 - 1)) < (x0.length : Int) then (if ((sp x0 (wrap64 (x5 - 1))).f1).size + x548001.size ≤ 9223372036854775807 then (some (x0.set ((wrap64 (x5 - 1)) : Int).toNat (⟨(sp x0 (wrap64 (x5 - 1))).f0, ((sp x0 (wrap64 (x5 - 1))).f1) ++ x548001, (sp x0 (wrap64 (x5 - 1))).f2⟩ : S68))) else (none)) else (none)) else (none)) else (if x548001.toList = ([] : List UInt8) then (spec_l3Add.j4 k x0 x5 false x548000 x548001 x548002 x553000 x553001 x553002) else (spec_l3Add.j4 k x0 x5 (x553002.toList != ([] : List UInt8)) x548000 x548001 x548002 x553000 x553001 x553002))
def spec_l3Add.j4 : Nat → List (S68) → Int → Bool → Int → ByteArray → ByteArray → Int → ByteArray → ByteArray → Option ((List (S68)))
 | 0, _, _, _, _, _, _, _, _, _ => none
 | k + 1, x0, x5, x100, x548000, x548001, x548002, x553000, x553001, x553002 => if x100 = true then (if x5 > 1 then (if 0 ≤ (wrap64 (x5 - 2)) then (if (wrap64 (x5 - 2)) < (x0.length : Int) then (if ((sp x0 (wrap64 (x5 - 2))).f1).toList = ([] : List UInt8) then (if 0 ≤ (wrap64 (x5 - 1)) then (if (wrap64 (x5 - 1)) < (x0.length : Int) then ((some (x0.set ((wrap64 (x5 - 1)) : Int).toNat (⟨x548000, x548001, x548002⟩ : S68) : List (S68))).bind fun y560 => (if y560.length < 3518437208883 then (some (y560 ++ [(⟨x553000, x553001, x553002⟩ : S68)])) else (none))) else (none)) else (none)) else (if ((sp x0 (wrap64 (x5 - 2))).f1).size + x548001.size ≤ 9223372036854775807 then (some (x0.set ((wrap64 (x5 - 2)) : Int).toNat (⟨(sp x0 (wrap64 (x5 - 2))).f0, ((sp x0 (wrap64 (x5 - 2))).f1) ++ x548001, (sp x0 (wrap64 (x5 - 2))).f2⟩ : S68))) else (none))) else (none)) else (none)) else (if 0 ≤ (wrap64 (x5 - 1)) then (if (wrap64 (x5 - 1)) < (x0.length : Int) then ((some (x0.set ((wrap64 (x5 - 1)) : Int).toNat (⟨x548000, x548001, x548002⟩ : S68) : List (S68))).bind fun y566 => (if y566.length < 3518437208883 then (some (y566 ++ [(⟨x553000, x553001, x553002⟩ : S68)])) else (none))) else (none)) else (none))) else (if x0.length < 3518437208883 then (some (x0 ++ [(⟨x548000, x548001, x548002⟩ : S68)])) else (none))
end
def spec_l3Add.f (k : Nat) (l0 : List (S68)) (a1_0 : Int) (a1_1 : ByteArray) (a1_2 : ByteArray) : Option ((List (S68))) := if a1_0 = 0 then (if a1_1.toList = ([] : List UInt8) then (spec_l3Add.j0 k l0 (l0.length : Int) (a1_2.toList == ([] : List UInt8)) a1_0 a1_1 a1_2) else (spec_l3Add.j0 k l0 (l0.length : Int) false a1_0 a1_1 a1_2)) else (spec_l3Add.j0 k l0 (l0.length : Int) false a1_0 a1_1 a1_2)
theorem spec_l3Add.mono_l : ∀ k, (∀ y0 y1 y2 y3 y4 y5, LeO (spec_l3Add.j0 k y0 y1 y2 y3 y4 y5) (spec_l3Add.j0 (k + 1) y0 y1 y2 y3 y4 y5)) ∧ (∀ y0 y1 y2 y3 y4 y5 y6 y7 y8, LeO (spec_l3Add.j1 k y0 y1 y2 y3 y4 y5 y6 y7 y8) (spec_l3Add.j1 (k + 1) y0 y1 y2 y3 y4 y5 y6 y7 y8)) ∧ (∀ y0 y1 y2 y3 y4 y5 y6 y7 y8, LeO (spec_l3Add.j2 k y0 y1 y2 y3 y4 y5 y6 y7 y8) (spec_l3Add.j2 (k + 1) y0 y1 y2 y3 y4 y5 y6 y7 y8)) ∧ (∀ y0 y1 y2 y3 y4 y5 y6 y7 y8, LeO (spec_l3Add.j3 k y0 y1 y2 y3 y4 y5 y6 y7 y8) (spec_l3Add.j3 (k + 1) y0 y1 y2 y3 y4 y5 y6 y7 y8)) ∧ (∀ y0 y1 y2 y3 y4 y5 y6 y7 y8, LeO (spec_l3Add.j4 k y0 y1 y2 y3 y4 y5 y6 y7 y8) (spec_l3Add.j4 (k + 1) y0 y1 y2 y3 y4 y5 y6 y7 y8))
 | 0 => ⟨fun _ _ _ _ _ _ r h => by simp [spec_l3Add.j0] at h, fun _ _ _ _ _ _ _ _ _ r h => by simp [spec_l3Add.j1] at h, fun _ _ _ _ _ _ _ _ _ r h => by simp [spec_l3Add.j2] at h, fun _ _ _ _ _ _ _ _ _ r h => by simp [spec_l3Add.j3] at h, fun _ _ _ _ _ _ _ _ _ r h => by simp [spec_l3Add.j4] at h⟩
 | k + 1 => by
  obtain ⟨ih0, ih1, ih2, ih3, ih4⟩ := spec_l3Add.mono_l k
  refine ⟨?_, ?_, ?_, ?_, ?_⟩
  ·intro y0 y1 y2 y3 y4 y5
   unfold spec_l3Add.j0
   with_reducible repeat' first | exact ih0 _ _ _ _ _ _ | exact ih1 _ _ _ _ _ _ _ _ _ | exact ih2 _ _ _ _ _ _ _ _ _ | exact ih3 _ _ _ _ _ _ _ _ _ | exact ih4 _ _ _ _ _ _ _ _ _ | exact lR_ _ | exact lN_ _ | refine lI_ ?_ ?_ | refine lB_ ?_ fun _ => ?_
  ·intro y0 y1 y2 y3 y4 y5 y6 y7 y8
   unfold spec_l3Add.j1
   with_reducible repeat' first | exact ih0 _ _ _ _ _ _ | exact ih1 _ _ _ _ _ _ _ _ _ | exact ih2 _ _ _ _ _ _ _ _ _ | exact ih3 _ _ _ _ _ _ _ _ _ | exact ih4 _ _ _ _ _ _ _ _ _ | exact lR_ _ | exact lN_ _ | refine lI_ ?_ ?_ | refine lB_ ?_ fun _ => ?_
  ·intro y0 y1 y2 y3 y4 y5 y6 y7 y8
   unfold spec_l3Add.j2
   with_reducible repeat' first | exact ih0 _ _ _ _ _ _ | exact ih1 _ _ _ _ _ _ _ _ _ | exact ih2 _ _ _ _ _ _ _ _ _ | exact ih3 _ _ _ _ _ _ _ _ _ | exact ih4 _ _ _ _ _ _ _ _ _ | exact lR_ _ | exact lN_ _ | refine lI_ ?_ ?_ | refine lB_ ?_ fun _ => ?_
  ·intro y0 y1 y2 y3 y4 y5 y6 y7 y8
   unfold spec_l3Add.j3
   with_reducible repeat' first | exact ih0 _ _ _ _ _ _ | exact ih1 _ _ _ _ _ _ _ _ _ | exact ih2 _ _ _ _ _ _ _ _ _ | exact ih3 _ _ _ _ _ _ _ _ _ | exact ih4 _ _ _ _ _ _ _ _ _ | exact lR_ _ | exact lN_ _ | refine lI_ ?_ ?_ | refine lB_ ?_ fun _ => ?_
  ·intro y0 y1 y2 y3 y4 y5 y6 y7 y8
   unfold spec_l3Add.j4
   with_reducible repeat' first | exact ih0 _ _ _ _ _ _ | exact ih1 _ _ _ _ _ _ _ _ _ | exact ih2 _ _ _ _ _ _ _ _ _ | exact ih3 _ _ _ _ _ _ _ _ _ | exact ih4 _ _ _ _ _ _ _ _ _ | exact lR_ _ | exact lN_ _ | refine lI_ ?_ ?_ | refine lB_ ?_ fun _ => ?_
theorem spec_l3Add.mono : ∀ a0 a1 a2 a3 k, LeO (spec_l3Add.f k a0 a1 a2 a3) (spec_l3Add.f (k + 1) a0 a1 a2 a3) := by
 intro a0 a1 a2 a3 k
 obtain ⟨ih0, ih1, ih2, ih3, ih4⟩ := spec_l3Add.mono_l k
 unfold spec_l3Add.f
 with_reducible repeat' first | exact ih0 _ _ _ _ _ _ | exact ih1 _ _ _ _ _ _ _ _ _ | exact ih2 _ _ _ _ _ _ _ _ _ | exact ih3 _ _ _ _ _ _ _ _ _ | exact ih4 _ _ _ _ _ _ _ _ _ | exact lR_ _ | exact lN_ _ | refine lI_ ?_ ?_ | refine lB_ ?_ fun _ => ?_
def spec_l3Add.T9 : Bool × List (List Nat × List Nat) := (true, [([], []), ([], []), ([1], [1]), ([0, 2], [0, 2]), ([3], [3]), ([4], [4]), ([], []), ([6], [6]), ([5, 7], [5, 7]), ([0, 2, 0, 1, 2, 3, 4, 5, 6, 7, 8], [0, 2]), ([9, 0, 1, 2, 3, 4, 5, 6, 7, 8], [9]), ([10, 8, 0, 1, 2, 3, 4, 5, 6, 7, 8], [8, 10])])
def spec_l3Add.B9 : List Nat := [0, 0, 2, 7, 15, 31, 0, 64, 255, 511, 1023, 2047]
theorem spec_l3Add.tab9 : rtab .any (opsOf Try.f61 9) = spec_l3Add.T9 := by kernel_rfl
theorem spec_l3Add.bits9 : waitsOk spec_l3Add.T9.2 spec_l3Add.B9 = true := by kernel_rfl
def spec_l3Add.T11 : Bool × List (List Nat × List Nat) := (true, [([], []), ([], []), ([1], [1]), ([0, 2], [0, 2]), ([3], [3]), ([4], [4]), ([], []), ([6], [6]), ([5, 7], [5, 7]), ([0, 2, 0, 1, 2, 3, 4, 5, 6, 7, 8], [0, 2]), ([9, 0, 1, 2, 3, 4, 5, 6, 7, 8], [9]), ([10, 8, 0, 1, 2, 3, 4, 5, 6, 7, 8], [8, 10])])
def spec_l3Add.B11 : List Nat := [0, 0, 2, 7, 15, 31, 0, 64, 255, 511, 1023, 2047]
theorem spec_l3Add.tab11 : rtab .any (opsOf Try.f61 11) = spec_l3Add.T11 := by kernel_rfl
theorem spec_l3Add.bits11 : waitsOk spec_l3Add.T11.2 spec_l3Add.B11 = true := by kernel_rfl
def spec_l3Add.T13 : Bool × List (List Nat × List Nat) := (true, [([], []), ([], []), ([1], [1]), ([0, 2], [0, 2]), ([3], [3]), ([4], [4]), ([], []), ([6], [6]), ([5, 7], [5, 7]), ([0, 2, 0, 1, 2, 3, 4, 5, 6, 7, 8], [0, 2]), ([9, 0, 1, 2, 3, 4, 5, 6, 7, 8], [9]), ([10, 8, 0, 1, 2, 3, 4, 5, 6, 7, 8], [8, 10])])
def spec_l3Add.B13 : List Nat := [0, 0, 2, 7, 15, 31, 0, 64, 255, 511, 1023, 2047]
theorem spec_l3Add.tab13 : rtab .any (opsOf Try.f61 13) = spec_l3Add.T13 := by kernel_rfl
theorem spec_l3Add.bits13 : waitsOk spec_l3Add.T13.2 spec_l3Add.B13 = true := by kernel_rfl
def spec_l3Add.T16 : Bool × List (List Nat × List Nat) := (true, [([], []), ([], []), ([1], [1]), ([0, 2], [0, 2]), ([3], [3]), ([4], [4]), ([], []), ([6], [6]), ([5, 7], [5, 7]), ([0, 2, 0, 1, 2, 3, 4, 5, 6, 7, 8], [0, 2]), ([9, 0, 1, 2, 3, 4, 5, 6, 7, 8], [9]), ([10, 8, 0, 1, 2, 3, 4, 5, 6, 7, 8], [8, 10])])
def spec_l3Add.B16 : List Nat := [0, 0, 2, 7, 15, 31, 0, 64, 255, 511, 1023, 2047]
theorem spec_l3Add.tab16 : rtab .any (opsOf Try.f61 16) = spec_l3Add.T16 := by kernel_rfl
theorem spec_l3Add.bits16 : waitsOk spec_l3Add.T16.2 spec_l3Add.B16 = true := by kernel_rfl
theorem spec_l3Add.calls (k : Nat) (P0_ : Nat → Prop) (u9000_ : Value) (l0 : List (S68)) (a1_0 : Int) (a1_1 : ByteArray) (a1_2 : ByteArray) (r : List (S68)) (w0 w : World) (hB : Below w0.heap.size w0 w) (ho0 : Kd.R k68 68 w w0.heap.size P0_ u9000_ l0) (h : spec_l3Add.f k l0 a1_0 a1_1 a1_2 = some r) :
  Calls Try.prog 61 #[u9000_, .agg #[.int .i64 a1_0, .string a1_1, .string a1_2]] w fun e w' => ∃ v0_ : Value, e = .returned (v0_) ∧ Kd.R k68 68 w' w0.heap.size (fun k_ => (P0_ k_ ∨ w.heap.size ≤ k_)) v0_ r ∧ Below w0.heap.size w0 w' ∧ Kept w w' (fun k_ => P0_ k_) := by
 have hu68 := Try.underlying68
 have iU := aM (show Kd.R k68 68 w w0.heap.size (fun k_ => (P0_ k_ ∨ w.heap.size ≤ k_)) u9000_ l0 from ag ho0 (fun k_ hk => (.inl hk)))
 have HK := aM (Kept.refl w (fun k_ => P0_ k_))
 have HW0 := aM hB.size
 have HB := aM hB
 clear hB
 have H : (if a1_0 = 0 then (if a1_1.toList = ([] : List UInt8) then (spec_l3Add.j0 k l0 (l0.length : Int) (a1_2.toList == ([] : List UInt8)) a1_0 a1_1 a1_2) else (spec_l3Add.j0 k l0 (l0.length : Int) false a1_0 a1_1 a1_2)) else (spec_l3Add.j0 k l0 (l0.length : Int) false a1_0 a1_1 a1_2)) = some r := h
 clear h
 have qV := aM H
 clear H
 go_enter Try.func61, Try.ntmps61
 go_upto_region 2 with (first | ((with_reducible refine ay (N := 3) rfl ?_); refine bE_ (N := 3) (cs := #[.int .i64 a1_0, .string a1_1, .string a1_2]) (t := 68) (h := ?_); intro a9 hg w4 hbox hb; replace iU := aM (af (Kd.R_elderB (kR_ iU.out) a9 (Nat.le_of_eq hg.symm)) hb); have aU := aM (hbox); have dX := aM ((by rw [hg]; exact (by first | exact HK.out.1 | exact (show Kept w _ (fun k_ => P0_ k_) from by repeat (first | (with_reducible first | exact HK.out | apply Kept.alloc | apply Kept.drewN | apply Kept.drew) | exact HK.out)).1) : w.heap.size ≤ a9)); replace HK := aM (Kept.below (S := (fun k_ => P0_ k_)) (by repeat (first | (with_reducible first | exact HK.out | apply Kept.alloc | apply Kept.drewN | apply Kept.drew) | exact HK.out)) hb); have eL := aM ((by rw [hg]; exact (aq z9) : w0.heap.size ≤ a9)); replace HB := aM (ap z9 hb); clear hb hbox hg; obtain ⟨lY, fy, eo5⟩ := Kd.R_slice iU.out; subst eo5))
 (try simp only [Act.put, sA, sB, sC])
 go_cut [9] (fun v9 wc => ∃ (kq : Nat) (x9_2 : Bool), v9 = .bool x9_2 ∧ Aside0 (spec_l3Add.j0 kq l0 (l0.length : Int) x9_2 a1_0 a1_1 a1_2 = some r) ∧ Aside0 (kq ≤ k) ∧ Aside0 (Kd.R k68 68 wc w0.heap.size (fun k_ => (P0_ k_ ∨ w.heap.size ≤ k_) ∧ k_ ≠ a9) (.slice lY l0.length fy) l0) ∧ Aside0 (wc.heap[a9]? = some (.cells #[.int .i64 a1_0, .string a1_1, .string a1_2] 68 (0, 0))) ∧ Aside0 (Kept w wc (fun k_ => P0_ k_)) ∧ Aside0 (Below w0.heap.size w0 wc))
 case first =>
  have H := qV.out
  clear qV
  by_cases c6 : a1_0 = 0
  ·rw [if_pos c6] at H
   have c6b0 : (a1_0 == 0) = true := qT c6
   have c6b1 : (a1_0 != 0) = false := nF c6
   clear c6
   (first | rw [c6b0] | (simp only [i64_w, i32_w]; rw [c6b0]) | skip)
   by_cases c7 : a1_1.toList = ([] : List UInt8)
   ·rw [if_pos c7] at H
    have c7b0 : (a1_1.toList == ([] : List UInt8)) = true := qT c7
    have c7b1 : (a1_1.toList != ([] : List UInt8)) = false := nF c7
    have c7b8 : (!a1_1.toList.isEmpty) = false := by have h_ := c7b1; revert h_; cases a1_1.toList <;> simp
    clear c7
    have H' := aM H
    clear H
    obtain ⟨fi, fh, fg, fO, e3, e1⟩ := cc3 aU.out
    go_wp2
    all_goals (try (exfalso; rename_i h_; rw [c7b0] at h_; cases h_; done))
    go_meet
    case rel => exact ⟨_, ((a1_2.toList == ([] : List UInt8))), z1, H', ⟨y1⟩, ⟨y7⟩, ⟨y12⟩, ⟨y36⟩, ⟨y21⟩⟩
   ·rw [if_neg c7] at H
    have c7b0 : (a1_1.toList == ([] : List UInt8)) = false := qF c7
    have c7b1 : (a1_1.toList != ([] : List UInt8)) = true := nT c7
    have c7b8 : (!a1_1.toList.isEmpty) = true := by have h_ := c7b1; revert h_; cases a1_1.toList <;> simp
    have H' := aM H
    clear H
    obtain ⟨dc, db, da, dh, cZ, cY⟩ := cc3 aU.out
    go_wp2
    all_goals (try (exfalso; rename_i h_; rw [c7b0] at h_; cases h_; done))
    go_meet
    case rel => exact ⟨_, (false), z1, H', ⟨y1⟩, ⟨y7⟩, ⟨y12⟩, ⟨y36⟩, ⟨y21⟩⟩
  ·rw [if_neg c6] at H
   have c6b0 : (a1_0 == 0) = false := qF c6
   have c6b1 : (a1_0 != 0) = true := nT c6
   (first | rw [c6b0] | (simp only [i64_w, i32_w]; rw [c6b0]) | skip)
   have H' := aM H
   clear H
   obtain ⟨cG, cF, cE, cD, cC, cB⟩ := cc3 aU.out
   go_wp2
   go_meet
   case rel => exact ⟨_, (false), z1, H', ⟨y1⟩, ⟨y7⟩, ⟨y12⟩, ⟨y36⟩, ⟨y21⟩⟩
 case rest =>
  clear qV
  obtain ⟨kq, x9_2, rfl, HA, mf, aX, aU, HK, HB⟩ := hcut
  cases kq with
  | zero => exact absurd HA.out (by simp [spec_l3Add.j0])
  | succ kj2 =>
   have H := HA.out
   clear HA
   simp only [spec_l3Add.j0] at H
   by_cases b4 : x9_2 = true
   ·subst b4
    rw [if_pos rfl] at H
    obtain rfl := sI H
    go_wp2
    go_ret
    exact ⟨_, y5, by (with_reducible repeat (first | apply ac | apply ab | apply aa)); exact ag aX.out (fun _ hk => hk.1), y21, y36⟩
   ·replace b4 := Bool.eq_false_iff.mpr b4
    subst b4
    rw [if_neg nF_] at H
    by_cases bT : (l0.length : Int) = 0
    ·rw [if_pos bT] at H
     have c12b0 : ((l0.length : Int) == 0) = true := qT bT
     have c12b1 : ((l0.length : Int) != 0) = false := nF bT
     clear bT
     by_cases bU : l0.length < 3518437208883
     ·rw [if_pos bU] at H
      have LMc13 := aM bU
      clear bU
      obtain ⟨y548, hy548⟩ : ∃ y_ : List (S68), y_ = (l0 ++ [(⟨a1_0, a1_1, a1_2⟩ : S68)]) := ⟨_, rfl⟩
      replace H : (some y548) = some r := zh_ hy548
      have Ny548 := aM hy548
      clear hy548
      obtain rfl := sI H
      obtain ⟨cz, cy, cx, cw, cv, cu⟩ := cc3 aU.out
      go_wp2_with (first | ((with_reducible refine gate_builtin (b := .append) (xs := #[.tmp 27, .tmp 29]) rfl ?_); at_builtin; refine aE k68 (w0 := w0) w0.heap.size rfl (.tmp 27) (.tmp 29) 23 68 (.agg #[(.int .i64 0), (.string ⟨#[]⟩), (.string ⟨#[]⟩)]) 40 rfl Try.underlying23 info68 rfl (by decide) (by omega) (.slice lY l0.length fy) l0 (⟨a1_0, a1_1, a1_2⟩ : S68) [.int .i64 a1_0, .string a1_1, .string a1_2] (fun k_ => (P0_ k_ ∨ w.heap.size ≤ k_) ∧ k_ ≠ a9) (fun _ => False) rfl rfl ?aP (fun _ hk => hk.elim) ?aF ?aO ?aB ?aS ?aL ?_; (case aP => exact k68_mkM _ _ _ (⟨a1_0, a1_1, a1_2⟩ : S68)); (case aB => exact zb_); (case aF => exact (fun k_ hk => ⟨(.inr (Nat.le_trans (by first | exact HK.out.1 | exact (show Kept w _ (fun k_ => P0_ k_) from by repeat (first | (with_reducible first | exact HK.out | apply Kept.alloc | apply Kept.drewN | apply Kept.drew | refine Kept.setCell ?_ (.inr dX.out) _) | exact HK.out)).1) hk)), Kd.freshB (g := a9) (o := .cells #[.int .i64 a1_0, .string a1_1, .string a1_2] 68 (0, 0)) z7 k_ hk⟩)); (case aO => exact z5); (case aS => exact (aq zb_)); (case aL => have := LMc13.out; omega); intro v549 w15 ho hb hg hat; rw [← Ny548.out] at ho; replace aU := aM (blk_grown (g := a9) (o := .cells #[.int .i64 a1_0, .string a1_1, .string a1_2] 68 (0, 0)) z7 hg (Kd.R_away aX.out (fun _ hk => hk.2))); replace HB := aM hb; replace HK := aM (Kept.of_grown (S := (fun k_ => P0_ k_)) hg (by repeat (first | (with_reducible first | exact HK.out | apply Kept.alloc | apply Kept.drewN | apply Kept.drew | refine Kept.setCell ?_ (.inr dX.out) _) | exact HK.out)) (fun k_ e_ => (aX.out.1 k_ e_).1)); have HO550 := aM (ho); clear aX; clear ho hb hg hat))
      go_ret
      exact ⟨_, y5, by (with_reducible repeat (first | apply ac | apply ab | apply aa)); exact ag HO550.out (fun _ hk => hk.1), y21, y36⟩
     ·rw [if_neg bU] at H
      exact absurd H (by simp)
    ·rw [if_neg bT] at H
     have c12b0 : ((l0.length : Int) == 0) = false := qF bT
     have c12b1 : ((l0.length : Int) != 0) = true := nT bT
     have c12b2 : ¬ (l0 = []) := fun h_ => bT (by rw [h_]; rfl)
     obtain ⟨a8, bR⟩ : ∃ j_ : Int, (wrap64 ((l0.length : Int) - 1)) = j_ := ⟨_, rfl⟩
     replace H : (if 0 ≤ (a8) then (if (a8) < (l0.length : Int) then (if a1_0 > 0 then (spec_l3Add.j1 kj2 l0 (l0.length : Int) (decide (((sp l0 (a8)).f0) > 0)) a1_0 a1_1 a1_2 ((sp l0 (a8)).f0) ((sp l0 (a8)).f1) ((sp l0 (a8)).f2)) else (spec_l3Add.j1 kj2 l0 (l0.length : Int) false a1_0 a1_1 a1_2 ((sp l0 (a8)).f0) ((sp l0 (a8)).f1) ((sp l0 (a8)).f2))) else (none)) else (none)) = some r := by first | (rw [bR] at H; exact H) | (simp only [bR] at H ⊢; exact H)
     have hji16w : (IntKind.i64.wrap ((l0.length : Int) - 1)) = a8 := (i64_w _).trans bR
     by_cases cA : 0 ≤ (a8)
     ·rw [if_pos cA] at H
      have c17b0 : decide (0 ≤ (a8)) = true := dT cA
      clear cA
      by_cases cJ : (a8) < (l0.length : Int)
      ·rw [if_pos cJ] at H
       have c18b0 : decide ((a8) < (l0.length : Int)) = true := dT cJ
       clear cJ
       have qY := aM H
       clear H
       have p551 : 0 ≤ ((a8) : Int) := oD z2
       have q551 : (a8) < (l0.length : Int) := oD z2
       obtain ⟨ad551, e551, hx551_0, hx551_1, hx551_2⟩ := at_T68 (ah aX.out).2.2 (a8) p551 q551
       cases e551
       replace p551 := eq_true p551
       replace q551 := eq_true q551
       go_upto_region 8 with (first | ((with_reducible refine ay (N := 6) rfl ?_); refine bE_ (N := 6) (cs := #[.int .i64 0, .string ⟨#[]⟩, .string ⟨#[]⟩]) (t := 68) (h := ?_); intro bx hg w20 hbox hb; replace aX := aM (af (Kd.R_elderB z5 bx (Nat.le_of_eq hg.symm)) hb); have bd := aM (hbox); have fF := aM ((by rw [hg]; exact (by first | exact HK.out.1 | exact (show Kept w _ (fun k_ => P0_ k_) from by repeat (first | (with_reducible first | exact HK.out | apply Kept.alloc | apply Kept.drewN | apply Kept.drew | refine Kept.setCell ?_ (.inr dX.out) _) | exact HK.out)).1) : w.heap.size ≤ bx)); replace HK := aM (Kept.below (S := (fun k_ => P0_ k_)) (by repeat (first | (with_reducible first | exact HK.out | apply Kept.alloc | apply Kept.drewN | apply Kept.drew | refine Kept.setCell ?_ (.inr dX.out) _) | exact HK.out)) hb); have gS := aM ((by rw [hg]; exact (aq zb_) : w0.heap.size ≤ bx)); replace HB := aM (ap zb_ hb); have bP := aM ((by rw [hg]; exact Nat.ne_of_lt (blk_lt (g := a9) (o := .cells #[.int .i64 a1_0, .string a1_1, .string a1_2] 68 (0, 0)) z7) : a9 ≠ bx)); have cg := aM ((by rw [hg]; exact Nat.ne_of_gt (blk_lt (g := a9) (o := .cells #[.int .i64 a1_0, .string a1_1, .string a1_2] 68 (0, 0)) z7) : bx ≠ a9)); replace aU := aM (bK_ aU.out hb); clear hb hbox hg; have hnb21 := cg.out; have hnc21 := bP.out; obtain ⟨dN, dM, dL, dK, dJ, dI⟩ := cc3 bd.out))
       (try simp only [Act.put, sA, sB, sC])
       go_cut [40] (fun v40 wc => ∃ (kq : Nat) (x40_18 : Bool), v40 = .bool x40_18 ∧ Aside0 (spec_l3Add.j1 kq l0 (l0.length : Int) x40_18 a1_0 a1_1 a1_2 ((sp l0 (a8)).f0) ((sp l0 (a8)).f1) ((sp l0 (a8)).f2) = some r) ∧ Aside0 (kq ≤ kj2) ∧ Aside0 (Kd.R k68 68 wc w0.heap.size (fun k_ => (P0_ k_ ∨ w.heap.size ≤ k_) ∧ k_ ≠ a9 ∧ k_ ≠ bx) (.slice (some ad551) l0.length fy) l0) ∧ Aside0 (wc.heap[a9]? = some (.cells #[.int .i64 a1_0, .string a1_1, .string a1_2] 68 (0, 0))) ∧ Aside0 (wc.heap[bx]? = some (.cells #[.int .i64 ((sp l0 (a8)).f0), .string ((sp l0 (a8)).f1), .string ((sp l0 (a8)).f2)] 68 (0, 0))) ∧ Aside0 (Kept w wc (fun k_ => P0_ k_)) ∧ Aside0 (Below w0.heap.size w0 wc))
       case first =>
        have H := qY.out
        clear qY
        by_cases fz : a1_0 > 0
        ·rw [if_pos fz] at H
         have c23b0 : decide (0 < a1_0) = true := dT fz
         clear fz
         (first | rw [c23b0] | (simp only [i64_w, i32_w]; rw [c23b0]) | skip)
         have H' := aM H
         clear H
         have hnb24 := bP.out
         have hnc24 := cg.out
         obtain ⟨ed, ec, eb, d4, d3, d2⟩ := cc3 aU.out
         obtain ⟨eK, eJ, eI, eB, eA, ez⟩ := cc3 bd.out
         go_wp2
         go_meet
         case rel => exact ⟨_, (decide (((sp l0 (a8)).f0) > 0)), (by first | rfl | (simp; done) | (simp only [← bR] <;> (first | rfl | (simp; done) | (simp; generalize ByteArray.toList _ = u_; cases u_ <;> (first | rfl | (simp; done))))) | (simp [*]; done)), (by first | exact H' | (simp only [bR]; exact H') | (simp only [← bR]; exact H')), ⟨by have := mf.out; first | omega | exact Nat.le_refl _⟩, ⟨by (with_reducible repeat (first | apply ac | apply ab | apply aa)); exact ag (ai (p := ⟨bx, 2, none⟩) (ai (p := ⟨bx, 1, none⟩) (ai (p := ⟨bx, 0, none⟩) (ag aX.out (fun k_ hk => (⟨hk, hk.2⟩ : _ ∧ k_ ≠ bx))) (fun _ hk => hk.2) (.int .i64 ((sp l0 (a8)).f0))) (fun _ hk => hk.2) (.string ((sp l0 (a8)).f1))) (fun _ hk => hk.2) (.string ((sp l0 (a8)).f2))) (fun _ hk => ⟨hk.1.1.1, ⟨hk.1.1.2, hk.1.2⟩⟩)⟩, ⟨by (with_reducible repeat (first | refine ak ?_ _ | refine aj ?_ | refine al ?_ _)); refine blk_far ?_ bP.out _; (with_reducible repeat (first | refine ak ?_ _ | refine aj ?_ | refine al ?_ _)); refine blk_far ?_ bP.out _; (with_reducible repeat (first | refine ak ?_ _ | refine aj ?_ | refine al ?_ _)); refine blk_far ?_ bP.out _; (with_reducible repeat (first | refine ak ?_ _ | refine aj ?_ | refine al ?_ _)); exact aU.out⟩, ⟨by (with_reducible repeat (first | refine ak ?_ _ | refine aj ?_ | refine al ?_ _)); refine am (cs := #[.int .i64 ((sp l0 (a8)).f0), .string ((sp l0 (a8)).f1), .string ⟨#[]⟩]) ?_ 2 _ rfl; (with_reducible repeat (first | refine ak ?_ _ | refine aj ?_ | refine al ?_ _)); refine am (cs := #[.int .i64 ((sp l0 (a8)).f0), .string ⟨#[]⟩, .string ⟨#[]⟩]) ?_ 1 _ rfl; (with_reducible repeat (first | refine ak ?_ _ | refine aj ?_ | refine al ?_ _)); refine am (cs := #[.int .i64 0, .string ⟨#[]⟩, .string ⟨#[]⟩]) ?_ 0 _ rfl; (with_reducible repeat (first | refine ak ?_ _ | refine aj ?_ | refine al ?_ _)); exact bd.out⟩, ⟨y38⟩, ⟨y34⟩⟩
        ·rw [if_neg fz] at H
         have c23b0 : decide (0 < a1_0) = false := dF fz
         clear fz
         (first | rw [c23b0] | (simp only [i64_w, i32_w]; rw [c23b0]) | skip)
         have H' := aM H
         clear H
         have hnb27 := bP.out
         have hnc27 := cg.out
         obtain ⟨eH, eG, eF, ey, ex, ew⟩ := cc3 aU.out
         go_wp2
         go_meet
         case rel => exact ⟨_, (false), z1, (by first | exact H' | (simp only [bR]; exact H') | (simp only [← bR]; exact H')), ⟨by have := mf.out; first | omega | exact Nat.le_refl _⟩, ⟨by (with_reducible repeat (first | apply ac | apply ab | apply aa)); exact ag (ai (p := ⟨bx, 2, none⟩) (ai (p := ⟨bx, 1, none⟩) (ai (p := ⟨bx, 0, none⟩) (ag aX.out (fun k_ hk => (⟨hk, hk.2⟩ : _ ∧ k_ ≠ bx))) (fun _ hk => hk.2) (.int .i64 ((sp l0 (a8)).f0))) (fun _ hk => hk.2) (.string ((sp l0 (a8)).f1))) (fun _ hk => hk.2) (.string ((sp l0 (a8)).f2))) (fun _ hk => ⟨hk.1.1.1, ⟨hk.1.1.2, hk.1.2⟩⟩)⟩, ⟨by (with_reducible repeat (first | refine ak ?_ _ | refine aj ?_ | refine al ?_ _)); refine blk_far ?_ bP.out _; (with_reducible repeat (first | refine ak ?_ _ | refine aj ?_ | refine al ?_ _)); refine blk_far ?_ bP.out _; (with_reducible repeat (first | refine ak ?_ _ | refine aj ?_ | refine al ?_ _)); refine blk_far ?_ bP.out _; (with_reducible repeat (first | refine ak ?_ _ | refine aj ?_ | refine al ?_ _)); exact aU.out⟩, ⟨by (with_reducible repeat (first | refine ak ?_ _ | refine aj ?_ | refine al ?_ _)); refine am (cs := #[.int .i64 ((sp l0 (a8)).f0), .string ((sp l0 (a8)).f1), .string ⟨#[]⟩]) ?_ 2 _ rfl; (with_reducible repeat (first | refine ak ?_ _ | refine aj ?_ | refine al ?_ _)); refine am (cs := #[.int .i64 ((sp l0 (a8)).f0), .string ⟨#[]⟩, .string ⟨#[]⟩]) ?_ 1 _ rfl; (with_reducible repeat (first | refine ak ?_ _ | refine aj ?_ | refine al ?_ _)); refine am (cs := #[.int .i64 0, .string ⟨#[]⟩, .string ⟨#[]⟩]) ?_ 0 _ rfl; (with_reducible repeat (first | refine ak ?_ _ | refine aj ?_ | refine al ?_ _)); exact bd.out⟩, ⟨y38⟩, ⟨y34⟩⟩
       case rest =>
        clear qY
        try clear b4
        try clear bT
        try clear c12b0
        try clear c12b1
        try clear c12b2
        try clear cA
        try clear c17b0
        try clear cJ
        try clear c18b0
        try clear dN
        try clear dM
        try clear dL
        try clear dK
        try clear dJ
        try clear dI
        try clear hx551_0
        try clear hx551_1
        try clear hx551_2
        try clear p551
        try clear q551
        obtain ⟨kq, x40_18, rfl, HA, nN, aX, aU, bd, HK, HB⟩ := hcut
        cases kq with
        | zero => exact absurd HA.out (by simp [spec_l3Add.j1])
        | succ kj18 =>
         have H := HA.out
         clear HA
         simp only [spec_l3Add.j1] at H
         by_cases gW : x40_18 = true
         ·subst gW
          rw [if_pos rfl] at H
          obtain ⟨cb, mo⟩ : ∃ j_ : Int, (wrap64 ((l0.length : Int) - 1)) = j_ := ⟨_, rfl⟩
          (try clear hji16w); (try clear bR)
          replace H : (if 0 ≤ (cb) then (if (cb) < (l0.length : Int) then (some (l0.set ((cb) : Int).toNat (⟨wrap64 (((sp l0 (cb)).f0) + a1_0), (sp l0 (cb)).f1, (sp l0 (cb)).f2⟩ : S68))) else (none)) else (none)) = some r := by first | (rw [mo] at H; exact H) | (simp only [mo] at H ⊢; exact H)
          have hji30w : (IntKind.i64.wrap ((l0.length : Int) - 1)) = cb := (i64_w _).trans mo
          by_cases js : 0 ≤ (cb)
          ·rw [if_pos js] at H
           have c31b0 : decide (0 ≤ (cb)) = true := dT js
           clear js
           by_cases nL : (cb) < (l0.length : Int)
           ·rw [if_pos nL] at H
            have c32b0 : decide ((cb) < (l0.length : Int)) = true := dT nL
            clear nL
            obtain ⟨y554, hy554⟩ : ∃ y_ : List (S68), y_ = (l0.set ((cb) : Int).toNat (⟨wrap64 (((sp l0 (cb)).f0) + a1_0), (sp l0 (cb)).f1, (sp l0 (cb)).f2⟩ : S68)) := ⟨_, rfl⟩
            replace H : (some y554) = some r := zh_ hy554
            have Ny554 := aM hy554
            clear hy554
            obtain rfl := sI H
            try go_wp2
            replace aX := aM (aa aX.out)
            replace aU := aM (aj aU.out)
            replace bd := aM (aj bd.out)
            replace HK := aM (Kept.drew HK.out)
            replace HB := aM (bD HB.out)
            have p553 : 0 ≤ ((cb) : Int) := oD z2
            have q553 : (cb) < (l0.length : Int) := oD z2
            obtain ⟨ad553, e553, hx553_0, hx553_1, hx553_2⟩ := at_T68 (ah aX.out).2.2 (cb) p553 q553
            obtain rfl : ad551 = ad553 := (by injection e553)
            replace p553 := eq_true p553
            replace q553 := eq_true q553
            have p33 : 0 ≤ ((cb) : Int) := oD z2
            have q33 : ((cb) : Int) < ((l0.length : Int) : Int) := oD z2
            obtain ⟨go33, co33, eo33, sw, gl33, cl33, HG33⟩ := Kd.R_form aX.out (by omega)
            (first | cases eo33 | (injection eo33 with ea_ en_ ec_; (first | subst ea_ | (injection ea_ with ea_; subst ea_)); subst ec_; clear en_))
            have GB33 := aM sw
            have GG33 := aM HG33
            clear sw gl33 HG33
            have HMgo33 := aM (show (P0_ go33 ∨ w.heap.size ≤ go33) from (aX.out.1 _ rfl).1)
            (first | simp only [add_plain] at hx551_0 | skip)
            (first | simp only [add_plain] at hx551_1 | skip)
            (first | simp only [add_plain] at hx551_2 | skip)
            (first | simp only [add_plain] at hx553_0 | skip)
            (first | simp only [add_plain] at hx553_1 | skip)
            (first | simp only [add_plain] at hx553_2 | skip)
            obtain ⟨ce33, hcl33, hM33, hcc33, hfr33⟩ := Kd.R_elem aX.out z68 ((cb) : Int) p33 q33
            obtain rfl := k68_openM hM33
            have hx33_0 : World.cell? _ ⟨go33, ((cb) : Int).toNat * 3, none⟩ = some (.int .i64 ((sp l0 (cb)).f0)) := hcc33 0 _ rfl
            have hx33_1 : World.cell? _ ⟨go33, ((cb) : Int).toNat * 3 + 1, none⟩ = some (.string ((sp l0 (cb)).f1)) := hcc33 1 _ rfl
            have hx33_2 : World.cell? _ ⟨go33, ((cb) : Int).toNat * 3 + 2, none⟩ = some (.string ((sp l0 (cb)).f2)) := hcc33 2 _ rfl
            have hf33_0 : World.frozen? _ ⟨go33, ((cb) : Int).toNat * 3, none⟩ = false := hfr33 0
            have hf33_1 : World.frozen? _ ⟨go33, ((cb) : Int).toNat * 3 + 1, none⟩ = false := hfr33 1
            have hf33_2 : World.frozen? _ ⟨go33, ((cb) : Int).toNat * 3 + 2, none⟩ = false := hfr33 2
            clear hcl33 hcc33 hfr33; (try clear hM33)
            replace p33 := eq_true p33
            replace q33 := eq_true q33
            obtain ⟨ce35, hcl35, hM35, hcc35, hfr35⟩ := Kd.R_elem aX.out z68 ((cb) : Int) (oD z2) (by have h_ : ((cb) : Int) < ((l0.length : Int) : Int) := oD z2; first | exact h_ | (have e_ := (ah aX.out).1; omega) | simpa using h_)
            obtain rfl := k68_openM hM35
            have HP35 := (Kd.R_seg aX.out ((cb) : Int) (oD z2) (by have h_ : ((cb) : Int) < ((l0.length : Int) : Int) := oD z2; first | exact h_ | (have e_ := (ah aX.out).1; omega) | simpa using h_) (seg := [.int .i64 (wrap64 (((sp l0 (cb)).f0) + a1_0))]) (j := 0) hcl35 hcc35 (show 1 ≤ 3 from by decide) (x' := (⟨wrap64 (((sp l0 (cb)).f0) + a1_0), (sp l0 (cb)).f1, (sp l0 (cb)).f2⟩ : S68)) (k68_mkM _ _ _ (⟨wrap64 (((sp l0 (cb)).f0) + a1_0), (sp l0 (cb)).f1, (sp l0 (cb)).f2⟩ : S68) ) (fun _ hk => hk)).1
            rw [← Ny554.out] at HP35
            have HQ35 := aM HP35
            clear hcl35 hcc35 hfr35 HP35; (try clear hM35)
            refine start_ (n := 12) (S := fun w' => w'.cell? ⟨a9, 0, none⟩ = some (.int .i64 a1_0) ∧ w'.cell? ⟨a9, 1, none⟩ = some (.string a1_1) ∧ w'.cell? ⟨a9, 2, none⟩ = some (.string a1_2) ∧ w'.cell? ⟨go33, ((cb)).toNat * 3, none⟩ = some (.int .i64 ((sp l0 (cb)).f0)) ∧ w'.cell? ⟨go33, ((cb)).toNat * 3 + 1, none⟩ = some (.string ((sp l0 (cb)).f1)) ∧ w'.cell? ⟨go33, ((cb)).toNat * 3 + 2, none⟩ = some (.string ((sp l0 (cb)).f2))) (ds := [11]) #[false, false, false, false, false, false, false, false, false, false, false, false] z0 rfl rfl ⟨(bC aU.out 0).trans rfl, (bC aU.out 1).trans rfl, (bC aU.out 2).trans rfl, hx553_0, hx553_1, hx553_2⟩ (fun hHeld => ?_); refine with_tabW spec_l3Add.tab9 spec_l3Add.bits9 (fun HT_ HW_ => ?_)
            (first | generalize wc.drew = w34 at aX aU bd HK HB GG33 HQ35 hf33_0 hf33_1 hf33_2 hx33_0 hx33_1 hx33_2 hx551_0 hx551_1 hx551_2 hx553_0 hx553_1 hx553_2 hHeld ⊢ | generalize wc.drew = w34 at aX aU bd HK HB GG33 HQ35 hf33_0 hf33_1 hf33_2 hx33_0 hx33_1 hx33_2 hHeld ⊢)
            refine pA 0 49 ?_
            refine pA 1 50 ?_
            refine pA 2 51 ?_
            refine pA 3 52 ?_
            refine pA 4 53 ?_
            refine pA 6 55 ?_
            refine t6_ 5 54 ?_
            refine t6_ 7 56 ?_
            refine pA 8 57 ?_
            refine pA 9 58 ?_
            refine pA 10 59 ?_
            refine last_ (i := 11) (N := none) #[true, true, true, true, true, true, true, true, true, true, true, true] rfl rfl (one_of HT_.out z0) (by decide) (fun K hK => ?_)
            refine skip_ (w1 := ?_) (by rfl) rfl ?_ ?_
            rotate_left
            ·go_simp
             rfl
            refine hK.out _ _ ?_
            clear hK K
            refine done_ (done_of HT_.out z0) ?_
            try go_wp2
            go_ret
            exact ⟨_, by first | rfl | (simp [errW_none, errW_some] <;> rfl) | (simp only [← bR, ← mo]; first | rfl | (simp [errW_none, errW_some] <;> rfl)) | (simp [*, errW_none, errW_some] <;> rfl), by (with_reducible repeat (first | apply ac | apply ab | apply aa)); exact ag HQ35.out (fun _ hk => hk.1), zb_, by repeat (first | (with_reducible first | exact HK.out | apply Kept.alloc | apply Kept.drewN | apply Kept.drew | refine Kept.setCell ?_ HMgo33.out _ | refine Kept.setCell ?_ (.inr dX.out) _ | refine Kept.setCell ?_ (.inr fF.out) _) | exact HK.out)⟩
           ·rw [if_neg nL] at H
            exact absurd H (by simp)
          ·rw [if_neg js] at H
           exact absurd H (by simp)
         ·replace gW := Bool.eq_false_iff.mpr gW
          subst gW
          rw [if_neg nF_] at H
          have mh := aM H
          clear H
          go_upto_region 10 with (fail)
          go_cut [60] (fun v60 wc => ∃ (kq : Nat) (x60_35 : Bool), v60 = .bool x60_35 ∧ Aside0 (spec_l3Add.j2 kq l0 (l0.length : Int) x60_35 a1_0 a1_1 a1_2 ((sp l0 (a8)).f0) ((sp l0 (a8)).f1) ((sp l0 (a8)).f2) = some r) ∧ Aside0 (kq ≤ kj18) ∧ Aside0 (Kd.R k68 68 wc w0.heap.size (fun k_ => (P0_ k_ ∨ w.heap.size ≤ k_) ∧ k_ ≠ a9 ∧ k_ ≠ bx) (.slice (some ad551) l0.length fy) l0) ∧ Aside0 (wc.heap[a9]? = some (.cells #[.int .i64 a1_0, .string a1_1, .string a1_2] 68 (0, 0))) ∧ Aside0 (wc.heap[bx]? = some (.cells #[.int .i64 ((sp l0 (a8)).f0), .string ((sp l0 (a8)).f1), .string ((sp l0 (a8)).f2)] 68 (0, 0))) ∧ Aside0 (Kept w wc (fun k_ => P0_ k_)) ∧ Aside0 (Below w0.heap.size w0 wc))
          case first =>
           have H := mh.out
           clear mh
           by_cases gM : a1_2.toList = ([] : List UInt8)
           ·rw [if_pos gM] at H
            have c37b0 : (a1_2.toList == ([] : List UInt8)) = true := qT gM
            have c37b1 : (a1_2.toList != ([] : List UInt8)) = false := nF gM
            have c37b8 : (!a1_2.toList.isEmpty) = false := by have h_ := c37b1; revert h_; cases a1_2.toList <;> simp
            clear gM
            (first | rw [c37b0] | (simp only [i64_w, i32_w]; rw [c37b0]) | rw [c37b8] | skip)
            have H' := aM H
            clear H
            have hnb38 := bP.out
            have hnc38 := cg.out
            obtain ⟨cU, cT, cS, cR, cQ, cP⟩ := cc3 aU.out
            go_wp2
            all_goals (try (exfalso; rename_i h_; rw [c37b0] at h_; cases h_; done))
            go_meet
            case rel => exact ⟨_, (false), z1, (by first | exact H' | (simp only [bR]; exact H') | (simp only [← bR]; exact H')), ⟨by have := mf.out; have := nN.out; first | omega | exact Nat.le_refl _⟩, ⟨y8⟩, ⟨y12⟩, ⟨y13⟩, ⟨y38⟩, ⟨y34⟩⟩
           ·rw [if_neg gM] at H
            have c37b0 : (a1_2.toList == ([] : List UInt8)) = false := qF gM
            have c37b1 : (a1_2.toList != ([] : List UInt8)) = true := nT gM
            have c37b8 : (!a1_2.toList.isEmpty) = true := by have h_ := c37b1; revert h_; cases a1_2.toList <;> simp
            (first | rw [c37b0] | (simp only [i64_w, i32_w]; rw [c37b0]) | rw [c37b8] | skip)
            have H' := aM H
            clear H
            have hnb40 := bP.out
            have hnc40 := cg.out
            obtain ⟨kZ, kY, kX, kI, kH, kG⟩ := cc3 aU.out
            obtain ⟨dx, dw, dv, du, dt, dr⟩ := cc3 bd.out
            go_wp2
            all_goals (try (exfalso; rename_i h_; rw [c37b0] at h_; cases h_; done))
            go_meet
            case rel => exact ⟨_, ((((sp l0 (a8)).f2).toList != ([] : List UInt8))), (by first | rfl | (simp; done) | (simp only [← bR] <;> (first | rfl | (simp; done) | (simp; generalize ByteArray.toList _ = u_; cases u_ <;> (first | rfl | (simp; done))))) | (simp [*]; done)), (by first | exact H' | (simp only [bR]; exact H') | (simp only [← bR]; exact H')), ⟨by have := mf.out; have := nN.out; first | omega | exact Nat.le_refl _⟩, ⟨y8⟩, ⟨y12⟩, ⟨y13⟩, ⟨y38⟩, ⟨y34⟩⟩
          case rest =>
           clear mh
           try clear p2
           try clear c6
           try clear c6b0
           try clear c6b1
           try clear c7
           try clear c7b0
           try clear c7b1
           try clear b4
           try clear bT
           try clear c12b0
           try clear c12b1
           try clear c12b2
           try clear bU
           try clear cA
           try clear c17b0
           try clear cJ
           try clear c18b0
           try clear gW
           try clear cG
           try clear cF
           try clear cE
           try clear cz
           try clear cy
           try clear cx
           try clear dN
           try clear dM
           try clear dL
           try clear fi
           try clear fh
           try clear fg
           try clear dc
           try clear db
           try clear da
           try clear cD
           try clear cC
           try clear cB
           try clear cw
           try clear cv
           try clear cu
           try clear dK
           try clear dJ
           try clear dI
           try clear fO
           try clear e3
           try clear e1
           try clear dh
           try clear cZ
           try clear cY
           try clear hx551_0
           try clear hx551_1
           try clear hx551_2
           try clear p2
           try clear p551
           try clear q551
           obtain ⟨kq, x60_35, rfl, HA, er, aX, aU, bd, HK, HB⟩ := hcut
           cases kq with
           | zero => exact absurd HA.out (by simp [spec_l3Add.j2])
           | succ kj35 =>
            have H := HA.out
            clear HA
            simp only [spec_l3Add.j2] at H
            by_cases nS : x60_35 = true
            ·subst nS
             rw [if_pos rfl] at H
             obtain ⟨bO, es⟩ : ∃ j_ : Int, (wrap64 ((l0.length : Int) - 1)) = j_ := ⟨_, rfl⟩
             (try clear hji16w); (try clear bR)
             replace H : (if 0 ≤ (bO) then (if (bO) < (l0.length : Int) then (if ((sp l0 (bO)).f2).size + a1_2.size ≤ 9223372036854775807 then (some (l0.set ((bO) : Int).toNat (⟨(sp l0 (bO)).f0, (sp l0 (bO)).f1, ((sp l0 (bO)).f2) ++ a1_2⟩ : S68))) else (none)) else (none)) else (none)) = some r := by first | (rw [es] at H; exact H) | (simp only [es] at H ⊢; exact H)
             have hji44w : (IntKind.i64.wrap ((l0.length : Int) - 1)) = bO := (i64_w _).trans es
             by_cases nR : 0 ≤ (bO)
             ·rw [if_pos nR] at H
              have c45b0 : decide (0 ≤ (bO)) = true := dT nR
              clear nR
              by_cases nQ : (bO) < (l0.length : Int)
              ·rw [if_pos nQ] at H
               have c46b0 : decide ((bO) < (l0.length : Int)) = true := dT nQ
               clear nQ
               by_cases kh : ((sp l0 (bO)).f2).size + a1_2.size ≤ 9223372036854775807
               ·rw [if_pos kh] at H
                have c47b0 := eq_true kh
                have c47b1 : decide (((sp l0 (bO)).f2).size + a1_2.size ≤ 9223372036854775807) = true := dT kh
                try have c47b2 : (9223372036854775807 < ((sp l0 (bO)).f2).size + a1_2.size) = False := eq_false (Nat.not_lt.2 kh)
                obtain ⟨y556, hy556⟩ : ∃ y_ : List (S68), y_ = (l0.set ((bO) : Int).toNat (⟨(sp l0 (bO)).f0, (sp l0 (bO)).f1, ((sp l0 (bO)).f2) ++ a1_2⟩ : S68)) := ⟨_, rfl⟩
                replace H : (some y556) = some r := zh_ hy556
                have Ny556 := aM hy556
                clear hy556
                obtain rfl := sI H
                try go_wp2
                replace aX := aM (aa aX.out)
                replace aU := aM (aj aU.out)
                replace bd := aM (aj bd.out)
                replace HK := aM (Kept.drew HK.out)
                replace HB := aM (bD HB.out)
                have p555 : 0 ≤ ((bO) : Int) := oD z2
                have q555 : (bO) < (l0.length : Int) := oD z2
                obtain ⟨ad555, e555, hx555_0, hx555_1, hx555_2⟩ := at_T68 (ah aX.out).2.2 (bO) p555 q555
                obtain rfl : ad551 = ad555 := (by injection e555)
                replace p555 := eq_true p555
                replace q555 := eq_true q555
                have p48 : 0 ≤ ((bO) : Int) := oD z2
                have q48 : ((bO) : Int) < ((l0.length : Int) : Int) := oD z2
                obtain ⟨go48, co48, eo48, su, gl48, cl48, HG48⟩ := Kd.R_form aX.out (by omega)
                (first | cases eo48 | (injection eo48 with ea_ en_ ec_; (first | subst ea_ | (injection ea_ with ea_; subst ea_)); subst ec_; clear en_))
                have GB48 := aM su
                have GG48 := aM HG48
                clear su gl48 HG48
                have HMgo48 := aM (show (P0_ go48 ∨ w.heap.size ≤ go48) from (aX.out.1 _ rfl).1)
                (first | simp only [add_plain] at hx555_0 | skip)
                (first | simp only [add_plain] at hx555_1 | skip)
                (first | simp only [add_plain] at hx555_2 | skip)
                obtain ⟨ce48, hcl48, hM48, hcc48, hfr48⟩ := Kd.R_elem aX.out z68 ((bO) : Int) p48 q48
                obtain rfl := k68_openM hM48
                have hx48_0 : World.cell? _ ⟨go48, ((bO) : Int).toNat * 3, none⟩ = some (.int .i64 ((sp l0 (bO)).f0)) := hcc48 0 _ rfl
                have hx48_1 : World.cell? _ ⟨go48, ((bO) : Int).toNat * 3 + 1, none⟩ = some (.string ((sp l0 (bO)).f1)) := hcc48 1 _ rfl
                have hx48_2 : World.cell? _ ⟨go48, ((bO) : Int).toNat * 3 + 2, none⟩ = some (.string ((sp l0 (bO)).f2)) := hcc48 2 _ rfl
                have hf48_0 : World.frozen? _ ⟨go48, ((bO) : Int).toNat * 3, none⟩ = false := hfr48 0
                have hf48_1 : World.frozen? _ ⟨go48, ((bO) : Int).toNat * 3 + 1, none⟩ = false := hfr48 1
                have hf48_2 : World.frozen? _ ⟨go48, ((bO) : Int).toNat * 3 + 2, none⟩ = false := hfr48 2
                clear hcl48 hcc48 hfr48; (try clear hM48)
                replace p48 := eq_true p48
                replace q48 := eq_true q48
                obtain ⟨ce50, hcl50, hM50, hcc50, hfr50⟩ := Kd.R_elem aX.out z68 ((bO) : Int) (oD z2) (by have h_ : ((bO) : Int) < ((l0.length : Int) : Int) := oD z2; first | exact h_ | (have e_ := (ah aX.out).1; omega) | simpa using h_)
                obtain rfl := k68_openM hM50
                have HP50 := (Kd.R_seg aX.out ((bO) : Int) (oD z2) (by have h_ : ((bO) : Int) < ((l0.length : Int) : Int) := oD z2; first | exact h_ | (have e_ := (ah aX.out).1; omega) | simpa using h_) (seg := [.string (((sp l0 (bO)).f2) ++ a1_2)]) (j := 2) hcl50 hcc50 (show 3 ≤ 3 from by decide) (x' := (⟨(sp l0 (bO)).f0, (sp l0 (bO)).f1, ((sp l0 (bO)).f2) ++ a1_2⟩ : S68)) (k68_mkM _ _ _ (⟨(sp l0 (bO)).f0, (sp l0 (bO)).f1, ((sp l0 (bO)).f2) ++ a1_2⟩ : S68) ) (fun _ hk => hk)).1
                rw [← Ny556.out] at HP50
                have HQ50 := aM HP50
                clear hcl50 hcc50 hfr50 HP50; (try clear hM50)
                refine start_ (n := 12) (S := fun w' => w'.cell? ⟨a9, 0, none⟩ = some (.int .i64 a1_0) ∧ w'.cell? ⟨a9, 1, none⟩ = some (.string a1_1) ∧ w'.cell? ⟨a9, 2, none⟩ = some (.string a1_2) ∧ w'.cell? ⟨go48, ((bO)).toNat * 3, none⟩ = some (.int .i64 ((sp l0 (bO)).f0)) ∧ w'.cell? ⟨go48, ((bO)).toNat * 3 + 1, none⟩ = some (.string ((sp l0 (bO)).f1)) ∧ w'.cell? ⟨go48, ((bO)).toNat * 3 + 2, none⟩ = some (.string ((sp l0 (bO)).f2))) (ds := [11]) #[false, false, false, false, false, false, false, false, false, false, false, false] z0 rfl rfl ⟨(bC aU.out 0).trans rfl, (bC aU.out 1).trans rfl, (bC aU.out 2).trans rfl, hx555_0, hx555_1, hx555_2⟩ (fun hHeld => ?_); refine with_tabW spec_l3Add.tab11 spec_l3Add.bits11 (fun HT_ HW_ => ?_)
                (first | generalize wc.drew = w49 at aX aU bd HK HB GG48 HQ50 hf48_0 hf48_1 hf48_2 hx48_0 hx48_1 hx48_2 hx555_0 hx555_1 hx555_2 hHeld ⊢ | generalize wc.drew = w49 at aX aU bd HK HB GG48 HQ50 hf48_0 hf48_1 hf48_2 hx48_0 hx48_1 hx48_2 hHeld ⊢)
                refine pA 0 69 ?_
                refine pA 1 70 ?_
                refine pA 2 71 ?_
                refine pA 3 72 ?_
                refine pA 4 73 ?_
                refine pA 6 75 ?_
                refine t6_ 5 74 ?_
                refine t6_ 7 76 ?_
                refine pA 8 77 ?_
                refine pA 9 78 ?_
                refine pA 10 79 ?_
                refine last_ (i := 11) (N := none) #[true, true, true, true, true, true, true, true, true, true, true, true] rfl rfl (one_of HT_.out z0) (by decide) (fun K hK => ?_)
                refine skip_ (w1 := ?_) (by rfl) rfl ?_ ?_
                rotate_left
                ·go_simp
                 rfl
                refine hK.out _ _ ?_
                clear hK K
                refine done_ (done_of HT_.out z0) ?_
                try go_wp2
                go_ret
                exact ⟨_, by first | rfl | (simp [errW_none, errW_some] <;> rfl) | (simp only [← bR, ← es]; first | rfl | (simp [errW_none, errW_some] <;> rfl)) | (simp [*, errW_none, errW_some] <;> rfl), by (with_reducible repeat (first | apply ac | apply ab | apply aa)); exact ag HQ50.out (fun _ hk => hk.1), zb_, by repeat (first | (with_reducible first | exact HK.out | apply Kept.alloc | apply Kept.drewN | apply Kept.drew | refine Kept.setCell ?_ HMgo48.out _ | refine Kept.setCell ?_ (.inr dX.out) _ | refine Kept.setCell ?_ (.inr fF.out) _) | exact HK.out)⟩
               ·rw [if_neg kh] at H
                exact absurd H (by simp)
              ·rw [if_neg nQ] at H
               exact absurd H (by simp)
             ·rw [if_neg nR] at H
              exact absurd H (by simp)
            ·replace nS := Bool.eq_false_iff.mpr nS
             subst nS
             rw [if_neg nF_] at H
             have qU := aM H
             clear H
             go_upto_region 12 with (fail)
             go_cut [80] (fun v80 wc => ∃ (kq : Nat) (x80_50 : Bool), v80 = .bool x80_50 ∧ Aside0 (spec_l3Add.j3 kq l0 (l0.length : Int) x80_50 a1_0 a1_1 a1_2 ((sp l0 (a8)).f0) ((sp l0 (a8)).f1) ((sp l0 (a8)).f2) = some r) ∧ Aside0 (kq ≤ kj35) ∧ Aside0 (Kd.R k68 68 wc w0.heap.size (fun k_ => (P0_ k_ ∨ w.heap.size ≤ k_) ∧ k_ ≠ a9 ∧ k_ ≠ bx) (.slice (some ad551) l0.length fy) l0) ∧ Aside0 (wc.heap[a9]? = some (.cells #[.int .i64 a1_0, .string a1_1, .string a1_2] 68 (0, 0))) ∧ Aside0 (wc.heap[bx]? = some (.cells #[.int .i64 ((sp l0 (a8)).f0), .string ((sp l0 (a8)).f1), .string ((sp l0 (a8)).f2)] 68 (0, 0))) ∧ Aside0 (Kept w wc (fun k_ => P0_ k_)) ∧ Aside0 (Below w0.heap.size w0 wc))
             case first =>
              have H := qU.out
              clear qU
              by_cases pG : a1_1.toList = ([] : List UInt8)
              ·rw [if_pos pG] at H
               have c52b0 : (a1_1.toList == ([] : List UInt8)) = true := qT pG
               have c52b1 : (a1_1.toList != ([] : List UInt8)) = false := nF pG
               have c52b8 : (!a1_1.toList.isEmpty) = false := by have h_ := c52b1; revert h_; cases a1_1.toList <;> simp
               clear pG
               (first | rw [c52b0] | (simp only [i64_w, i32_w]; rw [c52b0]) | rw [c52b8] | skip)
               have H' := aM H
               clear H
               have hnb53 := bP.out
               have hnc53 := cg.out
               obtain ⟨ea, d9, d8, d1, dZ, dY⟩ := cc3 aU.out
               go_wp2
               all_goals (try (exfalso; rename_i h_; rw [c52b0] at h_; cases h_; done))
               go_meet
               case rel => exact ⟨_, (false), z1, (by first | exact H' | (simp only [bR]; exact H') | (simp only [← bR]; exact H')), ⟨by have := mf.out; have := nN.out; have := er.out; first | omega | exact Nat.le_refl _⟩, ⟨y8⟩, ⟨y12⟩, ⟨y13⟩, ⟨y38⟩, ⟨y34⟩⟩
              ·rw [if_neg pG] at H
               have c52b0 : (a1_1.toList == ([] : List UInt8)) = false := qF pG
               have c52b1 : (a1_1.toList != ([] : List UInt8)) = true := nT pG
               have c52b8 : (!a1_1.toList.isEmpty) = true := by have h_ := c52b1; revert h_; cases a1_1.toList <;> simp
               (first | rw [c52b0] | (simp only [i64_w, i32_w]; rw [c52b0]) | rw [c52b8] | skip)
               have H' := aM H
               clear H
               have hnb55 := bP.out
               have hnc55 := cg.out
               obtain ⟨mR, mQ, mP, mv, mu, mt⟩ := cc3 aU.out
               obtain ⟨eE, eD, eC, ev, eu, et⟩ := cc3 bd.out
               go_wp2
               all_goals (try (exfalso; rename_i h_; rw [c52b0] at h_; cases h_; done))
               go_meet
               case rel => exact ⟨_, ((((sp l0 (a8)).f1).toList != ([] : List UInt8))), (by first | rfl | (simp; done) | (simp only [← bR] <;> (first | rfl | (simp; done) | (simp; generalize ByteArray.toList _ = u_; cases u_ <;> (first | rfl | (simp; done))))) | (simp [*]; done)), (by first | exact H' | (simp only [bR]; exact H') | (simp only [← bR]; exact H')), ⟨by have := mf.out; have := nN.out; have := er.out; first | omega | exact Nat.le_refl _⟩, ⟨y8⟩, ⟨y12⟩, ⟨y13⟩, ⟨y38⟩, ⟨y34⟩⟩
             case rest =>
              clear qU
              try clear c1
              try clear c2
              try clear p2
              try clear p5
              try clear q5
              try clear hx5
              try clear c6
              try clear c6b0
              try clear c6b1
              try clear p6
              try clear c7
              try clear c7b0
              try clear c7b1
              try clear b4
              try clear bT
              try clear c12b0
              try clear c12b1
              try clear c12b2
              try clear bU
              try clear cA
              try clear c17b0
              try clear cJ
              try clear c18b0
              try clear lX
              try clear fz
              try clear c23b0
              try clear na
              try clear oN
              try clear gW
              try clear js
              try clear c31b0
              try clear nL
              try clear c32b0
              try clear p33
              try clear q33
              try clear nS
              try clear cG
              try clear cF
              try clear cE
              try clear cz
              try clear cy
              try clear cx
              try clear dN
              try clear dM
              try clear dL
              try clear ed
              try clear ec
              try clear eb
              try clear eK
              try clear eJ
              try clear eI
              try clear eH
              try clear eG
              try clear eF
              try clear fi
              try clear fh
              try clear fg
              try clear dc
              try clear db
              try clear da
              try clear cD
              try clear cC
              try clear cB
              try clear cw
              try clear cv
              try clear cu
              try clear dK
              try clear dJ
              try clear dI
              try clear d4
              try clear d3
              try clear d2
              try clear eB
              try clear eA
              try clear ez
              try clear ey
              try clear ex
              try clear ew
              try clear fO
              try clear e3
              try clear e1
              try clear dh
              try clear cZ
              try clear cY
              try clear hx33_0
              try clear hx33_1
              try clear hx33_2
              try clear hx551_0
              try clear hx551_1
              try clear hx551_2
              try clear hx553_0
              try clear hx553_1
              try clear hx553_2
              try clear p2
              try clear p33
              try clear p5
              try clear p551
              try clear p553
              try clear p6
              try clear q33
              try clear q5
              try clear q551
              try clear q553
              obtain ⟨kq, x80_50, rfl, HA, sP, aX, aU, bd, HK, HB⟩ := hcut
              cases kq with
              | zero => exact absurd HA.out (by simp [spec_l3Add.j3])
              | succ kj50 =>
               have H := HA.out
               clear HA
               simp only [spec_l3Add.j3] at H
               by_cases sN : x80_50 = true
               ·subst sN
                rw [if_pos rfl] at H
                obtain ⟨b5, mm⟩ : ∃ j_ : Int, (wrap64 ((l0.length : Int) - 1)) = j_ := ⟨_, rfl⟩
                (try clear hji16w); (try clear bR)
                replace H : (if 0 ≤ (b5) then (if (b5) < (l0.length : Int) then (if ((sp l0 (b5)).f1).size + a1_1.size ≤ 9223372036854775807 then (some (l0.set ((b5) : Int).toNat (⟨(sp l0 (b5)).f0, ((sp l0 (b5)).f1) ++ a1_1, (sp l0 (b5)).f2⟩ : S68))) else (none)) else (none)) else (none)) = some r := by first | (rw [mm] at H; exact H) | (simp only [mm] at H ⊢; exact H)
                have hji59w : (IntKind.i64.wrap ((l0.length : Int) - 1)) = b5 := (i64_w _).trans mm
                by_cases sM : 0 ≤ (b5)
                ·rw [if_pos sM] at H
                 have c60b0 : decide (0 ≤ (b5)) = true := dT sM
                 clear sM
                 by_cases mc : (b5) < (l0.length : Int)
                 ·rw [if_pos mc] at H
                  have c61b0 : decide ((b5) < (l0.length : Int)) = true := dT mc
                  clear mc
                  by_cases lV : ((sp l0 (b5)).f1).size + a1_1.size ≤ 9223372036854775807
                  ·rw [if_pos lV] at H
                   have c62b0 := eq_true lV
                   have c62b1 : decide (((sp l0 (b5)).f1).size + a1_1.size ≤ 9223372036854775807) = true := dT lV
                   try have c62b2 : (9223372036854775807 < ((sp l0 (b5)).f1).size + a1_1.size) = False := eq_false (Nat.not_lt.2 lV)
                   obtain ⟨y558, hy558⟩ : ∃ y_ : List (S68), y_ = (l0.set ((b5) : Int).toNat (⟨(sp l0 (b5)).f0, ((sp l0 (b5)).f1) ++ a1_1, (sp l0 (b5)).f2⟩ : S68)) := ⟨_, rfl⟩
                   replace H : (some y558) = some r := zh_ hy558
                   have Ny558 := aM hy558
                   clear hy558
                   obtain rfl := sI H
                   try go_wp2
                   replace aX := aM (aa aX.out)
                   replace aU := aM (aj aU.out)
                   replace bd := aM (aj bd.out)
                   replace HK := aM (Kept.drew HK.out)
                   replace HB := aM (bD HB.out)
                   have p557 : 0 ≤ ((b5) : Int) := oD z2
                   have q557 : (b5) < (l0.length : Int) := oD z2
                   obtain ⟨ad557, e557, hx557_0, hx557_1, hx557_2⟩ := at_T68 (ah aX.out).2.2 (b5) p557 q557
                   obtain rfl : ad551 = ad557 := (by injection e557)
                   replace p557 := eq_true p557
                   replace q557 := eq_true q557
                   have p63 : 0 ≤ ((b5) : Int) := oD z2
                   have q63 : ((b5) : Int) < ((l0.length : Int) : Int) := oD z2
                   obtain ⟨go63, co63, eo63, st, gl63, cl63, HG63⟩ := Kd.R_form aX.out (by omega)
                   (first | cases eo63 | (injection eo63 with ea_ en_ ec_; (first | subst ea_ | (injection ea_ with ea_; subst ea_)); subst ec_; clear en_))
                   have GB63 := aM st
                   have GG63 := aM HG63
                   clear st gl63 HG63
                   have HMgo63 := aM (show (P0_ go63 ∨ w.heap.size ≤ go63) from (aX.out.1 _ rfl).1)
                   (first | simp only [add_plain] at hx557_0 | skip)
                   (first | simp only [add_plain] at hx557_1 | skip)
                   (first | simp only [add_plain] at hx557_2 | skip)
                   obtain ⟨ce63, hcl63, hM63, hcc63, hfr63⟩ := Kd.R_elem aX.out z68 ((b5) : Int) p63 q63
                   obtain rfl := k68_openM hM63
                   have hx63_0 : World.cell? _ ⟨go63, ((b5) : Int).toNat * 3, none⟩ = some (.int .i64 ((sp l0 (b5)).f0)) := hcc63 0 _ rfl
                   have hx63_1 : World.cell? _ ⟨go63, ((b5) : Int).toNat * 3 + 1, none⟩ = some (.string ((sp l0 (b5)).f1)) := hcc63 1 _ rfl
                   have hx63_2 : World.cell? _ ⟨go63, ((b5) : Int).toNat * 3 + 2, none⟩ = some (.string ((sp l0 (b5)).f2)) := hcc63 2 _ rfl
                   have hf63_0 : World.frozen? _ ⟨go63, ((b5) : Int).toNat * 3, none⟩ = false := hfr63 0
                   have hf63_1 : World.frozen? _ ⟨go63, ((b5) : Int).toNat * 3 + 1, none⟩ = false := hfr63 1
                   have hf63_2 : World.frozen? _ ⟨go63, ((b5) : Int).toNat * 3 + 2, none⟩ = false := hfr63 2
                   clear hcl63 hcc63 hfr63; (try clear hM63)
                   replace p63 := eq_true p63
                   replace q63 := eq_true q63
                   obtain ⟨ce65, hcl65, hM65, hcc65, hfr65⟩ := Kd.R_elem aX.out z68 ((b5) : Int) (oD z2) (by have h_ : ((b5) : Int) < ((l0.length : Int) : Int) := oD z2; first | exact h_ | (have e_ := (ah aX.out).1; omega) | simpa using h_)
                   obtain rfl := k68_openM hM65
                   have HP65 := (Kd.R_seg aX.out ((b5) : Int) (oD z2) (by have h_ : ((b5) : Int) < ((l0.length : Int) : Int) := oD z2; first | exact h_ | (have e_ := (ah aX.out).1; omega) | simpa using h_) (seg := [.string (((sp l0 (b5)).f1) ++ a1_1)]) (j := 1) hcl65 hcc65 (show 2 ≤ 3 from by decide) (x' := (⟨(sp l0 (b5)).f0, ((sp l0 (b5)).f1) ++ a1_1, (sp l0 (b5)).f2⟩ : S68)) (k68_mkM _ _ _ (⟨(sp l0 (b5)).f0, ((sp l0 (b5)).f1) ++ a1_1, (sp l0 (b5)).f2⟩ : S68) ) (fun _ hk => hk)).1
                   rw [← Ny558.out] at HP65
                   have HQ65 := aM HP65
                   clear hcl65 hcc65 hfr65 HP65; (try clear hM65)
                   refine start_ (n := 12) (S := fun w' => w'.cell? ⟨a9, 0, none⟩ = some (.int .i64 a1_0) ∧ w'.cell? ⟨a9, 1, none⟩ = some (.string a1_1) ∧ w'.cell? ⟨a9, 2, none⟩ = some (.string a1_2) ∧ w'.cell? ⟨go63, ((b5)).toNat * 3, none⟩ = some (.int .i64 ((sp l0 (b5)).f0)) ∧ w'.cell? ⟨go63, ((b5)).toNat * 3 + 1, none⟩ = some (.string ((sp l0 (b5)).f1)) ∧ w'.cell? ⟨go63, ((b5)).toNat * 3 + 2, none⟩ = some (.string ((sp l0 (b5)).f2))) (ds := [11]) #[false, false, false, false, false, false, false, false, false, false, false, false] z0 rfl rfl ⟨(bC aU.out 0).trans rfl, (bC aU.out 1).trans rfl, (bC aU.out 2).trans rfl, hx557_0, hx557_1, hx557_2⟩ (fun hHeld => ?_); refine with_tabW spec_l3Add.tab13 spec_l3Add.bits13 (fun HT_ HW_ => ?_)
                   (first | generalize wc.drew = w64 at aX aU bd HK HB GG63 HQ65 hf63_0 hf63_1 hf63_2 hx557_0 hx557_1 hx557_2 hx63_0 hx63_1 hx63_2 hHeld ⊢ | generalize wc.drew = w64 at aX aU bd HK HB GG63 HQ65 hf63_0 hf63_1 hf63_2 hx63_0 hx63_1 hx63_2 hHeld ⊢)
                   refine pA 0 89 ?_
                   refine pA 1 90 ?_
                   refine pA 2 91 ?_
                   refine pA 3 92 ?_
                   refine pA 4 93 ?_
                   refine pA 6 95 ?_
                   refine t6_ 5 94 ?_
                   refine t6_ 7 96 ?_
                   refine pA 8 97 ?_
                   refine pA 9 98 ?_
                   refine pA 10 99 ?_
                   refine last_ (i := 11) (N := none) #[true, true, true, true, true, true, true, true, true, true, true, true] rfl rfl (one_of HT_.out z0) (by decide) (fun K hK => ?_)
                   refine skip_ (w1 := ?_) (by rfl) rfl ?_ ?_
                   rotate_left
                   ·go_simp
                    rfl
                   refine hK.out _ _ ?_
                   clear hK K
                   refine done_ (done_of HT_.out z0) ?_
                   try go_wp2
                   go_ret
                   exact ⟨_, by first | rfl | (simp [errW_none, errW_some] <;> rfl) | (simp only [← bR, ← mm]; first | rfl | (simp [errW_none, errW_some] <;> rfl)) | (simp [*, errW_none, errW_some] <;> rfl), by (with_reducible repeat (first | apply ac | apply ab | apply aa)); exact ag HQ65.out (fun _ hk => hk.1), zb_, by repeat (first | (with_reducible first | exact HK.out | apply Kept.alloc | apply Kept.drewN | apply Kept.drew | refine Kept.setCell ?_ HMgo63.out _ | refine Kept.setCell ?_ (.inr dX.out) _ | refine Kept.setCell ?_ (.inr fF.out) _) | exact HK.out)⟩
                  ·rw [if_neg lV] at H
                   exact absurd H (by simp)
                 ·rw [if_neg mc] at H
                  exact absurd H (by simp)
                ·rw [if_neg sM] at H
                 exact absurd H (by simp)
               ·replace sN := Bool.eq_false_iff.mpr sN
                subst sN
                rw [if_neg nF_] at H
                have qQ := aM H
                clear H
                go_upto_region 14 with (fail)
                go_cut [100] (fun v100 wc => ∃ (kq : Nat) (x100_65 : Bool), v100 = .bool x100_65 ∧ Aside0 (spec_l3Add.j4 kq l0 (l0.length : Int) x100_65 a1_0 a1_1 a1_2 ((sp l0 (a8)).f0) ((sp l0 (a8)).f1) ((sp l0 (a8)).f2) = some r) ∧ Aside0 (kq ≤ kj50) ∧ Aside0 (Kd.R k68 68 wc w0.heap.size (fun k_ => (P0_ k_ ∨ w.heap.size ≤ k_) ∧ k_ ≠ a9 ∧ k_ ≠ bx) (.slice (some ad551) l0.length fy) l0) ∧ Aside0 (wc.heap[a9]? = some (.cells #[.int .i64 a1_0, .string a1_1, .string a1_2] 68 (0, 0))) ∧ Aside0 (wc.heap[bx]? = some (.cells #[.int .i64 ((sp l0 (a8)).f0), .string ((sp l0 (a8)).f1), .string ((sp l0 (a8)).f2)] 68 (0, 0))) ∧ Aside0 (Kept w wc (fun k_ => P0_ k_)) ∧ Aside0 (Below w0.heap.size w0 wc))
                case first =>
                 have H := qQ.out
                 clear qQ
                 by_cases lx : a1_1.toList = ([] : List UInt8)
                 ·rw [if_pos lx] at H
                  have c67b0 : (a1_1.toList == ([] : List UInt8)) = true := qT lx
                  have c67b1 : (a1_1.toList != ([] : List UInt8)) = false := nF lx
                  have c67b8 : (!a1_1.toList.isEmpty) = false := by have h_ := c67b1; revert h_; cases a1_1.toList <;> simp
                  clear lx
                  (first | rw [c67b0] | (simp only [i64_w, i32_w]; rw [c67b0]) | rw [c67b8] | skip)
                  have H' := aM H
                  clear H
                  have hnb68 := bP.out
                  have hnc68 := cg.out
                  obtain ⟨hcz69_0, hcz69_1, hcz69_2, hfz69_0, hfz69_1, hfz69_2⟩ := cc3 aU.out
                  go_wp2
                  all_goals (try (exfalso; rename_i h_; rw [c67b0] at h_; cases h_; done))
                  go_meet
                  case rel => exact ⟨_, (false), z1, (by first | exact H' | (simp only [bR]; exact H') | (simp only [← bR]; exact H')), ⟨by have := mf.out; have := nN.out; have := er.out; have := sP.out; first | omega | exact Nat.le_refl _⟩, ⟨y8⟩, ⟨y12⟩, ⟨y13⟩, ⟨y38⟩, ⟨y34⟩⟩
                 ·rw [if_neg lx] at H
                  have c67b0 : (a1_1.toList == ([] : List UInt8)) = false := qF lx
                  have c67b1 : (a1_1.toList != ([] : List UInt8)) = true := nT lx
                  have c67b8 : (!a1_1.toList.isEmpty) = true := by have h_ := c67b1; revert h_; cases a1_1.toList <;> simp
                  (first | rw [c67b0] | (simp only [i64_w, i32_w]; rw [c67b0]) | rw [c67b8] | skip)
                  have H' := aM H
                  clear H
                  have hnb70 := bP.out
                  have hnc70 := cg.out
                  obtain ⟨hZ, hY, hX, hD, g9, g8⟩ := cc3 aU.out
                  obtain ⟨hcz72_0, hcz72_1, hcz72_2, hfz72_0, hfz72_1, hfz72_2⟩ := cc3 bd.out
                  go_wp2
                  all_goals (try (exfalso; rename_i h_; rw [c67b0] at h_; cases h_; done))
                  go_meet
                  case rel => exact ⟨_, ((((sp l0 (a8)).f2).toList != ([] : List UInt8))), (by first | rfl | (simp; done) | (simp only [← bR] <;> (first | rfl | (simp; done) | (simp; generalize ByteArray.toList _ = u_; cases u_ <;> (first | rfl | (simp; done))))) | (simp [*]; done)), (by first | exact H' | (simp only [bR]; exact H') | (simp only [← bR]; exact H')), ⟨by have := mf.out; have := nN.out; have := er.out; have := sP.out; first | omega | exact Nat.le_refl _⟩, ⟨y8⟩, ⟨y12⟩, ⟨y13⟩, ⟨y38⟩, ⟨y34⟩⟩
                case rest =>
                 clear qQ
                 try clear c1
                 try clear c2
                 try clear p2
                 try clear c3
                 try clear p3
                 try clear q3
                 try clear hx3
                 try clear hf3
                 try clear c4
                 try clear p5
                 try clear q5
                 try clear hx5
                 try clear c6
                 try clear c6b0
                 try clear c6b1
                 try clear p6
                 try clear c7
                 try clear c7b0
                 try clear c7b1
                 try clear b4
                 try clear bT
                 try clear c12b0
                 try clear c12b1
                 try clear c12b2
                 try clear bU
                 try clear cA
                 try clear c17b0
                 try clear cJ
                 try clear c18b0
                 try clear lX
                 try clear fz
                 try clear c23b0
                 try clear na
                 try clear oN
                 try clear gW
                 try clear js
                 try clear c31b0
                 try clear nL
                 try clear c32b0
                 try clear ln
                 try clear p33
                 try clear q33
                 try clear hx33
                 try clear hf33
                 try clear nK
                 try clear gM
                 try clear c37b0
                 try clear c37b1
                 try clear m9
                 try clear qN
                 try clear nS
                 try clear nR
                 try clear c45b0
                 try clear nQ
                 try clear c46b0
                 try clear kh
                 try clear c47b0
                 try clear c47b1
                 try clear c47b2
                 try clear p48
                 try clear q48
                 try clear sN
                 try clear cG
                 try clear cF
                 try clear cE
                 try clear cz
                 try clear cy
                 try clear cx
                 try clear dN
                 try clear dM
                 try clear dL
                 try clear ed
                 try clear ec
                 try clear eb
                 try clear eK
                 try clear eJ
                 try clear eI
                 try clear eH
                 try clear eG
                 try clear eF
                 try clear cU
                 try clear cT
                 try clear cS
                 try clear kZ
                 try clear kY
                 try clear kX
                 try clear dx
                 try clear dw
                 try clear dv
                 try clear fi
                 try clear fh
                 try clear fg
                 try clear dc
                 try clear db
                 try clear da
                 try clear cD
                 try clear cC
                 try clear cB
                 try clear cw
                 try clear cv
                 try clear cu
                 try clear dK
                 try clear dJ
                 try clear dI
                 try clear d4
                 try clear d3
                 try clear d2
                 try clear eB
                 try clear eA
                 try clear ez
                 try clear ey
                 try clear ex
                 try clear ew
                 try clear cR
                 try clear cQ
                 try clear cP
                 try clear kI
                 try clear kH
                 try clear kG
                 try clear du
                 try clear dt
                 try clear dr
                 try clear fO
                 try clear e3
                 try clear e1
                 try clear dh
                 try clear cZ
                 try clear cY
                 try clear hx33_0
                 try clear hx33_1
                 try clear hx33_2
                 try clear hx48_0
                 try clear hx48_1
                 try clear hx48_2
                 try clear hx551_0
                 try clear hx551_1
                 try clear hx551_2
                 try clear hx553_0
                 try clear hx553_1
                 try clear hx553_2
                 try clear hx555_0
                 try clear hx555_1
                 try clear hx555_2
                 try clear p2
                 try clear p3
                 try clear p33
                 try clear p48
                 try clear p5
                 try clear p551
                 try clear p553
                 try clear p555
                 try clear p6
                 try clear q3
                 try clear q33
                 try clear q48
                 try clear q5
                 try clear q551
                 try clear q553
                 try clear q555
                 obtain ⟨kq, x100_65, rfl, HA, HJ65, aX, aU, bd, HK, HB⟩ := hcut
                 cases kq with
                 | zero => exact absurd HA.out (by simp [spec_l3Add.j4])
                 | succ kj65 =>
                  have H := HA.out
                  clear HA
                  simp only [spec_l3Add.j4] at H
                  by_cases tC : x100_65 = true
                  ·subst tC
                   rw [if_pos rfl] at H
                   by_cases mb : (l0.length : Int) > 1
                   ·rw [if_pos mb] at H
                    have c74b0 : decide (1 < (l0.length : Int)) = true := dT mb
                    have c74b1 : decide (1 < l0.length) = true := dT (by omega)
                    clear mb
                    obtain ⟨bM, lu⟩ : ∃ j_ : Int, (wrap64 ((l0.length : Int) - 2)) = j_ := ⟨_, rfl⟩
                    replace H : (if 0 ≤ (bM) then (if (bM) < (l0.length : Int) then (if ((sp l0 (bM)).f1).toList = ([] : List UInt8) then (if 0 ≤ (wrap64 ((l0.length : Int) - 1)) then (if (wrap64 ((l0.length : Int) - 1)) < (l0.length : Int) then ((some (l0.set ((wrap64 ((l0.length : Int) - 1)) : Int).toNat (⟨a1_0, a1_1, a1_2⟩ : S68) : List (S68))).bind fun y560 => (if y560.length < 3518437208883 then (some (y560 ++ [(⟨((sp l0 (a8)).f0), ((sp l0 (a8)).f1), ((sp l0 (a8)).f2)⟩ : S68)])) else (none))) else (none)) else (none)) else (if ((sp l0 (bM)).f1).size + a1_1.size ≤ 9223372036854775807 then (some (l0.set ((bM) : Int).toNat (⟨(sp l0 (bM)).f0, ((sp l0 (bM)).f1) ++ a1_1, (sp l0 (bM)).f2⟩ : S68))) else (none))) else (none)) else (none)) = some r := by first | (rw [lu] at H; exact H) | (simp only [lu] at H ⊢; exact H)
                    have hji75w : (IntKind.i64.wrap ((l0.length : Int) - 2)) = bM := (i64_w _).trans lu
                    by_cases oM : 0 ≤ (bM)
                    ·rw [if_pos oM] at H
                     have c76b0 : decide (0 ≤ (bM)) = true := dT oM
                     clear oM
                     by_cases oL : (bM) < (l0.length : Int)
                     ·rw [if_pos oL] at H
                      have c77b0 : decide ((bM) < (l0.length : Int)) = true := dT oL
                      clear oL
                      by_cases qM : ((sp l0 (bM)).f1).toList = ([] : List UInt8)
                      ·rw [if_pos qM] at H
                       have c78b0 : (((sp l0 (bM)).f1).toList == ([] : List UInt8)) = true := qT qM
                       have c78b1 : (((sp l0 (bM)).f1).toList != ([] : List UInt8)) = false := nF qM
                       have c78b8 : (!((sp l0 (bM)).f1).toList.isEmpty) = false := by have h_ := c78b1; revert h_; cases ((sp l0 (bM)).f1).toList <;> simp
                       clear qM
                       obtain ⟨dG, ml⟩ : ∃ j_ : Int, (wrap64 ((l0.length : Int) - 1)) = j_ := ⟨_, rfl⟩
                       (try clear hji16w); (try clear bR)
                       replace H : (if 0 ≤ (dG) then (if (dG) < (l0.length : Int) then ((some (l0.set ((dG) : Int).toNat (⟨a1_0, a1_1, a1_2⟩ : S68) : List (S68))).bind fun y560 => (if y560.length < 3518437208883 then (some (y560 ++ [(⟨((sp l0 (a8)).f0), ((sp l0 (a8)).f1), ((sp l0 (a8)).f2)⟩ : S68)])) else (none))) else (none)) else (none)) = some r := by first | (rw [ml] at H; exact H) | (simp only [ml] at H ⊢; exact H)
                       have hji79w : (IntKind.i64.wrap ((l0.length : Int) - 1)) = dG := (i64_w _).trans ml
                       by_cases oK : 0 ≤ (dG)
                       ·rw [if_pos oK] at H
                        have c80b0 : decide (0 ≤ (dG)) = true := dT oK
                        clear oK
                        by_cases pm : (dG) < (l0.length : Int)
                        ·rw [if_pos pm] at H
                         have c81b0 : decide ((dG) < (l0.length : Int)) = true := dT pm
                         clear pm
                         obtain ⟨y560, hy560⟩ : ∃ y_ : List (S68), y_ = (l0.set ((dG) : Int).toNat (⟨a1_0, a1_1, a1_2⟩ : S68)) := ⟨_, rfl⟩
                         replace H : (if y560.length < 3518437208883 then (some (y560 ++ [(⟨((sp l0 (a8)).f0), ((sp l0 (a8)).f1), ((sp l0 (a8)).f2)⟩ : S68)])) else (none)) = some r := zh_ hy560
                         have Ny560 := aM hy560
                         clear hy560
                         by_cases tB : y560.length < 3518437208883
                         ·rw [if_pos tB] at H
                          have LMc83 := aM tB
                          clear tB
                          obtain ⟨y561, hy561⟩ : ∃ y_ : List (S68), y_ = (y560 ++ [(⟨((sp l0 (a8)).f0), ((sp l0 (a8)).f1), ((sp l0 (a8)).f2)⟩ : S68)]) := ⟨_, rfl⟩
                          replace H : (some y561) = some r := zh_ hy561
                          have Ny561 := aM hy561
                          clear hy561
                          obtain rfl := sI H
                          have p559 : 0 ≤ ((bM) : Int) := oD z2
                          have q559 : (bM) < (l0.length : Int) := oD z2
                          obtain ⟨ad559, e559, hx559_0, hx559_1, hx559_2⟩ := at_T68 (ah aX.out).2.2 (bM) p559 q559
                          obtain rfl : ad551 = ad559 := (by injection e559)
                          replace p559 := eq_true p559
                          replace q559 := eq_true q559
                          have hnb84 := bP.out
                          have hnc84 := cg.out
                          obtain ⟨hcz85_0, hcz85_1, hcz85_2, hfz85_0, hfz85_1, hfz85_2⟩ := cc3 aU.out
                          have p82 : 0 ≤ ((dG) : Int) := oD z2
                          have q82 : ((dG) : Int) < ((l0.length : Int) : Int) := oD z2
                          obtain ⟨go82, co82, eo82, ss, gl82, cl82, HG82⟩ := Kd.R_form aX.out (by omega)
                          (first | cases eo82 | (injection eo82 with ea_ en_ ec_; (first | subst ea_ | (injection ea_ with ea_; subst ea_)); subst ec_; clear en_))
                          have GB82 := aM ss
                          have GG82 := aM HG82
                          clear ss gl82 HG82
                          have HMgo82 := aM (show (P0_ go82 ∨ w.heap.size ≤ go82) from (aX.out.1 _ rfl).1)
                          (first | simp only [add_plain] at hx559_0 | skip)
                          (first | simp only [add_plain] at hx559_1 | skip)
                          (first | simp only [add_plain] at hx559_2 | skip)
                          obtain ⟨ce82, hcl82, hM82, hcc82, hfr82⟩ := Kd.R_elem aX.out z68 ((dG) : Int) p82 q82
                          obtain rfl := k68_openM hM82
                          have hx82_0 : wc.cell? ⟨go82, ((dG) : Int).toNat * 3, none⟩ = some (.int .i64 ((sp l0 (dG)).f0)) := hcc82 0 _ rfl
                          have hx82_1 : wc.cell? ⟨go82, ((dG) : Int).toNat * 3 + 1, none⟩ = some (.string ((sp l0 (dG)).f1)) := hcc82 1 _ rfl
                          have hx82_2 : wc.cell? ⟨go82, ((dG) : Int).toNat * 3 + 2, none⟩ = some (.string ((sp l0 (dG)).f2)) := hcc82 2 _ rfl
                          have hf82_0 : wc.frozen? ⟨go82, ((dG) : Int).toNat * 3, none⟩ = false := hfr82 0
                          have hf82_1 : wc.frozen? ⟨go82, ((dG) : Int).toNat * 3 + 1, none⟩ = false := hfr82 1
                          have hf82_2 : wc.frozen? ⟨go82, ((dG) : Int).toNat * 3 + 2, none⟩ = false := hfr82 2
                          clear hcl82 hcc82 hfr82; (try clear hM82)
                          replace p82 := eq_true p82
                          replace q82 := eq_true q82
                          have HX86 := aM (show Kd.R k68 68 wc w0.heap.size (fun k_ => (P0_ k_ ∨ w.heap.size ≤ k_) ∧ k_ ≠ a9 ∧ k_ ≠ bx) (.slice (some ⟨go82, 0, none⟩) l0.length fy) l0 from z5)
                          obtain ⟨ce86, hcl86, hM86, hcc86, hfr86⟩ := Kd.R_elem HX86.out z68 ((dG) : Int) (oD z2) (by have h_ : ((dG) : Int) < ((l0.length : Int) : Int) := oD z2; first | exact h_ | (have e_ := (ah aX.out).1; omega) | simpa using h_)
                          obtain rfl := k68_openM hM86
                          have HP86 := Kd.R_seg HX86.out ((dG) : Int) (oD z2) (by have h_ : ((dG) : Int) < ((l0.length : Int) : Int) := oD z2; first | exact h_ | (have e_ := (ah aX.out).1; omega) | simpa using h_) (seg := [.int .i64 a1_0, .string a1_1, .string a1_2]) (j := 0) hcl86 hcc86 (show 3 ≤ 3 from by decide) (x' := (⟨a1_0, a1_1, a1_2⟩ : S68)) (k68_mkM _ _ _ (⟨a1_0, a1_1, a1_2⟩ : S68) ) (fun _ hk => hk)
                          have hx86_0 := hcc86 0 _ rfl
                          (try simp only [show (k68).sz = 3 from rfl, Nat.mul_one, Nat.add_zero] at hx86_0)
                          have hf86_0 := hfr86 0
                          (try simp only [show (k68).sz = 3 from rfl, Nat.mul_one, Nat.add_zero] at hf86_0)
                          have hx86_1 := hcc86 1 _ rfl
                          (try simp only [show (k68).sz = 3 from rfl, Nat.mul_one, Nat.add_zero] at hx86_1)
                          have hf86_1 := hfr86 1
                          (try simp only [show (k68).sz = 3 from rfl, Nat.mul_one, Nat.add_zero] at hf86_1)
                          have hx86_2 := hcc86 2 _ rfl
                          (try simp only [show (k68).sz = 3 from rfl, Nat.mul_one, Nat.add_zero] at hx86_2)
                          have hf86_2 := hfr86 2
                          (try simp only [show (k68).sz = 3 from rfl, Nat.mul_one, Nat.add_zero] at hf86_2)
                          clear hcl86 hcc86 hfr86; (try clear hM86)
                          go_wp2_with (first | ((with_reducible refine gate_store (t := 68) (p := 136) rfl ?_); refine store_event (t := 68) (p := 136) (v := ?vo_w87) (w1 := (((wc.setCell ⟨go82, ((dG) : Int).toNat * 3, none⟩ (.int .i64 a1_0)).setCell ⟨go82, ((dG) : Int).toNat * 3 + 1, none⟩ (.string a1_1)).setCell ⟨go82, ((dG) : Int).toNat * 3 + 2, none⟩ (.string a1_2))) ?hg ?ho ?hn ?hr ?_; (case ho => rfl); (case hg => rfl); (case hn => rfl); (case hr => first | (go_simp; done) | (go_simp; rfl) | ((try simp only [Int.toNat_natCast] at *); go_simp; first | done | rfl)); intro w87 hw; have hg : wc.grownBy w87 (some go82) := (by rw [hw]; exact HP86.2); have hp_ : Kd.R k68 68 w87 w0.heap.size (fun k_ => (P0_ k_ ∨ w.heap.size ≤ k_) ∧ k_ ≠ a9 ∧ k_ ≠ bx) (.slice (some ⟨go82, 0, none⟩) l0.length fy) y560 := (by rw [hw, Ny560.out]; exact HP86.1); clear HP86; replace aU := aM (blk_grown (g := a9) (o := .cells #[.int .i64 a1_0, .string a1_1, .string a1_2] 68 (0, 0)) z7 hg (Kd.R_away aX.out (fun _ hk => hk.2.1))); replace bd := aM (blk_grown (g := bx) (o := .cells #[.int .i64 ((sp l0 (a8)).f0), .string ((sp l0 (a8)).f1), .string ((sp l0 (a8)).f2)] 68 (0, 0)) (kB_ bd.out) hg (Kd.R_away aX.out (fun _ hk => hk.2.2))); replace HB := aM ((by rw [hw]; exact ao (ao (ao (HB.out) GB82.out) GB82.out) GB82.out : Below w0.heap.size w0 w87)); replace HK := aM (Kept.of_grown (S := (fun k_ => P0_ k_)) hg (by repeat (first | (with_reducible first | exact HK.out | apply Kept.alloc | apply Kept.drewN | apply Kept.drew | refine Kept.setCell ?_ (.inr dX.out) _ | refine Kept.setCell ?_ (.inr fF.out) _) | exact HK.out)) (fun k_ e_ => (aX.out.1 k_ e_).1)); replace aX := aM (hp_); clear hg hw hp_; obtain ⟨hcz88_0, hcz88_1, hcz88_2, hfz88_0, hfz88_1, hfz88_2⟩ := cc3 bd.out) | ((with_reducible refine gate_builtin (b := .append) (xs := #[.tmp 137, .tmp 139]) rfl ?_); at_builtin; refine aE k68 (w0 := w0) w0.heap.size rfl (.tmp 137) (.tmp 139) 23 68 (.agg #[(.int .i64 0), (.string ⟨#[]⟩), (.string ⟨#[]⟩)]) 40 rfl Try.underlying23 info68 rfl (by decide) (by omega) (.slice (some ⟨go82, 0, none⟩) l0.length fy) y560 (⟨((sp l0 (a8)).f0), ((sp l0 (a8)).f1), ((sp l0 (a8)).f2)⟩ : S68) [.int .i64 ((sp l0 (a8)).f0), .string ((sp l0 (a8)).f1), .string ((sp l0 (a8)).f2)] (fun k_ => (P0_ k_ ∨ w.heap.size ≤ k_) ∧ k_ ≠ a9 ∧ k_ ≠ bx) (fun _ => False) rfl rfl ?aP (fun _ hk => hk.elim) ?aF ?aO ?aB ?aS ?aL ?_; (case aP => exact k68_mkM _ _ _ (⟨((sp l0 (a8)).f0), ((sp l0 (a8)).f1), ((sp l0 (a8)).f2)⟩ : S68)); (case aB => exact zb_); (case aF => exact (fun k_ hk => ⟨(.inr (Nat.le_trans (by first | exact HK.out.1 | exact (show Kept w _ (fun k_ => P0_ k_) from by repeat (first | (with_reducible first | exact HK.out | apply Kept.alloc | apply Kept.drewN | apply Kept.drew | refine Kept.setCell ?_ (.inr dX.out) _ | refine Kept.setCell ?_ (.inr fF.out) _) | exact HK.out)).1) hk)), Kd.freshB (g := a9) (o := .cells #[.int .i64 a1_0, .string a1_1, .string a1_2] 68 (0, 0)) z7 k_ hk, Kd.freshB (g := bx) (o := .cells #[.int .i64 ((sp l0 (a8)).f0), .string ((sp l0 (a8)).f1), .string ((sp l0 (a8)).f2)] 68 (0, 0)) (kB_ bd.out) k_ hk⟩)); (case aO => exact z5); (case aS => exact (aq zb_)); (case aL => have := LMc83.out; omega); intro v562 w89 ho hb hg hat; rw [← Ny561.out] at ho; replace aU := aM (blk_grown (g := a9) (o := .cells #[.int .i64 a1_0, .string a1_1, .string a1_2] 68 (0, 0)) z7 hg (Kd.R_away aX.out (fun _ hk => hk.2.1))); replace bd := aM (blk_grown (g := bx) (o := .cells #[.int .i64 ((sp l0 (a8)).f0), .string ((sp l0 (a8)).f1), .string ((sp l0 (a8)).f2)] 68 (0, 0)) (kB_ bd.out) hg (Kd.R_away aX.out (fun _ hk => hk.2.2))); replace HB := aM hb; replace HK := aM (Kept.of_grown (S := (fun k_ => P0_ k_)) hg (by repeat (first | (with_reducible first | exact HK.out | apply Kept.alloc | apply Kept.drewN | apply Kept.drew | refine Kept.setCell ?_ (.inr dX.out) _ | refine Kept.setCell ?_ (.inr fF.out) _) | exact HK.out)) (fun k_ e_ => (aX.out.1 k_ e_).1)); have HO563 := aM (ho); clear aX; clear ho hb hg hat))
                          all_goals (try (exfalso; rename_i h_; rw [c78b0] at h_; cases h_; done))
                          go_ret
                          exact ⟨_, by first | rfl | (simp [errW_none, errW_some] <;> rfl) | (simp only [← bR, ← lu, ← ml]; first | rfl | (simp [errW_none, errW_some] <;> rfl)) | (simp [*, errW_none, errW_some] <;> rfl), by (with_reducible repeat (first | apply ac | apply ab | apply aa)); exact ag HO563.out (fun _ hk => hk.1), y34, y38⟩
                         ·rw [if_neg tB] at H
                          exact absurd H (by simp)
                        ·rw [if_neg pm] at H
                         exact absurd H (by simp)
                       ·rw [if_neg oK] at H
                        exact absurd H (by simp)
                      ·rw [if_neg qM] at H
                       have c78b0 : (((sp l0 (bM)).f1).toList == ([] : List UInt8)) = false := qF qM
                       have c78b1 : (((sp l0 (bM)).f1).toList != ([] : List UInt8)) = true := nT qM
                       have c78b8 : (!((sp l0 (bM)).f1).toList.isEmpty) = true := by have h_ := c78b1; revert h_; cases ((sp l0 (bM)).f1).toList <;> simp
                       by_cases nJ : ((sp l0 (bM)).f1).size + a1_1.size ≤ 9223372036854775807
                       ·rw [if_pos nJ] at H
                        have c90b0 := eq_true nJ
                        have c90b1 : decide (((sp l0 (bM)).f1).size + a1_1.size ≤ 9223372036854775807) = true := dT nJ
                        try have c90b2 : (9223372036854775807 < ((sp l0 (bM)).f1).size + a1_1.size) = False := eq_false (Nat.not_lt.2 nJ)
                        obtain ⟨y565, hy565⟩ : ∃ y_ : List (S68), y_ = (l0.set ((bM) : Int).toNat (⟨(sp l0 (bM)).f0, ((sp l0 (bM)).f1) ++ a1_1, (sp l0 (bM)).f2⟩ : S68)) := ⟨_, rfl⟩
                        replace H : (some y565) = some r := zh_ hy565
                        have Ny565 := aM hy565
                        clear hy565
                        obtain rfl := sI H
                        have p559 : 0 ≤ ((bM) : Int) := oD z2
                        have q559 : (bM) < (l0.length : Int) := oD z2
                        obtain ⟨ad559, e559, hx559_0, hx559_1, hx559_2⟩ := at_T68 (ah aX.out).2.2 (bM) p559 q559
                        obtain rfl : ad551 = ad559 := (by injection e559)
                        replace p559 := eq_true p559
                        replace q559 := eq_true q559
                        try go_wp2
                        replace aX := aM (aa aX.out)
                        replace aU := aM (aj aU.out)
                        replace bd := aM (aj bd.out)
                        replace HK := aM (Kept.drew HK.out)
                        replace HB := aM (bD HB.out)
                        have p564 : 0 ≤ ((bM) : Int) := oD z2
                        have q564 : (bM) < (l0.length : Int) := oD z2
                        obtain ⟨ad564, e564, hx564_0, hx564_1, hx564_2⟩ := at_T68 (ah aX.out).2.2 (bM) p564 q564
                        obtain rfl : ad551 = ad564 := (by injection e564)
                        replace p564 := eq_true p564
                        replace q564 := eq_true q564
                        have p91 : 0 ≤ ((bM) : Int) := oD z2
                        have q91 : ((bM) : Int) < ((l0.length : Int) : Int) := oD z2
                        obtain ⟨go91, co91, eo91, sr, gl91, cl91, HG91⟩ := Kd.R_form aX.out (by omega)
                        (first | cases eo91 | (injection eo91 with ea_ en_ ec_; (first | subst ea_ | (injection ea_ with ea_; subst ea_)); subst ec_; clear en_))
                        have GB91 := aM sr
                        have GG91 := aM HG91
                        clear sr gl91 HG91
                        have HMgo91 := aM (show (P0_ go91 ∨ w.heap.size ≤ go91) from (aX.out.1 _ rfl).1)
                        (first | simp only [add_plain] at hx559_0 | skip)
                        (first | simp only [add_plain] at hx559_1 | skip)
                        (first | simp only [add_plain] at hx559_2 | skip)
                        (first | simp only [add_plain] at hx564_0 | skip)
                        (first | simp only [add_plain] at hx564_1 | skip)
                        (first | simp only [add_plain] at hx564_2 | skip)
                        obtain ⟨ce91, hcl91, hM91, hcc91, hfr91⟩ := Kd.R_elem aX.out z68 ((bM) : Int) p91 q91
                        obtain rfl := k68_openM hM91
                        have hx91_0 : World.cell? _ ⟨go91, ((bM) : Int).toNat * 3, none⟩ = some (.int .i64 ((sp l0 (bM)).f0)) := hcc91 0 _ rfl
                        have hx91_1 : World.cell? _ ⟨go91, ((bM) : Int).toNat * 3 + 1, none⟩ = some (.string ((sp l0 (bM)).f1)) := hcc91 1 _ rfl
                        have hx91_2 : World.cell? _ ⟨go91, ((bM) : Int).toNat * 3 + 2, none⟩ = some (.string ((sp l0 (bM)).f2)) := hcc91 2 _ rfl
                        have hf91_0 : World.frozen? _ ⟨go91, ((bM) : Int).toNat * 3, none⟩ = false := hfr91 0
                        have hf91_1 : World.frozen? _ ⟨go91, ((bM) : Int).toNat * 3 + 1, none⟩ = false := hfr91 1
                        have hf91_2 : World.frozen? _ ⟨go91, ((bM) : Int).toNat * 3 + 2, none⟩ = false := hfr91 2
                        clear hcl91 hcc91 hfr91; (try clear hM91)
                        replace p91 := eq_true p91
                        replace q91 := eq_true q91
                        obtain ⟨ce93, hcl93, hM93, hcc93, hfr93⟩ := Kd.R_elem aX.out z68 ((bM) : Int) (oD z2) (by have h_ : ((bM) : Int) < ((l0.length : Int) : Int) := oD z2; first | exact h_ | (have e_ := (ah aX.out).1; omega) | simpa using h_)
                        obtain rfl := k68_openM hM93
                        have HP93 := (Kd.R_seg aX.out ((bM) : Int) (oD z2) (by have h_ : ((bM) : Int) < ((l0.length : Int) : Int) := oD z2; first | exact h_ | (have e_ := (ah aX.out).1; omega) | simpa using h_) (seg := [.string (((sp l0 (bM)).f1) ++ a1_1)]) (j := 1) hcl93 hcc93 (show 2 ≤ 3 from by decide) (x' := (⟨(sp l0 (bM)).f0, ((sp l0 (bM)).f1) ++ a1_1, (sp l0 (bM)).f2⟩ : S68)) (k68_mkM _ _ _ (⟨(sp l0 (bM)).f0, ((sp l0 (bM)).f1) ++ a1_1, (sp l0 (bM)).f2⟩ : S68) ) (fun _ hk => hk)).1
                        rw [← Ny565.out] at HP93
                        have HQ93 := aM HP93
                        clear hcl93 hcc93 hfr93 HP93; (try clear hM93)
                        refine start_ (n := 12) (S := fun w' => w'.cell? ⟨a9, 0, none⟩ = some (.int .i64 a1_0) ∧ w'.cell? ⟨a9, 1, none⟩ = some (.string a1_1) ∧ w'.cell? ⟨a9, 2, none⟩ = some (.string a1_2) ∧ w'.cell? ⟨go91, ((bM)).toNat * 3, none⟩ = some (.int .i64 ((sp l0 (bM)).f0)) ∧ w'.cell? ⟨go91, ((bM)).toNat * 3 + 1, none⟩ = some (.string ((sp l0 (bM)).f1)) ∧ w'.cell? ⟨go91, ((bM)).toNat * 3 + 2, none⟩ = some (.string ((sp l0 (bM)).f2))) (ds := [11]) #[false, false, false, false, false, false, false, false, false, false, false, false] z0 rfl rfl ⟨(bC aU.out 0).trans rfl, (bC aU.out 1).trans rfl, (bC aU.out 2).trans rfl, hx564_0, hx564_1, hx564_2⟩ (fun hHeld => ?_); refine with_tabW spec_l3Add.tab16 spec_l3Add.bits16 (fun HT_ HW_ => ?_)
                        (first | generalize wc.drew = w92 at aX aU bd HK HB GG91 HQ93 hf91_0 hf91_1 hf91_2 hx559_0 hx559_1 hx559_2 hx564_0 hx564_1 hx564_2 hx91_0 hx91_1 hx91_2 hHeld ⊢ | generalize wc.drew = w92 at aX aU bd HK HB GG91 HQ93 hf91_0 hf91_1 hf91_2 hx91_0 hx91_1 hx91_2 hHeld ⊢)
                        refine pA 0 120 ?_
                        refine pA 1 121 ?_
                        refine pA 2 122 ?_
                        refine pA 3 123 ?_
                        refine pA 4 124 ?_
                        refine pA 6 126 ?_
                        refine t6_ 5 125 ?_
                        refine t6_ 7 127 ?_
                        refine pA 8 128 ?_
                        refine pA 9 129 ?_
                        refine pA 10 130 ?_
                        refine last_ (i := 11) (N := none) #[true, true, true, true, true, true, true, true, true, true, true, true] rfl rfl (one_of HT_.out z0) (by decide) (fun K hK => ?_)
                        refine skip_ (w1 := ?_) (by rfl) rfl ?_ ?_
                        rotate_left
                        ·go_simp
                         rfl
                        refine hK.out _ _ ?_
                        clear hK K
                        refine done_ (done_of HT_.out z0) ?_
                        try go_wp2
                        go_ret
                        exact ⟨_, by first | rfl | (simp [errW_none, errW_some] <;> rfl) | (simp only [← bR, ← lu]; first | rfl | (simp [errW_none, errW_some] <;> rfl)) | (simp [*, errW_none, errW_some] <;> rfl), by (with_reducible repeat (first | apply ac | apply ab | apply aa)); exact ag HQ93.out (fun _ hk => hk.1), zb_, by repeat (first | (with_reducible first | exact HK.out | apply Kept.alloc | apply Kept.drewN | apply Kept.drew | refine Kept.setCell ?_ HMgo91.out _ | refine Kept.setCell ?_ (.inr dX.out) _ | refine Kept.setCell ?_ (.inr fF.out) _) | exact HK.out)⟩
                       ·rw [if_neg nJ] at H
                        exact absurd H (by simp)
                     ·rw [if_neg oL] at H
                      exact absurd H (by simp)
                    ·rw [if_neg oM] at H
                     exact absurd H (by simp)
                   ·rw [if_neg mb] at H
                    have c74b0 : decide (1 < (l0.length : Int)) = false := dF mb
                    have c74b1 : decide (1 < l0.length) = false := dF (by omega)
                    clear mb
                    obtain ⟨dE, mj⟩ : ∃ j_ : Int, (wrap64 ((l0.length : Int) - 1)) = j_ := ⟨_, rfl⟩
                    (try clear hji16w); (try clear bR)
                    replace H : (if 0 ≤ (dE) then (if (dE) < (l0.length : Int) then ((some (l0.set ((dE) : Int).toNat (⟨a1_0, a1_1, a1_2⟩ : S68) : List (S68))).bind fun y566 => (if y566.length < 3518437208883 then (some (y566 ++ [(⟨((sp l0 (a8)).f0), ((sp l0 (a8)).f1), ((sp l0 (a8)).f2)⟩ : S68)])) else (none))) else (none)) else (none)) = some r := by first | (rw [mj] at H; exact H) | (simp only [mj] at H ⊢; exact H)
                    have hji94w : (IntKind.i64.wrap ((l0.length : Int) - 1)) = dE := (i64_w _).trans mj
                    by_cases tu : 0 ≤ (dE)
                    ·rw [if_pos tu] at H
                     have c95b0 : decide (0 ≤ (dE)) = true := dT tu
                     clear tu
                     by_cases tt : (dE) < (l0.length : Int)
                     ·rw [if_pos tt] at H
                      have c96b0 : decide ((dE) < (l0.length : Int)) = true := dT tt
                      clear tt
                      obtain ⟨y566, hy566⟩ : ∃ y_ : List (S68), y_ = (l0.set ((dE) : Int).toNat (⟨a1_0, a1_1, a1_2⟩ : S68)) := ⟨_, rfl⟩
                      replace H : (if y566.length < 3518437208883 then (some (y566 ++ [(⟨((sp l0 (a8)).f0), ((sp l0 (a8)).f1), ((sp l0 (a8)).f2)⟩ : S68)])) else (none)) = some r := zh_ hy566
                      have Ny566 := aM hy566
                      clear hy566
                      by_cases tr : y566.length < 3518437208883
                      ·rw [if_pos tr] at H
                       have LMc98 := aM tr
                       clear tr
                       obtain ⟨y567, hy567⟩ : ∃ y_ : List (S68), y_ = (y566 ++ [(⟨((sp l0 (a8)).f0), ((sp l0 (a8)).f1), ((sp l0 (a8)).f2)⟩ : S68)]) := ⟨_, rfl⟩
                       replace H : (some y567) = some r := zh_ hy567
                       have Ny567 := aM hy567
                       clear hy567
                       obtain rfl := sI H
                       have hnb99 := bP.out
                       have hnc99 := cg.out
                       obtain ⟨hcz100_0, hcz100_1, hcz100_2, hfz100_0, hfz100_1, hfz100_2⟩ := cc3 aU.out
                       have p97 : 0 ≤ ((dE) : Int) := oD z2
                       have q97 : ((dE) : Int) < ((l0.length : Int) : Int) := oD z2
                       obtain ⟨go97, co97, eo97, sq, gl97, cl97, HG97⟩ := Kd.R_form aX.out (by omega)
                       (first | cases eo97 | (injection eo97 with ea_ en_ ec_; (first | subst ea_ | (injection ea_ with ea_; subst ea_)); subst ec_; clear en_))
                       have GB97 := aM sq
                       have GG97 := aM HG97
                       clear sq gl97 HG97
                       have HMgo97 := aM (show (P0_ go97 ∨ w.heap.size ≤ go97) from (aX.out.1 _ rfl).1)
                       obtain ⟨ce97, hcl97, hM97, hcc97, hfr97⟩ := Kd.R_elem aX.out z68 ((dE) : Int) p97 q97
                       obtain rfl := k68_openM hM97
                       have hx97_0 : wc.cell? ⟨go97, ((dE) : Int).toNat * 3, none⟩ = some (.int .i64 ((sp l0 (dE)).f0)) := hcc97 0 _ rfl
                       have hx97_1 : wc.cell? ⟨go97, ((dE) : Int).toNat * 3 + 1, none⟩ = some (.string ((sp l0 (dE)).f1)) := hcc97 1 _ rfl
                       have hx97_2 : wc.cell? ⟨go97, ((dE) : Int).toNat * 3 + 2, none⟩ = some (.string ((sp l0 (dE)).f2)) := hcc97 2 _ rfl
                       have hf97_0 : wc.frozen? ⟨go97, ((dE) : Int).toNat * 3, none⟩ = false := hfr97 0
                       have hf97_1 : wc.frozen? ⟨go97, ((dE) : Int).toNat * 3 + 1, none⟩ = false := hfr97 1
                       have hf97_2 : wc.frozen? ⟨go97, ((dE) : Int).toNat * 3 + 2, none⟩ = false := hfr97 2
                       clear hcl97 hcc97 hfr97; (try clear hM97)
                       replace p97 := eq_true p97
                       replace q97 := eq_true q97
                       have HX101 := aM (show Kd.R k68 68 wc w0.heap.size (fun k_ => (P0_ k_ ∨ w.heap.size ≤ k_) ∧ k_ ≠ a9 ∧ k_ ≠ bx) (.slice (some ⟨go97, 0, none⟩) l0.length fy) l0 from z5)
                       obtain ⟨ce101, hcl101, hM101, hcc101, hfr101⟩ := Kd.R_elem HX101.out z68 ((dE) : Int) (oD z2) (by have h_ : ((dE) : Int) < ((l0.length : Int) : Int) := oD z2; first | exact h_ | (have e_ := (ah aX.out).1; omega) | simpa using h_)
                       obtain rfl := k68_openM hM101
                       have HP101 := Kd.R_seg HX101.out ((dE) : Int) (oD z2) (by have h_ : ((dE) : Int) < ((l0.length : Int) : Int) := oD z2; first | exact h_ | (have e_ := (ah aX.out).1; omega) | simpa using h_) (seg := [.int .i64 a1_0, .string a1_1, .string a1_2]) (j := 0) hcl101 hcc101 (show 3 ≤ 3 from by decide) (x' := (⟨a1_0, a1_1, a1_2⟩ : S68)) (k68_mkM _ _ _ (⟨a1_0, a1_1, a1_2⟩ : S68) ) (fun _ hk => hk)
                       have hx101_0 := hcc101 0 _ rfl
                       (try simp only [show (k68).sz = 3 from rfl, Nat.mul_one, Nat.add_zero] at hx101_0)
                       have hf101_0 := hfr101 0
                       (try simp only [show (k68).sz = 3 from rfl, Nat.mul_one, Nat.add_zero] at hf101_0)
                       have hx101_1 := hcc101 1 _ rfl
                       (try simp only [show (k68).sz = 3 from rfl, Nat.mul_one, Nat.add_zero] at hx101_1)
                       have hf101_1 := hfr101 1
                       (try simp only [show (k68).sz = 3 from rfl, Nat.mul_one, Nat.add_zero] at hf101_1)
                       have hx101_2 := hcc101 2 _ rfl
                       (try simp only [show (k68).sz = 3 from rfl, Nat.mul_one, Nat.add_zero] at hx101_2)
                       have hf101_2 := hfr101 2
                       (try simp only [show (k68).sz = 3 from rfl, Nat.mul_one, Nat.add_zero] at hf101_2)
                       clear hcl101 hcc101 hfr101; (try clear hM101)
                       go_wp2_with (first | ((with_reducible refine gate_store (t := 68) (p := 136) rfl ?_); refine store_event (t := 68) (p := 136) (v := ?vo_w102) (w1 := (((wc.setCell ⟨go97, ((dE) : Int).toNat * 3, none⟩ (.int .i64 a1_0)).setCell ⟨go97, ((dE) : Int).toNat * 3 + 1, none⟩ (.string a1_1)).setCell ⟨go97, ((dE) : Int).toNat * 3 + 2, none⟩ (.string a1_2))) ?hg ?ho ?hn ?hr ?_; (case ho => rfl); (case hg => rfl); (case hn => rfl); (case hr => first | (go_simp; done) | (go_simp; rfl) | ((try simp only [Int.toNat_natCast] at *); go_simp; first | done | rfl)); intro w102 hw; have hg : wc.grownBy w102 (some go97) := (by rw [hw]; exact HP101.2); have hp_ : Kd.R k68 68 w102 w0.heap.size (fun k_ => (P0_ k_ ∨ w.heap.size ≤ k_) ∧ k_ ≠ a9 ∧ k_ ≠ bx) (.slice (some ⟨go97, 0, none⟩) l0.length fy) y566 := (by rw [hw, Ny566.out]; exact HP101.1); clear HP101; replace aU := aM (blk_grown (g := a9) (o := .cells #[.int .i64 a1_0, .string a1_1, .string a1_2] 68 (0, 0)) z7 hg (Kd.R_away aX.out (fun _ hk => hk.2.1))); replace bd := aM (blk_grown (g := bx) (o := .cells #[.int .i64 ((sp l0 (a8)).f0), .string ((sp l0 (a8)).f1), .string ((sp l0 (a8)).f2)] 68 (0, 0)) (kB_ bd.out) hg (Kd.R_away aX.out (fun _ hk => hk.2.2))); replace HB := aM ((by rw [hw]; exact ao (ao (ao (HB.out) GB97.out) GB97.out) GB97.out : Below w0.heap.size w0 w102)); replace HK := aM (Kept.of_grown (S := (fun k_ => P0_ k_)) hg (by repeat (first | (with_reducible first | exact HK.out | apply Kept.alloc | apply Kept.drewN | apply Kept.drew | refine Kept.setCell ?_ (.inr dX.out) _ | refine Kept.setCell ?_ (.inr fF.out) _) | exact HK.out)) (fun k_ e_ => (aX.out.1 k_ e_).1)); replace aX := aM (hp_); clear hg hw hp_; obtain ⟨hcz103_0, hcz103_1, hcz103_2, hfz103_0, hfz103_1, hfz103_2⟩ := cc3 bd.out) | ((with_reducible refine gate_builtin (b := .append) (xs := #[.tmp 137, .tmp 139]) rfl ?_); at_builtin; refine aE k68 (w0 := w0) w0.heap.size rfl (.tmp 137) (.tmp 139) 23 68 (.agg #[(.int .i64 0), (.string ⟨#[]⟩), (.string ⟨#[]⟩)]) 40 rfl Try.underlying23 info68 rfl (by decide) (by omega) (.slice (some ⟨go97, 0, none⟩) l0.length fy) y566 (⟨((sp l0 (a8)).f0), ((sp l0 (a8)).f1), ((sp l0 (a8)).f2)⟩ : S68) [.int .i64 ((sp l0 (a8)).f0), .string ((sp l0 (a8)).f1), .string ((sp l0 (a8)).f2)] (fun k_ => (P0_ k_ ∨ w.heap.size ≤ k_) ∧ k_ ≠ a9 ∧ k_ ≠ bx) (fun _ => False) rfl rfl ?aP (fun _ hk => hk.elim) ?aF ?aO ?aB ?aS ?aL ?_; (case aP => exact k68_mkM _ _ _ (⟨((sp l0 (a8)).f0), ((sp l0 (a8)).f1), ((sp l0 (a8)).f2)⟩ : S68)); (case aB => exact zb_); (case aF => exact (fun k_ hk => ⟨(.inr (Nat.le_trans (by first | exact HK.out.1 | exact (show Kept w _ (fun k_ => P0_ k_) from by repeat (first | (with_reducible first | exact HK.out | apply Kept.alloc | apply Kept.drewN | apply Kept.drew | refine Kept.setCell ?_ (.inr dX.out) _ | refine Kept.setCell ?_ (.inr fF.out) _) | exact HK.out)).1) hk)), Kd.freshB (g := a9) (o := .cells #[.int .i64 a1_0, .string a1_1, .string a1_2] 68 (0, 0)) z7 k_ hk, Kd.freshB (g := bx) (o := .cells #[.int .i64 ((sp l0 (a8)).f0), .string ((sp l0 (a8)).f1), .string ((sp l0 (a8)).f2)] 68 (0, 0)) (kB_ bd.out) k_ hk⟩)); (case aO => exact z5); (case aS => exact (aq zb_)); (case aL => have := LMc98.out; omega); intro v568 w104 ho hb hg hat; rw [← Ny567.out] at ho; replace aU := aM (blk_grown (g := a9) (o := .cells #[.int .i64 a1_0, .string a1_1, .string a1_2] 68 (0, 0)) z7 hg (Kd.R_away aX.out (fun _ hk => hk.2.1))); replace bd := aM (blk_grown (g := bx) (o := .cells #[.int .i64 ((sp l0 (a8)).f0), .string ((sp l0 (a8)).f1), .string ((sp l0 (a8)).f2)] 68 (0, 0)) (kB_ bd.out) hg (Kd.R_away aX.out (fun _ hk => hk.2.2))); replace HB := aM hb; replace HK := aM (Kept.of_grown (S := (fun k_ => P0_ k_)) hg (by repeat (first | (with_reducible first | exact HK.out | apply Kept.alloc | apply Kept.drewN | apply Kept.drew | refine Kept.setCell ?_ (.inr dX.out) _ | refine Kept.setCell ?_ (.inr fF.out) _) | exact HK.out)) (fun k_ e_ => (aX.out.1 k_ e_).1)); have HO569 := aM (ho); clear aX; clear ho hb hg hat))
                       go_ret
                       exact ⟨_, by first | rfl | (simp [errW_none, errW_some] <;> rfl) | (simp only [← bR, ← mj]; first | rfl | (simp [errW_none, errW_some] <;> rfl)) | (simp [*, errW_none, errW_some] <;> rfl), by (with_reducible repeat (first | apply ac | apply ab | apply aa)); exact ag HO569.out (fun _ hk => hk.1), y34, y38⟩
                      ·rw [if_neg tr] at H
                       exact absurd H (by simp)
                     ·rw [if_neg tt] at H
                      exact absurd H (by simp)
                    ·rw [if_neg tu] at H
                     exact absurd H (by simp)
                  ·replace tC := Bool.eq_false_iff.mpr tC
                   subst tC
                   rw [if_neg nF_] at H
                   by_cases pH : l0.length < 3518437208883
                   ·rw [if_pos pH] at H
                    have LMc105 := aM pH
                    clear pH
                    obtain ⟨y570, hy570⟩ : ∃ y_ : List (S68), y_ = (l0 ++ [(⟨a1_0, a1_1, a1_2⟩ : S68)]) := ⟨_, rfl⟩
                    replace H : (some y570) = some r := zh_ hy570
                    have Ny570 := aM hy570
                    clear hy570
                    obtain rfl := sI H
                    have hnb106 := bP.out
                    have hnc106 := cg.out
                    obtain ⟨hcz107_0, hcz107_1, hcz107_2, hfz107_0, hfz107_1, hfz107_2⟩ := cc3 aU.out
                    go_wp2_with (first | ((with_reducible refine gate_builtin (b := .append) (xs := #[.tmp 36, .tmp 38]) rfl ?_); at_builtin; refine aE k68 (w0 := w0) w0.heap.size rfl (.tmp 36) (.tmp 38) 23 68 (.agg #[(.int .i64 0), (.string ⟨#[]⟩), (.string ⟨#[]⟩)]) 40 rfl Try.underlying23 info68 rfl (by decide) (by omega) (.slice (some ad551) l0.length fy) l0 (⟨a1_0, a1_1, a1_2⟩ : S68) [.int .i64 a1_0, .string a1_1, .string a1_2] (fun k_ => (P0_ k_ ∨ w.heap.size ≤ k_) ∧ k_ ≠ a9 ∧ k_ ≠ bx) (fun _ => False) rfl rfl ?aP (fun _ hk => hk.elim) ?aF ?aO ?aB ?aS ?aL ?_; (case aP => exact k68_mkM _ _ _ (⟨a1_0, a1_1, a1_2⟩ : S68)); (case aB => exact zb_); (case aF => exact (fun k_ hk => ⟨(.inr (Nat.le_trans (by first | exact HK.out.1 | exact (show Kept w _ (fun k_ => P0_ k_) from by repeat (first | (with_reducible first | exact HK.out | apply Kept.alloc | apply Kept.drewN | apply Kept.drew | refine Kept.setCell ?_ (.inr dX.out) _ | refine Kept.setCell ?_ (.inr fF.out) _) | exact HK.out)).1) hk)), Kd.freshB (g := a9) (o := .cells #[.int .i64 a1_0, .string a1_1, .string a1_2] 68 (0, 0)) z7 k_ hk, Kd.freshB (g := bx) (o := .cells #[.int .i64 ((sp l0 (a8)).f0), .string ((sp l0 (a8)).f1), .string ((sp l0 (a8)).f2)] 68 (0, 0)) (kB_ bd.out) k_ hk⟩)); (case aO => exact z5); (case aS => exact (aq zb_)); (case aL => have := LMc105.out; omega); intro v571 w108 ho hb hg hat; rw [← Ny570.out] at ho; replace aU := aM (blk_grown (g := a9) (o := .cells #[.int .i64 a1_0, .string a1_1, .string a1_2] 68 (0, 0)) z7 hg (Kd.R_away aX.out (fun _ hk => hk.2.1))); replace bd := aM (blk_grown (g := bx) (o := .cells #[.int .i64 ((sp l0 (a8)).f0), .string ((sp l0 (a8)).f1), .string ((sp l0 (a8)).f2)] 68 (0, 0)) (kB_ bd.out) hg (Kd.R_away aX.out (fun _ hk => hk.2.2))); replace HB := aM hb; replace HK := aM (Kept.of_grown (S := (fun k_ => P0_ k_)) hg (by repeat (first | (with_reducible first | exact HK.out | apply Kept.alloc | apply Kept.drewN | apply Kept.drew | refine Kept.setCell ?_ (.inr dX.out) _ | refine Kept.setCell ?_ (.inr fF.out) _) | exact HK.out)) (fun k_ e_ => (aX.out.1 k_ e_).1)); have HO572 := aM (ho); clear aX; clear ho hb hg hat))
                    go_ret
                    exact ⟨_, by first | rfl | (simp [errW_none, errW_some] <;> rfl) | (simp only [← bR]; first | rfl | (simp [errW_none, errW_some] <;> rfl)) | (simp [*, errW_none, errW_some] <;> rfl), by (with_reducible repeat (first | apply ac | apply ab | apply aa)); exact ag HO572.out (fun _ hk => hk.1), y34, y38⟩
                   ·rw [if_neg pH] at H
                    exact absurd H (by simp)
      ·rw [if_neg cJ] at H
       exact absurd H (by simp)
     ·rw [if_neg cA] at H
      exact absurd H (by simp)

/-! ### spec_l3Normal: function 47 -/
def spec_l3Normal.l0 : Nat → List (S68) → List (S68) → Int → Int → Option ((List (S68)))
 | 0, _, _, _, _ => none
 | k + 1, x3, x6, x7, x8 => if x8 < x7 then (if 0 ≤ x8 then (if x8 < (x6.length : Int) then ((spec_l3Add.f k x3 ((sp x6 x8).f0) ((sp x6 x8).f1) ((sp x6 x8).f2)).bind fun pq => (spec_l3Normal.l0 k pq x6 x7 (wrap64 (x8 + 1)))) else (none)) else (none)) else (some x3)
def spec_l3Normal.f (k : Nat) (l0 : List (S68)) : Option ((List (S68))) := spec_l3Normal.l0 k ([] : List (S68)) l0 (l0.length : Int) 0
theorem spec_l3Normal.mono_l : ∀ k, (∀ y0 y1 y2 y3, LeO (spec_l3Normal.l0 k y0 y1 y2 y3) (spec_l3Normal.l0 (k + 1) y0 y1 y2 y3))
 | 0 => fun _ _ _ _ r h => by simp [spec_l3Normal.l0] at h
 | k + 1 => by
  have ih0 := spec_l3Normal.mono_l k
  ·intro y0 y1 y2 y3
   unfold spec_l3Normal.l0
   with_reducible repeat' first | exact ih0 _ _ _ _ | exact spec_l3Add.mono _ _ _ _ _ | exact lR_ _ | exact lN_ _ | refine lI_ ?_ ?_ | refine lB_ ?_ fun _ => ?_
theorem spec_l3Normal.mono : ∀ a0 k, LeO (spec_l3Normal.f k a0) (spec_l3Normal.f (k + 1) a0) := by
 intro a0 k
 have ih0 := spec_l3Normal.mono_l k
 unfold spec_l3Normal.f
 with_reducible repeat' first | exact ih0 _ _ _ _ | exact spec_l3Add.mono _ _ _ _ _ | exact lR_ _ | exact lN_ _ | refine lI_ ?_ ?_ | refine lB_ ?_ fun _ => ?_
theorem spec_l3Normal.calls (k : Nat) (A0 : Option Addr) (c0 : Nat) (l0 : List (S68)) (r : List (S68)) (w : World) (hr0 : Kd.C k68 w A0 l0.length l0) (hc0 : l0.length ≤ c0) (h : spec_l3Normal.f k l0 = some r) :
  Calls Try.prog 47 #[.slice A0 l0.length c0] w fun e w' => ∃ v0_ : Value, e = .returned (v0_) ∧ Kd.R k68 68 w' w.heap.size (fun _ => True) v0_ r ∧ Below w.heap.size w w' := by
 have hu68 := Try.underlying68
 have bH := aM hr0
 have cH := aM hc0
 clear hr0 hc0
 have HB := aM (Below.refl w.heap.size w)
 have H : (spec_l3Normal.l0 k ([] : List (S68)) l0 (l0.length : Int) 0) = some r := h
 clear h
 have H' := aM H
 clear H
 go_enter Try.func47, Try.ntmps47
 go_wp2
 go_loopg [3, 8] k (fun kq v3 v8 w' => ∃ (x3_1 : List (S68)) (x8_1 : Int), v8 = .int .i64 x8_1 ∧ Aside0 (spec_l3Normal.l0 kq x3_1 l0 (l0.length : Int) x8_1 = some r) ∧ Aside0 (kq ≤ k) ∧ Aside0 (Kd.R k68 68 w' w.heap.size (fun _ => True) v3 x3_1) ∧ Aside0 (Below w.heap.size w w'))
 case atStart => exact ⟨(([] : List (S68))), (0), z1, H', ⟨Nat.le_refl _⟩, ⟨y29⟩, ⟨y6⟩⟩
 case round =>
  clear H'
  obtain ⟨x3_1, x8_1, rfl, HA, HK1, bf, HB⟩ := hrel
  cases gk with
  | zero => exact absurd HA.out (by simp [spec_l3Normal.l0])
  | succ k1 =>
   have H := HA.out
   clear HA
   simp only [spec_l3Normal.l0] at H
   by_cases c2 : x8_1 < (l0.length : Int)
   ·rw [if_pos c2] at H
    have c2b0 : decide (x8_1 < (l0.length : Int)) = true := dT c2
    clear c2
    by_cases c3 : 0 ≤ x8_1
    ·rw [if_pos c3] at H
     have c3b0 : decide (0 ≤ x8_1) = true := dT c3
     clear c3
     by_cases c4 : x8_1 < (l0.length : Int)
     ·rw [if_pos c4] at H
      have c4b0 : decide (x8_1 < (l0.length : Int)) = true := dT c4
      clear c4
      obtain ⟨pq, A5, H⟩ := oA_ H
      try dsimp only at H
      have H' := aM H
      clear H
      have p573 : 0 ≤ (x8_1 : Int) := oD z2
      have q573 : x8_1 < (l0.length : Int) := oD z2
      obtain ⟨ad573, e573, hx573_0, hx573_1, hx573_2⟩ := at_T68 bH.out x8_1 p573 q573
      cases e573
      replace hx573_0 := hC_ HB.out hx573_0
      replace hx573_1 := hC_ HB.out hx573_1
      replace hx573_2 := hC_ HB.out hx573_2
      replace p573 := eq_true p573
      replace q573 := eq_true q573
      go_wp2_with (first | ((with_reducible refine ay (N := 5) rfl ?_); refine bE_ (N := 5) (cs := #[.int .i64 0, .string ⟨#[]⟩, .string ⟨#[]⟩]) (t := 68) (h := ?_); intro di hg w6 hbox hb; replace bf := aM (af (Kd.R_elderB z4 di (Nat.le_of_eq hg.symm)) hb); have dA := aM (hbox); have GW574 := aM ((zg_ : w.heap.size ≤ di)); have pb := aM ((zg_ : w.heap.size ≤ di)); replace HB := aM (ap z9 hb); clear hb hbox hg; obtain ⟨hcz7_0, hcz7_1, hcz7_2, hfz7_0, hfz7_1, hfz7_2⟩ := cc3 dA.out) | ((with_reducible refine gate_store (t := 68) (p := 5) rfl ?_); refine store_event (t := 68) (p := 5) (v := ?vo_w8) (w1 := (((w6.setCell ⟨di, 0, none⟩ (.int .i64 ((sp l0 x8_1).f0))).setCell ⟨di, 1, none⟩ (.string ((sp l0 x8_1).f1))).setCell ⟨di, 2, none⟩ (.string ((sp l0 x8_1).f2)))) ?hg ?ho ?hn ?hr ?_; (case ho => rfl); (case hg => rfl); (case hn => rfl); (case hr => first | (go_simp; done) | (go_simp; rfl) | ((try simp only [Int.toNat_natCast] at *); go_simp; first | done | rfl)); intro w8 hw; have aI : Aside0 (Kd.R k68 68 w8 w.heap.size (fun k_ => k_ ≠ di) u3 x3_1) := ⟨(by rw [hw]; exact (by (with_reducible repeat (first | apply ac | apply ab | apply aa)); exact ag (ai (p := ⟨di, 2, none⟩) (ai (p := ⟨di, 1, none⟩) (ai (p := ⟨di, 0, none⟩) (ag bf.out (fun k_ hk => (⟨hk, hk.2⟩ : _ ∧ k_ ≠ di))) (fun _ hk => hk.2) (.int .i64 ((sp l0 x8_1).f0))) (fun _ hk => hk.2) (.string ((sp l0 x8_1).f1))) (fun _ hk => hk.2) (.string ((sp l0 x8_1).f2))) (fun _ hk => hk.1.2)))⟩; have aJ : Aside0 (w8.heap[di]? = some (.cells #[.int .i64 ((sp l0 x8_1).f0), .string ((sp l0 x8_1).f1), .string ((sp l0 x8_1).f2)] 68 (0, 0))) := ⟨(by rw [hw]; exact (by (with_reducible repeat (first | refine ak ?_ _ | refine aj ?_ | refine al ?_ _)); refine am (cs := #[.int .i64 ((sp l0 x8_1).f0), .string ((sp l0 x8_1).f1), .string ⟨#[]⟩]) ?_ 2 _ rfl; (with_reducible repeat (first | refine ak ?_ _ | refine aj ?_ | refine al ?_ _)); refine am (cs := #[.int .i64 ((sp l0 x8_1).f0), .string ⟨#[]⟩, .string ⟨#[]⟩]) ?_ 1 _ rfl; (with_reducible repeat (first | refine ak ?_ _ | refine aj ?_ | refine al ?_ _)); refine am (cs := #[.int .i64 0, .string ⟨#[]⟩, .string ⟨#[]⟩]) ?_ 0 _ rfl; (with_reducible repeat (first | refine ak ?_ _ | refine aj ?_ | refine al ?_ _)); exact dA.out))⟩; have aK : Aside0 (Below w.heap.size w w8) := ⟨(by rw [hw]; exact zb_)⟩; clear hw; clear bf; clear dA; clear HB; have bf := aI; have dA := aJ; have HB := aK; clear aI aJ aK; obtain ⟨dc, db, da, dh, cZ, cY⟩ := cc3 dA.out; obtain ⟨ll, lf, eo10⟩ := Kd.R_slice bf.out; subst eo10) | ((with_reducible refine ax (f := 61) rfl ?_); refine aC (some 14) rfl rfl Try.func61 z0 rfl #[.slice ll x3_1.length lf, .agg #[.int .i64 ((sp l0 x8_1).f0), .string ((sp l0 x8_1).f1), .string ((sp l0 x8_1).f2)]] rfl z10 ?_; (with_reducible refine (spec_l3Add.calls k1 (fun k_ => some k_ = (.slice ll x3_1.length lf : Value).ownBlock) (.slice ll x3_1.length lf) x3_1 ((sp l0 x8_1).f0) ((sp l0 x8_1).f1) ((sp l0 x8_1).f2) pq w _ ?side1 ?side2 A5.out).mono ?_); (case side1 => repeat (first | (with_reducible first | exact HB.out | apply bA | apply pD | apply bD | refine ao ?_ pb.out) | exact HB.out)); (case side2 => exact Kd.R_tight rfl bf.out); rintro e w11 ⟨v576, rfl, ho0, hb, hkp⟩; refine ⟨_, rfl, ?_⟩; have HO577 := aM (ag (ok' := fun k_ => k_ ≠ di) ho0 (fun k_ hk_ => Or.elim hk_ (fun hs_ => fun e_ => (Kd.R_away bf.out (fun _ hk => hk)) (by rw [← e_]; exact hs_)) (fun hn_ => (Kd.freshB (g := di) (o := .cells #[.int .i64 ((sp l0 x8_1).f0), .string ((sp l0 x8_1).f1), .string ((sp l0 x8_1).f2)] 68 (0, 0)) (kB_ dA.out) k_ hn_)))); replace dA := aM (blk_kept (kB_ dA.out) hkp (fun hs_ => (fun e_ => (Kd.R_away bf.out (fun _ hk => hk)) e_) hs_)); replace HB := aM hb; clear bf; (try clear hb); (try clear hkp); (try clear ho0)))
      go_roundg k1
      case measure => have := HK1.out; omega
      case rel => exact ⟨(pq), (wrap64 (x8_1 + 1)), z1, H', ⟨y0⟩, ⟨kM_ HO577.out (fun _ hk => trivial)⟩, ⟨zb_⟩⟩
     ·rw [if_neg c4] at H
      exact absurd H (by simp)
    ·rw [if_neg c3] at H
     exact absurd H (by simp)
   ·rw [if_neg c2] at H
    have c2b0 : decide (x8_1 < (l0.length : Int)) = false := dF c2
    clear c2
    obtain rfl := sI H
    go_wp2
    go_ret
    exact ⟨_, y5, by (with_reducible repeat (first | apply ac | apply ab | apply aa)); exact bf.out, y6⟩

/-! ### spec_l4Bytes: function 62 -/
def spec_l4Bytes.l0 : Nat → List Int → List (S68) → Int → Int → Option (List Int)
 | 0, _, _, _, _ => none
 | k + 1, x3, x6, x7, x8 => if x8 < x7 then (if 0 ≤ x8 then (if x8 < (x6.length : Int) then (if 0 ≤ ((sp x6 x8).f0) then (if x3.length + ((sp x6 x8).f0 : Int).toNat < 140737488355328 then ((some (x3 ++ List.replicate ((sp x6 x8).f0 : Int).toNat 0 : List Int)).bind fun y580 => (if y580.length + ((sp x6 x8).f2).size < 140737488355328 then (spec_l4Bytes.l0 k (y580 ++ bytesOf ((sp x6 x8).f2)) x6 x7 (wrap64 (x8 + 1))) else (none))) else (none)) else (none)) else (none)) else (none)) else (some x3)
def spec_l4Bytes.f (k : Nat) (l0 : List (S68)) : Option (List Int) := spec_l4Bytes.l0 k ([] : List Int) l0 (l0.length : Int) 0
theorem spec_l4Bytes.mono_l : ∀ k, (∀ y0 y1 y2 y3, LeO (spec_l4Bytes.l0 k y0 y1 y2 y3) (spec_l4Bytes.l0 (k + 1) y0 y1 y2 y3))
 | 0 => fun _ _ _ _ r h => by simp [spec_l4Bytes.l0] at h
 | k + 1 => by
  have ih0 := spec_l4Bytes.mono_l k
  ·intro y0 y1 y2 y3
   unfold spec_l4Bytes.l0
   with_reducible repeat' first | exact ih0 _ _ _ _ | exact lR_ _ | exact lN_ _ | refine lI_ ?_ ?_ | refine lB_ ?_ fun _ => ?_
theorem spec_l4Bytes.mono : ∀ a0 k, LeO (spec_l4Bytes.f k a0) (spec_l4Bytes.f (k + 1) a0) := by
 intro a0 k
 have ih0 := spec_l4Bytes.mono_l k
 unfold spec_l4Bytes.f
 with_reducible repeat' first | exact ih0 _ _ _ _ | exact lR_ _ | exact lN_ _ | refine lI_ ?_ ?_ | refine lB_ ?_ fun _ => ?_
theorem spec_l4Bytes.calls (k : Nat) (A0 : Option Addr) (c0 : Nat) (l0 : List (S68)) (r : List Int) (w : World) (hr0 : Kd.C k68 w A0 l0.length l0) (hc0 : l0.length ≤ c0) (h : spec_l4Bytes.f k l0 = some r) :
  Calls Try.prog 62 #[.slice A0 l0.length c0] w fun e w' => ∃ v0_ : Value, e = .returned (v0_) ∧ Kd.R (Kd.int .u8) 5 w' w.heap.size (fun _ => True) v0_ r ∧ Below w.heap.size w w' := by
 have hu68 := Try.underlying68
 have bH := aM hr0
 have cH := aM hc0
 clear hr0 hc0
 have HB := aM (Below.refl w.heap.size w)
 have H : (spec_l4Bytes.l0 k ([] : List Int) l0 (l0.length : Int) 0) = some r := h
 clear h
 have H' := aM H
 clear H
 go_enter Try.func62, Try.ntmps62
 go_wp2
 go_loopg [3, 8] k (fun kq v3 v8 w' => ∃ (x3_1 : List Int) (x8_1 : Int), v8 = .int .i64 x8_1 ∧ Aside0 (spec_l4Bytes.l0 kq x3_1 l0 (l0.length : Int) x8_1 = some r) ∧ Aside0 (kq ≤ k) ∧ Aside0 (Kd.R (Kd.int .u8) 5 w' w.heap.size (fun _ => True) v3 x3_1) ∧ Aside0 (Below w.heap.size w w'))
 case atStart => exact ⟨(([] : List Int)), (0), z1, H', ⟨Nat.le_refl _⟩, ⟨y29⟩, ⟨y6⟩⟩
 case round =>
  clear H'
  obtain ⟨x3_1, x8_1, rfl, HA, HK1, bf, HB⟩ := hrel
  cases gk with
  | zero => exact absurd HA.out (by simp [spec_l4Bytes.l0])
  | succ k1 =>
   have H := HA.out
   clear HA
   simp only [spec_l4Bytes.l0] at H
   by_cases c2 : x8_1 < (l0.length : Int)
   ·rw [if_pos c2] at H
    have c2b0 : decide (x8_1 < (l0.length : Int)) = true := dT c2
    clear c2
    by_cases c3 : 0 ≤ x8_1
    ·rw [if_pos c3] at H
     have c3b0 : decide (0 ≤ x8_1) = true := dT c3
     clear c3
     by_cases c4 : x8_1 < (l0.length : Int)
     ·rw [if_pos c4] at H
      have c4b0 : decide (x8_1 < (l0.length : Int)) = true := dT c4
      clear c4
      by_cases c5 : 0 ≤ ((sp l0 x8_1).f0)
      ·rw [if_pos c5] at H
       have c5b0 := eq_true c5
       have c5b1 : decide (0 ≤ ((sp l0 x8_1).f0)) = true := dT c5
       clear c5
       by_cases c6 : x3_1.length + ((sp l0 x8_1).f0 : Int).toNat < 140737488355328
       ·rw [if_pos c6] at H
        have LMc6 := aM c6
        clear c6
        obtain ⟨y580, hy580⟩ : ∃ y_ : List Int, y_ = (x3_1 ++ List.replicate ((sp l0 x8_1).f0 : Int).toNat 0) := ⟨_, rfl⟩
        replace H : (if y580.length + ((sp l0 x8_1).f2).size < 140737488355328 then (spec_l4Bytes.l0 k1 (y580 ++ bytesOf ((sp l0 x8_1).f2)) l0 (l0.length : Int) (wrap64 (x8_1 + 1))) else (none)) = some r := zh_ hy580
        have Ny580 := aM hy580
        clear hy580
        by_cases c7 : y580.length + ((sp l0 x8_1).f2).size < 140737488355328
        ·rw [if_pos c7] at H
         have LMc7 := aM c7
         clear c7
         obtain ⟨y583, hy583⟩ : ∃ y_ : List Int, y_ = (y580 ++ bytesOf ((sp l0 x8_1).f2)) := ⟨_, rfl⟩
         replace H : (spec_l4Bytes.l0 k1 y583 l0 (l0.length : Int) (wrap64 (x8_1 + 1))) = some r := zh_ hy583
         have Ny583 := aM hy583
         clear hy583
         have H' := aM H
         clear H
         have p578 : 0 ≤ (x8_1 : Int) := oD z2
         have q578 : x8_1 < (l0.length : Int) := oD z2
         obtain ⟨ad578, e578, hx578_0, hx578_1, hx578_2⟩ := at_T68 bH.out x8_1 p578 q578
         cases e578
         replace hx578_0 := hC_ HB.out hx578_0
         replace hx578_1 := hC_ HB.out hx578_1
         replace hx578_2 := hC_ HB.out hx578_2
         replace p578 := eq_true p578
         replace q578 := eq_true q578
         go_wp2_with (first | ((with_reducible refine ay (N := 5) rfl ?_); refine bE_ (N := 5) (cs := #[.int .i64 0, .string ⟨#[]⟩, .string ⟨#[]⟩]) (t := 68) (h := ?_); intro eN hg w8 hbox hb; replace bf := aM (af z4 hb); have dg := aM (hbox); have GW579 := aM ((zg_ : w.heap.size ≤ eN)); have lO := aM ((zg_ : w.heap.size ≤ eN)); replace HB := aM (ap z9 hb); clear hb hbox hg; obtain ⟨dc, db, da, dh, cZ, cY⟩ := cc3 dg.out) | (at_builtin; refine Kd.R_append_zeros (Kd.int .u8) (w0 := w) w.heap.size rfl (.tmp 12) (.tmp 14) 22 3 5 (.int .u8 0) 1 rfl Try.underlying22 Try.underlying3 info5 rfl (by decide) (by omega) u3 x3_1 0 ((sp l0 x8_1).f0 : Int) (fun _ => True) rfl rfl rfl ?aF ?aO (oD z2) ?aB ?aS ?aL ?_; (case aB => exact zb_); (case aF => exact (fun _ _ => trivial)); (case aO => exact (by (with_reducible repeat (first | apply ac | apply ab | apply aa)); exact ag (ai (p := ⟨eN, 2, none⟩) (ai (p := ⟨eN, 1, none⟩) (ai (p := ⟨eN, 0, none⟩) (Kd.R_types bf.out dg.out (by decide)) (fun _ hk => hk.2) (.int .i64 ((sp l0 x8_1).f0))) (fun _ hk => hk.2) (.string ((sp l0 x8_1).f1))) (fun _ hk => hk.2) (.string ((sp l0 x8_1).f2))) (fun _ hk => trivial))); (case aS => exact (aq zb_)); (case aL => have := LMc6.out; omega); intro v581 w10 ho hb hg hat; rw [← Ny580.out] at ho; replace dg := aM (blk_grown (g := eN) (o := .cells #[.int .i64 ((sp l0 x8_1).f0), .string ((sp l0 x8_1).f1), .string ((sp l0 x8_1).f2)] 68 (0, 0)) (by (with_reducible repeat (first | refine ak ?_ _ | refine aj ?_ | refine al ?_ _)); refine am (cs := #[.int .i64 ((sp l0 x8_1).f0), .string ((sp l0 x8_1).f1), .string ⟨#[]⟩]) ?_ 2 _ rfl; (with_reducible repeat (first | refine ak ?_ _ | refine aj ?_ | refine al ?_ _)); refine am (cs := #[.int .i64 ((sp l0 x8_1).f0), .string ⟨#[]⟩, .string ⟨#[]⟩]) ?_ 1 _ rfl; (with_reducible repeat (first | refine ak ?_ _ | refine aj ?_ | refine al ?_ _)); refine am (cs := #[.int .i64 0, .string ⟨#[]⟩, .string ⟨#[]⟩]) ?_ 0 _ rfl; (with_reducible repeat (first | refine ak ?_ _ | refine aj ?_ | refine al ?_ _)); exact dg.out) hg (Kd.R_ne bf.out dg.out (by decide))); replace HB := aM hb; have o6 := aM (ho); clear bf; clear ho hb hg hat; obtain ⟨m7, m6, m5, mL, mK, mJ⟩ := cc3 dg.out) | (at_builtin; refine print_append_str (w0 := w) w.heap.size rfl (.tmp 16) _ 22 9 5 rfl Try.underlying22 Try.underlying9 info5 v581 y580 ((sp l0 x8_1).f2) rfl rfl ?aO ?aB ?aS ?aL ?_; (case aB => exact zb_); (case aO => exact (Kd.own_of_R (kR_ o6.out))); (case aS => exact (aq zb_)); (case aL => have := LMc7.out; omega); intro v584 w12 ho0 hb hg; have ho := Kd.R_of_own (h1 := fun _ => rfl) (ok := fun _ => True) ho0 (fun _ _ => trivial); clear ho0; have hat := True.intro; rw [← Ny583.out] at ho; change Kd.R (Kd.int .u8) 5 w12 w.heap.size (fun _ => True) v584 y583 at ho; replace dg := aM (blk_grown (g := eN) (o := .cells #[.int .i64 ((sp l0 x8_1).f0), .string ((sp l0 x8_1).f1), .string ((sp l0 x8_1).f2)] 68 (0, 0)) (kB_ dg.out) hg (Kd.R_ne o6.out dg.out (by decide))); replace HB := aM hb; have HO585 := aM (ho); clear o6; clear ho hb hg hat))
         go_roundg k1
         case measure => have := HK1.out; omega
         case rel => exact ⟨(y583), (wrap64 (x8_1 + 1)), z1, H', ⟨y0⟩, ⟨kR_ HO585.out⟩, ⟨zb_⟩⟩
        ·rw [if_neg c7] at H
         exact absurd H (by simp)
       ·rw [if_neg c6] at H
        exact absurd H (by simp)
      ·rw [if_neg c5] at H
       exact absurd H (by simp)
     ·rw [if_neg c4] at H
      exact absurd H (by simp)
    ·rw [if_neg c3] at H
     exact absurd H (by simp)
   ·rw [if_neg c2] at H
    have c2b0 : decide (x8_1 < (l0.length : Int)) = false := dF c2
    clear c2
    obtain rfl := sI H
    go_wp2
    go_ret
    exact ⟨_, y5, by (with_reducible repeat (first | apply ac | apply ab | apply aa)); exact bf.out, y6⟩

/-! ### spec_l5Kept: function 48 -/
def spec_l5Kept.l0 : Nat → Int → List Int → Int → Option (Bool)
 | 0, _, _, _ => none
 | k + 1, x2, x7, x8 => if x8 < x2 then (if 0 ≤ x8 then (if x8 < (x7.length : Int) then (if (rd x7 x8) = 0 then (some true) else (spec_l5Kept.l0 k x2 x7 (wrap64 (x8 + 1)))) else (none)) else (none)) else (some false)
def spec_l5Kept.f (k : Nat) (l0 : List (S68)) (a1 : Int) (a2 : Int) : Option (Bool) := (spec_l4Bytes.f k l0).bind fun gE => (spec_l5Kept.l0 k a2 gE a1)
theorem spec_l5Kept.mono_l : ∀ k, (∀ y0 y1 y2, LeO (spec_l5Kept.l0 k y0 y1 y2) (spec_l5Kept.l0 (k + 1) y0 y1 y2))
 | 0 => fun _ _ _ r h => by simp [spec_l5Kept.l0] at h
 | k + 1 => by
  have ih0 := spec_l5Kept.mono_l k
  ·intro y0 y1 y2
   unfold spec_l5Kept.l0
   with_reducible repeat' first | exact ih0 _ _ _ | exact spec_l4Bytes.mono _ _ | exact lR_ _ | exact lN_ _ | refine lI_ ?_ ?_ | refine lB_ ?_ fun _ => ?_
theorem spec_l5Kept.mono : ∀ a0 a1 a2 k, LeO (spec_l5Kept.f k a0 a1 a2) (spec_l5Kept.f (k + 1) a0 a1 a2) := by
 intro a0 a1 a2 k
 have ih0 := spec_l5Kept.mono_l k
 unfold spec_l5Kept.f
 with_reducible repeat' first | exact ih0 _ _ _ | exact spec_l4Bytes.mono _ _ | exact lR_ _ | exact lN_ _ | refine lI_ ?_ ?_ | refine lB_ ?_ fun _ => ?_
theorem spec_l5Kept.calls (k : Nat) (A0 : Option Addr) (c0 : Nat) (l0 : List (S68)) (a1 : Int) (a2 : Int) (r : Bool) (w : World) (hr0 : Kd.C k68 w A0 l0.length l0) (hc0 : l0.length ≤ c0) (h : spec_l5Kept.f k l0 a1 a2 = some r) :
  Calls Try.prog 48 #[.slice A0 l0.length c0, .int .i64 a1, .int .i64 a2] w fun e w' => e = .returned (.bool r) ∧ Below w.heap.size w w' := by
 have bH := aM hr0
 have cH := aM hc0
 clear hr0 hc0
 have HB := aM (Below.refl w.heap.size w)
 have H : ((spec_l4Bytes.f k l0).bind fun gE => (spec_l5Kept.l0 k a2 gE a1)) = some r := h
 clear h
 obtain ⟨gE, A4, H⟩ := oA_ H
 try dsimp only at H
 have H' := aM H
 clear H
 go_enter Try.func48, Try.ntmps48
 go_wp2_with (first | ((with_reducible refine ax (f := 62) rfl ?_); refine aC (some 10) rfl rfl Try.func62 z0 rfl #[.slice A0 l0.length c0] rfl z10 ?_; (with_reducible refine (spec_l4Bytes.calls k _ _ l0 gE _ ?side1 ?side2 A4.out).mono ?_); (case side1 => exact y53); (case side2 => exact y51); rintro e w5 ⟨v587, rfl, ho0, hb⟩; refine ⟨_, rfl, ?_⟩; have HO588 := aM (aD ho0 (aq z9)); replace HB := aM (ap z9 hb); (try clear hb); (try clear ho0)))
 go_loopg [8] k (fun kq v8 w' => ∃ (x8_1 : Int), v8 = .int .i64 x8_1 ∧ Aside0 (spec_l5Kept.l0 kq a2 gE x8_1 = some r) ∧ Aside0 (kq ≤ k) ∧ Aside0 (Kd.R (Kd.int .u8) 5 w' w.heap.size (fun _ => True) v587 gE) ∧ Aside0 (Below w.heap.size w w'))
 case atStart => exact ⟨(a1), z1, H', ⟨Nat.le_refl _⟩, ⟨kR_ HO588.out⟩, ⟨y6⟩⟩
 case round =>
  clear H'
  obtain ⟨x8_1, rfl, HA, HK1, dd, HB⟩ := hrel
  cases gk with
  | zero => exact absurd HA.out (by simp [spec_l5Kept.l0])
  | succ k1 =>
   have H := HA.out
   clear HA
   simp only [spec_l5Kept.l0] at H
   by_cases c6 : x8_1 < a2
   ·rw [if_pos c6] at H
    have c6b0 : decide (x8_1 < a2) = true := dT c6
    clear c6
    by_cases c7 : 0 ≤ x8_1
    ·rw [if_pos c7] at H
     have c7b0 : decide (0 ≤ x8_1) = true := dT c7
     clear c7
     by_cases c8 : x8_1 < (gE.length : Int)
     ·rw [if_pos c8] at H
      have c8b0 : decide (x8_1 < (gE.length : Int)) = true := dT c8
      clear c8
      by_cases c9 : (rd gE x8_1) = 0
      ·rw [if_pos c9] at H
       have c9b0 : ((rd gE x8_1) == 0) = true := qT c9
       have c9b1 : ((rd gE x8_1) != 0) = false := nF c9
       clear c9
       obtain rfl := sI H
       obtain ⟨ll, lf, eo10⟩ := Kd.R_slice dd.out
       subst eo10
       have p589 : 0 ≤ (x8_1 : Int) := oD z2
       have q589 : x8_1 < (gE.length : Int) := oD z2
       obtain ⟨ad589, e589, hx589_0⟩ := Kd.at_int (ah dd.out).2.2 x8_1 p589 q589
       cases e589
       replace p589 := eq_true p589
       replace q589 := eq_true q589
       go_wp2
       go_ret
       exact ⟨y5, y6⟩
      ·rw [if_neg c9] at H
       have c9b0 : ((rd gE x8_1) == 0) = false := qF c9
       have c9b1 : ((rd gE x8_1) != 0) = true := nT c9
       have H' := aM H
       clear H
       obtain ⟨Ao11, co11, eo11⟩ := Kd.R_slice dd.out
       subst eo11
       have p589 : 0 ≤ (x8_1 : Int) := oD z2
       have q589 : x8_1 < (gE.length : Int) := oD z2
       obtain ⟨ad589, e589, hx589_0⟩ := Kd.at_int (ah dd.out).2.2 x8_1 p589 q589
       cases e589
       replace p589 := eq_true p589
       replace q589 := eq_true q589
       go_wp2
       go_roundg k1
       case measure => have := HK1.out; omega
       case rel => exact ⟨(wrap64 (x8_1 + 1)), z1, H', ⟨y0⟩, ⟨kR_ dd.out⟩, ⟨y6⟩⟩
     ·rw [if_neg c8] at H
      exact absurd H (by simp)
    ·rw [if_neg c7] at H
     exact absurd H (by simp)
   ·rw [if_neg c6] at H
    have c6b0 : decide (x8_1 < a2) = false := dF c6
    clear c6
    obtain rfl := sI H
    go_wp2
    go_ret
    exact ⟨y5, y6⟩

/-! ### spec_l5Gap: function 26 -/
mutual
def spec_l5Gap.l0 : Nat → List (S68) → Int → Int → Int → Int → List (S68) → Int → Int → Option (Int × Int)
 | 0, _, _, _, _, _, _, _, _ => none
 | k + 1, x0, x1, x6, x7, x8, x13, x14, x15 => if x15 < x14 then (if 0 ≤ x15 then (if x15 < (x13.length : Int) then (if x8 > x1 then (spec_l5Gap.j1 k x0 x1 x6 x7 x8 (wrap64 (((sp x13 x15).f0) + (((sp x13 x15).f2).size : Int))) x13 x14 x15 true ((sp x13 x15).f0) ((sp x13 x15).f1) ((sp x13 x15).f2)) else (if x8 = x1 then (spec_l5Gap.j1 k x0 x1 x6 x7 x8 (wrap64 (((sp x13 x15).f0) + (((sp x13 x15).f2).size : Int))) x13 x14 x15 (decide (((sp x13 x15).f0) > 0)) ((sp x13 x15).f0) ((sp x13 x15).f1) ((sp x13 x15).f2)) else (spec_l5Gap.j1 k x0 x1 x6 x7 x8 (wrap64 (((sp x13 x15).f0) + (((sp x13 x15).f2).size : Int))) x13 x14 x15 false ((sp x13 x15).f0) ((sp x13 x15).f1) ((sp x13 x15).f2)))) else (none)) else (none)) else (some (x6, x7))
def spec_l5Gap.j1 : Nat → List (S68) → Int → Int → Int → Int → Int → List (S68) → Int → Int → Bool → Int → ByteArray → ByteArray → Option (Int × Int)
 | 0, _, _, _, _, _, _, _, _, _, _, _, _, _ => none
 | k + 1, x0, x1, x6, x7, x8, x11, x13, x14, x15, x37, x595000, x595001, x595002 => if x37 = true then (some (x6, x7)) else (if x595001.toList = ([] : List UInt8) then (if x595000 > 0 then (if (wrap64 (x8 + x11)) > x1 then (spec_l5Gap.l0 k x0 x1 (wrap64 (x7 + (wrap64 (x1 - x8)))) (wrap64 (x7 + (wrap64 (x1 - x8)))) (wrap64 (x8 + (wrap64 (x595000 + (x595002.size : Int))))) x13 x14 (wrap64 (x15 + 1))) else (spec_l5Gap.l0 k x0 x1 (wrap64 (x7 + x11)) (wrap64 (x7 + x11)) (wrap64 (x8 + (wrap64 (x595000 + (x595002.size : Int))))) x13 x14 (wrap64 (x15 + 1)))) else (spec_l5Gap.l0 k x0 x1 x6 x7 (wrap64 (x8 + (wrap64 (x595000 + (x595002.size : Int))))) x13 x14 (wrap64 (x15 + 1)))) else (if x8 < x1 then ((spec_l5Kept.f k x0 x8 x1).bind fun qg => (if qg = true then (spec_l5Gap.l0 k x0 x1 (wrap64 (x7 + (x595001.size : Int))) (wrap64 (x7 + (x595001.size : Int))) x8 x13 x14 (wrap64 (x15 + 1))) else (spec_l5Gap.l0 k x0 x1 x6 (wrap64 (x7 + (x595001.size : Int))) x8 x13 x14 (wrap64 (x15 + 1))))) else (spec_l5Gap.l0 k x0 x1 x6 (wrap64 (x7 + (x595001.size : Int))) x8 x13 x14 (wrap64 (x15 + 1)))))
end
def spec_l5Gap.f (k : Nat) (l0 : List (S68)) (a1 : Int) : Option (Int × Int) := (spec_l3Normal.f k l0).bind fun bw => (spec_l5Gap.l0 k l0 a1 0 0 0 bw (bw.length : Int) 0)
theorem spec_l5Gap.mono_l : ∀ k, (∀ y0 y1 y2 y3 y4 y5 y6 y7, LeO (spec_l5Gap.l0 k y0 y1 y2 y3 y4 y5 y6 y7) (spec_l5Gap.l0 (k + 1) y0 y1 y2 y3 y4 y5 y6 y7)) ∧ (∀ y0 y1 y2 y3 y4 y5 y6 y7 y8 y9 y10 y11 y12, LeO (spec_l5Gap.j1 k y0 y1 y2 y3 y4 y5 y6 y7 y8 y9 y10 y11 y12) (spec_l5Gap.j1 (k + 1) y0 y1 y2 y3 y4 y5 y6 y7 y8 y9 y10 y11 y12))
 | 0 => ⟨fun _ _ _ _ _ _ _ _ r h => by simp [spec_l5Gap.l0] at h, fun _ _ _ _ _ _ _ _ _ _ _ _ _ r h => by simp [spec_l5Gap.j1] at h⟩
 | k + 1 => by
  obtain ⟨ih0, ih1⟩ := spec_l5Gap.mono_l k
  refine ⟨?_, ?_⟩
  ·intro y0 y1 y2 y3 y4 y5 y6 y7
   unfold spec_l5Gap.l0
   with_reducible repeat' first | exact ih0 _ _ _ _ _ _ _ _ | exact ih1 _ _ _ _ _ _ _ _ _ _ _ _ _ | exact spec_l3Normal.mono _ _ | exact spec_l5Kept.mono _ _ _ _ | exact lR_ _ | exact lN_ _ | refine lI_ ?_ ?_ | refine lB_ ?_ fun _ => ?_
  ·intro y0 y1 y2 y3 y4 y5 y6 y7 y8 y9 y10 y11 y12
   unfold spec_l5Gap.j1
   with_reducible repeat' first | exact ih0 _ _ _ _ _ _ _ _ | exact ih1 _ _ _ _ _ _ _ _ _ _ _ _ _ | exact spec_l3Normal.mono _ _ | exact spec_l5Kept.mono _ _ _ _ | exact lR_ _ | exact lN_ _ | refine lI_ ?_ ?_ | refine lB_ ?_ fun _ => ?_
theorem spec_l5Gap.mono : ∀ a0 a1 k, LeO (spec_l5Gap.f k a0 a1) (spec_l5Gap.f (k + 1) a0 a1) := by
 intro a0 a1 k
 obtain ⟨ih0, ih1⟩ := spec_l5Gap.mono_l k
 unfold spec_l5Gap.f
 with_reducible repeat' first | exact ih0 _ _ _ _ _ _ _ _ | exact ih1 _ _ _ _ _ _ _ _ _ _ _ _ _ | exact spec_l3Normal.mono _ _ | exact spec_l5Kept.mono _ _ _ _ | exact lR_ _ | exact lN_ _ | refine lI_ ?_ ?_ | refine lB_ ?_ fun _ => ?_
theorem spec_l5Gap.calls (k : Nat) (A0 : Option Addr) (c0 : Nat) (l0 : List (S68)) (a1 : Int) (r1 : Int) (r2 : Int) (w : World) (hr0 : Kd.C k68 w A0 l0.length l0) (hc0 : l0.length ≤ c0) (h : spec_l5Gap.f k l0 a1 = some (r1, r2)) :
  Calls Try.prog 26 #[.slice A0 l0.length c0, .int .i64 a1] w fun e w' => e = .returned (.tuple #[.int .i64 r1, .int .i64 r2]) ∧ Below w.heap.size w w' := by
 have hu68 := Try.underlying68
 have bH := aM hr0
 have cH := aM hc0
 clear hr0 hc0
 have HB := aM (Below.refl w.heap.size w)
 have H : ((spec_l3Normal.f k l0).bind fun bw => (spec_l5Gap.l0 k l0 a1 0 0 0 bw (bw.length : Int) 0)) = some (r1, r2) := h
 clear h
 obtain ⟨bw, A3, H⟩ := oA_ H
 try dsimp only at H
 have H' := aM H
 clear H
 go_enter Try.func26, Try.ntmps26
 go_wp2_with (first | ((with_reducible refine ax (f := 47) rfl ?_); refine aC (some 13) rfl rfl Try.func47 z0 rfl #[.slice A0 l0.length c0] rfl z10 ?_; (with_reducible refine (spec_l3Normal.calls k _ _ l0 bw _ ?side1 ?side2 A3.out).mono ?_); (case side1 => exact y53); (case side2 => exact y51); rintro e w4 ⟨v591, rfl, ho0, hb⟩; refine ⟨_, rfl, ?_⟩; have pT := aM (aD ho0 (aq z9)); replace HB := aM (ap z9 hb); (try clear hb); (try clear ho0); obtain ⟨lY, fy, eo5⟩ := Kd.R_slice pT.out; subst eo5))
 go_loopg [6, 7, 8, 15] k (fun kq v6 v7 v8 v15 w' => ∃ (x6_1 : Int) (x7_1 : Int) (x8_1 : Int) (x15_1 : Int), v6 = .int .i64 x6_1 ∧ v7 = .int .i64 x7_1 ∧ v8 = .int .i64 x8_1 ∧ v15 = .int .i64 x15_1 ∧ Aside0 (spec_l5Gap.l0 kq l0 a1 x6_1 x7_1 x8_1 bw (bw.length : Int) x15_1 = some (r1, r2)) ∧ Aside0 (kq ≤ k) ∧ Aside0 (Kd.R k68 68 w' w.heap.size (fun _ => True) (.slice lY bw.length fy) bw) ∧ Aside0 (Below w.heap.size w w'))
 case atStart => exact ⟨(0), (0), (0), (0), z1, z1, z1, z1, H', ⟨Nat.le_refl _⟩, ⟨kR_ pT.out⟩, ⟨y6⟩⟩
 case round =>
  clear H'
  obtain ⟨x6_1, x7_1, x8_1, x15_1, rfl, rfl, rfl, rfl, HA, HK1, fX, HB⟩ := hrel
  cases gk with
  | zero => exact absurd HA.out (by simp [spec_l5Gap.l0])
  | succ k1 =>
   have H := HA.out
   clear HA
   simp only [spec_l5Gap.l0] at H
   by_cases c6 : x15_1 < (bw.length : Int)
   ·rw [if_pos c6] at H
    have c6b0 : decide (x15_1 < (bw.length : Int)) = true := dT c6
    clear c6
    by_cases c7 : 0 ≤ x15_1
    ·rw [if_pos c7] at H
     have c7b0 : decide (0 ≤ x15_1) = true := dT c7
     clear c7
     by_cases c8 : x15_1 < (bw.length : Int)
     ·rw [if_pos c8] at H
      have c8b0 : decide (x15_1 < (bw.length : Int)) = true := dT c8
      clear c8
      have tE := aM H
      clear H
      have p593 : 0 ≤ (x15_1 : Int) := oD z2
      have q593 : x15_1 < (bw.length : Int) := oD z2
      obtain ⟨ad593, e593, hx593_0, hx593_1, hx593_2⟩ := at_T68 (ah fX.out).2.2 x15_1 p593 q593
      cases e593
      replace p593 := eq_true p593
      replace q593 := eq_true q593
      go_upto_region 8 with (first | ((with_reducible refine ay (N := 10) rfl ?_); refine bE_ (N := 10) (cs := #[.int .i64 0, .string ⟨#[]⟩, .string ⟨#[]⟩]) (t := 68) (h := ?_); intro cd hg w10 hbox hb; replace fX := aM (af (Kd.R_elderB (kR_ fX.out) cd (Nat.le_of_eq hg.symm)) hb); have bB := aM (hbox); have GW594 := aM ((zg_ : w.heap.size ≤ cd)); have pW := aM ((zg_ : w.heap.size ≤ cd)); replace HB := aM (ap z9 hb); clear hb hbox hg; obtain ⟨m7, m6, m5, mL, mK, mJ⟩ := cc3 bB.out))
      (try simp only [Act.put, sA, sB, sC])
      go_cut [37] (fun v37 wc => ∃ (kq : Nat) (x37_8 : Bool), v37 = .bool x37_8 ∧ Aside0 (spec_l5Gap.j1 kq l0 a1 x6_1 x7_1 x8_1 (wrap64 (((sp bw x15_1).f0) + (((sp bw x15_1).f2).size : Int))) bw (bw.length : Int) x15_1 x37_8 ((sp bw x15_1).f0) ((sp bw x15_1).f1) ((sp bw x15_1).f2) = some (r1, r2)) ∧ Aside0 (kq ≤ k1) ∧ Aside0 (Kd.R k68 68 wc w.heap.size (fun k_ => k_ ≠ cd) (.slice (some ad593) bw.length fy) bw) ∧ Aside0 (wc.heap[cd]? = some (.cells #[.int .i64 ((sp bw x15_1).f0), .string ((sp bw x15_1).f1), .string ((sp bw x15_1).f2)] 68 (0, 0))) ∧ Aside0 (Below w.heap.size w wc))
      case first =>
       have H := tE.out
       clear tE
       by_cases bT : x8_1 > a1
       ·rw [if_pos bT] at H
        have c12b0 : decide (a1 < x8_1) = true := dT bT
        clear bT
        (first | rw [c12b0] | (simp only [i64_w, i32_w]; rw [c12b0]) | skip)
        have H' := aM H
        clear H
        go_wp2
        go_meet
        case rel => exact ⟨_, (true), z1, H', ⟨y3⟩, ⟨y40⟩, ⟨y50⟩, ⟨y22⟩⟩
       ·rw [if_neg bT] at H
        have c12b0 : decide (a1 < x8_1) = false := dF bT
        clear bT
        (first | rw [c12b0] | (simp only [i64_w, i32_w]; rw [c12b0]) | skip)
        by_cases bU : x8_1 = a1
        ·rw [if_pos bU] at H
         have c13b0 : (x8_1 == a1) = true := qT bU
         have c13b1 : (x8_1 != a1) = false := nF bU
         clear bU
         have H' := aM H
         clear H
         obtain ⟨cz, cy, cx, cw, cv, cu⟩ := cc3 bB.out
         go_wp2
         go_meet
         case rel => exact ⟨_, (decide (((sp bw x15_1).f0) > 0)), z1, H', ⟨y3⟩, ⟨y40⟩, ⟨y50⟩, ⟨y22⟩⟩
        ·rw [if_neg bU] at H
         have c13b0 : (x8_1 == a1) = false := qF bU
         have c13b1 : (x8_1 != a1) = true := nT bU
         have H' := aM H
         clear H
         go_wp2
         go_meet
         case rel => exact ⟨_, (false), z1, H', ⟨y3⟩, ⟨y40⟩, ⟨y50⟩, ⟨y22⟩⟩
      case rest =>
       clear tE
       try clear c2
       try clear p2
       try clear c4
       try clear c6
       try clear c6b0
       try clear c7
       try clear c7b0
       try clear c8
       try clear c8b0
       try clear m7
       try clear m6
       try clear m5
       try clear mL
       try clear mK
       try clear mJ
       try clear hx593_0
       try clear hx593_1
       try clear hx593_2
       try clear p2
       try clear p593
       try clear q593
       obtain ⟨kq, x37_8, rfl, HA, nV, fX, bB, HB⟩ := hcut
       cases kq with
       | zero => exact absurd HA.out (by simp [spec_l5Gap.j1])
       | succ kj8 =>
        have H := HA.out
        clear HA
        simp only [spec_l5Gap.j1] at H
        by_cases ce : x37_8 = true
        ·subst ce
         rw [if_pos rfl] at H
         simp only [Option.some.injEq, Prod.mk.injEq] at H
         obtain ⟨rfl, rfl⟩ := H
         go_wp2
         go_ret2
         exact ⟨y5, y22⟩
        ·replace ce := Bool.eq_false_iff.mpr ce
         subst ce
         rw [if_neg nF_] at H
         by_cases dV : ((sp bw x15_1).f1).toList = ([] : List UInt8)
         ·rw [if_pos dV] at H
          have c16b0 : (((sp bw x15_1).f1).toList == ([] : List UInt8)) = true := qT dV
          have c16b1 : (((sp bw x15_1).f1).toList != ([] : List UInt8)) = false := nF dV
          have c16b8 : (!((sp bw x15_1).f1).toList.isEmpty) = false := by have h_ := c16b1; revert h_; cases ((sp bw x15_1).f1).toList <;> simp
          clear dV
          by_cases cA : ((sp bw x15_1).f0) > 0
          ·rw [if_pos cA] at H
           have c17b0 : decide (0 < ((sp bw x15_1).f0)) = true := dT cA
           clear cA
           by_cases cJ : (wrap64 (x8_1 + (wrap64 (((sp bw x15_1).f0) + (((sp bw x15_1).f2).size : Int))))) > a1
           ·rw [if_pos cJ] at H
            have c18b0 : decide (a1 < (wrap64 (x8_1 + (wrap64 (((sp bw x15_1).f0) + (((sp bw x15_1).f2).size : Int)))))) = true := dT cJ
            clear cJ
            have H' := aM H
            clear H
            obtain ⟨ld, lc, lb, kT, kR, kQ⟩ := cc3 bB.out
            go_wp2
            all_goals (try (exfalso; rename_i h_; rw [c16b0] at h_; cases h_; done))
            go_roundg kj8
            case measure => have := HK1.out; have := nV.out; omega
            case rel => exact ⟨(wrap64 (x7_1 + (wrap64 (a1 - x8_1)))), (wrap64 (x7_1 + (wrap64 (a1 - x8_1)))), (wrap64 (x8_1 + (wrap64 (((sp bw x15_1).f0) + (((sp bw x15_1).f2).size : Int))))), (wrap64 (x15_1 + 1)), z1, z1, z1, z1, H', ⟨by have := HK1.out; have := nV.out; omega⟩, ⟨y28⟩, ⟨y22⟩⟩
           ·rw [if_neg cJ] at H
            have c18b0 : decide (a1 < (wrap64 (x8_1 + (wrap64 (((sp bw x15_1).f0) + (((sp bw x15_1).f2).size : Int)))))) = false := dF cJ
            clear cJ
            have H' := aM H
            clear H
            obtain ⟨eg, ef, ee, d7, d6, d5⟩ := cc3 bB.out
            go_wp2
            all_goals (try (exfalso; rename_i h_; rw [c16b0] at h_; cases h_; done))
            go_roundg kj8
            case measure => have := HK1.out; have := nV.out; omega
            case rel => exact ⟨(wrap64 (x7_1 + (wrap64 (((sp bw x15_1).f0) + (((sp bw x15_1).f2).size : Int))))), (wrap64 (x7_1 + (wrap64 (((sp bw x15_1).f0) + (((sp bw x15_1).f2).size : Int))))), (wrap64 (x8_1 + (wrap64 (((sp bw x15_1).f0) + (((sp bw x15_1).f2).size : Int))))), (wrap64 (x15_1 + 1)), z1, z1, z1, z1, H', ⟨by have := HK1.out; have := nV.out; omega⟩, ⟨y28⟩, ⟨y22⟩⟩
          ·rw [if_neg cA] at H
           have c17b0 : decide (0 < ((sp bw x15_1).f0)) = false := dF cA
           clear cA
           have H' := aM H
           clear H
           obtain ⟨fu, ft, fq, fc, fb, fa⟩ := cc3 bB.out
           go_wp2
           all_goals (try (exfalso; rename_i h_; rw [c16b0] at h_; cases h_; done))
           go_roundg kj8
           case measure => have := HK1.out; have := nV.out; omega
           case rel => exact ⟨(x6_1), (x7_1), (wrap64 (x8_1 + (wrap64 (((sp bw x15_1).f0) + (((sp bw x15_1).f2).size : Int))))), (wrap64 (x15_1 + 1)), z1, z1, z1, z1, H', ⟨by have := HK1.out; have := nV.out; omega⟩, ⟨y28⟩, ⟨y22⟩⟩
         ·rw [if_neg dV] at H
          have c16b0 : (((sp bw x15_1).f1).toList == ([] : List UInt8)) = false := qF dV
          have c16b1 : (((sp bw x15_1).f1).toList != ([] : List UInt8)) = true := nT dV
          have c16b8 : (!((sp bw x15_1).f1).toList.isEmpty) = true := by have h_ := c16b1; revert h_; cases ((sp bw x15_1).f1).toList <;> simp
          by_cases fK : x8_1 < a1
          ·rw [if_pos fK] at H
           have c22b0 : decide (x8_1 < a1) = true := dT fK
           clear fK
           obtain ⟨qg, tM, H⟩ := oA_ H
           try dsimp only at H
           by_cases na : qg = true
           ·subst na
            rw [if_pos rfl] at H
            have H' := aM H
            clear H
            obtain ⟨ed, ec, eb, d4, d3, d2⟩ := cc3 bB.out
            go_wp2_with (first | (go_at_call 48; (with_reducible refine (spec_l5Kept.calls kj8 _ _ l0 x8_1 a1 true _ ?side1 ?side2 tM.out).mono ?_); (case side1 => exact y64); (case side2 => exact y51); rintro e w26 ⟨rfl, hb⟩; replace fX := aM (af (kR_ fX.out) hb); replace bB := aM (ae (g := cd) (o := .cells #[.int .i64 ((sp bw x15_1).f0), .string ((sp bw x15_1).f1), .string ((sp bw x15_1).f2)] 68 (0, 0)) (kB_ bB.out) hb); replace HB := aM (ap zb_ hb); (try clear hb)))
            all_goals (try (exfalso; rename_i h_; rw [c16b0] at h_; cases h_; done))
            go_roundg kj8
            case measure => have := HK1.out; have := nV.out; omega
            case rel => exact ⟨(wrap64 (x7_1 + (((sp bw x15_1).f1).size : Int))), (wrap64 (x7_1 + (((sp bw x15_1).f1).size : Int))), (x8_1), (wrap64 (x15_1 + 1)), z1, z1, z1, z1, H', ⟨by have := HK1.out; have := nV.out; omega⟩, ⟨y28⟩, ⟨y22⟩⟩
           ·replace na := Bool.eq_false_iff.mpr na
            subst na
            rw [if_neg nF_] at H
            have H' := aM H
            clear H
            obtain ⟨la, k9, k7, kP, kN, kM⟩ := cc3 bB.out
            go_wp2_with (first | (go_at_call 48; (with_reducible refine (spec_l5Kept.calls kj8 _ _ l0 x8_1 a1 false _ ?side1 ?side2 tM.out).mono ?_); (case side1 => exact y64); (case side2 => exact y51); rintro e w28 ⟨rfl, hb⟩; replace fX := aM (af (kR_ fX.out) hb); replace bB := aM (ae (g := cd) (o := .cells #[.int .i64 ((sp bw x15_1).f0), .string ((sp bw x15_1).f1), .string ((sp bw x15_1).f2)] 68 (0, 0)) (kB_ bB.out) hb); replace HB := aM (ap zb_ hb); (try clear hb)))
            all_goals (try (exfalso; rename_i h_; rw [c16b0] at h_; cases h_; done))
            go_roundg kj8
            case measure => have := HK1.out; have := nV.out; omega
            case rel => exact ⟨(x6_1), (wrap64 (x7_1 + (((sp bw x15_1).f1).size : Int))), (x8_1), (wrap64 (x15_1 + 1)), z1, z1, z1, z1, H', ⟨by have := HK1.out; have := nV.out; omega⟩, ⟨y28⟩, ⟨y22⟩⟩
          ·rw [if_neg fK] at H
           have c22b0 : decide (x8_1 < a1) = false := dF fK
           clear fK
           have H' := aM H
           clear H
           obtain ⟨k4, k3, k0, kL, kK, kJ⟩ := cc3 bB.out
           go_wp2
           all_goals (try (exfalso; rename_i h_; rw [c16b0] at h_; cases h_; done))
           go_roundg kj8
           case measure => have := HK1.out; have := nV.out; omega
           case rel => exact ⟨(x6_1), (wrap64 (x7_1 + (((sp bw x15_1).f1).size : Int))), (x8_1), (wrap64 (x15_1 + 1)), z1, z1, z1, z1, H', ⟨by have := HK1.out; have := nV.out; omega⟩, ⟨y28⟩, ⟨y22⟩⟩
     ·rw [if_neg c8] at H
      exact absurd H (by simp)
    ·rw [if_neg c7] at H
     exact absurd H (by simp)
   ·rw [if_neg c6] at H
    have c6b0 : decide (x15_1 < (bw.length : Int)) = false := dF c6
    clear c6
    simp only [Option.some.injEq, Prod.mk.injEq] at H
    obtain ⟨rfl, rfl⟩ := H
    go_wp2
    go_ret2
    exact ⟨y5, y6⟩

end Go.Proofs.Ytjbllgdehpomiaa.AFnMarks
