-- this session's own text: written by wip/tools/ownprint.py over the kit's print
import Derived.Test.YtmigfgcpdelnfaaAFnUndoneByx0
namespace Go.Proofs.Ytmigfgcpdelnfaa.AFnUndoneBy
open Go.RowKit Go.Proofs.YtmigfgcpdelnfaaW.PrintWords Go.Proofs.YtmigfgcpdelnfaaW.PrintLast Go.Proofs.YtmigfgcpdelnfaaW.PrintMore
attribute [local go_sem] max2_int min2_int max_two min_two max_three min_three max_four min_four   -- for this text's walks alone
set_option linter.unusedVariables false
set_option linter.unusedSimpArgs false

/-! ### spec_l3Add: function 86 -/
mutual
def spec_l3Add.j0 : Nat → List (S61) → Int → Bool → Int → ByteArray → ByteArray → Option ((List (S61)))
 | 0, _, _, _, _, _, _ => none
 | k + 1, x0, x5, x9, x109000, x109001, x109002 => if x9 = true then (some x0) else (if x5 = 0 then (if x0.length < 3518437208883 then (some (x0 ++ [(⟨x109000, x109001, x109002⟩ : S61)])) else (none)) else (if 0 ≤ (wrap64 (x5 - 1)) then (if (wrap64 (x5 - 1)) < (x0.length : Int) then (if x109000 > 0 then (spec_l3Add.j1 k x0 x5 (decide (((rd_T61 x0 (wrap64 (x5 - 1))).f0) > 0)) x109000 x109001 x109002 ((rd_T61 x0 (wrap64 (x5 - 1))).f0) ((rd_T61 x0 (wrap64 (x5 - 1))).f1) ((rd_T61 x0 (wrap64 (x5 - 1))).f2)) else (spec_l3Add.j1 k x0 x5 false x109000 x109001 x109002 ((rd_T61 x0 (wrap64 (x5 - 1))).f0) ((rd_T61 x0 (wrap64 (x5 - 1))).f1) ((rd_T61 x0 (wrap64 (x5 - 1))).f2))) else (none)) else (none)))
def spec_l3Add.j1 : Nat → List (S61) → Int → Bool → Int → ByteArray → ByteArray → Int → ByteArray → ByteArray → Option ((List (S61)))
 | 0, _, _, _, _, _, _, _, _, _ => none
 | k + 1, x0, x5, x40, x109000, x109001, x109002, x114000, x114001, x114002 => if x40 = true then (if 0 ≤ (wrap64 (x5 - 1)) then (if (wrap64 (x5 - 1)) < (x0.length : Int) then (some (x0.set ((wrap64 (x5 - 1)) : Int).toNat (⟨wrap64 (((rd_T61 x0 (wrap64 (x5 - 1))).f0) + x109000), (rd_T61 x0 (wrap64 (x5 - 1))).f1, (rd_T61 x0 (wrap64 (x5 - 1))).f2⟩ : S61))) else (none)) else (none)) else (if x109002.toList = ([] : List UInt8) then (spec_l3Add.j2 k x0 x5 false x109000 x109001 x109002 x114000 x114001 x114002) else (spec_l3Add.j2 k x0 x5 (x114002.toList != ([] : List UInt8)) x109000 x109001 x109002 x114000 x114001 x114002))
def spec_l3Add.j2 : Nat → List (S61) → Int → Bool → Int → ByteArray → ByteArray → Int → ByteArray → ByteArray → Option ((List (S61)))
 | 0, _, _, _, _, _, _, _, _, _ => none
 | k + 1, x0, x5, x60, x109000, x109001, x109002, x114000, x114001, x114002 => if x60 = true then (if 0 ≤ (wrap64 (x5 - 1)) then (if (wrap64 (x5 - 1)) < (x0.length : Int) then (if ((rd_T61 x0 (wrap64 (x5 - 1))).f2).size + x109002.size ≤ 9223372036854775807 then (some (x0.set ((wrap64 (x5 - 1)) : Int).toNat (⟨(rd_T61 x0 (wrap64 (x5 - 1))).f0, (rd_T61 x0 (wrap64 (x5 - 1))).f1, ((rd_T61 x0 (wrap64 (x5 - 1))).f2) ++ x109002⟩ : S61))) else (none)) else (none)) else (none)) else (if x109001.toList = ([] : List UInt8) then (spec_l3Add.j3 k x0 x5 false x109000 x109001 x109002 x114000 x114001 x114002) else (spec_l3Add.j3 k x0 x5 (x114001.toList != ([] : List UInt8)) x109000 x109001 x109002 x114000 x114001 x114002))
def spec_l3Add.j3 : Nat → List (S61) → Int → Bool → Int → ByteArray → ByteArray → Int → ByteArray → ByteArray → Option ((List (S61)))
 | 0, _, _, _, _, _, _, _, _, _ => none
 | k + 1, x0, x5, x80, x109000, x109001, x109002, x114000, x114001, x114002 => if x80 = true then (if 0 ≤ (wrap64 (x5 - 1)) then (if (wrap64 (x5 - 1)) < (x0.length : Int) then (if ((rd_T61 x0 (wrap64 (x5 - 1))).f1).size + x109001.size ≤ 9223372036854775807 then (some (x0.set ((wrap64 (x5 - 1)) : Int).toNat (⟨(rd_T61 x0 (wrap64 (x5 - 1))).f0, ((rd_T61 x0 (wrap64 (x5 - 1))).f1) ++ x109001, (rd_T61 x0 (wrap64 (x5 - 1))).f2⟩ : S61))) else (none)) else (none)) else (none)) else (if x109001.toList = ([] : List UInt8) then (spec_l3Add.j4 k x0 x5 false x109000 x109001 x109002 x114000 x114001 x114002) else (spec_l3Add.j4 k x0 x5 (x114002.toList != ([] : List UInt8)) x109000 x109001 x109002 x114000 x114001 x114002))
def spec_l3Add.j4 : Nat → List (S61) → Int → Bool → Int → ByteArray → ByteArray → Int → ByteArray → ByteArray → Option ((List (S61)))
 | 0, _, _, _, _, _, _, _, _, _ => none
 | k + 1, x0, x5, x100, x109000, x109001, x109002, x114000, x114001, x114002 => if x100 = true then (if x5 > 1 then (if 0 ≤ (wrap64 (x5 - 2)) then (if (wrap64 (x5 - 2)) < (x0.length : Int) then (if ((rd_T61 x0 (wrap64 (x5 - 2))).f1).toList = ([] : List UInt8) then (if 0 ≤ (wrap64 (x5 - 1)) then (if (wrap64 (x5 - 1)) < (x0.length : Int) then ((some (x0.set ((wrap64 (x5 - 1)) : Int).toNat (⟨x109000, x109001, x109002⟩ : S61) : List (S61))).bind fun y121 => (if y121.length < 3518437208883 then (some (y121 ++ [(⟨x114000, x114001, x114002⟩ : S61)])) else (none))) else (none)) else (none)) else (if ((rd_T61 x0 (wrap64 (x5 - 2))).f1).size + x109001.size ≤ 9223372036854775807 then (some (x0.set ((wrap64 (x5 - 2)) : Int).toNat (⟨(rd_T61 x0 (wrap64 (x5 - 2))).f0, ((rd_T61 x0 (wrap64 (x5 - 2))).f1) ++ x109001, (rd_T61 x0 (wrap64 (x5 - 2))).f2⟩ : S61))) else (none))) else (none)) else (none)) else (if 0 ≤ (wrap64 (x5 - 1)) then (if (wrap64 (x5 - 1)) < (x0.length : Int) then ((some (x0.set ((wrap64 (x5 - 1)) : Int).toNat (⟨x109000, x109001, x109002⟩ : S61) : List (S61))).bind fun y127 => (if y127.length < 3518437208883 then (some (y127 ++ [(⟨x114000, x114001, x114002⟩ : S61)])) else (none))) else (none)) else (none))) else (if x0.length < 3518437208883 then (some (x0 ++ [(⟨x109000, x109001, x109002⟩ : S61)])) else (none))
end
def spec_l3Add.f (k : Nat) (l0 : List (S61)) (a1_0 : Int) (a1_1 : ByteArray) (a1_2 : ByteArray) : Option ((List (S61))) := if a1_0 = 0 then (if a1_1.toList = ([] : List UInt8) then (spec_l3Add.j0 k l0 (l0.length : Int) (a1_2.toList == ([] : List UInt8)) a1_0 a1_1 a1_2) else (spec_l3Add.j0 k l0 (l0.length : Int) false a1_0 a1_1 a1_2)) else (spec_l3Add.j0 k l0 (l0.length : Int) false a1_0 a1_1 a1_2)
theorem spec_l3Add.mono_l : ∀ k, (∀ y0 y1 y2 y3 y4 y5, LeO (spec_l3Add.j0 k y0 y1 y2 y3 y4 y5) (spec_l3Add.j0 (k + 1) y0 y1 y2 y3 y4 y5)) ∧ (∀ y0 y1 y2 y3 y4 y5 y6 y7 y8, LeO (spec_l3Add.j1 k y0 y1 y2 y3 y4 y5 y6 y7 y8) (spec_l3Add.j1 (k + 1) y0 y1 y2 y3 y4 y5 y6 y7 y8)) ∧ (∀ y0 y1 y2 y3 y4 y5 y6 y7 y8, LeO (spec_l3Add.j2 k y0 y1 y2 y3 y4 y5 y6 y7 y8) (spec_l3Add.j2 (k + 1) y0 y1 y2 y3 y4 y5 y6 y7 y8)) ∧ (∀ y0 y1 y2 y3 y4 y5 y6 y7 y8, LeO (spec_l3Add.j3 k y0 y1 y2 y3 y4 y5 y6 y7 y8) (spec_l3Add.j3 (k + 1) y0 y1 y2 y3 y4 y5 y6 y7 y8)) ∧ (∀ y0 y1 y2 y3 y4 y5 y6 y7 y8, LeO (spec_l3Add.j4 k y0 y1 y2 y3 y4 y5 y6 y7 y8) (spec_l3Add.j4 (k + 1) y0 y1 y2 y3 y4 y5 y6 y7 y8))
 | 0 => ⟨fun _ _ _ _ _ _ r h => by simp [spec_l3Add.j0] at h, fun _ _ _ _ _ _ _ _ _ r h => by simp [spec_l3Add.j1] at h, fun _ _ _ _ _ _ _ _ _ r h => by simp [spec_l3Add.j2] at h, fun _ _ _ _ _ _ _ _ _ r h => by simp [spec_l3Add.j3] at h, fun _ _ _ _ _ _ _ _ _ r h => by simp [spec_l3Add.j4] at h⟩
 | k + 1 => by
  obtain ⟨ih0, ih1, ih2, ih3, ih4⟩ := spec_l3Add.mono_l k
  refine ⟨?_, ?_, ?_, ?_, ?_⟩
  ·intro y0 y1 y2 y3 y4 y5
   unfold spec_l3Add.j0
   repeat' first
   | (with_reducible exact ih0 _ _ _ _ _ _)
   | (with_reducible exact ih1 _ _ _ _ _ _ _ _ _)
   | (with_reducible exact ih2 _ _ _ _ _ _ _ _ _)
   | (with_reducible exact ih3 _ _ _ _ _ _ _ _ _)
   | (with_reducible exact ih4 _ _ _ _ _ _ _ _ _)
   | (with_reducible exact LeO.refl _)
   | (with_reducible exact LeO.none _)
   | (with_reducible refine LeO.ite ?_ ?_)
   | (with_reducible refine LeO.bind ?_ (fun _ => ?_))
  ·intro y0 y1 y2 y3 y4 y5 y6 y7 y8
   unfold spec_l3Add.j1
   repeat' first
   | (with_reducible exact ih0 _ _ _ _ _ _)
   | (with_reducible exact ih1 _ _ _ _ _ _ _ _ _)
   | (with_reducible exact ih2 _ _ _ _ _ _ _ _ _)
   | (with_reducible exact ih3 _ _ _ _ _ _ _ _ _)
   | (with_reducible exact ih4 _ _ _ _ _ _ _ _ _)
   | (with_reducible exact LeO.refl _)
   | (with_reducible exact LeO.none _)
   | (with_reducible refine LeO.ite ?_ ?_)
   | (with_reducible refine LeO.bind ?_ (fun _ => ?_))
  ·intro y0 y1 y2 y3 y4 y5 y6 y7 y8
   unfold spec_l3Add.j2
   repeat' first
   | (with_reducible exact ih0 _ _ _ _ _ _)
   | (with_reducible exact ih1 _ _ _ _ _ _ _ _ _)
   | (with_reducible exact ih2 _ _ _ _ _ _ _ _ _)
   | (with_reducible exact ih3 _ _ _ _ _ _ _ _ _)
   | (with_reducible exact ih4 _ _ _ _ _ _ _ _ _)
   | (with_reducible exact LeO.refl _)
   | (with_reducible exact LeO.none _)
   | (with_reducible refine LeO.ite ?_ ?_)
   | (with_reducible refine LeO.bind ?_ (fun _ => ?_))
  ·intro y0 y1 y2 y3 y4 y5 y6 y7 y8
   unfold spec_l3Add.j3
   repeat' first
   | (with_reducible exact ih0 _ _ _ _ _ _)
   | (with_reducible exact ih1 _ _ _ _ _ _ _ _ _)
   | (with_reducible exact ih2 _ _ _ _ _ _ _ _ _)
   | (with_reducible exact ih3 _ _ _ _ _ _ _ _ _)
   | (with_reducible exact ih4 _ _ _ _ _ _ _ _ _)
   | (with_reducible exact LeO.refl _)
   | (with_reducible exact LeO.none _)
   | (with_reducible refine LeO.ite ?_ ?_)
   | (with_reducible refine LeO.bind ?_ (fun _ => ?_))
  ·intro y0 y1 y2 y3 y4 y5 y6 y7 y8
   unfold spec_l3Add.j4
   repeat' first
   | (with_reducible exact ih0 _ _ _ _ _ _)
   | (with_reducible exact ih1 _ _ _ _ _ _ _ _ _)
   | (with_reducible exact ih2 _ _ _ _ _ _ _ _ _)
   | (with_reducible exact ih3 _ _ _ _ _ _ _ _ _)
   | (with_reducible exact ih4 _ _ _ _ _ _ _ _ _)
   | (with_reducible exact LeO.refl _)
   | (with_reducible exact LeO.none _)
   | (with_reducible refine LeO.ite ?_ ?_)
   | (with_reducible refine LeO.bind ?_ (fun _ => ?_))
theorem spec_l3Add.mono : ∀ a0 a1 a2 a3 k, LeO (spec_l3Add.f k a0 a1 a2 a3) (spec_l3Add.f (k + 1) a0 a1 a2 a3) := by
 intro a0 a1 a2 a3 k
 obtain ⟨ih0, ih1, ih2, ih3, ih4⟩ := spec_l3Add.mono_l k
 unfold spec_l3Add.f
 repeat' first
   | (with_reducible exact ih0 _ _ _ _ _ _)
   | (with_reducible exact ih1 _ _ _ _ _ _ _ _ _)
   | (with_reducible exact ih2 _ _ _ _ _ _ _ _ _)
   | (with_reducible exact ih3 _ _ _ _ _ _ _ _ _)
   | (with_reducible exact ih4 _ _ _ _ _ _ _ _ _)
   | (with_reducible exact LeO.refl _)
   | (with_reducible exact LeO.none _)
   | (with_reducible refine LeO.ite ?_ ?_)
   | (with_reducible refine LeO.bind ?_ (fun _ => ?_))
def spec_l3Add.T9 : Bool × List (List Nat × List Nat) := (true, [([], []), ([], []), ([1], [1]), ([0, 2], [0, 2]), ([3], [3]), ([4], [4]), ([], []), ([6], [6]), ([5, 7], [5, 7]), ([0, 2, 0, 1, 2, 3, 4, 5, 6, 7, 8], [0, 2]), ([9, 0, 1, 2, 3, 4, 5, 6, 7, 8], [9]), ([10, 8, 0, 1, 2, 3, 4, 5, 6, 7, 8], [8, 10])])
def spec_l3Add.B9 : List Nat := [0, 0, 2, 7, 15, 31, 0, 64, 255, 511, 1023, 2047]
theorem spec_l3Add.tab9 : rtab .any (opsOf Try.f86 9) = spec_l3Add.T9 := by kernel_rfl
theorem spec_l3Add.bits9 : waitsOk spec_l3Add.T9.2 spec_l3Add.B9 = true := by kernel_rfl
def spec_l3Add.T11 : Bool × List (List Nat × List Nat) := (true, [([], []), ([], []), ([1], [1]), ([0, 2], [0, 2]), ([3], [3]), ([4], [4]), ([], []), ([6], [6]), ([5, 7], [5, 7]), ([0, 2, 0, 1, 2, 3, 4, 5, 6, 7, 8], [0, 2]), ([9, 0, 1, 2, 3, 4, 5, 6, 7, 8], [9]), ([10, 8, 0, 1, 2, 3, 4, 5, 6, 7, 8], [8, 10])])
def spec_l3Add.B11 : List Nat := [0, 0, 2, 7, 15, 31, 0, 64, 255, 511, 1023, 2047]
theorem spec_l3Add.tab11 : rtab .any (opsOf Try.f86 11) = spec_l3Add.T11 := by kernel_rfl
theorem spec_l3Add.bits11 : waitsOk spec_l3Add.T11.2 spec_l3Add.B11 = true := by kernel_rfl
def spec_l3Add.T13 : Bool × List (List Nat × List Nat) := (true, [([], []), ([], []), ([1], [1]), ([0, 2], [0, 2]), ([3], [3]), ([4], [4]), ([], []), ([6], [6]), ([5, 7], [5, 7]), ([0, 2, 0, 1, 2, 3, 4, 5, 6, 7, 8], [0, 2]), ([9, 0, 1, 2, 3, 4, 5, 6, 7, 8], [9]), ([10, 8, 0, 1, 2, 3, 4, 5, 6, 7, 8], [8, 10])])
def spec_l3Add.B13 : List Nat := [0, 0, 2, 7, 15, 31, 0, 64, 255, 511, 1023, 2047]
theorem spec_l3Add.tab13 : rtab .any (opsOf Try.f86 13) = spec_l3Add.T13 := by kernel_rfl
theorem spec_l3Add.bits13 : waitsOk spec_l3Add.T13.2 spec_l3Add.B13 = true := by kernel_rfl
def spec_l3Add.T16 : Bool × List (List Nat × List Nat) := (true, [([], []), ([], []), ([1], [1]), ([0, 2], [0, 2]), ([3], [3]), ([4], [4]), ([], []), ([6], [6]), ([5, 7], [5, 7]), ([0, 2, 0, 1, 2, 3, 4, 5, 6, 7, 8], [0, 2]), ([9, 0, 1, 2, 3, 4, 5, 6, 7, 8], [9]), ([10, 8, 0, 1, 2, 3, 4, 5, 6, 7, 8], [8, 10])])
def spec_l3Add.B16 : List Nat := [0, 0, 2, 7, 15, 31, 0, 64, 255, 511, 1023, 2047]
theorem spec_l3Add.tab16 : rtab .any (opsOf Try.f86 16) = spec_l3Add.T16 := by kernel_rfl
theorem spec_l3Add.bits16 : waitsOk spec_l3Add.T16.2 spec_l3Add.B16 = true := by kernel_rfl
set_option maxHeartbeats 8000000 in
set_option maxRecDepth 100000 in
theorem spec_l3Add.calls (k : Nat) (P0_ : Nat → Prop) (u9000_ : Value) (l0 : List (S61)) (a1_0 : Int) (a1_1 : ByteArray) (a1_2 : ByteArray) (r : List (S61)) (w0 w : World) (hB : Below w0.heap.size w0 w) (ho0 : Kd.R k61 61 w w0.heap.size P0_ u9000_ l0) (h : spec_l3Add.f k l0 a1_0 a1_1 a1_2 = some r) :
  Calls Try.prog 86 #[u9000_, .agg #[.int .i64 a1_0, .string a1_1, .string a1_2]] w fun e w' => ∃ v0_ : Value, e = .returned (v0_) ∧ Kd.R k61 61 w' w0.heap.size (fun k_ => (P0_ k_ ∨ w.heap.size ≤ k_)) v0_ r ∧ Below w0.heap.size w0 w' ∧ Kept w w' (fun k_ => P0_ k_) := by
 have hu61 := Try.underlying61
 have rp := aM (show Kd.R k61 61 w w0.heap.size (fun k_ => (P0_ k_ ∨ w.heap.size ≤ k_)) u9000_ l0 from ag ho0 (fun k_ hk => (.inl hk)))
 have HK := aM (Kept.refl w (fun k_ => P0_ k_))
 have HW0 := aM hB.size
 have HB := aM hB
 clear hB
 have H : (if a1_0 = 0 then (if a1_1.toList = ([] : List UInt8) then (spec_l3Add.j0 k l0 (l0.length : Int) (a1_2.toList == ([] : List UInt8)) a1_0 a1_1 a1_2) else (spec_l3Add.j0 k l0 (l0.length : Int) false a1_0 a1_1 a1_2)) else (spec_l3Add.j0 k l0 (l0.length : Int) false a1_0 a1_1 a1_2)) = some r := h
 clear h
 have rz := aM H
 clear H
 go_enter Try.func86, Try.ntmps86
 go_upto_region 2 with (first | ((with_reducible refine aw (N := 3) rfl ?_); refine ax ?hg (N := 3) ?hd (cs := #[.int .i64 a1_0, .string a1_1, .string a1_2]) (t := 61) ?hr ?_; (case hd => rfl); (case hg => rfl); (case hr => first | (go_simp; done) | (go_simp; rfl)); intro ba hg w4 hbox hb; replace rp := aM (af (Kd.R_elderB (kR_ rp.out) ba (Nat.le_of_eq hg.symm)) hb); have aX := aM (hbox); have dp := aM ((by rw [hg]; exact (by first | exact HK.out.1 | exact (show Kept w _ (fun k_ => P0_ k_) from by repeat (first | (with_reducible first | exact HK.out | apply Kept.alloc | apply Kept.drewN | apply Kept.drew) | exact HK.out)).1) : w.heap.size ≤ ba)); replace HK := aM (Kept.below (S := (fun k_ => P0_ k_)) (by repeat (first | (with_reducible first | exact HK.out | apply Kept.alloc | apply Kept.drewN | apply Kept.drew) | exact HK.out)) hb); have dU := aM ((by rw [hg]; exact (aq z13) : w0.heap.size ≤ ba)); replace HB := aM (ap z13 hb); clear hb hbox hg; obtain ⟨ur, nA, eo5⟩ := Kd.R_slice rp.out; subst eo5))
 (try simp only [Act.put, sA, sB, sC])
 go_cut [9] (fun v9 wc => ∃ (kq : Nat) (x9_2 : Bool), v9 = .bool x9_2 ∧ Aside0 (spec_l3Add.j0 kq l0 (l0.length : Int) x9_2 a1_0 a1_1 a1_2 = some r) ∧ Aside0 (kq ≤ k) ∧ Aside0 (Kd.R k61 61 wc w0.heap.size (fun k_ => (P0_ k_ ∨ w.heap.size ≤ k_) ∧ k_ ≠ ba) (.slice ur l0.length nA) l0) ∧ Aside0 (wc.heap[ba]? = some (.cells #[.int .i64 a1_0, .string a1_1, .string a1_2] 61 (0, 0))) ∧ Aside0 (Kept w wc (fun k_ => P0_ k_)) ∧ Aside0 (Below w0.heap.size w0 wc))
 case first =>
  have H := rz.out
  clear rz
  by_cases c6 : a1_0 = 0
  ·rw [if_pos c6] at H
   have c6b0 : (a1_0 == 0) = true := qT c6
   have c6b1 : (a1_0 != 0) = false := nF c6
   clear c6
   (first | rw [c6b0] | (simp only [i64_w, i32_w]; rw [c6b0]) | skip)
   by_cases c7 : a1_1.toList = ([] : List UInt8)
   ·rw [if_pos c7] at H
    have c7b0 : (a1_1.toList == ([] : List UInt8)) = true := qT c7
    have c7b1 : (a1_1.toList != ([] : List UInt8)) = false := nF c7
    clear c7
    have H' := aM H
    clear H
    obtain ⟨cm, ck, cj, cw, ci, ch⟩ := cc3 aX.out
    go_wp2
    all_goals (try (exfalso; rename_i h_; rw [c7b0] at h_; cases h_; done))
    go_meet
    case rel => exact ⟨_, ((a1_2.toList == ([] : List UInt8))), z1, H', ⟨y0⟩, ⟨kR_ rp.out⟩, ⟨y11⟩, ⟨y25⟩, ⟨y16⟩⟩
   ·rw [if_neg c7] at H
    have c7b0 : (a1_1.toList == ([] : List UInt8)) = false := qF c7
    have c7b1 : (a1_1.toList != ([] : List UInt8)) = true := nT c7
    have H' := aM H
    clear H
    obtain ⟨b4, b3, bZ, b6, bY, bX⟩ := cc3 aX.out
    go_wp2
    all_goals (try (exfalso; rename_i h_; rw [c7b0] at h_; cases h_; done))
    go_meet
    case rel => exact ⟨_, (false), z1, H', ⟨y0⟩, ⟨kR_ rp.out⟩, ⟨y11⟩, ⟨y25⟩, ⟨y16⟩⟩
  ·rw [if_neg c6] at H
   have c6b0 : (a1_0 == 0) = false := qF c6
   have c6b1 : (a1_0 != 0) = true := nT c6
   (first | rw [c6b0] | (simp only [i64_w, i32_w]; rw [c6b0]) | skip)
   have H' := aM H
   clear H
   obtain ⟨ga, f9, f8, fI, fH, fG⟩ := cc3 aX.out
   go_wp2
   go_meet
   case rel => exact ⟨_, (false), z1, H', ⟨y0⟩, ⟨kR_ rp.out⟩, ⟨y11⟩, ⟨y25⟩, ⟨y16⟩⟩
 case rest =>
  clear rz
  obtain ⟨kq, x9_2, rfl, HA, mf, bi, aX, HK, HB⟩ := hcut
  cases kq with
  | zero => exact absurd HA.out (by simp [spec_l3Add.j0])
  | succ kj2 =>
   have H := HA.out
   clear HA
   simp only [spec_l3Add.j0] at H
   by_cases cP : x9_2 = true
   ·subst cP
    rw [if_pos rfl] at H
    obtain rfl := sI H
    go_wp2
    go_ret
    exact ⟨_, y4, by (with_reducible repeat (first | apply ac | apply ab | apply aa)); exact ag bi.out (fun _ hk => hk.1), y16, y25⟩
   ·replace cP := Bool.eq_false_iff.mpr cP
    subst cP
    rw [if_neg nF_] at H
    by_cases b5 : (l0.length : Int) = 0
    ·rw [if_pos b5] at H
     have c12b0 : ((l0.length : Int) == 0) = true := qT b5
     have c12b1 : ((l0.length : Int) != 0) = false := nF b5
     clear b5
     by_cases ce : l0.length < 3518437208883
     ·rw [if_pos ce] at H
      have LMc13 := aM ce
      clear ce
      obtain ⟨y109, hy109⟩ : ∃ y_ : List (S61), y_ = (l0 ++ [(⟨a1_0, a1_1, a1_2⟩ : S61)]) := ⟨_, rfl⟩
      replace H : (some y109) = some r := by first | (rw [hy109]; with_reducible exact H) | (have H2_ := (Option.bind_some _ _).symm.trans H; rw [hy109]; with_reducible exact H2_) | (have H2_ := (Option.bind_some _ _).symm.trans H; with_reducible exact H2_) | with_reducible exact H | (rw [hy109]; exact H) | exact H
      have Ny109 := aM hy109
      clear hy109
      obtain rfl := sI H
      obtain ⟨dd, dc, db, cX, cW, cV⟩ := cc3 aX.out
      go_wp2_with (first | ((with_reducible refine gate_builtin (b := .append) (xs := #[.tmp 27, .tmp 29]) rfl ?_); at_builtin; refine Kd.R_append k61 (w0 := w0) w0.heap.size rfl (.tmp 27) (.tmp 29) 39 61 (.agg #[(.int .i64 0), (.string ⟨#[]⟩), (.string ⟨#[]⟩)]) 40 rfl Try.underlying39 info61 rfl (by decide) (by omega) (.slice ur l0.length nA) l0 (⟨a1_0, a1_1, a1_2⟩ : S61) [.int .i64 a1_0, .string a1_1, .string a1_2] (fun k_ => (P0_ k_ ∨ w.heap.size ≤ k_) ∧ k_ ≠ ba) (fun _ => False) rfl rfl ?aP (fun _ hk => hk.elim) ?aF ?aO ?aB ?aS ?aL ?_; (case aP => exact k61_mkM _ _ _ (⟨a1_0, a1_1, a1_2⟩ : S61)); (case aB => exact (by repeat (first | (with_reducible first | exact HB.out | apply bA | apply pD | apply bD | refine ao ?_ dU.out) | exact HB.out))); (case aF => exact (fun k_ hk => ⟨(.inr (Nat.le_trans (by first | exact HK.out.1 | exact (show Kept w _ (fun k_ => P0_ k_) from by repeat (first | (with_reducible first | exact HK.out | apply Kept.alloc | apply Kept.drewN | apply Kept.drew | refine Kept.setCell ?_ (.inr dp.out) _) | exact HK.out)).1) hk)), Kd.freshB (g := ba) (o := .cells #[.int .i64 a1_0, .string a1_1, .string a1_2] 61 (0, 0)) z5 k_ hk⟩)); (case aO => exact (kR_ bi.out)); (case aS => exact (aq (by repeat (first | (with_reducible first | exact HB.out | apply bA | apply pD | apply bD | refine ao ?_ dU.out) | exact HB.out)))); (case aL => have := LMc13.out; omega); intro v110 w15 ho hb hg hat; rw [← Ny109.out] at ho; replace aX := aM (blk_grown (g := ba) (o := .cells #[.int .i64 a1_0, .string a1_1, .string a1_2] 61 (0, 0)) z5 hg (Kd.R_away bi.out (fun _ hk => hk.2))); replace HB := aM (hb); replace HK := aM (Kept.of_grown (S := (fun k_ => P0_ k_)) hg (by repeat (first | (with_reducible first | exact HK.out | apply Kept.alloc | apply Kept.drewN | apply Kept.drew | refine Kept.setCell ?_ (.inr dp.out) _) | exact HK.out)) (fun k_ e_ => (bi.out.1 k_ e_).1)); have HO111 := aM (ho); clear bi; clear ho hb hg hat))
      go_ret
      exact ⟨_, y4, by (with_reducible repeat (first | apply ac | apply ab | apply aa)); exact ag HO111.out (fun _ hk => hk.1), y16, y25⟩
     ·rw [if_neg ce] at H
      exact absurd H (by simp)
    ·rw [if_neg b5] at H
     have c12b0 : ((l0.length : Int) == 0) = false := qF b5
     have c12b1 : ((l0.length : Int) != 0) = true := nT b5
     have c12b2 : ¬ (l0 = []) := fun h_ => b5 (by rw [h_]; rfl)
     obtain ⟨bc, bO⟩ : ∃ j_ : Int, (wrap64 ((l0.length : Int) - 1)) = j_ := ⟨_, rfl⟩
     replace H : (if 0 ≤ (bc) then (if (bc) < (l0.length : Int) then (if a1_0 > 0 then (spec_l3Add.j1 kj2 l0 (l0.length : Int) (decide (((rd_T61 l0 (bc)).f0) > 0)) a1_0 a1_1 a1_2 ((rd_T61 l0 (bc)).f0) ((rd_T61 l0 (bc)).f1) ((rd_T61 l0 (bc)).f2)) else (spec_l3Add.j1 kj2 l0 (l0.length : Int) false a1_0 a1_1 a1_2 ((rd_T61 l0 (bc)).f0) ((rd_T61 l0 (bc)).f1) ((rd_T61 l0 (bc)).f2))) else (none)) else (none)) = some r := by first | (rw [bO] at H; exact H) | (simp only [bO] at H ⊢; exact H)
     have hji16w : (IntKind.i64.wrap ((l0.length : Int) - 1)) = bc := (i64_w _).trans bO
     by_cases e4 : 0 ≤ (bc)
     ·rw [if_pos e4] at H
      have c17b0 : decide (0 ≤ (bc)) = true := dT e4
      clear e4
      by_cases e8 : (bc) < (l0.length : Int)
      ·rw [if_pos e8] at H
       have c18b0 : decide ((bc) < (l0.length : Int)) = true := dT e8
       clear e8
       have rD := aM H
       clear H
       have p112 : 0 ≤ ((bc) : Int) := oD z2
       have q112 : (bc) < (l0.length : Int) := oD z2
       obtain ⟨ad112, e112, hx112_0, hx112_1, hx112_2⟩ := at_T61 (ah bi.out).2.2 (bc) p112 q112
       cases e112
       replace p112 := eq_true p112
       replace q112 := eq_true q112
       go_upto_region 8 with (first | ((with_reducible refine aw (N := 6) rfl ?_); refine ax ?hg (N := 6) ?hd (cs := #[.int .i64 0, .string ⟨#[]⟩, .string ⟨#[]⟩]) (t := 61) ?hr ?_; (case hd => rfl); (case hg => rfl); (case hr => first | (go_simp; done) | (go_simp; rfl)); intro bo hg w20 hbox hb; replace bi := aM (af (Kd.R_elderB (kR_ bi.out) bo (Nat.le_of_eq hg.symm)) hb); have bd := aM (hbox); have eh := aM ((by rw [hg]; exact (by first | exact HK.out.1 | exact (show Kept w _ (fun k_ => P0_ k_) from by repeat (first | (with_reducible first | exact HK.out | apply Kept.alloc | apply Kept.drewN | apply Kept.drew | refine Kept.setCell ?_ (.inr dp.out) _) | exact HK.out)).1) : w.heap.size ≤ bo)); replace HK := aM (Kept.below (S := (fun k_ => P0_ k_)) (by repeat (first | (with_reducible first | exact HK.out | apply Kept.alloc | apply Kept.drewN | apply Kept.drew | refine Kept.setCell ?_ (.inr dp.out) _) | exact HK.out)) hb); have eV := aM ((by rw [hg]; exact (aq (by repeat (first | (with_reducible first | exact HB.out | apply bA | apply pD | apply bD | refine ao ?_ dU.out) | exact HB.out))) : w0.heap.size ≤ bo)); replace HB := aM (ap (by repeat (first | (with_reducible first | exact HB.out | apply bA | apply pD | apply bD | refine ao ?_ dU.out) | exact HB.out)) hb); have bH := aM ((by rw [hg]; exact ar (blk_lt (g := ba) (o := .cells #[.int .i64 a1_0, .string a1_1, .string a1_2] 61 (0, 0)) z5) : ba ≠ bo)); have bU := aM ((by rw [hg]; exact au (blk_lt (g := ba) (o := .cells #[.int .i64 a1_0, .string a1_1, .string a1_2] 61 (0, 0)) z5) : bo ≠ ba)); replace aX := aM (bK_ aX.out hb); clear hb hbox hg; have hnb21 := bU.out; have hnc21 := bH.out; obtain ⟨da, cZ, cY, cU, cT, cS⟩ := cc3 bd.out))
       (try simp only [Act.put, sA, sB, sC])
       go_cut [40] (fun v40 wc => ∃ (kq : Nat) (x40_18 : Bool), v40 = .bool x40_18 ∧ Aside0 (spec_l3Add.j1 kq l0 (l0.length : Int) x40_18 a1_0 a1_1 a1_2 ((rd_T61 l0 (bc)).f0) ((rd_T61 l0 (bc)).f1) ((rd_T61 l0 (bc)).f2) = some r) ∧ Aside0 (kq ≤ kj2) ∧ Aside0 (Kd.R k61 61 wc w0.heap.size (fun k_ => (P0_ k_ ∨ w.heap.size ≤ k_) ∧ k_ ≠ ba ∧ k_ ≠ bo) (.slice (some ad112) l0.length nA) l0) ∧ Aside0 (wc.heap[ba]? = some (.cells #[.int .i64 a1_0, .string a1_1, .string a1_2] 61 (0, 0))) ∧ Aside0 (wc.heap[bo]? = some (.cells #[.int .i64 ((rd_T61 l0 (bc)).f0), .string ((rd_T61 l0 (bc)).f1), .string ((rd_T61 l0 (bc)).f2)] 61 (0, 0))) ∧ Aside0 (Kept w wc (fun k_ => P0_ k_)) ∧ Aside0 (Below w0.heap.size w0 wc))
       case first =>
        have H := rD.out
        clear rD
        by_cases gp : a1_0 > 0
        ·rw [if_pos gp] at H
         have c23b0 : decide (0 < a1_0) = true := dT gp
         clear gp
         (first | rw [c23b0] | (simp only [i64_w, i32_w]; rw [c23b0]) | skip)
         have H' := aM H
         clear H
         have hnb24 := bH.out
         have hnc24 := bU.out
         obtain ⟨eL, eK, eJ, eE, eD, eC⟩ := cc3 aX.out
         obtain ⟨g4, g3, g1, gO, gN, gM⟩ := cc3 bd.out
         go_wp2
         go_meet
         case rel => exact ⟨_, (decide (((rd_T61 l0 (bc)).f0) > 0)), (by first | rfl | (simp; done) | (simp only [← bO] <;> (first | rfl | (simp; done) | (simp; generalize ByteArray.toList _ = u_; cases u_ <;> (first | rfl | (simp; done))))) | (simp [*]; done)), (by first | exact H' | (simp only [bO]; exact H') | (simp only [← bO]; exact H')), ⟨by have := mf.out; first | omega | exact Nat.le_refl _⟩, ⟨by (with_reducible repeat (first | apply ac | apply ab | apply aa)); exact ag (Kd.R_far (p := ⟨bo, 2, none⟩) (Kd.R_far (p := ⟨bo, 1, none⟩) (Kd.R_far (p := ⟨bo, 0, none⟩) (ag bi.out (fun k_ hk => (⟨hk, hk.2⟩ : _ ∧ k_ ≠ bo))) (fun _ hk => hk.2) (.int .i64 ((rd_T61 l0 (bc)).f0))) (fun _ hk => hk.2) (.string ((rd_T61 l0 (bc)).f1))) (fun _ hk => hk.2) (.string ((rd_T61 l0 (bc)).f2))) (fun _ hk => ⟨hk.1.1.1, ⟨hk.1.1.2, hk.1.2⟩⟩)⟩, ⟨by (with_reducible repeat (first | refine aj ?_ _ | refine ai ?_ | refine ak ?_ _)); refine al ?_ bH.out _; (with_reducible repeat (first | refine aj ?_ _ | refine ai ?_ | refine ak ?_ _)); refine al ?_ bH.out _; (with_reducible repeat (first | refine aj ?_ _ | refine ai ?_ | refine ak ?_ _)); refine al ?_ bH.out _; (with_reducible repeat (first | refine aj ?_ _ | refine ai ?_ | refine ak ?_ _)); exact aX.out⟩, ⟨by (with_reducible repeat (first | refine aj ?_ _ | refine ai ?_ | refine ak ?_ _)); refine am (cs := #[.int .i64 ((rd_T61 l0 (bc)).f0), .string ((rd_T61 l0 (bc)).f1), .string ⟨#[]⟩]) ?_ 2 _ rfl; (with_reducible repeat (first | refine aj ?_ _ | refine ai ?_ | refine ak ?_ _)); refine am (cs := #[.int .i64 ((rd_T61 l0 (bc)).f0), .string ⟨#[]⟩, .string ⟨#[]⟩]) ?_ 1 _ rfl; (with_reducible repeat (first | refine aj ?_ _ | refine ai ?_ | refine ak ?_ _)); refine am (cs := #[.int .i64 0, .string ⟨#[]⟩, .string ⟨#[]⟩]) ?_ 0 _ rfl; (with_reducible repeat (first | refine aj ?_ _ | refine ai ?_ | refine ak ?_ _)); exact bd.out⟩, ⟨y30⟩, ⟨y24⟩⟩
        ·rw [if_neg gp] at H
         have c23b0 : decide (0 < a1_0) = false := dF gp
         clear gp
         (first | rw [c23b0] | (simp only [i64_w, i32_w]; rw [c23b0]) | skip)
         have H' := aM H
         clear H
         have hnb27 := bH.out
         have hnc27 := bU.out
         obtain ⟨f5, f4, f3, fD, fC, fB⟩ := cc3 aX.out
         go_wp2
         go_meet
         case rel => exact ⟨_, (false), z1, (by first | exact H' | (simp only [bO]; exact H') | (simp only [← bO]; exact H')), ⟨by have := mf.out; first | omega | exact Nat.le_refl _⟩, ⟨by (with_reducible repeat (first | apply ac | apply ab | apply aa)); exact ag (Kd.R_far (p := ⟨bo, 2, none⟩) (Kd.R_far (p := ⟨bo, 1, none⟩) (Kd.R_far (p := ⟨bo, 0, none⟩) (ag bi.out (fun k_ hk => (⟨hk, hk.2⟩ : _ ∧ k_ ≠ bo))) (fun _ hk => hk.2) (.int .i64 ((rd_T61 l0 (bc)).f0))) (fun _ hk => hk.2) (.string ((rd_T61 l0 (bc)).f1))) (fun _ hk => hk.2) (.string ((rd_T61 l0 (bc)).f2))) (fun _ hk => ⟨hk.1.1.1, ⟨hk.1.1.2, hk.1.2⟩⟩)⟩, ⟨by (with_reducible repeat (first | refine aj ?_ _ | refine ai ?_ | refine ak ?_ _)); refine al ?_ bH.out _; (with_reducible repeat (first | refine aj ?_ _ | refine ai ?_ | refine ak ?_ _)); refine al ?_ bH.out _; (with_reducible repeat (first | refine aj ?_ _ | refine ai ?_ | refine ak ?_ _)); refine al ?_ bH.out _; (with_reducible repeat (first | refine aj ?_ _ | refine ai ?_ | refine ak ?_ _)); exact aX.out⟩, ⟨by (with_reducible repeat (first | refine aj ?_ _ | refine ai ?_ | refine ak ?_ _)); refine am (cs := #[.int .i64 ((rd_T61 l0 (bc)).f0), .string ((rd_T61 l0 (bc)).f1), .string ⟨#[]⟩]) ?_ 2 _ rfl; (with_reducible repeat (first | refine aj ?_ _ | refine ai ?_ | refine ak ?_ _)); refine am (cs := #[.int .i64 ((rd_T61 l0 (bc)).f0), .string ⟨#[]⟩, .string ⟨#[]⟩]) ?_ 1 _ rfl; (with_reducible repeat (first | refine aj ?_ _ | refine ai ?_ | refine ak ?_ _)); refine am (cs := #[.int .i64 0, .string ⟨#[]⟩, .string ⟨#[]⟩]) ?_ 0 _ rfl; (with_reducible repeat (first | refine aj ?_ _ | refine ai ?_ | refine ak ?_ _)); exact bd.out⟩, ⟨y30⟩, ⟨y24⟩⟩
       case rest =>
        clear rD
        try clear cP
        try clear b5
        try clear c12b0
        try clear c12b1
        try clear c12b2
        try clear e4
        try clear c17b0
        try clear e8
        try clear c18b0
        try clear da
        try clear cZ
        try clear cY
        try clear cU
        try clear cT
        try clear cS
        try clear hx112_0
        try clear hx112_1
        try clear hx112_2
        try clear p112
        try clear q112
        obtain ⟨kq, x40_18, rfl, HA, nG, bi, aX, bd, HK, HB⟩ := hcut
        cases kq with
        | zero => exact absurd HA.out (by simp [spec_l3Add.j1])
        | succ kj18 =>
         have H := HA.out
         clear HA
         simp only [spec_l3Add.j1] at H
         by_cases iU : x40_18 = true
         ·subst iU
          rw [if_pos rfl] at H
          obtain ⟨bS, mq⟩ : ∃ j_ : Int, (wrap64 ((l0.length : Int) - 1)) = j_ := ⟨_, rfl⟩
          (try clear hji16w); (try clear bO)
          replace H : (if 0 ≤ (bS) then (if (bS) < (l0.length : Int) then (some (l0.set ((bS) : Int).toNat (⟨wrap64 (((rd_T61 l0 (bS)).f0) + a1_0), (rd_T61 l0 (bS)).f1, (rd_T61 l0 (bS)).f2⟩ : S61))) else (none)) else (none)) = some r := by first | (rw [mq] at H; exact H) | (simp only [mq] at H ⊢; exact H)
          have hji30w : (IntKind.i64.wrap ((l0.length : Int) - 1)) = bS := (i64_w _).trans mq
          by_cases dS : 0 ≤ (bS)
          ·rw [if_pos dS] at H
           have c31b0 : decide (0 ≤ (bS)) = true := dT dS
           clear dS
           by_cases gn : (bS) < (l0.length : Int)
           ·rw [if_pos gn] at H
            have c32b0 : decide ((bS) < (l0.length : Int)) = true := dT gn
            clear gn
            obtain ⟨y115, hy115⟩ : ∃ y_ : List (S61), y_ = (l0.set ((bS) : Int).toNat (⟨wrap64 (((rd_T61 l0 (bS)).f0) + a1_0), (rd_T61 l0 (bS)).f1, (rd_T61 l0 (bS)).f2⟩ : S61)) := ⟨_, rfl⟩
            replace H : (some y115) = some r := by first | (rw [hy115]; with_reducible exact H) | (have H2_ := (Option.bind_some _ _).symm.trans H; rw [hy115]; with_reducible exact H2_) | (have H2_ := (Option.bind_some _ _).symm.trans H; with_reducible exact H2_) | with_reducible exact H | (rw [hy115]; exact H) | exact H
            have Ny115 := aM hy115
            clear hy115
            obtain rfl := sI H
            try go_wp2
            replace bi := aM (aa bi.out)
            replace aX := aM (ai aX.out)
            replace bd := aM (ai bd.out)
            replace HK := aM (Kept.drew HK.out)
            replace HB := aM (bD HB.out)
            have p114 : 0 ≤ ((bS) : Int) := oD z2
            have q114 : (bS) < (l0.length : Int) := oD z2
            obtain ⟨ad114, e114, hx114_0, hx114_1, hx114_2⟩ := at_T61 (ah bi.out).2.2 (bS) p114 q114
            obtain rfl : ad112 = ad114 := (by injection e114)
            replace p114 := eq_true p114
            replace q114 := eq_true q114
            have p33 : 0 ≤ ((bS) : Int) := oD z2
            have q33 : ((bS) : Int) < ((l0.length : Int) : Int) := oD z2
            obtain ⟨go33, co33, eo33, tc, gl33, cl33, HG33⟩ := Kd.R_form bi.out (by omega)
            (first | cases eo33 | (injection eo33 with ea_ en_ ec_; (first | subst ea_ | (injection ea_ with ea_; subst ea_)); subst ec_; clear en_))
            have GB33 := aM tc
            have GG33 := aM HG33
            clear tc gl33 HG33
            have HMgo33 := aM (show (P0_ go33 ∨ w.heap.size ≤ go33) from (bi.out.1 _ rfl).1)
            (first | simp only [add_plain] at hx112_0 | skip)
            (first | simp only [add_plain] at hx112_1 | skip)
            (first | simp only [add_plain] at hx112_2 | skip)
            (first | simp only [add_plain] at hx114_0 | skip)
            (first | simp only [add_plain] at hx114_1 | skip)
            (first | simp only [add_plain] at hx114_2 | skip)
            obtain ⟨ce33, hcl33, hM33, hcc33, hfr33⟩ := Kd.R_elem bi.out z61 ((bS) : Int) p33 q33
            obtain rfl := k61_openM hM33
            have hx33_0 : World.cell? _ ⟨go33, ((bS) : Int).toNat * 3, none⟩ = some (.int .i64 ((rd_T61 l0 (bS)).f0)) := hcc33 0 _ rfl
            have hx33_1 : World.cell? _ ⟨go33, ((bS) : Int).toNat * 3 + 1, none⟩ = some (.string ((rd_T61 l0 (bS)).f1)) := hcc33 1 _ rfl
            have hx33_2 : World.cell? _ ⟨go33, ((bS) : Int).toNat * 3 + 2, none⟩ = some (.string ((rd_T61 l0 (bS)).f2)) := hcc33 2 _ rfl
            have hf33_0 : World.frozen? _ ⟨go33, ((bS) : Int).toNat * 3, none⟩ = false := hfr33 0
            have hf33_1 : World.frozen? _ ⟨go33, ((bS) : Int).toNat * 3 + 1, none⟩ = false := hfr33 1
            have hf33_2 : World.frozen? _ ⟨go33, ((bS) : Int).toNat * 3 + 2, none⟩ = false := hfr33 2
            clear hcl33 hcc33 hfr33; (try clear hM33)
            replace p33 := eq_true p33
            replace q33 := eq_true q33
            obtain ⟨ce35, hcl35, hM35, hcc35, hfr35⟩ := Kd.R_elem bi.out z61 ((bS) : Int) (oD z2) (by have h_ : ((bS) : Int) < ((l0.length : Int) : Int) := oD z2; first | exact h_ | (have e_ := (ah bi.out).1; omega) | simpa using h_)
            obtain rfl := k61_openM hM35
            have HP35 := (Kd.R_seg bi.out ((bS) : Int) (oD z2) (by have h_ : ((bS) : Int) < ((l0.length : Int) : Int) := oD z2; first | exact h_ | (have e_ := (ah bi.out).1; omega) | simpa using h_) (seg := [.int .i64 (wrap64 (((rd_T61 l0 (bS)).f0) + a1_0))]) (j := 0) hcl35 hcc35 (show 1 ≤ 3 from by decide) (x' := (⟨wrap64 (((rd_T61 l0 (bS)).f0) + a1_0), (rd_T61 l0 (bS)).f1, (rd_T61 l0 (bS)).f2⟩ : S61)) (k61_mkM _ _ _ (⟨wrap64 (((rd_T61 l0 (bS)).f0) + a1_0), (rd_T61 l0 (bS)).f1, (rd_T61 l0 (bS)).f2⟩ : S61) ) (fun _ hk => hk)).1
            rw [← Ny115.out] at HP35
            have HQ35 := aM HP35
            clear hcl35 hcc35 hfr35 HP35; (try clear hM35)
            refine start_ (n := 12) (S := fun w' => w'.cell? ⟨ba, 0, none⟩ = some (.int .i64 a1_0) ∧ w'.cell? ⟨ba, 1, none⟩ = some (.string a1_1) ∧ w'.cell? ⟨ba, 2, none⟩ = some (.string a1_2) ∧ w'.cell? ⟨go33, ((bS)).toNat * 3, none⟩ = some (.int .i64 ((rd_T61 l0 (bS)).f0)) ∧ w'.cell? ⟨go33, ((bS)).toNat * 3 + 1, none⟩ = some (.string ((rd_T61 l0 (bS)).f1)) ∧ w'.cell? ⟨go33, ((bS)).toNat * 3 + 2, none⟩ = some (.string ((rd_T61 l0 (bS)).f2))) (ds := [11]) #[false, false, false, false, false, false, false, false, false, false, false, false] z0 rfl rfl ⟨(bC aX.out 0).trans rfl, (bC aX.out 1).trans rfl, (bC aX.out 2).trans rfl, hx114_0, hx114_1, hx114_2⟩ (fun hHeld => ?_); refine with_tabW spec_l3Add.tab9 spec_l3Add.bits9 (fun HT_ HW_ => ?_)
            (first | generalize wc.drew = w34 at bi aX bd HK HB GG33 HQ35 hf33_0 hf33_1 hf33_2 hx112_0 hx112_1 hx112_2 hx114_0 hx114_1 hx114_2 hx33_0 hx33_1 hx33_2 hHeld ⊢ | generalize wc.drew = w34 at bi aX bd HK HB GG33 HQ35 hf33_0 hf33_1 hf33_2 hx33_0 hx33_1 hx33_2 hHeld ⊢)
            refine pA 0 49 ?_
            refine pA 1 50 ?_
            refine pA 2 51 ?_
            refine pA 3 52 ?_
            refine pA 4 53 ?_
            refine pA 6 55 ?_
            refine t6_ 5 54 ?_
            refine t6_ 7 56 ?_
            refine pA 8 57 ?_
            refine pA 9 58 ?_
            refine pA 10 59 ?_
            refine last_ (i := 11) (N := none) #[true, true, true, true, true, true, true, true, true, true, true, true] rfl rfl (one_of HT_.out z0) (by decide) (fun K hK => ?_)
            refine skip_ (w1 := ?_) (by rfl) rfl ?_ ?_
            rotate_left
            ·go_simp
             rfl
            refine hK.out _ _ ?_
            clear hK K
            refine done_ (done_of HT_.out z0) ?_
            try go_wp2
            go_ret
            exact ⟨_, by first | rfl | (simp [errW_none, errW_some] <;> rfl) | (simp only [← bO, ← mq]; first | rfl | (simp [errW_none, errW_some] <;> rfl)) | (simp [*, errW_none, errW_some] <;> rfl), by (with_reducible repeat (first | apply ac | apply ab | apply aa)); exact ag HQ35.out (fun _ hk => hk.1), by repeat (first | (with_reducible first | exact HB.out | apply bA | apply pD | apply bD | refine ao ?_ GB33.out | refine ao ?_ dU.out | refine ao ?_ eV.out) | exact HB.out), by repeat (first | (with_reducible first | exact HK.out | apply Kept.alloc | apply Kept.drewN | apply Kept.drew | refine Kept.setCell ?_ HMgo33.out _ | refine Kept.setCell ?_ (.inr dp.out) _ | refine Kept.setCell ?_ (.inr eh.out) _) | exact HK.out)⟩
           ·rw [if_neg gn] at H
            exact absurd H (by simp)
          ·rw [if_neg dS] at H
           exact absurd H (by simp)
         ·replace iU := Bool.eq_false_iff.mpr iU
          subst iU
          rw [if_neg nF_] at H
          have ry := aM H
          clear H
          go_upto_region 10 with (fail)
          go_cut [60] (fun v60 wc => ∃ (kq : Nat) (x60_35 : Bool), v60 = .bool x60_35 ∧ Aside0 (spec_l3Add.j2 kq l0 (l0.length : Int) x60_35 a1_0 a1_1 a1_2 ((rd_T61 l0 (bc)).f0) ((rd_T61 l0 (bc)).f1) ((rd_T61 l0 (bc)).f2) = some r) ∧ Aside0 (kq ≤ kj18) ∧ Aside0 (Kd.R k61 61 wc w0.heap.size (fun k_ => (P0_ k_ ∨ w.heap.size ≤ k_) ∧ k_ ≠ ba ∧ k_ ≠ bo) (.slice (some ad112) l0.length nA) l0) ∧ Aside0 (wc.heap[ba]? = some (.cells #[.int .i64 a1_0, .string a1_1, .string a1_2] 61 (0, 0))) ∧ Aside0 (wc.heap[bo]? = some (.cells #[.int .i64 ((rd_T61 l0 (bc)).f0), .string ((rd_T61 l0 (bc)).f1), .string ((rd_T61 l0 (bc)).f2)] 61 (0, 0))) ∧ Aside0 (Kept w wc (fun k_ => P0_ k_)) ∧ Aside0 (Below w0.heap.size w0 wc))
          case first =>
           have H := ry.out
           clear ry
           by_cases ma : a1_2.toList = ([] : List UInt8)
           ·rw [if_pos ma] at H
            have c37b0 : (a1_2.toList == ([] : List UInt8)) = true := qT ma
            have c37b1 : (a1_2.toList != ([] : List UInt8)) = false := nF ma
            clear ma
            (first | rw [c37b0] | (simp only [i64_w, i32_w]; rw [c37b0]) | skip)
            have H' := aM H
            clear H
            have hnb38 := bH.out
            have hnc38 := bU.out
            obtain ⟨dC, dB, dA, dv, du, dt⟩ := cc3 aX.out
            go_wp2
            all_goals (try (exfalso; rename_i h_; rw [c37b0] at h_; cases h_; done))
            go_meet
            case rel => exact ⟨_, (false), z1, (by first | exact H' | (simp only [bO]; exact H') | (simp only [← bO]; exact H')), ⟨by have := mf.out; have := nG.out; first | omega | exact Nat.le_refl _⟩, ⟨y6⟩, ⟨y11⟩, ⟨y12⟩, ⟨y30⟩, ⟨y24⟩⟩
           ·rw [if_neg ma] at H
            have c37b0 : (a1_2.toList == ([] : List UInt8)) = false := qF ma
            have c37b1 : (a1_2.toList != ([] : List UInt8)) = true := nT ma
            (first | rw [c37b0] | (simp only [i64_w, i32_w]; rw [c37b0]) | skip)
            have H' := aM H
            clear H
            have hnb40 := bH.out
            have hnc40 := bU.out
            obtain ⟨j8, j7, j6, jH, jG, jF⟩ := cc3 aX.out
            obtain ⟨cv, cu, ct, cr, cq, cp⟩ := cc3 bd.out
            go_wp2
            all_goals (try (exfalso; rename_i h_; rw [c37b0] at h_; cases h_; done))
            go_meet
            case rel => exact ⟨_, ((((rd_T61 l0 (bc)).f2).toList != ([] : List UInt8))), (by first | rfl | (simp; done) | (simp only [← bO] <;> (first | rfl | (simp; done) | (simp; generalize ByteArray.toList _ = u_; cases u_ <;> (first | rfl | (simp; done))))) | (simp [*]; done)), (by first | exact H' | (simp only [bO]; exact H') | (simp only [← bO]; exact H')), ⟨by have := mf.out; have := nG.out; first | omega | exact Nat.le_refl _⟩, ⟨y6⟩, ⟨y11⟩, ⟨y12⟩, ⟨y30⟩, ⟨y24⟩⟩
          case rest =>
           clear ry
           try clear p2
           try clear c6
           try clear c6b0
           try clear c6b1
           try clear c7
           try clear c7b0
           try clear c7b1
           try clear c8
           try clear cP
           try clear b5
           try clear c12b0
           try clear c12b1
           try clear c12b2
           try clear ce
           try clear e4
           try clear c17b0
           try clear e8
           try clear c18b0
           try clear iU
           try clear ga
           try clear f9
           try clear f8
           try clear dd
           try clear dc
           try clear db
           try clear da
           try clear cZ
           try clear cY
           try clear cm
           try clear ck
           try clear cj
           try clear b4
           try clear b3
           try clear bZ
           try clear fI
           try clear fH
           try clear fG
           try clear cX
           try clear cW
           try clear cV
           try clear cU
           try clear cT
           try clear cS
           try clear cw
           try clear ci
           try clear ch
           try clear b6
           try clear bY
           try clear bX
           try clear hx112_0
           try clear hx112_1
           try clear hx112_2
           try clear p112
           try clear p2
           try clear q112
           obtain ⟨kq, x60_35, rfl, HA, pZ, bi, aX, bd, HK, HB⟩ := hcut
           cases kq with
           | zero => exact absurd HA.out (by simp [spec_l3Add.j2])
           | succ kj35 =>
            have H := HA.out
            clear HA
            simp only [spec_l3Add.j2] at H
            by_cases i1 : x60_35 = true
            ·subst i1
             rw [if_pos rfl] at H
             obtain ⟨bG, dQ⟩ : ∃ j_ : Int, (wrap64 ((l0.length : Int) - 1)) = j_ := ⟨_, rfl⟩
             (try clear hji16w); (try clear bO)
             replace H : (if 0 ≤ (bG) then (if (bG) < (l0.length : Int) then (if ((rd_T61 l0 (bG)).f2).size + a1_2.size ≤ 9223372036854775807 then (some (l0.set ((bG) : Int).toNat (⟨(rd_T61 l0 (bG)).f0, (rd_T61 l0 (bG)).f1, ((rd_T61 l0 (bG)).f2) ++ a1_2⟩ : S61))) else (none)) else (none)) else (none)) = some r := by first | (rw [dQ] at H; exact H) | (simp only [dQ] at H ⊢; exact H)
             have hji44w : (IntKind.i64.wrap ((l0.length : Int) - 1)) = bG := (i64_w _).trans dQ
             by_cases k5 : 0 ≤ (bG)
             ·rw [if_pos k5] at H
              have c45b0 : decide (0 ≤ (bG)) = true := dT k5
              clear k5
              by_cases d4 : (bG) < (l0.length : Int)
              ·rw [if_pos d4] at H
               have c46b0 : decide ((bG) < (l0.length : Int)) = true := dT d4
               clear d4
               by_cases gb : ((rd_T61 l0 (bG)).f2).size + a1_2.size ≤ 9223372036854775807
               ·rw [if_pos gb] at H
                have c47b0 := eq_true gb
                have c47b1 : decide (((rd_T61 l0 (bG)).f2).size + a1_2.size ≤ 9223372036854775807) = true := dT gb
                try have c47b2 : (9223372036854775807 < ((rd_T61 l0 (bG)).f2).size + a1_2.size) = False := eq_false (Nat.not_lt.2 gb)
                obtain ⟨y117, hy117⟩ : ∃ y_ : List (S61), y_ = (l0.set ((bG) : Int).toNat (⟨(rd_T61 l0 (bG)).f0, (rd_T61 l0 (bG)).f1, ((rd_T61 l0 (bG)).f2) ++ a1_2⟩ : S61)) := ⟨_, rfl⟩
                replace H : (some y117) = some r := by first | (rw [hy117]; with_reducible exact H) | (have H2_ := (Option.bind_some _ _).symm.trans H; rw [hy117]; with_reducible exact H2_) | (have H2_ := (Option.bind_some _ _).symm.trans H; with_reducible exact H2_) | with_reducible exact H | (rw [hy117]; exact H) | exact H
                have Ny117 := aM hy117
                clear hy117
                obtain rfl := sI H
                try go_wp2
                replace bi := aM (aa bi.out)
                replace aX := aM (ai aX.out)
                replace bd := aM (ai bd.out)
                replace HK := aM (Kept.drew HK.out)
                replace HB := aM (bD HB.out)
                have p116 : 0 ≤ ((bG) : Int) := oD z2
                have q116 : (bG) < (l0.length : Int) := oD z2
                obtain ⟨ad116, e116, hx116_0, hx116_1, hx116_2⟩ := at_T61 (ah bi.out).2.2 (bG) p116 q116
                obtain rfl : ad112 = ad116 := (by injection e116)
                replace p116 := eq_true p116
                replace q116 := eq_true q116
                have p48 : 0 ≤ ((bG) : Int) := oD z2
                have q48 : ((bG) : Int) < ((l0.length : Int) : Int) := oD z2
                obtain ⟨go48, co48, eo48, tb, gl48, cl48, HG48⟩ := Kd.R_form bi.out (by omega)
                (first | cases eo48 | (injection eo48 with ea_ en_ ec_; (first | subst ea_ | (injection ea_ with ea_; subst ea_)); subst ec_; clear en_))
                have GB48 := aM tb
                have GG48 := aM HG48
                clear tb gl48 HG48
                have HMgo48 := aM (show (P0_ go48 ∨ w.heap.size ≤ go48) from (bi.out.1 _ rfl).1)
                (first | simp only [add_plain] at hx116_0 | skip)
                (first | simp only [add_plain] at hx116_1 | skip)
                (first | simp only [add_plain] at hx116_2 | skip)
                obtain ⟨ce48, hcl48, hM48, hcc48, hfr48⟩ := Kd.R_elem bi.out z61 ((bG) : Int) p48 q48
                obtain rfl := k61_openM hM48
                have hx48_0 : World.cell? _ ⟨go48, ((bG) : Int).toNat * 3, none⟩ = some (.int .i64 ((rd_T61 l0 (bG)).f0)) := hcc48 0 _ rfl
                have hx48_1 : World.cell? _ ⟨go48, ((bG) : Int).toNat * 3 + 1, none⟩ = some (.string ((rd_T61 l0 (bG)).f1)) := hcc48 1 _ rfl
                have hx48_2 : World.cell? _ ⟨go48, ((bG) : Int).toNat * 3 + 2, none⟩ = some (.string ((rd_T61 l0 (bG)).f2)) := hcc48 2 _ rfl
                have hf48_0 : World.frozen? _ ⟨go48, ((bG) : Int).toNat * 3, none⟩ = false := hfr48 0
                have hf48_1 : World.frozen? _ ⟨go48, ((bG) : Int).toNat * 3 + 1, none⟩ = false := hfr48 1
                have hf48_2 : World.frozen? _ ⟨go48, ((bG) : Int).toNat * 3 + 2, none⟩ = false := hfr48 2
                clear hcl48 hcc48 hfr48; (try clear hM48)
                replace p48 := eq_true p48
                replace q48 := eq_true q48
                obtain ⟨ce50, hcl50, hM50, hcc50, hfr50⟩ := Kd.R_elem bi.out z61 ((bG) : Int) (oD z2) (by have h_ : ((bG) : Int) < ((l0.length : Int) : Int) := oD z2; first | exact h_ | (have e_ := (ah bi.out).1; omega) | simpa using h_)
                obtain rfl := k61_openM hM50
                have HP50 := (Kd.R_seg bi.out ((bG) : Int) (oD z2) (by have h_ : ((bG) : Int) < ((l0.length : Int) : Int) := oD z2; first | exact h_ | (have e_ := (ah bi.out).1; omega) | simpa using h_) (seg := [.string (((rd_T61 l0 (bG)).f2) ++ a1_2)]) (j := 2) hcl50 hcc50 (show 3 ≤ 3 from by decide) (x' := (⟨(rd_T61 l0 (bG)).f0, (rd_T61 l0 (bG)).f1, ((rd_T61 l0 (bG)).f2) ++ a1_2⟩ : S61)) (k61_mkM _ _ _ (⟨(rd_T61 l0 (bG)).f0, (rd_T61 l0 (bG)).f1, ((rd_T61 l0 (bG)).f2) ++ a1_2⟩ : S61) ) (fun _ hk => hk)).1
                rw [← Ny117.out] at HP50
                have HQ50 := aM HP50
                clear hcl50 hcc50 hfr50 HP50; (try clear hM50)
                refine start_ (n := 12) (S := fun w' => w'.cell? ⟨ba, 0, none⟩ = some (.int .i64 a1_0) ∧ w'.cell? ⟨ba, 1, none⟩ = some (.string a1_1) ∧ w'.cell? ⟨ba, 2, none⟩ = some (.string a1_2) ∧ w'.cell? ⟨go48, ((bG)).toNat * 3, none⟩ = some (.int .i64 ((rd_T61 l0 (bG)).f0)) ∧ w'.cell? ⟨go48, ((bG)).toNat * 3 + 1, none⟩ = some (.string ((rd_T61 l0 (bG)).f1)) ∧ w'.cell? ⟨go48, ((bG)).toNat * 3 + 2, none⟩ = some (.string ((rd_T61 l0 (bG)).f2))) (ds := [11]) #[false, false, false, false, false, false, false, false, false, false, false, false] z0 rfl rfl ⟨(bC aX.out 0).trans rfl, (bC aX.out 1).trans rfl, (bC aX.out 2).trans rfl, hx116_0, hx116_1, hx116_2⟩ (fun hHeld => ?_); refine with_tabW spec_l3Add.tab11 spec_l3Add.bits11 (fun HT_ HW_ => ?_)
                (first | generalize wc.drew = w49 at bi aX bd HK HB GG48 HQ50 hf48_0 hf48_1 hf48_2 hx116_0 hx116_1 hx116_2 hx48_0 hx48_1 hx48_2 hHeld ⊢ | generalize wc.drew = w49 at bi aX bd HK HB GG48 HQ50 hf48_0 hf48_1 hf48_2 hx48_0 hx48_1 hx48_2 hHeld ⊢)
                refine pA 0 69 ?_
                refine pA 1 70 ?_
                refine pA 2 71 ?_
                refine pA 3 72 ?_
                refine pA 4 73 ?_
                refine pA 6 75 ?_
                refine t6_ 5 74 ?_
                refine t6_ 7 76 ?_
                refine pA 8 77 ?_
                refine pA 9 78 ?_
                refine pA 10 79 ?_
                refine last_ (i := 11) (N := none) #[true, true, true, true, true, true, true, true, true, true, true, true] rfl rfl (one_of HT_.out z0) (by decide) (fun K hK => ?_)
                refine skip_ (w1 := ?_) (by rfl) rfl ?_ ?_
                rotate_left
                ·go_simp
                 rfl
                refine hK.out _ _ ?_
                clear hK K
                refine done_ (done_of HT_.out z0) ?_
                try go_wp2
                go_ret
                exact ⟨_, by first | rfl | (simp [errW_none, errW_some] <;> rfl) | (simp only [← bO, ← dQ]; first | rfl | (simp [errW_none, errW_some] <;> rfl)) | (simp [*, errW_none, errW_some] <;> rfl), by (with_reducible repeat (first | apply ac | apply ab | apply aa)); exact ag HQ50.out (fun _ hk => hk.1), by repeat (first | (with_reducible first | exact HB.out | apply bA | apply pD | apply bD | refine ao ?_ GB48.out | refine ao ?_ dU.out | refine ao ?_ eV.out) | exact HB.out), by repeat (first | (with_reducible first | exact HK.out | apply Kept.alloc | apply Kept.drewN | apply Kept.drew | refine Kept.setCell ?_ HMgo48.out _ | refine Kept.setCell ?_ (.inr dp.out) _ | refine Kept.setCell ?_ (.inr eh.out) _) | exact HK.out)⟩
               ·rw [if_neg gb] at H
                exact absurd H (by simp)
              ·rw [if_neg d4] at H
               exact absurd H (by simp)
             ·rw [if_neg k5] at H
              exact absurd H (by simp)
            ·replace i1 := Bool.eq_false_iff.mpr i1
             subst i1
             rw [if_neg nF_] at H
             have rv := aM H
             clear H
             go_upto_region 12 with (fail)
             go_cut [80] (fun v80 wc => ∃ (kq : Nat) (x80_50 : Bool), v80 = .bool x80_50 ∧ Aside0 (spec_l3Add.j3 kq l0 (l0.length : Int) x80_50 a1_0 a1_1 a1_2 ((rd_T61 l0 (bc)).f0) ((rd_T61 l0 (bc)).f1) ((rd_T61 l0 (bc)).f2) = some r) ∧ Aside0 (kq ≤ kj35) ∧ Aside0 (Kd.R k61 61 wc w0.heap.size (fun k_ => (P0_ k_ ∨ w.heap.size ≤ k_) ∧ k_ ≠ ba ∧ k_ ≠ bo) (.slice (some ad112) l0.length nA) l0) ∧ Aside0 (wc.heap[ba]? = some (.cells #[.int .i64 a1_0, .string a1_1, .string a1_2] 61 (0, 0))) ∧ Aside0 (wc.heap[bo]? = some (.cells #[.int .i64 ((rd_T61 l0 (bc)).f0), .string ((rd_T61 l0 (bc)).f1), .string ((rd_T61 l0 (bc)).f2)] 61 (0, 0))) ∧ Aside0 (Kept w wc (fun k_ => P0_ k_)) ∧ Aside0 (Below w0.heap.size w0 wc))
             case first =>
              have H := rv.out
              clear rv
              by_cases kJ : a1_1.toList = ([] : List UInt8)
              ·rw [if_pos kJ] at H
               have c52b0 : (a1_1.toList == ([] : List UInt8)) = true := qT kJ
               have c52b1 : (a1_1.toList != ([] : List UInt8)) = false := nF kJ
               clear kJ
               (first | rw [c52b0] | (simp only [i64_w, i32_w]; rw [c52b0]) | skip)
               have H' := aM H
               clear H
               have hnb53 := bH.out
               have hnc53 := bU.out
               obtain ⟨ni, nh, ng, mO, mN, mM⟩ := cc3 aX.out
               go_wp2
               all_goals (try (exfalso; rename_i h_; rw [c52b0] at h_; cases h_; done))
               go_meet
               case rel => exact ⟨_, (false), z1, (by first | exact H' | (simp only [bO]; exact H') | (simp only [← bO]; exact H')), ⟨by have := mf.out; have := nG.out; have := pZ.out; first | omega | exact Nat.le_refl _⟩, ⟨y6⟩, ⟨y11⟩, ⟨y12⟩, ⟨y30⟩, ⟨y24⟩⟩
              ·rw [if_neg kJ] at H
               have c52b0 : (a1_1.toList == ([] : List UInt8)) = false := qF kJ
               have c52b1 : (a1_1.toList != ([] : List UInt8)) = true := nT kJ
               (first | rw [c52b0] | (simp only [i64_w, i32_w]; rw [c52b0]) | skip)
               have H' := aM H
               clear H
               have hnb55 := bH.out
               have hnc55 := bU.out
               obtain ⟨jZ, jY, jX, jE, jD, jC⟩ := cc3 aX.out
               obtain ⟨nf, nc, nb, mL, mK, mJ⟩ := cc3 bd.out
               go_wp2
               all_goals (try (exfalso; rename_i h_; rw [c52b0] at h_; cases h_; done))
               go_meet
               case rel => exact ⟨_, ((((rd_T61 l0 (bc)).f1).toList != ([] : List UInt8))), (by first | rfl | (simp; done) | (simp only [← bO] <;> (first | rfl | (simp; done) | (simp; generalize ByteArray.toList _ = u_; cases u_ <;> (first | rfl | (simp; done))))) | (simp [*]; done)), (by first | exact H' | (simp only [bO]; exact H') | (simp only [← bO]; exact H')), ⟨by have := mf.out; have := nG.out; have := pZ.out; first | omega | exact Nat.le_refl _⟩, ⟨y6⟩, ⟨y11⟩, ⟨y12⟩, ⟨y30⟩, ⟨y24⟩⟩
             case rest =>
              clear rv
              try clear c1
              try clear p1
              try clear q1
              try clear hx1
              try clear c2
              try clear p2
              try clear c6
              try clear c6b0
              try clear c6b1
              try clear p6
              try clear c7
              try clear c7b0
              try clear c7b1
              try clear c8
              try clear cP
              try clear p11
              try clear q11
              try clear hx11
              try clear b5
              try clear c12b0
              try clear c12b1
              try clear c12b2
              try clear ce
              try clear e4
              try clear c17b0
              try clear e8
              try clear c18b0
              try clear dX
              try clear gp
              try clear c23b0
              try clear mc
              try clear mb
              try clear iU
              try clear dS
              try clear c31b0
              try clear gn
              try clear c32b0
              try clear p33
              try clear q33
              try clear i1
              try clear ga
              try clear f9
              try clear f8
              try clear dd
              try clear dc
              try clear db
              try clear da
              try clear cZ
              try clear cY
              try clear eL
              try clear eK
              try clear eJ
              try clear g4
              try clear g3
              try clear g1
              try clear f5
              try clear f4
              try clear f3
              try clear cm
              try clear ck
              try clear cj
              try clear b4
              try clear b3
              try clear bZ
              try clear fI
              try clear fH
              try clear fG
              try clear cX
              try clear cW
              try clear cV
              try clear cU
              try clear cT
              try clear cS
              try clear eE
              try clear eD
              try clear eC
              try clear gO
              try clear gN
              try clear gM
              try clear fD
              try clear fC
              try clear fB
              try clear cw
              try clear ci
              try clear ch
              try clear b6
              try clear bY
              try clear bX
              try clear hx112_0
              try clear hx112_1
              try clear hx112_2
              try clear hx114_0
              try clear hx114_1
              try clear hx114_2
              try clear hx33_0
              try clear hx33_1
              try clear hx33_2
              try clear p1
              try clear p11
              try clear p112
              try clear p114
              try clear p2
              try clear p33
              try clear p6
              try clear q1
              try clear q11
              try clear q112
              try clear q114
              try clear q33
              obtain ⟨kq, x80_50, rfl, HA, tl, bi, aX, bd, HK, HB⟩ := hcut
              cases kq with
              | zero => exact absurd HA.out (by simp [spec_l3Add.j3])
              | succ kj50 =>
               have H := HA.out
               clear HA
               simp only [spec_l3Add.j3] at H
               by_cases kI : x80_50 = true
               ·subst kI
                rw [if_pos rfl] at H
                obtain ⟨bP, mo⟩ : ∃ j_ : Int, (wrap64 ((l0.length : Int) - 1)) = j_ := ⟨_, rfl⟩
                (try clear hji16w); (try clear bO)
                replace H : (if 0 ≤ (bP) then (if (bP) < (l0.length : Int) then (if ((rd_T61 l0 (bP)).f1).size + a1_1.size ≤ 9223372036854775807 then (some (l0.set ((bP) : Int).toNat (⟨(rd_T61 l0 (bP)).f0, ((rd_T61 l0 (bP)).f1) ++ a1_1, (rd_T61 l0 (bP)).f2⟩ : S61))) else (none)) else (none)) else (none)) = some r := by first | (rw [mo] at H; exact H) | (simp only [mo] at H ⊢; exact H)
                have hji59w : (IntKind.i64.wrap ((l0.length : Int) - 1)) = bP := (i64_w _).trans mo
                by_cases i7 : 0 ≤ (bP)
                ·rw [if_pos i7] at H
                 have c60b0 : decide (0 ≤ (bP)) = true := dT i7
                 clear i7
                 by_cases kd : (bP) < (l0.length : Int)
                 ·rw [if_pos kd] at H
                  have c61b0 : decide ((bP) < (l0.length : Int)) = true := dT kd
                  clear kd
                  by_cases iZ : ((rd_T61 l0 (bP)).f1).size + a1_1.size ≤ 9223372036854775807
                  ·rw [if_pos iZ] at H
                   have c62b0 := eq_true iZ
                   have c62b1 : decide (((rd_T61 l0 (bP)).f1).size + a1_1.size ≤ 9223372036854775807) = true := dT iZ
                   try have c62b2 : (9223372036854775807 < ((rd_T61 l0 (bP)).f1).size + a1_1.size) = False := eq_false (Nat.not_lt.2 iZ)
                   obtain ⟨y119, hy119⟩ : ∃ y_ : List (S61), y_ = (l0.set ((bP) : Int).toNat (⟨(rd_T61 l0 (bP)).f0, ((rd_T61 l0 (bP)).f1) ++ a1_1, (rd_T61 l0 (bP)).f2⟩ : S61)) := ⟨_, rfl⟩
                   replace H : (some y119) = some r := by first | (rw [hy119]; with_reducible exact H) | (have H2_ := (Option.bind_some _ _).symm.trans H; rw [hy119]; with_reducible exact H2_) | (have H2_ := (Option.bind_some _ _).symm.trans H; with_reducible exact H2_) | with_reducible exact H | (rw [hy119]; exact H) | exact H
                   have Ny119 := aM hy119
                   clear hy119
                   obtain rfl := sI H
                   try go_wp2
                   replace bi := aM (aa bi.out)
                   replace aX := aM (ai aX.out)
                   replace bd := aM (ai bd.out)
                   replace HK := aM (Kept.drew HK.out)
                   replace HB := aM (bD HB.out)
                   have p118 : 0 ≤ ((bP) : Int) := oD z2
                   have q118 : (bP) < (l0.length : Int) := oD z2
                   obtain ⟨ad118, e118, hx118_0, hx118_1, hx118_2⟩ := at_T61 (ah bi.out).2.2 (bP) p118 q118
                   obtain rfl : ad112 = ad118 := (by injection e118)
                   replace p118 := eq_true p118
                   replace q118 := eq_true q118
                   have p63 : 0 ≤ ((bP) : Int) := oD z2
                   have q63 : ((bP) : Int) < ((l0.length : Int) : Int) := oD z2
                   obtain ⟨go63, co63, eo63, ta, gl63, cl63, HG63⟩ := Kd.R_form bi.out (by omega)
                   (first | cases eo63 | (injection eo63 with ea_ en_ ec_; (first | subst ea_ | (injection ea_ with ea_; subst ea_)); subst ec_; clear en_))
                   have GB63 := aM ta
                   have GG63 := aM HG63
                   clear ta gl63 HG63
                   have HMgo63 := aM (show (P0_ go63 ∨ w.heap.size ≤ go63) from (bi.out.1 _ rfl).1)
                   (first | simp only [add_plain] at hx118_0 | skip)
                   (first | simp only [add_plain] at hx118_1 | skip)
                   (first | simp only [add_plain] at hx118_2 | skip)
                   obtain ⟨ce63, hcl63, hM63, hcc63, hfr63⟩ := Kd.R_elem bi.out z61 ((bP) : Int) p63 q63
                   obtain rfl := k61_openM hM63
                   have hx63_0 : World.cell? _ ⟨go63, ((bP) : Int).toNat * 3, none⟩ = some (.int .i64 ((rd_T61 l0 (bP)).f0)) := hcc63 0 _ rfl
                   have hx63_1 : World.cell? _ ⟨go63, ((bP) : Int).toNat * 3 + 1, none⟩ = some (.string ((rd_T61 l0 (bP)).f1)) := hcc63 1 _ rfl
                   have hx63_2 : World.cell? _ ⟨go63, ((bP) : Int).toNat * 3 + 2, none⟩ = some (.string ((rd_T61 l0 (bP)).f2)) := hcc63 2 _ rfl
                   have hf63_0 : World.frozen? _ ⟨go63, ((bP) : Int).toNat * 3, none⟩ = false := hfr63 0
                   have hf63_1 : World.frozen? _ ⟨go63, ((bP) : Int).toNat * 3 + 1, none⟩ = false := hfr63 1
                   have hf63_2 : World.frozen? _ ⟨go63, ((bP) : Int).toNat * 3 + 2, none⟩ = false := hfr63 2
                   clear hcl63 hcc63 hfr63; (try clear hM63)
                   replace p63 := eq_true p63
                   replace q63 := eq_true q63
                   obtain ⟨ce65, hcl65, hM65, hcc65, hfr65⟩ := Kd.R_elem bi.out z61 ((bP) : Int) (oD z2) (by have h_ : ((bP) : Int) < ((l0.length : Int) : Int) := oD z2; first | exact h_ | (have e_ := (ah bi.out).1; omega) | simpa using h_)
                   obtain rfl := k61_openM hM65
                   have HP65 := (Kd.R_seg bi.out ((bP) : Int) (oD z2) (by have h_ : ((bP) : Int) < ((l0.length : Int) : Int) := oD z2; first | exact h_ | (have e_ := (ah bi.out).1; omega) | simpa using h_) (seg := [.string (((rd_T61 l0 (bP)).f1) ++ a1_1)]) (j := 1) hcl65 hcc65 (show 2 ≤ 3 from by decide) (x' := (⟨(rd_T61 l0 (bP)).f0, ((rd_T61 l0 (bP)).f1) ++ a1_1, (rd_T61 l0 (bP)).f2⟩ : S61)) (k61_mkM _ _ _ (⟨(rd_T61 l0 (bP)).f0, ((rd_T61 l0 (bP)).f1) ++ a1_1, (rd_T61 l0 (bP)).f2⟩ : S61) ) (fun _ hk => hk)).1
                   rw [← Ny119.out] at HP65
                   have HQ65 := aM HP65
                   clear hcl65 hcc65 hfr65 HP65; (try clear hM65)
                   refine start_ (n := 12) (S := fun w' => w'.cell? ⟨ba, 0, none⟩ = some (.int .i64 a1_0) ∧ w'.cell? ⟨ba, 1, none⟩ = some (.string a1_1) ∧ w'.cell? ⟨ba, 2, none⟩ = some (.string a1_2) ∧ w'.cell? ⟨go63, ((bP)).toNat * 3, none⟩ = some (.int .i64 ((rd_T61 l0 (bP)).f0)) ∧ w'.cell? ⟨go63, ((bP)).toNat * 3 + 1, none⟩ = some (.string ((rd_T61 l0 (bP)).f1)) ∧ w'.cell? ⟨go63, ((bP)).toNat * 3 + 2, none⟩ = some (.string ((rd_T61 l0 (bP)).f2))) (ds := [11]) #[false, false, false, false, false, false, false, false, false, false, false, false] z0 rfl rfl ⟨(bC aX.out 0).trans rfl, (bC aX.out 1).trans rfl, (bC aX.out 2).trans rfl, hx118_0, hx118_1, hx118_2⟩ (fun hHeld => ?_); refine with_tabW spec_l3Add.tab13 spec_l3Add.bits13 (fun HT_ HW_ => ?_)
                   (first | generalize wc.drew = w64 at bi aX bd HK HB GG63 HQ65 hf63_0 hf63_1 hf63_2 hx118_0 hx118_1 hx118_2 hx63_0 hx63_1 hx63_2 hHeld ⊢ | generalize wc.drew = w64 at bi aX bd HK HB GG63 HQ65 hf63_0 hf63_1 hf63_2 hx63_0 hx63_1 hx63_2 hHeld ⊢)
                   refine pA 0 89 ?_
                   refine pA 1 90 ?_
                   refine pA 2 91 ?_
                   refine pA 3 92 ?_
                   refine pA 4 93 ?_
                   refine pA 6 95 ?_
                   refine t6_ 5 94 ?_
                   refine t6_ 7 96 ?_
                   refine pA 8 97 ?_
                   refine pA 9 98 ?_
                   refine pA 10 99 ?_
                   refine last_ (i := 11) (N := none) #[true, true, true, true, true, true, true, true, true, true, true, true] rfl rfl (one_of HT_.out z0) (by decide) (fun K hK => ?_)
                   refine skip_ (w1 := ?_) (by rfl) rfl ?_ ?_
                   rotate_left
                   ·go_simp
                    rfl
                   refine hK.out _ _ ?_
                   clear hK K
                   refine done_ (done_of HT_.out z0) ?_
                   try go_wp2
                   go_ret
                   exact ⟨_, by first | rfl | (simp [errW_none, errW_some] <;> rfl) | (simp only [← bO, ← mo]; first | rfl | (simp [errW_none, errW_some] <;> rfl)) | (simp [*, errW_none, errW_some] <;> rfl), by (with_reducible repeat (first | apply ac | apply ab | apply aa)); exact ag HQ65.out (fun _ hk => hk.1), by repeat (first | (with_reducible first | exact HB.out | apply bA | apply pD | apply bD | refine ao ?_ GB63.out | refine ao ?_ dU.out | refine ao ?_ eV.out) | exact HB.out), by repeat (first | (with_reducible first | exact HK.out | apply Kept.alloc | apply Kept.drewN | apply Kept.drew | refine Kept.setCell ?_ HMgo63.out _ | refine Kept.setCell ?_ (.inr dp.out) _ | refine Kept.setCell ?_ (.inr eh.out) _) | exact HK.out)⟩
                  ·rw [if_neg iZ] at H
                   exact absurd H (by simp)
                 ·rw [if_neg kd] at H
                  exact absurd H (by simp)
                ·rw [if_neg i7] at H
                 exact absurd H (by simp)
               ·replace kI := Bool.eq_false_iff.mpr kI
                subst kI
                rw [if_neg nF_] at H
                have rt := aM H
                clear H
                go_upto_region 14 with (fail)
                go_cut [100] (fun v100 wc => ∃ (kq : Nat) (x100_65 : Bool), v100 = .bool x100_65 ∧ Aside0 (spec_l3Add.j4 kq l0 (l0.length : Int) x100_65 a1_0 a1_1 a1_2 ((rd_T61 l0 (bc)).f0) ((rd_T61 l0 (bc)).f1) ((rd_T61 l0 (bc)).f2) = some r) ∧ Aside0 (kq ≤ kj50) ∧ Aside0 (Kd.R k61 61 wc w0.heap.size (fun k_ => (P0_ k_ ∨ w.heap.size ≤ k_) ∧ k_ ≠ ba ∧ k_ ≠ bo) (.slice (some ad112) l0.length nA) l0) ∧ Aside0 (wc.heap[ba]? = some (.cells #[.int .i64 a1_0, .string a1_1, .string a1_2] 61 (0, 0))) ∧ Aside0 (wc.heap[bo]? = some (.cells #[.int .i64 ((rd_T61 l0 (bc)).f0), .string ((rd_T61 l0 (bc)).f1), .string ((rd_T61 l0 (bc)).f2)] 61 (0, 0))) ∧ Aside0 (Kept w wc (fun k_ => P0_ k_)) ∧ Aside0 (Below w0.heap.size w0 wc))
                case first =>
                 have H := rt.out
                 clear rt
                 by_cases nC : a1_1.toList = ([] : List UInt8)
                 ·rw [if_pos nC] at H
                  have c67b0 : (a1_1.toList == ([] : List UInt8)) = true := qT nC
                  have c67b1 : (a1_1.toList != ([] : List UInt8)) = false := nF nC
                  clear nC
                  (first | rw [c67b0] | (simp only [i64_w, i32_w]; rw [c67b0]) | skip)
                  have H' := aM H
                  clear H
                  have hnb68 := bH.out
                  have hnc68 := bU.out
                  obtain ⟨na, m9, m8, mI, mH, mG⟩ := cc3 aX.out
                  go_wp2
                  all_goals (try (exfalso; rename_i h_; rw [c67b0] at h_; cases h_; done))
                  go_meet
                  case rel => exact ⟨_, (false), z1, (by first | exact H' | (simp only [bO]; exact H') | (simp only [← bO]; exact H')), ⟨by have := mf.out; have := nG.out; have := pZ.out; have := tl.out; first | omega | exact Nat.le_refl _⟩, ⟨y6⟩, ⟨y11⟩, ⟨y12⟩, ⟨y30⟩, ⟨y24⟩⟩
                 ·rw [if_neg nC] at H
                  have c67b0 : (a1_1.toList == ([] : List UInt8)) = false := qF nC
                  have c67b1 : (a1_1.toList != ([] : List UInt8)) = true := nT nC
                  (first | rw [c67b0] | (simp only [i64_w, i32_w]; rw [c67b0]) | skip)
                  have H' := aM H
                  clear H
                  have hnb70 := bH.out
                  have hnc70 := bU.out
                  obtain ⟨hcz71_0, hcz71_1, hcz71_2, hfz71_0, hfz71_1, hfz71_2⟩ := cc3 aX.out
                  obtain ⟨fL, fK, fJ, fj, fi, fh⟩ := cc3 bd.out
                  go_wp2
                  all_goals (try (exfalso; rename_i h_; rw [c67b0] at h_; cases h_; done))
                  go_meet
                  case rel => exact ⟨_, ((((rd_T61 l0 (bc)).f2).toList != ([] : List UInt8))), (by first | rfl | (simp; done) | (simp only [← bO] <;> (first | rfl | (simp; done) | (simp; generalize ByteArray.toList _ = u_; cases u_ <;> (first | rfl | (simp; done))))) | (simp [*]; done)), (by first | exact H' | (simp only [bO]; exact H') | (simp only [← bO]; exact H')), ⟨by have := mf.out; have := nG.out; have := pZ.out; have := tl.out; first | omega | exact Nat.le_refl _⟩, ⟨y6⟩, ⟨y11⟩, ⟨y12⟩, ⟨y30⟩, ⟨y24⟩⟩
                case rest =>
                 clear rt
                 try clear c1
                 try clear p1
                 try clear q1
                 try clear hx1
                 try clear c2
                 try clear p2
                 try clear c3
                 try clear p3
                 try clear q3
                 try clear hx3
                 try clear hf3
                 try clear c4
                 try clear c6
                 try clear c6b0
                 try clear c6b1
                 try clear p6
                 try clear c7
                 try clear c7b0
                 try clear c7b1
                 try clear c8
                 try clear cP
                 try clear p11
                 try clear q11
                 try clear hx11
                 try clear b5
                 try clear c12b0
                 try clear c12b1
                 try clear c12b2
                 try clear ce
                 try clear e4
                 try clear c17b0
                 try clear e8
                 try clear c18b0
                 try clear dX
                 try clear gp
                 try clear c23b0
                 try clear mc
                 try clear mb
                 try clear iU
                 try clear dS
                 try clear c31b0
                 try clear gn
                 try clear c32b0
                 try clear gs
                 try clear p33
                 try clear q33
                 try clear hx33
                 try clear hf33
                 try clear ka
                 try clear ma
                 try clear c37b0
                 try clear c37b1
                 try clear gF
                 try clear nn
                 try clear i1
                 try clear k5
                 try clear c45b0
                 try clear d4
                 try clear c46b0
                 try clear gb
                 try clear c47b0
                 try clear c47b1
                 try clear c47b2
                 try clear p48
                 try clear q48
                 try clear kI
                 try clear ga
                 try clear f9
                 try clear f8
                 try clear dd
                 try clear dc
                 try clear db
                 try clear da
                 try clear cZ
                 try clear cY
                 try clear eL
                 try clear eK
                 try clear eJ
                 try clear g4
                 try clear g3
                 try clear g1
                 try clear f5
                 try clear f4
                 try clear f3
                 try clear dC
                 try clear dB
                 try clear dA
                 try clear j8
                 try clear j7
                 try clear j6
                 try clear cv
                 try clear cu
                 try clear ct
                 try clear cm
                 try clear ck
                 try clear cj
                 try clear b4
                 try clear b3
                 try clear bZ
                 try clear fI
                 try clear fH
                 try clear fG
                 try clear cX
                 try clear cW
                 try clear cV
                 try clear cU
                 try clear cT
                 try clear cS
                 try clear eE
                 try clear eD
                 try clear eC
                 try clear gO
                 try clear gN
                 try clear gM
                 try clear fD
                 try clear fC
                 try clear fB
                 try clear dv
                 try clear du
                 try clear dt
                 try clear jH
                 try clear jG
                 try clear jF
                 try clear cr
                 try clear cq
                 try clear cp
                 try clear cw
                 try clear ci
                 try clear ch
                 try clear b6
                 try clear bY
                 try clear bX
                 try clear hx112_0
                 try clear hx112_1
                 try clear hx112_2
                 try clear hx114_0
                 try clear hx114_1
                 try clear hx114_2
                 try clear hx116_0
                 try clear hx116_1
                 try clear hx116_2
                 try clear hx33_0
                 try clear hx33_1
                 try clear hx33_2
                 try clear hx48_0
                 try clear hx48_1
                 try clear hx48_2
                 try clear p1
                 try clear p11
                 try clear p112
                 try clear p114
                 try clear p116
                 try clear p2
                 try clear p3
                 try clear p33
                 try clear p48
                 try clear p6
                 try clear q1
                 try clear q11
                 try clear q112
                 try clear q114
                 try clear q116
                 try clear q3
                 try clear q33
                 try clear q48
                 obtain ⟨kq, x100_65, rfl, HA, HJ65, bi, aX, bd, HK, HB⟩ := hcut
                 cases kq with
                 | zero => exact absurd HA.out (by simp [spec_l3Add.j4])
                 | succ kj65 =>
                  have H := HA.out
                  clear HA
                  simp only [spec_l3Add.j4] at H
                  by_cases t6 : x100_65 = true
                  ·subst t6
                   rw [if_pos rfl] at H
                   by_cases kc : (l0.length : Int) > 1
                   ·rw [if_pos kc] at H
                    have c74b0 : decide (1 < (l0.length : Int)) = true := dT kc
                    have c74b1 : decide (1 < l0.length) = true := dT (by omega)
                    clear kc
                    obtain ⟨bI, kn⟩ : ∃ j_ : Int, (wrap64 ((l0.length : Int) - 2)) = j_ := ⟨_, rfl⟩
                    replace H : (if 0 ≤ (bI) then (if (bI) < (l0.length : Int) then (if ((rd_T61 l0 (bI)).f1).toList = ([] : List UInt8) then (if 0 ≤ (wrap64 ((l0.length : Int) - 1)) then (if (wrap64 ((l0.length : Int) - 1)) < (l0.length : Int) then ((some (l0.set ((wrap64 ((l0.length : Int) - 1)) : Int).toNat (⟨a1_0, a1_1, a1_2⟩ : S61) : List (S61))).bind fun y121 => (if y121.length < 3518437208883 then (some (y121 ++ [(⟨((rd_T61 l0 (bc)).f0), ((rd_T61 l0 (bc)).f1), ((rd_T61 l0 (bc)).f2)⟩ : S61)])) else (none))) else (none)) else (none)) else (if ((rd_T61 l0 (bI)).f1).size + a1_1.size ≤ 9223372036854775807 then (some (l0.set ((bI) : Int).toNat (⟨(rd_T61 l0 (bI)).f0, ((rd_T61 l0 (bI)).f1) ++ a1_1, (rd_T61 l0 (bI)).f2⟩ : S61))) else (none))) else (none)) else (none)) = some r := by first | (rw [kn] at H; exact H) | (simp only [kn] at H ⊢; exact H)
                    have hji75w : (IntKind.i64.wrap ((l0.length : Int) - 2)) = bI := (i64_w _).trans kn
                    by_cases t5 : 0 ≤ (bI)
                    ·rw [if_pos t5] at H
                     have c76b0 : decide (0 ≤ (bI)) = true := dT t5
                     clear t5
                     by_cases rn : (bI) < (l0.length : Int)
                     ·rw [if_pos rn] at H
                      have c77b0 : decide ((bI) < (l0.length : Int)) = true := dT rn
                      clear rn
                      by_cases pM : ((rd_T61 l0 (bI)).f1).toList = ([] : List UInt8)
                      ·rw [if_pos pM] at H
                       have c78b0 : (((rd_T61 l0 (bI)).f1).toList == ([] : List UInt8)) = true := qT pM
                       have c78b1 : (((rd_T61 l0 (bI)).f1).toList != ([] : List UInt8)) = false := nF pM
                       clear pM
                       obtain ⟨cM, ml⟩ : ∃ j_ : Int, (wrap64 ((l0.length : Int) - 1)) = j_ := ⟨_, rfl⟩
                       (try clear hji16w); (try clear bO)
                       replace H : (if 0 ≤ (cM) then (if (cM) < (l0.length : Int) then ((some (l0.set ((cM) : Int).toNat (⟨a1_0, a1_1, a1_2⟩ : S61) : List (S61))).bind fun y121 => (if y121.length < 3518437208883 then (some (y121 ++ [(⟨((rd_T61 l0 (bc)).f0), ((rd_T61 l0 (bc)).f1), ((rd_T61 l0 (bc)).f2)⟩ : S61)])) else (none))) else (none)) else (none)) = some r := by first | (rw [ml] at H; exact H) | (simp only [ml] at H ⊢; exact H)
                       have hji79w : (IntKind.i64.wrap ((l0.length : Int) - 1)) = cM := (i64_w _).trans ml
                       by_cases ol : 0 ≤ (cM)
                       ·rw [if_pos ol] at H
                        have c80b0 : decide (0 ≤ (cM)) = true := dT ol
                        clear ol
                        by_cases kb : (cM) < (l0.length : Int)
                        ·rw [if_pos kb] at H
                         have c81b0 : decide ((cM) < (l0.length : Int)) = true := dT kb
                         clear kb
                         obtain ⟨y121, hy121⟩ : ∃ y_ : List (S61), y_ = (l0.set ((cM) : Int).toNat (⟨a1_0, a1_1, a1_2⟩ : S61)) := ⟨_, rfl⟩
                         replace H : (if y121.length < 3518437208883 then (some (y121 ++ [(⟨((rd_T61 l0 (bc)).f0), ((rd_T61 l0 (bc)).f1), ((rd_T61 l0 (bc)).f2)⟩ : S61)])) else (none)) = some r := by first | (rw [hy121]; with_reducible exact H) | (have H2_ := (Option.bind_some _ _).symm.trans H; rw [hy121]; with_reducible exact H2_) | (have H2_ := (Option.bind_some _ _).symm.trans H; with_reducible exact H2_) | with_reducible exact H | (rw [hy121]; exact H) | exact H
                         have Ny121 := aM hy121
                         clear hy121
                         by_cases t4 : y121.length < 3518437208883
                         ·rw [if_pos t4] at H
                          have LMc83 := aM t4
                          clear t4
                          obtain ⟨y122, hy122⟩ : ∃ y_ : List (S61), y_ = (y121 ++ [(⟨((rd_T61 l0 (bc)).f0), ((rd_T61 l0 (bc)).f1), ((rd_T61 l0 (bc)).f2)⟩ : S61)]) := ⟨_, rfl⟩
                          replace H : (some y122) = some r := by first | (rw [hy122]; with_reducible exact H) | (have H2_ := (Option.bind_some _ _).symm.trans H; rw [hy122]; with_reducible exact H2_) | (have H2_ := (Option.bind_some _ _).symm.trans H; with_reducible exact H2_) | with_reducible exact H | (rw [hy122]; exact H) | exact H
                          have Ny122 := aM hy122
                          clear hy122
                          obtain rfl := sI H
                          have p120 : 0 ≤ ((bI) : Int) := oD z2
                          have q120 : (bI) < (l0.length : Int) := oD z2
                          obtain ⟨ad120, e120, hx120_0, hx120_1, hx120_2⟩ := at_T61 (ah bi.out).2.2 (bI) p120 q120
                          obtain rfl : ad112 = ad120 := (by injection e120)
                          replace p120 := eq_true p120
                          replace q120 := eq_true q120
                          have hnb84 := bH.out
                          have hnc84 := bU.out
                          obtain ⟨jO, jN, jM, ju, jt, js⟩ := cc3 aX.out
                          have p82 : 0 ≤ ((cM) : Int) := oD z2
                          have q82 : ((cM) : Int) < ((l0.length : Int) : Int) := oD z2
                          obtain ⟨go82, co82, eo82, s9, gl82, cl82, HG82⟩ := Kd.R_form bi.out (by omega)
                          (first | cases eo82 | (injection eo82 with ea_ en_ ec_; (first | subst ea_ | (injection ea_ with ea_; subst ea_)); subst ec_; clear en_))
                          have GB82 := aM s9
                          have GG82 := aM HG82
                          clear s9 gl82 HG82
                          have HMgo82 := aM (show (P0_ go82 ∨ w.heap.size ≤ go82) from (bi.out.1 _ rfl).1)
                          (first | simp only [add_plain] at hx120_0 | skip)
                          (first | simp only [add_plain] at hx120_1 | skip)
                          (first | simp only [add_plain] at hx120_2 | skip)
                          obtain ⟨ce82, hcl82, hM82, hcc82, hfr82⟩ := Kd.R_elem bi.out z61 ((cM) : Int) p82 q82
                          obtain rfl := k61_openM hM82
                          have hx82_0 : wc.cell? ⟨go82, ((cM) : Int).toNat * 3, none⟩ = some (.int .i64 ((rd_T61 l0 (cM)).f0)) := hcc82 0 _ rfl
                          have hx82_1 : wc.cell? ⟨go82, ((cM) : Int).toNat * 3 + 1, none⟩ = some (.string ((rd_T61 l0 (cM)).f1)) := hcc82 1 _ rfl
                          have hx82_2 : wc.cell? ⟨go82, ((cM) : Int).toNat * 3 + 2, none⟩ = some (.string ((rd_T61 l0 (cM)).f2)) := hcc82 2 _ rfl
                          have hf82_0 : wc.frozen? ⟨go82, ((cM) : Int).toNat * 3, none⟩ = false := hfr82 0
                          have hf82_1 : wc.frozen? ⟨go82, ((cM) : Int).toNat * 3 + 1, none⟩ = false := hfr82 1
                          have hf82_2 : wc.frozen? ⟨go82, ((cM) : Int).toNat * 3 + 2, none⟩ = false := hfr82 2
                          clear hcl82 hcc82 hfr82; (try clear hM82)
                          replace p82 := eq_true p82
                          replace q82 := eq_true q82
                          have HX86 := aM (show Kd.R k61 61 wc w0.heap.size (fun k_ => (P0_ k_ ∨ w.heap.size ≤ k_) ∧ k_ ≠ ba ∧ k_ ≠ bo) (.slice (some ⟨go82, 0, none⟩) l0.length nA) l0 from (kR_ bi.out))
                          obtain ⟨ce86, hcl86, hM86, hcc86, hfr86⟩ := Kd.R_elem HX86.out z61 ((cM) : Int) (oD z2) (by have h_ : ((cM) : Int) < ((l0.length : Int) : Int) := oD z2; first | exact h_ | (have e_ := (ah bi.out).1; omega) | simpa using h_)
                          obtain rfl := k61_openM hM86
                          have HP86 := Kd.R_seg HX86.out ((cM) : Int) (oD z2) (by have h_ : ((cM) : Int) < ((l0.length : Int) : Int) := oD z2; first | exact h_ | (have e_ := (ah bi.out).1; omega) | simpa using h_) (seg := [.int .i64 a1_0, .string a1_1, .string a1_2]) (j := 0) hcl86 hcc86 (show 3 ≤ 3 from by decide) (x' := (⟨a1_0, a1_1, a1_2⟩ : S61)) (k61_mkM _ _ _ (⟨a1_0, a1_1, a1_2⟩ : S61) ) (fun _ hk => hk)
                          have hx86_0 := hcc86 0 _ rfl
                          (try simp only [show (k61).sz = 3 from rfl, Nat.mul_one, Nat.add_zero] at hx86_0)
                          have hf86_0 := hfr86 0
                          (try simp only [show (k61).sz = 3 from rfl, Nat.mul_one, Nat.add_zero] at hf86_0)
                          have hx86_1 := hcc86 1 _ rfl
                          (try simp only [show (k61).sz = 3 from rfl, Nat.mul_one, Nat.add_zero] at hx86_1)
                          have hf86_1 := hfr86 1
                          (try simp only [show (k61).sz = 3 from rfl, Nat.mul_one, Nat.add_zero] at hf86_1)
                          have hx86_2 := hcc86 2 _ rfl
                          (try simp only [show (k61).sz = 3 from rfl, Nat.mul_one, Nat.add_zero] at hx86_2)
                          have hf86_2 := hfr86 2
                          (try simp only [show (k61).sz = 3 from rfl, Nat.mul_one, Nat.add_zero] at hf86_2)
                          clear hcl86 hcc86 hfr86; (try clear hM86)
                          go_wp2_with (first | ((with_reducible refine gate_store (t := 61) (p := 136) rfl ?_); refine store_event (t := 61) (p := 136) (v := ?vo_w87) (w1 := (((wc.setCell ⟨go82, ((cM) : Int).toNat * 3, none⟩ (.int .i64 a1_0)).setCell ⟨go82, ((cM) : Int).toNat * 3 + 1, none⟩ (.string a1_1)).setCell ⟨go82, ((cM) : Int).toNat * 3 + 2, none⟩ (.string a1_2))) ?hg ?ho ?hn ?hr ?_; (case ho => rfl); (case hg => rfl); (case hn => rfl); (case hr => first | (go_simp; done) | (go_simp; rfl) | ((try simp only [Int.toNat_natCast] at *); go_simp; first | done | rfl)); intro w87 hw; have hg : wc.grownBy w87 (some go82) := (by rw [hw]; exact HP86.2); have hp_ : Kd.R k61 61 w87 w0.heap.size (fun k_ => (P0_ k_ ∨ w.heap.size ≤ k_) ∧ k_ ≠ ba ∧ k_ ≠ bo) (.slice (some ⟨go82, 0, none⟩) l0.length nA) y121 := (by rw [hw, Ny121.out]; exact HP86.1); clear HP86; replace aX := aM (blk_grown (g := ba) (o := .cells #[.int .i64 a1_0, .string a1_1, .string a1_2] 61 (0, 0)) z5 hg (Kd.R_away bi.out (fun _ hk => hk.2.1))); replace bd := aM (blk_grown (g := bo) (o := .cells #[.int .i64 ((rd_T61 l0 (bc)).f0), .string ((rd_T61 l0 (bc)).f1), .string ((rd_T61 l0 (bc)).f2)] 61 (0, 0)) (kB_ bd.out) hg (Kd.R_away bi.out (fun _ hk => hk.2.2))); replace HB := aM ((by rw [hw]; exact ao (ao (ao (HB.out) GB82.out) GB82.out) GB82.out : Below w0.heap.size w0 w87)); replace HK := aM (Kept.of_grown (S := (fun k_ => P0_ k_)) hg (by repeat (first | (with_reducible first | exact HK.out | apply Kept.alloc | apply Kept.drewN | apply Kept.drew | refine Kept.setCell ?_ (.inr dp.out) _ | refine Kept.setCell ?_ (.inr eh.out) _) | exact HK.out)) (fun k_ e_ => (bi.out.1 k_ e_).1)); replace bi := aM (hp_); clear hg hw hp_; obtain ⟨hcz88_0, hcz88_1, hcz88_2, hfz88_0, hfz88_1, hfz88_2⟩ := cc3 bd.out) | ((with_reducible refine gate_builtin (b := .append) (xs := #[.tmp 137, .tmp 139]) rfl ?_); at_builtin; refine Kd.R_append k61 (w0 := w0) w0.heap.size rfl (.tmp 137) (.tmp 139) 39 61 (.agg #[(.int .i64 0), (.string ⟨#[]⟩), (.string ⟨#[]⟩)]) 40 rfl Try.underlying39 info61 rfl (by decide) (by omega) (.slice (some ⟨go82, 0, none⟩) l0.length nA) y121 (⟨((rd_T61 l0 (bc)).f0), ((rd_T61 l0 (bc)).f1), ((rd_T61 l0 (bc)).f2)⟩ : S61) [.int .i64 ((rd_T61 l0 (bc)).f0), .string ((rd_T61 l0 (bc)).f1), .string ((rd_T61 l0 (bc)).f2)] (fun k_ => (P0_ k_ ∨ w.heap.size ≤ k_) ∧ k_ ≠ ba ∧ k_ ≠ bo) (fun _ => False) rfl rfl ?aP (fun _ hk => hk.elim) ?aF ?aO ?aB ?aS ?aL ?_; (case aP => exact k61_mkM _ _ _ (⟨((rd_T61 l0 (bc)).f0), ((rd_T61 l0 (bc)).f1), ((rd_T61 l0 (bc)).f2)⟩ : S61)); (case aB => exact (by repeat (first | (with_reducible first | exact HB.out | apply bA | apply pD | apply bD | refine ao ?_ dU.out | refine ao ?_ eV.out) | exact HB.out))); (case aF => exact (fun k_ hk => ⟨(.inr (Nat.le_trans (by first | exact HK.out.1 | exact (show Kept w _ (fun k_ => P0_ k_) from by repeat (first | (with_reducible first | exact HK.out | apply Kept.alloc | apply Kept.drewN | apply Kept.drew | refine Kept.setCell ?_ (.inr dp.out) _ | refine Kept.setCell ?_ (.inr eh.out) _) | exact HK.out)).1) hk)), Kd.freshB (g := ba) (o := .cells #[.int .i64 a1_0, .string a1_1, .string a1_2] 61 (0, 0)) z5 k_ hk, Kd.freshB (g := bo) (o := .cells #[.int .i64 ((rd_T61 l0 (bc)).f0), .string ((rd_T61 l0 (bc)).f1), .string ((rd_T61 l0 (bc)).f2)] 61 (0, 0)) (kB_ bd.out) k_ hk⟩)); (case aO => exact (kR_ bi.out)); (case aS => exact (aq (by repeat (first | (with_reducible first | exact HB.out | apply bA | apply pD | apply bD | refine ao ?_ dU.out | refine ao ?_ eV.out) | exact HB.out)))); (case aL => have := LMc83.out; omega); intro v123 w89 ho hb hg hat; rw [← Ny122.out] at ho; replace aX := aM (blk_grown (g := ba) (o := .cells #[.int .i64 a1_0, .string a1_1, .string a1_2] 61 (0, 0)) z5 hg (Kd.R_away bi.out (fun _ hk => hk.2.1))); replace bd := aM (blk_grown (g := bo) (o := .cells #[.int .i64 ((rd_T61 l0 (bc)).f0), .string ((rd_T61 l0 (bc)).f1), .string ((rd_T61 l0 (bc)).f2)] 61 (0, 0)) (kB_ bd.out) hg (Kd.R_away bi.out (fun _ hk => hk.2.2))); replace HB := aM (hb); replace HK := aM (Kept.of_grown (S := (fun k_ => P0_ k_)) hg (by repeat (first | (with_reducible first | exact HK.out | apply Kept.alloc | apply Kept.drewN | apply Kept.drew | refine Kept.setCell ?_ (.inr dp.out) _ | refine Kept.setCell ?_ (.inr eh.out) _) | exact HK.out)) (fun k_ e_ => (bi.out.1 k_ e_).1)); have HO124 := aM (ho); clear bi; clear ho hb hg hat))
                          all_goals (try (exfalso; rename_i h_; rw [c78b0] at h_; cases h_; done))
                          go_ret
                          exact ⟨_, by first | rfl | (simp [errW_none, errW_some] <;> rfl) | (simp only [← bO, ← kn, ← ml]; first | rfl | (simp [errW_none, errW_some] <;> rfl)) | (simp [*, errW_none, errW_some] <;> rfl), by (with_reducible repeat (first | apply ac | apply ab | apply aa)); exact ag HO124.out (fun _ hk => hk.1), y24, y30⟩
                         ·rw [if_neg t4] at H
                          exact absurd H (by simp)
                        ·rw [if_neg kb] at H
                         exact absurd H (by simp)
                       ·rw [if_neg ol] at H
                        exact absurd H (by simp)
                      ·rw [if_neg pM] at H
                       have c78b0 : (((rd_T61 l0 (bI)).f1).toList == ([] : List UInt8)) = false := qF pM
                       have c78b1 : (((rd_T61 l0 (bI)).f1).toList != ([] : List UInt8)) = true := nT pM
                       by_cases pl : ((rd_T61 l0 (bI)).f1).size + a1_1.size ≤ 9223372036854775807
                       ·rw [if_pos pl] at H
                        have c90b0 := eq_true pl
                        have c90b1 : decide (((rd_T61 l0 (bI)).f1).size + a1_1.size ≤ 9223372036854775807) = true := dT pl
                        try have c90b2 : (9223372036854775807 < ((rd_T61 l0 (bI)).f1).size + a1_1.size) = False := eq_false (Nat.not_lt.2 pl)
                        obtain ⟨y126, hy126⟩ : ∃ y_ : List (S61), y_ = (l0.set ((bI) : Int).toNat (⟨(rd_T61 l0 (bI)).f0, ((rd_T61 l0 (bI)).f1) ++ a1_1, (rd_T61 l0 (bI)).f2⟩ : S61)) := ⟨_, rfl⟩
                        replace H : (some y126) = some r := by first | (rw [hy126]; with_reducible exact H) | (have H2_ := (Option.bind_some _ _).symm.trans H; rw [hy126]; with_reducible exact H2_) | (have H2_ := (Option.bind_some _ _).symm.trans H; with_reducible exact H2_) | with_reducible exact H | (rw [hy126]; exact H) | exact H
                        have Ny126 := aM hy126
                        clear hy126
                        obtain rfl := sI H
                        have p120 : 0 ≤ ((bI) : Int) := oD z2
                        have q120 : (bI) < (l0.length : Int) := oD z2
                        obtain ⟨ad120, e120, hx120_0, hx120_1, hx120_2⟩ := at_T61 (ah bi.out).2.2 (bI) p120 q120
                        obtain rfl : ad112 = ad120 := (by injection e120)
                        replace p120 := eq_true p120
                        replace q120 := eq_true q120
                        try go_wp2
                        replace bi := aM (aa bi.out)
                        replace aX := aM (ai aX.out)
                        replace bd := aM (ai bd.out)
                        replace HK := aM (Kept.drew HK.out)
                        replace HB := aM (bD HB.out)
                        have p125 : 0 ≤ ((bI) : Int) := oD z2
                        have q125 : (bI) < (l0.length : Int) := oD z2
                        obtain ⟨ad125, e125, hx125_0, hx125_1, hx125_2⟩ := at_T61 (ah bi.out).2.2 (bI) p125 q125
                        obtain rfl : ad112 = ad125 := (by injection e125)
                        replace p125 := eq_true p125
                        replace q125 := eq_true q125
                        have p91 : 0 ≤ ((bI) : Int) := oD z2
                        have q91 : ((bI) : Int) < ((l0.length : Int) : Int) := oD z2
                        obtain ⟨go91, co91, eo91, s8, gl91, cl91, HG91⟩ := Kd.R_form bi.out (by omega)
                        (first | cases eo91 | (injection eo91 with ea_ en_ ec_; (first | subst ea_ | (injection ea_ with ea_; subst ea_)); subst ec_; clear en_))
                        have GB91 := aM s8
                        have GG91 := aM HG91
                        clear s8 gl91 HG91
                        have HMgo91 := aM (show (P0_ go91 ∨ w.heap.size ≤ go91) from (bi.out.1 _ rfl).1)
                        (first | simp only [add_plain] at hx120_0 | skip)
                        (first | simp only [add_plain] at hx120_1 | skip)
                        (first | simp only [add_plain] at hx120_2 | skip)
                        (first | simp only [add_plain] at hx125_0 | skip)
                        (first | simp only [add_plain] at hx125_1 | skip)
                        (first | simp only [add_plain] at hx125_2 | skip)
                        obtain ⟨ce91, hcl91, hM91, hcc91, hfr91⟩ := Kd.R_elem bi.out z61 ((bI) : Int) p91 q91
                        obtain rfl := k61_openM hM91
                        have hx91_0 : World.cell? _ ⟨go91, ((bI) : Int).toNat * 3, none⟩ = some (.int .i64 ((rd_T61 l0 (bI)).f0)) := hcc91 0 _ rfl
                        have hx91_1 : World.cell? _ ⟨go91, ((bI) : Int).toNat * 3 + 1, none⟩ = some (.string ((rd_T61 l0 (bI)).f1)) := hcc91 1 _ rfl
                        have hx91_2 : World.cell? _ ⟨go91, ((bI) : Int).toNat * 3 + 2, none⟩ = some (.string ((rd_T61 l0 (bI)).f2)) := hcc91 2 _ rfl
                        have hf91_0 : World.frozen? _ ⟨go91, ((bI) : Int).toNat * 3, none⟩ = false := hfr91 0
                        have hf91_1 : World.frozen? _ ⟨go91, ((bI) : Int).toNat * 3 + 1, none⟩ = false := hfr91 1
                        have hf91_2 : World.frozen? _ ⟨go91, ((bI) : Int).toNat * 3 + 2, none⟩ = false := hfr91 2
                        clear hcl91 hcc91 hfr91; (try clear hM91)
                        replace p91 := eq_true p91
                        replace q91 := eq_true q91
                        obtain ⟨ce93, hcl93, hM93, hcc93, hfr93⟩ := Kd.R_elem bi.out z61 ((bI) : Int) (oD z2) (by have h_ : ((bI) : Int) < ((l0.length : Int) : Int) := oD z2; first | exact h_ | (have e_ := (ah bi.out).1; omega) | simpa using h_)
                        obtain rfl := k61_openM hM93
                        have HP93 := (Kd.R_seg bi.out ((bI) : Int) (oD z2) (by have h_ : ((bI) : Int) < ((l0.length : Int) : Int) := oD z2; first | exact h_ | (have e_ := (ah bi.out).1; omega) | simpa using h_) (seg := [.string (((rd_T61 l0 (bI)).f1) ++ a1_1)]) (j := 1) hcl93 hcc93 (show 2 ≤ 3 from by decide) (x' := (⟨(rd_T61 l0 (bI)).f0, ((rd_T61 l0 (bI)).f1) ++ a1_1, (rd_T61 l0 (bI)).f2⟩ : S61)) (k61_mkM _ _ _ (⟨(rd_T61 l0 (bI)).f0, ((rd_T61 l0 (bI)).f1) ++ a1_1, (rd_T61 l0 (bI)).f2⟩ : S61) ) (fun _ hk => hk)).1
                        rw [← Ny126.out] at HP93
                        have HQ93 := aM HP93
                        clear hcl93 hcc93 hfr93 HP93; (try clear hM93)
                        refine start_ (n := 12) (S := fun w' => w'.cell? ⟨ba, 0, none⟩ = some (.int .i64 a1_0) ∧ w'.cell? ⟨ba, 1, none⟩ = some (.string a1_1) ∧ w'.cell? ⟨ba, 2, none⟩ = some (.string a1_2) ∧ w'.cell? ⟨go91, ((bI)).toNat * 3, none⟩ = some (.int .i64 ((rd_T61 l0 (bI)).f0)) ∧ w'.cell? ⟨go91, ((bI)).toNat * 3 + 1, none⟩ = some (.string ((rd_T61 l0 (bI)).f1)) ∧ w'.cell? ⟨go91, ((bI)).toNat * 3 + 2, none⟩ = some (.string ((rd_T61 l0 (bI)).f2))) (ds := [11]) #[false, false, false, false, false, false, false, false, false, false, false, false] z0 rfl rfl ⟨(bC aX.out 0).trans rfl, (bC aX.out 1).trans rfl, (bC aX.out 2).trans rfl, hx125_0, hx125_1, hx125_2⟩ (fun hHeld => ?_); refine with_tabW spec_l3Add.tab16 spec_l3Add.bits16 (fun HT_ HW_ => ?_)
                        (first | generalize wc.drew = w92 at bi aX bd HK HB GG91 HQ93 hf91_0 hf91_1 hf91_2 hx120_0 hx120_1 hx120_2 hx125_0 hx125_1 hx125_2 hx91_0 hx91_1 hx91_2 hHeld ⊢ | generalize wc.drew = w92 at bi aX bd HK HB GG91 HQ93 hf91_0 hf91_1 hf91_2 hx91_0 hx91_1 hx91_2 hHeld ⊢)
                        refine pA 0 120 ?_
                        refine pA 1 121 ?_
                        refine pA 2 122 ?_
                        refine pA 3 123 ?_
                        refine pA 4 124 ?_
                        refine pA 6 126 ?_
                        refine t6_ 5 125 ?_
                        refine t6_ 7 127 ?_
                        refine pA 8 128 ?_
                        refine pA 9 129 ?_
                        refine pA 10 130 ?_
                        refine last_ (i := 11) (N := none) #[true, true, true, true, true, true, true, true, true, true, true, true] rfl rfl (one_of HT_.out z0) (by decide) (fun K hK => ?_)
                        refine skip_ (w1 := ?_) (by rfl) rfl ?_ ?_
                        rotate_left
                        ·go_simp
                         rfl
                        refine hK.out _ _ ?_
                        clear hK K
                        refine done_ (done_of HT_.out z0) ?_
                        try go_wp2
                        go_ret
                        exact ⟨_, by first | rfl | (simp [errW_none, errW_some] <;> rfl) | (simp only [← bO, ← kn]; first | rfl | (simp [errW_none, errW_some] <;> rfl)) | (simp [*, errW_none, errW_some] <;> rfl), by (with_reducible repeat (first | apply ac | apply ab | apply aa)); exact ag HQ93.out (fun _ hk => hk.1), by repeat (first | (with_reducible first | exact HB.out | apply bA | apply pD | apply bD | refine ao ?_ GB91.out | refine ao ?_ dU.out | refine ao ?_ eV.out) | exact HB.out), by repeat (first | (with_reducible first | exact HK.out | apply Kept.alloc | apply Kept.drewN | apply Kept.drew | refine Kept.setCell ?_ HMgo91.out _ | refine Kept.setCell ?_ (.inr dp.out) _ | refine Kept.setCell ?_ (.inr eh.out) _) | exact HK.out)⟩
                       ·rw [if_neg pl] at H
                        exact absurd H (by simp)
                     ·rw [if_neg rn] at H
                      exact absurd H (by simp)
                    ·rw [if_neg t5] at H
                     exact absurd H (by simp)
                   ·rw [if_neg kc] at H
                    have c74b0 : decide (1 < (l0.length : Int)) = false := dF kc
                    have c74b1 : decide (1 < l0.length) = false := dF (by omega)
                    clear kc
                    obtain ⟨cL, mj⟩ : ∃ j_ : Int, (wrap64 ((l0.length : Int) - 1)) = j_ := ⟨_, rfl⟩
                    (try clear hji16w); (try clear bO)
                    replace H : (if 0 ≤ (cL) then (if (cL) < (l0.length : Int) then ((some (l0.set ((cL) : Int).toNat (⟨a1_0, a1_1, a1_2⟩ : S61) : List (S61))).bind fun y127 => (if y127.length < 3518437208883 then (some (y127 ++ [(⟨((rd_T61 l0 (bc)).f0), ((rd_T61 l0 (bc)).f1), ((rd_T61 l0 (bc)).f2)⟩ : S61)])) else (none))) else (none)) else (none)) = some r := by first | (rw [mj] at H; exact H) | (simp only [mj] at H ⊢; exact H)
                    have hji94w : (IntKind.i64.wrap ((l0.length : Int) - 1)) = cL := (i64_w _).trans mj
                    by_cases t3 : 0 ≤ (cL)
                    ·rw [if_pos t3] at H
                     have c95b0 : decide (0 ≤ (cL)) = true := dT t3
                     clear t3
                     by_cases t2 : (cL) < (l0.length : Int)
                     ·rw [if_pos t2] at H
                      have c96b0 : decide ((cL) < (l0.length : Int)) = true := dT t2
                      clear t2
                      obtain ⟨y127, hy127⟩ : ∃ y_ : List (S61), y_ = (l0.set ((cL) : Int).toNat (⟨a1_0, a1_1, a1_2⟩ : S61)) := ⟨_, rfl⟩
                      replace H : (if y127.length < 3518437208883 then (some (y127 ++ [(⟨((rd_T61 l0 (bc)).f0), ((rd_T61 l0 (bc)).f1), ((rd_T61 l0 (bc)).f2)⟩ : S61)])) else (none)) = some r := by first | (rw [hy127]; with_reducible exact H) | (have H2_ := (Option.bind_some _ _).symm.trans H; rw [hy127]; with_reducible exact H2_) | (have H2_ := (Option.bind_some _ _).symm.trans H; with_reducible exact H2_) | with_reducible exact H | (rw [hy127]; exact H) | exact H
                      have Ny127 := aM hy127
                      clear hy127
                      by_cases te : y127.length < 3518437208883
                      ·rw [if_pos te] at H
                       have LMc98 := aM te
                       clear te
                       obtain ⟨y128, hy128⟩ : ∃ y_ : List (S61), y_ = (y127 ++ [(⟨((rd_T61 l0 (bc)).f0), ((rd_T61 l0 (bc)).f1), ((rd_T61 l0 (bc)).f2)⟩ : S61)]) := ⟨_, rfl⟩
                       replace H : (some y128) = some r := by first | (rw [hy128]; with_reducible exact H) | (have H2_ := (Option.bind_some _ _).symm.trans H; rw [hy128]; with_reducible exact H2_) | (have H2_ := (Option.bind_some _ _).symm.trans H; with_reducible exact H2_) | with_reducible exact H | (rw [hy128]; exact H) | exact H
                       have Ny128 := aM hy128
                       clear hy128
                       obtain rfl := sI H
                       have hnb99 := bH.out
                       have hnc99 := bU.out
                       obtain ⟨kG, kF, kE, kx, kw, kv⟩ := cc3 aX.out
                       have p97 : 0 ≤ ((cL) : Int) := oD z2
                       have q97 : ((cL) : Int) < ((l0.length : Int) : Int) := oD z2
                       obtain ⟨go97, td, eo97, s7, gl97, cl97, HG97⟩ := Kd.R_form bi.out (by omega)
                       (first | cases eo97 | (injection eo97 with ea_ en_ ec_; (first | subst ea_ | (injection ea_ with ea_; subst ea_)); subst ec_; clear en_))
                       have GB97 := aM s7
                       have GG97 := aM HG97
                       clear s7 gl97 HG97
                       have HMgo97 := aM (show (P0_ go97 ∨ w.heap.size ≤ go97) from (bi.out.1 _ rfl).1)
                       obtain ⟨ce97, hcl97, hM97, hcc97, hfr97⟩ := Kd.R_elem bi.out z61 ((cL) : Int) p97 q97
                       obtain rfl := k61_openM hM97
                       have hx97_0 : wc.cell? ⟨go97, ((cL) : Int).toNat * 3, none⟩ = some (.int .i64 ((rd_T61 l0 (cL)).f0)) := hcc97 0 _ rfl
                       have hx97_1 : wc.cell? ⟨go97, ((cL) : Int).toNat * 3 + 1, none⟩ = some (.string ((rd_T61 l0 (cL)).f1)) := hcc97 1 _ rfl
                       have hx97_2 : wc.cell? ⟨go97, ((cL) : Int).toNat * 3 + 2, none⟩ = some (.string ((rd_T61 l0 (cL)).f2)) := hcc97 2 _ rfl
                       have hf97_0 : wc.frozen? ⟨go97, ((cL) : Int).toNat * 3, none⟩ = false := hfr97 0
                       have hf97_1 : wc.frozen? ⟨go97, ((cL) : Int).toNat * 3 + 1, none⟩ = false := hfr97 1
                       have hf97_2 : wc.frozen? ⟨go97, ((cL) : Int).toNat * 3 + 2, none⟩ = false := hfr97 2
                       clear hcl97 hcc97 hfr97; (try clear hM97)
                       replace p97 := eq_true p97
                       replace q97 := eq_true q97
                       have HX101 := aM (show Kd.R k61 61 wc w0.heap.size (fun k_ => (P0_ k_ ∨ w.heap.size ≤ k_) ∧ k_ ≠ ba ∧ k_ ≠ bo) (.slice (some ⟨go97, 0, none⟩) l0.length nA) l0 from (kR_ bi.out))
                       obtain ⟨ce101, hcl101, hM101, hcc101, hfr101⟩ := Kd.R_elem HX101.out z61 ((cL) : Int) (oD z2) (by have h_ : ((cL) : Int) < ((l0.length : Int) : Int) := oD z2; first | exact h_ | (have e_ := (ah bi.out).1; omega) | simpa using h_)
                       obtain rfl := k61_openM hM101
                       have HP101 := Kd.R_seg HX101.out ((cL) : Int) (oD z2) (by have h_ : ((cL) : Int) < ((l0.length : Int) : Int) := oD z2; first | exact h_ | (have e_ := (ah bi.out).1; omega) | simpa using h_) (seg := [.int .i64 a1_0, .string a1_1, .string a1_2]) (j := 0) hcl101 hcc101 (show 3 ≤ 3 from by decide) (x' := (⟨a1_0, a1_1, a1_2⟩ : S61)) (k61_mkM _ _ _ (⟨a1_0, a1_1, a1_2⟩ : S61) ) (fun _ hk => hk)
                       have hx101_0 := hcc101 0 _ rfl
                       (try simp only [show (k61).sz = 3 from rfl, Nat.mul_one, Nat.add_zero] at hx101_0)
                       have hf101_0 := hfr101 0
                       (try simp only [show (k61).sz = 3 from rfl, Nat.mul_one, Nat.add_zero] at hf101_0)
                       have hx101_1 := hcc101 1 _ rfl
                       (try simp only [show (k61).sz = 3 from rfl, Nat.mul_one, Nat.add_zero] at hx101_1)
                       have hf101_1 := hfr101 1
                       (try simp only [show (k61).sz = 3 from rfl, Nat.mul_one, Nat.add_zero] at hf101_1)
                       have hx101_2 := hcc101 2 _ rfl
                       (try simp only [show (k61).sz = 3 from rfl, Nat.mul_one, Nat.add_zero] at hx101_2)
                       have hf101_2 := hfr101 2
                       (try simp only [show (k61).sz = 3 from rfl, Nat.mul_one, Nat.add_zero] at hf101_2)
                       clear hcl101 hcc101 hfr101; (try clear hM101)
                       go_wp2_with (first | ((with_reducible refine gate_store (t := 61) (p := 136) rfl ?_); refine store_event (t := 61) (p := 136) (v := ?vo_w102) (w1 := (((wc.setCell ⟨go97, ((cL) : Int).toNat * 3, none⟩ (.int .i64 a1_0)).setCell ⟨go97, ((cL) : Int).toNat * 3 + 1, none⟩ (.string a1_1)).setCell ⟨go97, ((cL) : Int).toNat * 3 + 2, none⟩ (.string a1_2))) ?hg ?ho ?hn ?hr ?_; (case ho => rfl); (case hg => rfl); (case hn => rfl); (case hr => first | (go_simp; done) | (go_simp; rfl) | ((try simp only [Int.toNat_natCast] at *); go_simp; first | done | rfl)); intro w102 hw; have hg : wc.grownBy w102 (some go97) := (by rw [hw]; exact HP101.2); have hp_ : Kd.R k61 61 w102 w0.heap.size (fun k_ => (P0_ k_ ∨ w.heap.size ≤ k_) ∧ k_ ≠ ba ∧ k_ ≠ bo) (.slice (some ⟨go97, 0, none⟩) l0.length nA) y127 := (by rw [hw, Ny127.out]; exact HP101.1); clear HP101; replace aX := aM (blk_grown (g := ba) (o := .cells #[.int .i64 a1_0, .string a1_1, .string a1_2] 61 (0, 0)) z5 hg (Kd.R_away bi.out (fun _ hk => hk.2.1))); replace bd := aM (blk_grown (g := bo) (o := .cells #[.int .i64 ((rd_T61 l0 (bc)).f0), .string ((rd_T61 l0 (bc)).f1), .string ((rd_T61 l0 (bc)).f2)] 61 (0, 0)) (kB_ bd.out) hg (Kd.R_away bi.out (fun _ hk => hk.2.2))); replace HB := aM ((by rw [hw]; exact ao (ao (ao (HB.out) GB97.out) GB97.out) GB97.out : Below w0.heap.size w0 w102)); replace HK := aM (Kept.of_grown (S := (fun k_ => P0_ k_)) hg (by repeat (first | (with_reducible first | exact HK.out | apply Kept.alloc | apply Kept.drewN | apply Kept.drew | refine Kept.setCell ?_ (.inr dp.out) _ | refine Kept.setCell ?_ (.inr eh.out) _) | exact HK.out)) (fun k_ e_ => (bi.out.1 k_ e_).1)); replace bi := aM (hp_); clear hg hw hp_; obtain ⟨kD, kC, kB, ku, kt, ks⟩ := cc3 bd.out) | ((with_reducible refine gate_builtin (b := .append) (xs := #[.tmp 137, .tmp 139]) rfl ?_); at_builtin; refine Kd.R_append k61 (w0 := w0) w0.heap.size rfl (.tmp 137) (.tmp 139) 39 61 (.agg #[(.int .i64 0), (.string ⟨#[]⟩), (.string ⟨#[]⟩)]) 40 rfl Try.underlying39 info61 rfl (by decide) (by omega) (.slice (some ⟨go97, 0, none⟩) l0.length nA) y127 (⟨((rd_T61 l0 (bc)).f0), ((rd_T61 l0 (bc)).f1), ((rd_T61 l0 (bc)).f2)⟩ : S61) [.int .i64 ((rd_T61 l0 (bc)).f0), .string ((rd_T61 l0 (bc)).f1), .string ((rd_T61 l0 (bc)).f2)] (fun k_ => (P0_ k_ ∨ w.heap.size ≤ k_) ∧ k_ ≠ ba ∧ k_ ≠ bo) (fun _ => False) rfl rfl ?aP (fun _ hk => hk.elim) ?aF ?aO ?aB ?aS ?aL ?_; (case aP => exact k61_mkM _ _ _ (⟨((rd_T61 l0 (bc)).f0), ((rd_T61 l0 (bc)).f1), ((rd_T61 l0 (bc)).f2)⟩ : S61)); (case aB => exact (by repeat (first | (with_reducible first | exact HB.out | apply bA | apply pD | apply bD | refine ao ?_ dU.out | refine ao ?_ eV.out) | exact HB.out))); (case aF => exact (fun k_ hk => ⟨(.inr (Nat.le_trans (by first | exact HK.out.1 | exact (show Kept w _ (fun k_ => P0_ k_) from by repeat (first | (with_reducible first | exact HK.out | apply Kept.alloc | apply Kept.drewN | apply Kept.drew | refine Kept.setCell ?_ (.inr dp.out) _ | refine Kept.setCell ?_ (.inr eh.out) _) | exact HK.out)).1) hk)), Kd.freshB (g := ba) (o := .cells #[.int .i64 a1_0, .string a1_1, .string a1_2] 61 (0, 0)) z5 k_ hk, Kd.freshB (g := bo) (o := .cells #[.int .i64 ((rd_T61 l0 (bc)).f0), .string ((rd_T61 l0 (bc)).f1), .string ((rd_T61 l0 (bc)).f2)] 61 (0, 0)) (kB_ bd.out) k_ hk⟩)); (case aO => exact (kR_ bi.out)); (case aS => exact (aq (by repeat (first | (with_reducible first | exact HB.out | apply bA | apply pD | apply bD | refine ao ?_ dU.out | refine ao ?_ eV.out) | exact HB.out)))); (case aL => have := LMc98.out; omega); intro v129 w104 ho hb hg hat; rw [← Ny128.out] at ho; replace aX := aM (blk_grown (g := ba) (o := .cells #[.int .i64 a1_0, .string a1_1, .string a1_2] 61 (0, 0)) z5 hg (Kd.R_away bi.out (fun _ hk => hk.2.1))); replace bd := aM (blk_grown (g := bo) (o := .cells #[.int .i64 ((rd_T61 l0 (bc)).f0), .string ((rd_T61 l0 (bc)).f1), .string ((rd_T61 l0 (bc)).f2)] 61 (0, 0)) (kB_ bd.out) hg (Kd.R_away bi.out (fun _ hk => hk.2.2))); replace HB := aM (hb); replace HK := aM (Kept.of_grown (S := (fun k_ => P0_ k_)) hg (by repeat (first | (with_reducible first | exact HK.out | apply Kept.alloc | apply Kept.drewN | apply Kept.drew | refine Kept.setCell ?_ (.inr dp.out) _ | refine Kept.setCell ?_ (.inr eh.out) _) | exact HK.out)) (fun k_ e_ => (bi.out.1 k_ e_).1)); have HO130 := aM (ho); clear bi; clear ho hb hg hat))
                       go_ret
                       exact ⟨_, by first | rfl | (simp [errW_none, errW_some] <;> rfl) | (simp only [← bO, ← mj]; first | rfl | (simp [errW_none, errW_some] <;> rfl)) | (simp [*, errW_none, errW_some] <;> rfl), by (with_reducible repeat (first | apply ac | apply ab | apply aa)); exact ag HO130.out (fun _ hk => hk.1), y24, y30⟩
                      ·rw [if_neg te] at H
                       exact absurd H (by simp)
                     ·rw [if_neg t2] at H
                      exact absurd H (by simp)
                    ·rw [if_neg t3] at H
                     exact absurd H (by simp)
                  ·replace t6 := Bool.eq_false_iff.mpr t6
                   subst t6
                   rw [if_neg nF_] at H
                   by_cases eg : l0.length < 3518437208883
                   ·rw [if_pos eg] at H
                    have LMc105 := aM eg
                    clear eg
                    obtain ⟨y131, hy131⟩ : ∃ y_ : List (S61), y_ = (l0 ++ [(⟨a1_0, a1_1, a1_2⟩ : S61)]) := ⟨_, rfl⟩
                    replace H : (some y131) = some r := by first | (rw [hy131]; with_reducible exact H) | (have H2_ := (Option.bind_some _ _).symm.trans H; rw [hy131]; with_reducible exact H2_) | (have H2_ := (Option.bind_some _ _).symm.trans H; with_reducible exact H2_) | with_reducible exact H | (rw [hy131]; exact H) | exact H
                    have Ny131 := aM hy131
                    clear hy131
                    obtain rfl := sI H
                    have hnb106 := bH.out
                    have hnc106 := bU.out
                    obtain ⟨kA, kz, ky, kr, kp, ko⟩ := cc3 aX.out
                    go_wp2_with (first | ((with_reducible refine gate_builtin (b := .append) (xs := #[.tmp 36, .tmp 38]) rfl ?_); at_builtin; refine Kd.R_append k61 (w0 := w0) w0.heap.size rfl (.tmp 36) (.tmp 38) 39 61 (.agg #[(.int .i64 0), (.string ⟨#[]⟩), (.string ⟨#[]⟩)]) 40 rfl Try.underlying39 info61 rfl (by decide) (by omega) (.slice (some ad112) l0.length nA) l0 (⟨a1_0, a1_1, a1_2⟩ : S61) [.int .i64 a1_0, .string a1_1, .string a1_2] (fun k_ => (P0_ k_ ∨ w.heap.size ≤ k_) ∧ k_ ≠ ba ∧ k_ ≠ bo) (fun _ => False) rfl rfl ?aP (fun _ hk => hk.elim) ?aF ?aO ?aB ?aS ?aL ?_; (case aP => exact k61_mkM _ _ _ (⟨a1_0, a1_1, a1_2⟩ : S61)); (case aB => exact (by repeat (first | (with_reducible first | exact HB.out | apply bA | apply pD | apply bD | refine ao ?_ dU.out | refine ao ?_ eV.out) | exact HB.out))); (case aF => exact (fun k_ hk => ⟨(.inr (Nat.le_trans (by first | exact HK.out.1 | exact (show Kept w _ (fun k_ => P0_ k_) from by repeat (first | (with_reducible first | exact HK.out | apply Kept.alloc | apply Kept.drewN | apply Kept.drew | refine Kept.setCell ?_ (.inr dp.out) _ | refine Kept.setCell ?_ (.inr eh.out) _) | exact HK.out)).1) hk)), Kd.freshB (g := ba) (o := .cells #[.int .i64 a1_0, .string a1_1, .string a1_2] 61 (0, 0)) z5 k_ hk, Kd.freshB (g := bo) (o := .cells #[.int .i64 ((rd_T61 l0 (bc)).f0), .string ((rd_T61 l0 (bc)).f1), .string ((rd_T61 l0 (bc)).f2)] 61 (0, 0)) (kB_ bd.out) k_ hk⟩)); (case aO => exact (kR_ bi.out)); (case aS => exact (aq (by repeat (first | (with_reducible first | exact HB.out | apply bA | apply pD | apply bD | refine ao ?_ dU.out | refine ao ?_ eV.out) | exact HB.out)))); (case aL => have := LMc105.out; omega); intro v132 w108 ho hb hg hat; rw [← Ny131.out] at ho; replace aX := aM (blk_grown (g := ba) (o := .cells #[.int .i64 a1_0, .string a1_1, .string a1_2] 61 (0, 0)) z5 hg (Kd.R_away bi.out (fun _ hk => hk.2.1))); replace bd := aM (blk_grown (g := bo) (o := .cells #[.int .i64 ((rd_T61 l0 (bc)).f0), .string ((rd_T61 l0 (bc)).f1), .string ((rd_T61 l0 (bc)).f2)] 61 (0, 0)) (kB_ bd.out) hg (Kd.R_away bi.out (fun _ hk => hk.2.2))); replace HB := aM (hb); replace HK := aM (Kept.of_grown (S := (fun k_ => P0_ k_)) hg (by repeat (first | (with_reducible first | exact HK.out | apply Kept.alloc | apply Kept.drewN | apply Kept.drew | refine Kept.setCell ?_ (.inr dp.out) _ | refine Kept.setCell ?_ (.inr eh.out) _) | exact HK.out)) (fun k_ e_ => (bi.out.1 k_ e_).1)); have HO133 := aM (ho); clear bi; clear ho hb hg hat))
                    go_ret
                    exact ⟨_, by first | rfl | (simp [errW_none, errW_some] <;> rfl) | (simp only [← bO]; first | rfl | (simp [errW_none, errW_some] <;> rfl)) | (simp [*, errW_none, errW_some] <;> rfl), by (with_reducible repeat (first | apply ac | apply ab | apply aa)); exact ag HO133.out (fun _ hk => hk.1), y24, y30⟩
                   ·rw [if_neg eg] at H
                    exact absurd H (by simp)
      ·rw [if_neg e8] at H
       exact absurd H (by simp)
     ·rw [if_neg e4] at H
      exact absurd H (by simp)

end Go.Proofs.Ytmigfgcpdelnfaa.AFnUndoneBy
