-- this session's own text: written by wip/tools/ownprint.py over the kit's print
import Derived.Test.YtmigfgcpdelnfaaAFnCommandsx0
namespace Go.Proofs.Ytmigfgcpdelnfaa.AFnCommands
open Go.RowKit Go.Proofs.YtmigfgcpdelnfaaW.PrintWords Go.Proofs.YtmigfgcpdelnfaaW.PrintLast Go.Proofs.YtmigfgcpdelnfaaW.PrintMore
attribute [local go_sem] max2_int min2_int max_two min_two max_three min_three max_four min_four   -- for this text's walks alone
set_option linter.unusedVariables false
set_option linter.unusedSimpArgs false

/-! ### spec_l3Add: function 86 -/
mutual
def spec_l3Add.j0 : Nat → List (S61) → Int → Bool → Int → ByteArray → ByteArray → Option ((List (S61)))
 | 0, _, _, _, _, _, _ => none
 | k + 1, x0, x5, x9, x109000, x109001, x109002 => if x9 = true then (some x0) else (if x5 = 0 then (if x0.length < 3518437208883 then (some (x0 ++ [(⟨x109000, x109001, x109002⟩ : S61)])) else (none)) else (if 0 ≤ (wrap64 (x5 - 1)) then (if (wrap64 (x5 - 1)) < (x0.length : Int) then (if x109000 > 0 then (spec_l3Add.j1 k x0 x5 (decide (((rd_T61 x0 (wrap64 (x5 - 1))).f0) > 0)) x109000 x109001 x109002 ((rd_T61 x0 (wrap64 (x5 - 1))).f0) ((rd_T61 x0 (wrap64 (x5 - 1))).f1) ((rd_T61 x0 (wrap64 (x5 - 1))).f2)) else (spec_l3Add.j1 k x0 x5 false x109000 x109001 x109002 ((rd_T61 x0 (wrap64 (x5 - 1))).f0) ((rd_T61 x0 (wrap64 (x5 - 1))).f1) ((rd_T61 x0 (wrap64 (x5 - 1))).f2))) else (none)) else (none)))
def spec_l3Add.j1 : Nat → List (S61) → Int → Bool → Int → ByteArray → ByteArray → Int → ByteArray → ByteArray → Option ((List (S61)))
 | 0, _, _, _, _, _, _, _, _, _ => none
 | k + 1, x0, x5, x40, x109000, x109001, x109002, x114000, x114001, x114002 => if x40 = true then (if 0 ≤ (wrap64 (x5 - 1)) then (if (wrap64 (x5 - 1)) < (x0.length : Int) then (some (x0.set ((wrap64 (x5 - 1)) : Int).toNat (⟨wrap64 (((rd_T61 x0 (wrap64 (x5 - 1))).f0) + x109000), (rd_T61 x0 (wrap64 (x5 - 1))).f1, (rd_T61 x0 (wrap64 (x5 - 1))).f2⟩ : S61))) else (none)) else (none)) else (if x109002.toList = ([] : List UInt8) then (spec_l3Add.j2 k x0 x5 false x109000 x109001 x109002 x114000 x114001 x114002) else (spec_l3Add.j2 k x0 x5 (x114002.toList != ([] : List UInt8)) x109000 x109001 x109002 x114000 x114001 x114002))
def spec_l3Add.j2 : Nat → List (S61) → Int → Bool → Int → ByteArray → ByteArray → Int → ByteArray → ByteArray → Option ((List (S61)))
 | 0, _, _, _, _, _, _, _, _, _ => none
 | k + 1, x0, x5, x60, x109000, x109001, x109002, x114000, x114001, x114002 => if x60 = true then (if 0 ≤ (wrap64 (x5 - 1)) then (if (wrap64 (x5 - 1)) < (x0.length : Int) then (if ((rd_T61 x0 (wrap64 (x5 - 1))).f2).size + x109002.size ≤ 9223372036854775807 then (some (x0.set ((wrap64 (x5 - 1)) : Int).toNat (⟨(rd_T61 x0 (wrap64 (x5 - 1))).f0, (rd_T61 x0 (wrap64 (x5 - 1))).f1, ((rd_T61 x0 (wrap64 (x5 - 1))).f2) ++ x109002⟩ : S61))) else (none)) else (none)) else (none)) else (if x109001.toList = ([] : List UInt8) then (spec_l3Add.j3 k x0 x5 false x109000 x109001 x109002 x114000 x114001 x114002) else (spec_l3Add.j3 k x0 x5 (x114001.toList != ([] : List UInt8)) x109000 x109001 x109002 x114000 x114001 x114002))
def spec_l3Add.j3 : Nat → List (S61) → Int → Bool → Int → ByteArray → ByteArray → Int → ByteArray → ByteArray → Option ((List (S61)))
 | 0, _, _, _, _, _, _, _, _, _ => none
 | k + 1, x0, x5, x80, x109000, x109001, x109002, x114000, x114001, x114002 => if x80 = true then (if 0 ≤ (wrap64 (x5 - 1)) then (if (wrap64 (x5 - 1)) < (x0.length : Int) then (if ((rd_T61 x0 (wrap64 (x5 - 1))).f1).size + x109001.size ≤ 9223372036854775807 then (some (x0.set ((wrap64 (x5 - 1)) : Int).toNat (⟨(rd_T61 x0 (wrap64 (x5 - 1))).f0, ((rd_T61 x0 (wrap64 (x5 - 1))).f1) ++ x109001, (rd_T61 x0 (wrap64 (x5 - 1))).f2⟩ : S61))) else (none)) else (none)) else (none)) else (if x109001.toList = ([] : List UInt8) then (spec_l3Add.j4 k x0 x5 false x109000 x109001 x109002 x114000 x114001 x114002) else (spec_l3Add.j4 k x0 x5 (x114002.toList != ([] : List UInt8)) x109000 x109001 x109002 x114000 x114001 x114002))
def spec_l3Add.j4 : Nat → List (S61) → Int → Bool → Int → ByteArray → ByteArray → Int → ByteArray → ByteArray → Option ((List (S61)))
 | 0, _, _, _, _, _, _, _, _, _ => none
 | k + 1, x0, x5, x100, x109000, x109001, x109002, x114000, x114001, x114002 => if x100 = true then (if x5 > 1 then (if 0 ≤ (wrap64 (x5 - 2)) then (if (wrap64 (x5 - 2)) < (x0.length : Int) then (if ((rd_T61 x0 (wrap64 (x5 - 2))).f1).toList = ([] : List UInt8) then (if 0 ≤ (wrap64 (x5 - 1)) then (if (wrap64 (x5 - 1)) < (x0.length : Int) then ((some (x0.set ((wrap64 (x5 - 1)) : Int).toNat (⟨x109000, x109001, x109002⟩ : S61) : List (S61))).bind fun y121 => (if y121.length < 3518437208883 then (some (y121 ++ [(⟨x114000, x114001, x114002⟩ : S61)])) else (none))) else (none)) else (none)) else (if ((rd_T61 x0 (wrap64 (x5 - 2))).f1).size + x109001.size ≤ 9223372036854775807 then (some (x0.set ((wrap64 (x5 - 2)) : Int).toNat (⟨(rd_T61 x0 (wrap64 (x5 - 2))).f0, ((rd_T61 x0 (wrap64 (x5 - 2))).f1) ++ x109001, (rd_T61 x0 (wrap64 (x5 - 2))).f2⟩ : S61))) else (none))) else (none)) else (none)) else (if 0 ≤ (wrap64 (x5 - 1)) then (if (wrap64 (x5 - 1)) < (x0.length : Int) then ((some (x0.set ((wrap64 (x5 - 1)) : Int).toNat (⟨x109000, x109001, x109002⟩ : S61) : List (S61))).bind fun y127 => (if y127.length < 3518437208883 then (some (y127 ++ [(⟨x114000, x114001, x114002⟩ : S61)])) else (none))) else (none)) else (none))) else (if x0.length < 3518437208883 then (some (x0 ++ [(⟨x109000, x109001, x109002⟩ : S61)])) else (none))
end
def spec_l3Add.f (k : Nat) (l0 : List (S61)) (a1_0 : Int) (a1_1 : ByteArray) (a1_2 : ByteArray) : Option ((List (S61))) := if a1_0 = 0 then (if a1_1.toList = ([] : List UInt8) then (spec_l3Add.j0 k l0 (l0.length : Int) (a1_2.toList == ([] : List UInt8)) a1_0 a1_1 a1_2) else (spec_l3Add.j0 k l0 (l0.length : Int) false a1_0 a1_1 a1_2)) else (spec_l3Add.j0 k l0 (l0.length : Int) false a1_0 a1_1 a1_2)
theorem spec_l3Add.mono_l : ∀ k, (∀ y0 y1 y2 y3 y4 y5, LeO (spec_l3Add.j0 k y0 y1 y2 y3 y4 y5) (spec_l3Add.j0 (k + 1) y0 y1 y2 y3 y4 y5)) ∧ (∀ y0 y1 y2 y3 y4 y5 y6 y7 y8, LeO (spec_l3Add.j1 k y0 y1 y2 y3 y4 y5 y6 y7 y8) (spec_l3Add.j1 (k + 1) y0 y1 y2 y3 y4 y5 y6 y7 y8)) ∧ (∀ y0 y1 y2 y3 y4 y5 y6 y7 y8, LeO (spec_l3Add.j2 k y0 y1 y2 y3 y4 y5 y6 y7 y8) (spec_l3Add.j2 (k + 1) y0 y1 y2 y3 y4 y5 y6 y7 y8)) ∧ (∀ y0 y1 y2 y3 y4 y5 y6 y7 y8, LeO (spec_l3Add.j3 k y0 y1 y2 y3 y4 y5 y6 y7 y8) (spec_l3Add.j3 (k + 1) y0 y1 y2 y3 y4 y5 y6 y7 y8)) ∧ (∀ y0 y1 y2 y3 y4 y5 y6 y7 y8, LeO (spec_l3Add.j4 k y0 y1 y2 y3 y4 y5 y6 y7 y8) (spec_l3Add.j4 (k + 1) y0 y1 y2 y3 y4 y5 y6 y7 y8))
 | 0 => ⟨fun _ _ _ _ _ _ r h => by simp [spec_l3Add.j0] at h, fun _ _ _ _ _ _ _ _ _ r h => by simp [spec_l3Add.j1] at h, fun _ _ _ _ _ _ _ _ _ r h => by simp [spec_l3Add.j2] at h, fun _ _ _ _ _ _ _ _ _ r h => by simp [spec_l3Add.j3] at h, fun _ _ _ _ _ _ _ _ _ r h => by simp [spec_l3Add.j4] at h⟩
 | k + 1 => by
  obtain ⟨ih0, ih1, ih2, ih3, ih4⟩ := spec_l3Add.mono_l k
  refine ⟨?_, ?_, ?_, ?_, ?_⟩
  ·intro y0 y1 y2 y3 y4 y5
   unfold spec_l3Add.j0
   repeat' first
   | (with_reducible exact ih0 _ _ _ _ _ _)
   | (with_reducible exact ih1 _ _ _ _ _ _ _ _ _)
   | (with_reducible exact ih2 _ _ _ _ _ _ _ _ _)
   | (with_reducible exact ih3 _ _ _ _ _ _ _ _ _)
   | (with_reducible exact ih4 _ _ _ _ _ _ _ _ _)
   | (with_reducible exact LeO.refl _)
   | (with_reducible exact LeO.none _)
   | (with_reducible refine LeO.ite ?_ ?_)
   | (with_reducible refine LeO.bind ?_ (fun _ => ?_))
  ·intro y0 y1 y2 y3 y4 y5 y6 y7 y8
   unfold spec_l3Add.j1
   repeat' first
   | (with_reducible exact ih0 _ _ _ _ _ _)
   | (with_reducible exact ih1 _ _ _ _ _ _ _ _ _)
   | (with_reducible exact ih2 _ _ _ _ _ _ _ _ _)
   | (with_reducible exact ih3 _ _ _ _ _ _ _ _ _)
   | (with_reducible exact ih4 _ _ _ _ _ _ _ _ _)
   | (with_reducible exact LeO.refl _)
   | (with_reducible exact LeO.none _)
   | (with_reducible refine LeO.ite ?_ ?_)
   | (with_reducible refine LeO.bind ?_ (fun _ => ?_))
  ·intro y0 y1 y2 y3 y4 y5 y6 y7 y8
   unfold spec_l3Add.j2
   repeat' first
   | (with_reducible exact ih0 _ _ _ _ _ _)
   | (with_reducible exact ih1 _ _ _ _ _ _ _ _ _)
   | (with_reducible exact ih2 _ _ _ _ _ _ _ _ _)
   | (with_reducible exact ih3 _ _ _ _ _ _ _ _ _)
   | (with_reducible exact ih4 _ _ _ _ _ _ _ _ _)
   | (with_reducible exact LeO.refl _)
   | (with_reducible exact LeO.none _)
   | (with_reducible refine LeO.ite ?_ ?_)
   | (with_reducible refine LeO.bind ?_ (fun _ => ?_))
  ·intro y0 y1 y2 y3 y4 y5 y6 y7 y8
   unfold spec_l3Add.j3
   repeat' first
   | (with_reducible exact ih0 _ _ _ _ _ _)
   | (with_reducible exact ih1 _ _ _ _ _ _ _ _ _)
   | (with_reducible exact ih2 _ _ _ _ _ _ _ _ _)
   | (with_reducible exact ih3 _ _ _ _ _ _ _ _ _)
   | (with_reducible exact ih4 _ _ _ _ _ _ _ _ _)
   | (with_reducible exact LeO.refl _)
   | (with_reducible exact LeO.none _)
   | (with_reducible refine LeO.ite ?_ ?_)
   | (with_reducible refine LeO.bind ?_ (fun _ => ?_))
  ·intro y0 y1 y2 y3 y4 y5 y6 y7 y8
   unfold spec_l3Add.j4
   repeat' first
   | (with_reducible exact ih0 _ _ _ _ _ _)
   | (with_reducible exact ih1 _ _ _ _ _ _ _ _ _)
   | (with_reducible exact ih2 _ _ _ _ _ _ _ _ _)
   | (with_reducible exact ih3 _ _ _ _ _ _ _ _ _)
   | (with_reducible exact ih4 _ _ _ _ _ _ _ _ _)
   | (with_reducible exact LeO.refl _)
   | (with_reducible exact LeO.none _)
   | (with_reducible refine LeO.ite ?_ ?_)
   | (with_reducible refine LeO.bind ?_ (fun _ => ?_))
theorem spec_l3Add.mono : ∀ a0 a1 a2 a3 k, LeO (spec_l3Add.f k a0 a1 a2 a3) (spec_l3Add.f (k + 1) a0 a1 a2 a3) := by
 intro a0 a1 a2 a3 k
 obtain ⟨ih0, ih1, ih2, ih3, ih4⟩ := spec_l3Add.mono_l k
 unfold spec_l3Add.f
 repeat' first
   | (with_reducible exact ih0 _ _ _ _ _ _)
   | (with_reducible exact ih1 _ _ _ _ _ _ _ _ _)
   | (with_reducible exact ih2 _ _ _ _ _ _ _ _ _)
   | (with_reducible exact ih3 _ _ _ _ _ _ _ _ _)
   | (with_reducible exact ih4 _ _ _ _ _ _ _ _ _)
   | (with_reducible exact LeO.refl _)
   | (with_reducible exact LeO.none _)
   | (with_reducible refine LeO.ite ?_ ?_)
   | (with_reducible refine LeO.bind ?_ (fun _ => ?_))
def spec_l3Add.T9 : Bool × List (List Nat × List Nat) := (true, [([], []), ([], []), ([1], [1]), ([0, 2], [0, 2]), ([3], [3]), ([4], [4]), ([], []), ([6], [6]), ([5, 7], [5, 7]), ([0, 2, 0, 1, 2, 3, 4, 5, 6, 7, 8], [0, 2]), ([9, 0, 1, 2, 3, 4, 5, 6, 7, 8], [9]), ([10, 8, 0, 1, 2, 3, 4, 5, 6, 7, 8], [8, 10])])
def spec_l3Add.B9 : List Nat := [0, 0, 2, 7, 15, 31, 0, 64, 255, 511, 1023, 2047]
theorem spec_l3Add.tab9 : rtab .any (opsOf Try.f86 9) = spec_l3Add.T9 := by kernel_rfl
theorem spec_l3Add.bits9 : waitsOk spec_l3Add.T9.2 spec_l3Add.B9 = true := by kernel_rfl
def spec_l3Add.T11 : Bool × List (List Nat × List Nat) := (true, [([], []), ([], []), ([1], [1]), ([0, 2], [0, 2]), ([3], [3]), ([4], [4]), ([], []), ([6], [6]), ([5, 7], [5, 7]), ([0, 2, 0, 1, 2, 3, 4, 5, 6, 7, 8], [0, 2]), ([9, 0, 1, 2, 3, 4, 5, 6, 7, 8], [9]), ([10, 8, 0, 1, 2, 3, 4, 5, 6, 7, 8], [8, 10])])
def spec_l3Add.B11 : List Nat := [0, 0, 2, 7, 15, 31, 0, 64, 255, 511, 1023, 2047]
theorem spec_l3Add.tab11 : rtab .any (opsOf Try.f86 11) = spec_l3Add.T11 := by kernel_rfl
theorem spec_l3Add.bits11 : waitsOk spec_l3Add.T11.2 spec_l3Add.B11 = true := by kernel_rfl
def spec_l3Add.T13 : Bool × List (List Nat × List Nat) := (true, [([], []), ([], []), ([1], [1]), ([0, 2], [0, 2]), ([3], [3]), ([4], [4]), ([], []), ([6], [6]), ([5, 7], [5, 7]), ([0, 2, 0, 1, 2, 3, 4, 5, 6, 7, 8], [0, 2]), ([9, 0, 1, 2, 3, 4, 5, 6, 7, 8], [9]), ([10, 8, 0, 1, 2, 3, 4, 5, 6, 7, 8], [8, 10])])
def spec_l3Add.B13 : List Nat := [0, 0, 2, 7, 15, 31, 0, 64, 255, 511, 1023, 2047]
theorem spec_l3Add.tab13 : rtab .any (opsOf Try.f86 13) = spec_l3Add.T13 := by kernel_rfl
theorem spec_l3Add.bits13 : waitsOk spec_l3Add.T13.2 spec_l3Add.B13 = true := by kernel_rfl
def spec_l3Add.T16 : Bool × List (List Nat × List Nat) := (true, [([], []), ([], []), ([1], [1]), ([0, 2], [0, 2]), ([3], [3]), ([4], [4]), ([], []), ([6], [6]), ([5, 7], [5, 7]), ([0, 2, 0, 1, 2, 3, 4, 5, 6, 7, 8], [0, 2]), ([9, 0, 1, 2, 3, 4, 5, 6, 7, 8], [9]), ([10, 8, 0, 1, 2, 3, 4, 5, 6, 7, 8], [8, 10])])
def spec_l3Add.B16 : List Nat := [0, 0, 2, 7, 15, 31, 0, 64, 255, 511, 1023, 2047]
theorem spec_l3Add.tab16 : rtab .any (opsOf Try.f86 16) = spec_l3Add.T16 := by kernel_rfl
theorem spec_l3Add.bits16 : waitsOk spec_l3Add.T16.2 spec_l3Add.B16 = true := by kernel_rfl
set_option maxHeartbeats 8000000 in
set_option maxRecDepth 100000 in
theorem spec_l3Add.calls (k : Nat) (P0_ : Nat → Prop) (u9000_ : Value) (l0 : List (S61)) (a1_0 : Int) (a1_1 : ByteArray) (a1_2 : ByteArray) (r : List (S61)) (w0 w : World) (hB : Below w0.heap.size w0 w) (ho0 : Kd.R k61 61 w w0.heap.size P0_ u9000_ l0) (h : spec_l3Add.f k l0 a1_0 a1_1 a1_2 = some r) :
  Calls Try.prog 86 #[u9000_, .agg #[.int .i64 a1_0, .string a1_1, .string a1_2]] w fun e w' => ∃ v0_ : Value, e = .returned (v0_) ∧ Kd.R k61 61 w' w0.heap.size (fun k_ => (P0_ k_ ∨ w.heap.size ≤ k_)) v0_ r ∧ Below w0.heap.size w0 w' ∧ Kept w w' (fun k_ => P0_ k_) := by
 have hu61 := Try.underlying61
 have j6 := aM (show Kd.R k61 61 w w0.heap.size (fun k_ => (P0_ k_ ∨ w.heap.size ≤ k_)) u9000_ l0 from ag ho0 (fun k_ hk => (.inl hk)))
 have HK := aM (Kept.refl w (fun k_ => P0_ k_))
 have HW0 := aM hB.size
 have HB := aM hB
 clear hB
 have H : (if a1_0 = 0 then (if a1_1.toList = ([] : List UInt8) then (spec_l3Add.j0 k l0 (l0.length : Int) (a1_2.toList == ([] : List UInt8)) a1_0 a1_1 a1_2) else (spec_l3Add.j0 k l0 (l0.length : Int) false a1_0 a1_1 a1_2)) else (spec_l3Add.j0 k l0 (l0.length : Int) false a1_0 a1_1 a1_2)) = some r := h
 clear h
 have qO := aM H
 clear H
 go_enter Try.func86, Try.ntmps86
 go_upto_region 2 with (first | ((with_reducible refine aw (N := 3) rfl ?_); refine ax ?hg (N := 3) ?hd (cs := #[.int .i64 a1_0, .string a1_1, .string a1_2]) (t := 61) ?hr ?_; (case hd => rfl); (case hg => rfl); (case hr => first | (go_simp; done) | (go_simp; rfl)); intro aZ hg w4 hbox hb; replace j6 := aM (af (Kd.R_elderB (kR_ j6.out) aZ (Nat.le_of_eq hg.symm)) hb); have aW := aM (hbox); have dJ := aM ((by rw [hg]; exact (by first | exact HK.out.1 | exact (show Kept w _ (fun k_ => P0_ k_) from by repeat (first | (with_reducible first | exact HK.out | apply Kept.alloc | apply Kept.drewN | apply Kept.drew) | exact HK.out)).1) : w.heap.size ≤ aZ)); replace HK := aM (Kept.below (S := (fun k_ => P0_ k_)) (by repeat (first | (with_reducible first | exact HK.out | apply Kept.alloc | apply Kept.drewN | apply Kept.drew) | exact HK.out)) hb); have eE := aM ((by rw [hg]; exact (ap z14) : w0.heap.size ≤ aZ)); replace HB := aM (ao z14 hb); clear hb hbox hg; obtain ⟨wF, pa, eo5⟩ := Kd.R_slice j6.out; subst eo5))
 (try simp only [Act.put, sA, sB, sC])
 go_cut [9] (fun v9 wc => ∃ (kq : Nat) (x9_2 : Bool), v9 = .bool x9_2 ∧ Aside0 (spec_l3Add.j0 kq l0 (l0.length : Int) x9_2 a1_0 a1_1 a1_2 = some r) ∧ Aside0 (kq ≤ k) ∧ Aside0 (Kd.R k61 61 wc w0.heap.size (fun k_ => (P0_ k_ ∨ w.heap.size ≤ k_) ∧ k_ ≠ aZ) (.slice wF l0.length pa) l0) ∧ Aside0 (wc.heap[aZ]? = some (.cells #[.int .i64 a1_0, .string a1_1, .string a1_2] 61 (0, 0))) ∧ Aside0 (Kept w wc (fun k_ => P0_ k_)) ∧ Aside0 (Below w0.heap.size w0 wc))
 case first =>
  have H := qO.out
  clear qO
  by_cases c6 : a1_0 = 0
  ·rw [if_pos c6] at H
   have c6b0 : (a1_0 == 0) = true := qT c6
   have c6b1 : (a1_0 != 0) = false := nF c6
   clear c6
   (first | rw [c6b0] | (simp only [i64_w, i32_w]; rw [c6b0]) | skip)
   by_cases c7 : a1_1.toList = ([] : List UInt8)
   ·rw [if_pos c7] at H
    have c7b0 : (a1_1.toList == ([] : List UInt8)) = true := qT c7
    have c7b1 : (a1_1.toList != ([] : List UInt8)) = false := nF c7
    clear c7
    have H' := aM H
    clear H
    obtain ⟨ce, cd, cb, cj, b7, b6⟩ := cc3 aW.out
    go_wp2
    all_goals (try (exfalso; rename_i h_; rw [c7b0] at h_; cases h_; done))
    go_meet
    case rel => exact ⟨_, ((a1_2.toList == ([] : List UInt8))), z1, H', ⟨y0⟩, ⟨kR_ j6.out⟩, ⟨y14⟩, ⟨y32⟩, ⟨y24⟩⟩
   ·rw [if_neg c7] at H
    have c7b0 : (a1_1.toList == ([] : List UInt8)) = false := qF c7
    have c7b1 : (a1_1.toList != ([] : List UInt8)) = true := nT c7
    have H' := aM H
    clear H
    obtain ⟨ca, b9, b8, ci, b5, b4⟩ := cc3 aW.out
    go_wp2
    all_goals (try (exfalso; rename_i h_; rw [c7b0] at h_; cases h_; done))
    go_meet
    case rel => exact ⟨_, (false), z1, H', ⟨y0⟩, ⟨kR_ j6.out⟩, ⟨y14⟩, ⟨y32⟩, ⟨y24⟩⟩
  ·rw [if_neg c6] at H
   have c6b0 : (a1_0 == 0) = false := qF c6
   have c6b1 : (a1_0 != 0) = true := nT c6
   (first | rw [c6b0] | (simp only [i64_w, i32_w]; rw [c6b0]) | skip)
   have H' := aM H
   clear H
   obtain ⟨fW, fV, fU, fP, fO, fN⟩ := cc3 aW.out
   go_wp2
   go_meet
   case rel => exact ⟨_, (false), z1, H', ⟨y0⟩, ⟨kR_ j6.out⟩, ⟨y14⟩, ⟨y32⟩, ⟨y24⟩⟩
 case rest =>
  clear qO
  obtain ⟨kq, x9_2, rfl, HA, k6, bd, aW, HK, HB⟩ := hcut
  cases kq with
  | zero => exact absurd HA.out (by simp [spec_l3Add.j0])
  | succ kj2 =>
   have H := HA.out
   clear HA
   simp only [spec_l3Add.j0] at H
   by_cases cy : x9_2 = true
   ·subst cy
    rw [if_pos rfl] at H
    obtain rfl := sI H
    go_wp2
    go_ret
    exact ⟨_, y4, by (with_reducible repeat (first | apply ac | apply ab | apply aa)); exact ag bd.out (fun _ hk => hk.1), y24, y32⟩
   ·replace cy := Bool.eq_false_iff.mpr cy
    subst cy
    rw [if_neg nF_] at H
    by_cases b3 : (l0.length : Int) = 0
    ·rw [if_pos b3] at H
     have c12b0 : ((l0.length : Int) == 0) = true := qT b3
     have c12b1 : ((l0.length : Int) != 0) = false := nF b3
     clear b3
     by_cases cY : l0.length < 3518437208883
     ·rw [if_pos cY] at H
      have LMc13 := aM cY
      clear cY
      obtain ⟨y109, hy109⟩ : ∃ y_ : List (S61), y_ = (l0 ++ [(⟨a1_0, a1_1, a1_2⟩ : S61)]) := ⟨_, rfl⟩
      replace H : (some y109) = some r := by first | (rw [hy109]; with_reducible exact H) | (have H2_ := (Option.bind_some _ _).symm.trans H; rw [hy109]; with_reducible exact H2_) | (have H2_ := (Option.bind_some _ _).symm.trans H; with_reducible exact H2_) | with_reducible exact H | (rw [hy109]; exact H) | exact H
      have Ny109 := aM hy109
      clear hy109
      obtain rfl := sI H
      obtain ⟨cW, cV, cU, cQ, cP, cO⟩ := cc3 aW.out
      go_wp2_with (first | ((with_reducible refine gate_builtin (b := .append) (xs := #[.tmp 27, .tmp 29]) rfl ?_); at_builtin; refine Kd.R_append k61 (w0 := w0) w0.heap.size rfl (.tmp 27) (.tmp 29) 39 61 (.agg #[(.int .i64 0), (.string ⟨#[]⟩), (.string ⟨#[]⟩)]) 40 rfl Try.underlying39 info61 rfl (by decide) (by omega) (.slice wF l0.length pa) l0 (⟨a1_0, a1_1, a1_2⟩ : S61) [.int .i64 a1_0, .string a1_1, .string a1_2] (fun k_ => (P0_ k_ ∨ w.heap.size ≤ k_) ∧ k_ ≠ aZ) (fun _ => False) rfl rfl ?aP (fun _ hk => hk.elim) ?aF ?aO ?aB ?aS ?aL ?_; (case aP => exact k61_mkM _ _ _ (⟨a1_0, a1_1, a1_2⟩ : S61)); (case aB => exact (by repeat (first | (with_reducible first | exact HB.out | apply bA | apply pD | apply bD | refine am ?_ eE.out) | exact HB.out))); (case aF => exact (fun k_ hk => ⟨(.inr (Nat.le_trans (by first | exact HK.out.1 | exact (show Kept w _ (fun k_ => P0_ k_) from by repeat (first | (with_reducible first | exact HK.out | apply Kept.alloc | apply Kept.drewN | apply Kept.drew | refine Kept.setCell ?_ (.inr dJ.out) _) | exact HK.out)).1) hk)), Kd.freshB (g := aZ) (o := .cells #[.int .i64 a1_0, .string a1_1, .string a1_2] 61 (0, 0)) z6 k_ hk⟩)); (case aO => exact (kR_ bd.out)); (case aS => exact (ap (by repeat (first | (with_reducible first | exact HB.out | apply bA | apply pD | apply bD | refine am ?_ eE.out) | exact HB.out)))); (case aL => have := LMc13.out; omega); intro v110 w15 ho hb hg hat; rw [← Ny109.out] at ho; replace aW := aM (blk_grown (g := aZ) (o := .cells #[.int .i64 a1_0, .string a1_1, .string a1_2] 61 (0, 0)) z6 hg (Kd.R_away bd.out (fun _ hk => hk.2))); replace HB := aM (hb); replace HK := aM (Kept.of_grown (S := (fun k_ => P0_ k_)) hg (by repeat (first | (with_reducible first | exact HK.out | apply Kept.alloc | apply Kept.drewN | apply Kept.drew | refine Kept.setCell ?_ (.inr dJ.out) _) | exact HK.out)) (fun k_ e_ => (bd.out.1 k_ e_).1)); have HO111 := aM (ho); clear bd; clear ho hb hg hat))
      go_ret
      exact ⟨_, y4, by (with_reducible repeat (first | apply ac | apply ab | apply aa)); exact ag HO111.out (fun _ hk => hk.1), y24, y32⟩
     ·rw [if_neg cY] at H
      exact absurd H (by simp)
    ·rw [if_neg b3] at H
     have c12b0 : ((l0.length : Int) == 0) = false := qF b3
     have c12b1 : ((l0.length : Int) != 0) = true := nT b3
     have c12b2 : ¬ (l0 = []) := fun h_ => b3 (by rw [h_]; rfl)
     obtain ⟨a6, bR⟩ : ∃ j_ : Int, (wrap64 ((l0.length : Int) - 1)) = j_ := ⟨_, rfl⟩
     replace H : (if 0 ≤ (a6) then (if (a6) < (l0.length : Int) then (if a1_0 > 0 then (spec_l3Add.j1 kj2 l0 (l0.length : Int) (decide (((rd_T61 l0 (a6)).f0) > 0)) a1_0 a1_1 a1_2 ((rd_T61 l0 (a6)).f0) ((rd_T61 l0 (a6)).f1) ((rd_T61 l0 (a6)).f2)) else (spec_l3Add.j1 kj2 l0 (l0.length : Int) false a1_0 a1_1 a1_2 ((rd_T61 l0 (a6)).f0) ((rd_T61 l0 (a6)).f1) ((rd_T61 l0 (a6)).f2))) else (none)) else (none)) = some r := by first | (rw [bR] at H; exact H) | (simp only [bR] at H ⊢; exact H)
     have hji16w : (IntKind.i64.wrap ((l0.length : Int) - 1)) = a6 := (i64_w _).trans bR
     by_cases dy : 0 ≤ (a6)
     ·rw [if_pos dy] at H
      have c17b0 : decide (0 ≤ (a6)) = true := dT dy
      clear dy
      by_cases d8 : (a6) < (l0.length : Int)
      ·rw [if_pos d8] at H
       have c18b0 : decide ((a6) < (l0.length : Int)) = true := dT d8
       clear d8
       have tD := aM H
       clear H
       have p112 : 0 ≤ ((a6) : Int) := oD z2
       have q112 : (a6) < (l0.length : Int) := oD z2
       obtain ⟨ad112, e112, hx112_0, hx112_1, hx112_2⟩ := at_T61 (ah bd.out).2.2 (a6) p112 q112
       cases e112
       replace p112 := eq_true p112
       replace q112 := eq_true q112
       go_upto_region 8 with (first | ((with_reducible refine aw (N := 6) rfl ?_); refine ax ?hg (N := 6) ?hd (cs := #[.int .i64 0, .string ⟨#[]⟩, .string ⟨#[]⟩]) (t := 61) ?hr ?_; (case hd => rfl); (case hg => rfl); (case hr => first | (go_simp; done) | (go_simp; rfl)); intro bk hg w20 hbox hb; replace bd := aM (af (Kd.R_elderB (kR_ bd.out) bk (Nat.le_of_eq hg.symm)) hb); have a7 := aM (hbox); have fd := aM ((by rw [hg]; exact (by first | exact HK.out.1 | exact (show Kept w _ (fun k_ => P0_ k_) from by repeat (first | (with_reducible first | exact HK.out | apply Kept.alloc | apply Kept.drewN | apply Kept.drew | refine Kept.setCell ?_ (.inr dJ.out) _) | exact HK.out)).1) : w.heap.size ≤ bk)); replace HK := aM (Kept.below (S := (fun k_ => P0_ k_)) (by repeat (first | (with_reducible first | exact HK.out | apply Kept.alloc | apply Kept.drewN | apply Kept.drew | refine Kept.setCell ?_ (.inr dJ.out) _) | exact HK.out)) hb); have ga := aM ((by rw [hg]; exact (ap (by repeat (first | (with_reducible first | exact HB.out | apply bA | apply pD | apply bD | refine am ?_ eE.out) | exact HB.out))) : w0.heap.size ≤ bk)); replace HB := aM (ao (by repeat (first | (with_reducible first | exact HB.out | apply bA | apply pD | apply bD | refine am ?_ eE.out) | exact HB.out)) hb); have bB := aM ((by rw [hg]; exact Nat.ne_of_lt (blk_lt (g := aZ) (o := .cells #[.int .i64 a1_0, .string a1_1, .string a1_2] 61 (0, 0)) z6) : aZ ≠ bk)); have cf := aM ((by rw [hg]; exact Nat.ne_of_gt (blk_lt (g := aZ) (o := .cells #[.int .i64 a1_0, .string a1_1, .string a1_2] 61 (0, 0)) z6) : bk ≠ aZ)); replace aW := aM (bK_ aW.out hb); clear hb hbox hg; have hnb21 := cf.out; have hnc21 := bB.out; obtain ⟨dm, dl, dk, dj, di, dh⟩ := cc3 a7.out))
       (try simp only [Act.put, sA, sB, sC])
       go_cut [40] (fun v40 wc => ∃ (kq : Nat) (x40_18 : Bool), v40 = .bool x40_18 ∧ Aside0 (spec_l3Add.j1 kq l0 (l0.length : Int) x40_18 a1_0 a1_1 a1_2 ((rd_T61 l0 (a6)).f0) ((rd_T61 l0 (a6)).f1) ((rd_T61 l0 (a6)).f2) = some r) ∧ Aside0 (kq ≤ kj2) ∧ Aside0 (Kd.R k61 61 wc w0.heap.size (fun k_ => (P0_ k_ ∨ w.heap.size ≤ k_) ∧ k_ ≠ aZ ∧ k_ ≠ bk) (.slice (some ad112) l0.length pa) l0) ∧ Aside0 (wc.heap[aZ]? = some (.cells #[.int .i64 a1_0, .string a1_1, .string a1_2] 61 (0, 0))) ∧ Aside0 (wc.heap[bk]? = some (.cells #[.int .i64 ((rd_T61 l0 (a6)).f0), .string ((rd_T61 l0 (a6)).f1), .string ((rd_T61 l0 (a6)).f2)] 61 (0, 0))) ∧ Aside0 (Kept w wc (fun k_ => P0_ k_)) ∧ Aside0 (Below w0.heap.size w0 wc))
       case first =>
        have H := tD.out
        clear tD
        by_cases fZ : a1_0 > 0
        ·rw [if_pos fZ] at H
         have c23b0 : decide (0 < a1_0) = true := dT fZ
         clear fZ
         (first | rw [c23b0] | (simp only [i64_w, i32_w]; rw [c23b0]) | skip)
         have H' := aM H
         clear H
         have hnb24 := bB.out
         have hnc24 := cf.out
         obtain ⟨g4, g3, g1, gM, gL, gK⟩ := cc3 aW.out
         obtain ⟨gZ, gY, gX, gJ, gI, gH⟩ := cc3 a7.out
         go_wp2
         go_meet
         case rel => exact ⟨_, (decide (((rd_T61 l0 (a6)).f0) > 0)), (by first | rfl | (simp; done) | (simp only [← bR] <;> (first | rfl | (simp; done) | (simp; generalize ByteArray.toList _ = u_; cases u_ <;> (first | rfl | (simp; done))))) | (simp [*]; done)), (by first | exact H' | (simp only [bR]; exact H') | (simp only [← bR]; exact H')), ⟨by have := k6.out; first | omega | exact Nat.le_refl _⟩, ⟨by (with_reducible repeat (first | apply ac | apply ab | apply aa)); exact ag (Kd.R_far (p := ⟨bk, 2, none⟩) (Kd.R_far (p := ⟨bk, 1, none⟩) (Kd.R_far (p := ⟨bk, 0, none⟩) (ag bd.out (fun k_ hk => (⟨hk, hk.2⟩ : _ ∧ k_ ≠ bk))) (fun _ hk => hk.2) (.int .i64 ((rd_T61 l0 (a6)).f0))) (fun _ hk => hk.2) (.string ((rd_T61 l0 (a6)).f1))) (fun _ hk => hk.2) (.string ((rd_T61 l0 (a6)).f2))) (fun _ hk => ⟨hk.1.1.1, ⟨hk.1.1.2, hk.1.2⟩⟩)⟩, ⟨by (with_reducible repeat (first | refine aj ?_ _ | refine ai ?_ | refine ak ?_ _)); refine blk_far ?_ bB.out _; (with_reducible repeat (first | refine aj ?_ _ | refine ai ?_ | refine ak ?_ _)); refine blk_far ?_ bB.out _; (with_reducible repeat (first | refine aj ?_ _ | refine ai ?_ | refine ak ?_ _)); refine blk_far ?_ bB.out _; (with_reducible repeat (first | refine aj ?_ _ | refine ai ?_ | refine ak ?_ _)); exact aW.out⟩, ⟨by (with_reducible repeat (first | refine aj ?_ _ | refine ai ?_ | refine ak ?_ _)); refine al (cs := #[.int .i64 ((rd_T61 l0 (a6)).f0), .string ((rd_T61 l0 (a6)).f1), .string ⟨#[]⟩]) ?_ 2 _ rfl; (with_reducible repeat (first | refine aj ?_ _ | refine ai ?_ | refine ak ?_ _)); refine al (cs := #[.int .i64 ((rd_T61 l0 (a6)).f0), .string ⟨#[]⟩, .string ⟨#[]⟩]) ?_ 1 _ rfl; (with_reducible repeat (first | refine aj ?_ _ | refine ai ?_ | refine ak ?_ _)); refine al (cs := #[.int .i64 0, .string ⟨#[]⟩, .string ⟨#[]⟩]) ?_ 0 _ rfl; (with_reducible repeat (first | refine aj ?_ _ | refine ai ?_ | refine ak ?_ _)); exact a7.out⟩, ⟨y37⟩, ⟨y31⟩⟩
        ·rw [if_neg fZ] at H
         have c23b0 : decide (0 < a1_0) = false := dF fZ
         clear fZ
         (first | rw [c23b0] | (simp only [i64_w, i32_w]; rw [c23b0]) | skip)
         have H' := aM H
         clear H
         have hnb27 := bB.out
         have hnc27 := cf.out
         obtain ⟨e7, e6, e5, eW, eV, eU⟩ := cc3 aW.out
         go_wp2
         go_meet
         case rel => exact ⟨_, (false), z1, (by first | exact H' | (simp only [bR]; exact H') | (simp only [← bR]; exact H')), ⟨by have := k6.out; first | omega | exact Nat.le_refl _⟩, ⟨by (with_reducible repeat (first | apply ac | apply ab | apply aa)); exact ag (Kd.R_far (p := ⟨bk, 2, none⟩) (Kd.R_far (p := ⟨bk, 1, none⟩) (Kd.R_far (p := ⟨bk, 0, none⟩) (ag bd.out (fun k_ hk => (⟨hk, hk.2⟩ : _ ∧ k_ ≠ bk))) (fun _ hk => hk.2) (.int .i64 ((rd_T61 l0 (a6)).f0))) (fun _ hk => hk.2) (.string ((rd_T61 l0 (a6)).f1))) (fun _ hk => hk.2) (.string ((rd_T61 l0 (a6)).f2))) (fun _ hk => ⟨hk.1.1.1, ⟨hk.1.1.2, hk.1.2⟩⟩)⟩, ⟨by (with_reducible repeat (first | refine aj ?_ _ | refine ai ?_ | refine ak ?_ _)); refine blk_far ?_ bB.out _; (with_reducible repeat (first | refine aj ?_ _ | refine ai ?_ | refine ak ?_ _)); refine blk_far ?_ bB.out _; (with_reducible repeat (first | refine aj ?_ _ | refine ai ?_ | refine ak ?_ _)); refine blk_far ?_ bB.out _; (with_reducible repeat (first | refine aj ?_ _ | refine ai ?_ | refine ak ?_ _)); exact aW.out⟩, ⟨by (with_reducible repeat (first | refine aj ?_ _ | refine ai ?_ | refine ak ?_ _)); refine al (cs := #[.int .i64 ((rd_T61 l0 (a6)).f0), .string ((rd_T61 l0 (a6)).f1), .string ⟨#[]⟩]) ?_ 2 _ rfl; (with_reducible repeat (first | refine aj ?_ _ | refine ai ?_ | refine ak ?_ _)); refine al (cs := #[.int .i64 ((rd_T61 l0 (a6)).f0), .string ⟨#[]⟩, .string ⟨#[]⟩]) ?_ 1 _ rfl; (with_reducible repeat (first | refine aj ?_ _ | refine ai ?_ | refine ak ?_ _)); refine al (cs := #[.int .i64 0, .string ⟨#[]⟩, .string ⟨#[]⟩]) ?_ 0 _ rfl; (with_reducible repeat (first | refine aj ?_ _ | refine ai ?_ | refine ak ?_ _)); exact a7.out⟩, ⟨y37⟩, ⟨y31⟩⟩
       case rest =>
        clear tD
        try clear cy
        try clear b3
        try clear c12b0
        try clear c12b1
        try clear c12b2
        try clear dy
        try clear c17b0
        try clear d8
        try clear c18b0
        try clear dm
        try clear dl
        try clear dk
        try clear dj
        try clear di
        try clear dh
        try clear hx112_0
        try clear hx112_1
        try clear hx112_2
        try clear p112
        try clear q112
        obtain ⟨kq, x40_18, rfl, HA, pe, bd, aW, a7, HK, HB⟩ := hcut
        cases kq with
        | zero => exact absurd HA.out (by simp [spec_l3Add.j1])
        | succ kj18 =>
         have H := HA.out
         clear HA
         simp only [spec_l3Add.j1] at H
         by_cases jR : x40_18 = true
         ·subst jR
          rw [if_pos rfl] at H
          obtain ⟨bX, nk⟩ : ∃ j_ : Int, (wrap64 ((l0.length : Int) - 1)) = j_ := ⟨_, rfl⟩
          (try clear hji16w); (try clear bR)
          replace H : (if 0 ≤ (bX) then (if (bX) < (l0.length : Int) then (some (l0.set ((bX) : Int).toNat (⟨wrap64 (((rd_T61 l0 (bX)).f0) + a1_0), (rd_T61 l0 (bX)).f1, (rd_T61 l0 (bX)).f2⟩ : S61))) else (none)) else (none)) = some r := by first | (rw [nk] at H; exact H) | (simp only [nk] at H ⊢; exact H)
          have hji30w : (IntKind.i64.wrap ((l0.length : Int) - 1)) = bX := (i64_w _).trans nk
          by_cases fo : 0 ≤ (bX)
          ·rw [if_pos fo] at H
           have c31b0 : decide (0 ≤ (bX)) = true := dT fo
           clear fo
           by_cases hG : (bX) < (l0.length : Int)
           ·rw [if_pos hG] at H
            have c32b0 : decide ((bX) < (l0.length : Int)) = true := dT hG
            clear hG
            obtain ⟨y115, hy115⟩ : ∃ y_ : List (S61), y_ = (l0.set ((bX) : Int).toNat (⟨wrap64 (((rd_T61 l0 (bX)).f0) + a1_0), (rd_T61 l0 (bX)).f1, (rd_T61 l0 (bX)).f2⟩ : S61)) := ⟨_, rfl⟩
            replace H : (some y115) = some r := by first | (rw [hy115]; with_reducible exact H) | (have H2_ := (Option.bind_some _ _).symm.trans H; rw [hy115]; with_reducible exact H2_) | (have H2_ := (Option.bind_some _ _).symm.trans H; with_reducible exact H2_) | with_reducible exact H | (rw [hy115]; exact H) | exact H
            have Ny115 := aM hy115
            clear hy115
            obtain rfl := sI H
            try go_wp2
            replace bd := aM (aa bd.out)
            replace aW := aM (ai aW.out)
            replace a7 := aM (ai a7.out)
            replace HK := aM (Kept.drew HK.out)
            replace HB := aM (bD HB.out)
            have p114 : 0 ≤ ((bX) : Int) := oD z2
            have q114 : (bX) < (l0.length : Int) := oD z2
            obtain ⟨ad114, e114, hx114_0, hx114_1, hx114_2⟩ := at_T61 (ah bd.out).2.2 (bX) p114 q114
            obtain rfl : ad112 = ad114 := (by injection e114)
            replace p114 := eq_true p114
            replace q114 := eq_true q114
            have p33 : 0 ≤ ((bX) : Int) := oD z2
            have q33 : ((bX) : Int) < ((l0.length : Int) : Int) := oD z2
            obtain ⟨go33, co33, eo33, uU, gl33, cl33, HG33⟩ := Kd.R_form bd.out (by omega)
            (first | cases eo33 | (injection eo33 with ea_ en_ ec_; (first | subst ea_ | (injection ea_ with ea_; subst ea_)); subst ec_; clear en_))
            have GB33 := aM uU
            have GG33 := aM HG33
            clear uU gl33 HG33
            have HMgo33 := aM (show (P0_ go33 ∨ w.heap.size ≤ go33) from (bd.out.1 _ rfl).1)
            (first | simp only [add_plain] at hx112_0 | skip)
            (first | simp only [add_plain] at hx112_1 | skip)
            (first | simp only [add_plain] at hx112_2 | skip)
            (first | simp only [add_plain] at hx114_0 | skip)
            (first | simp only [add_plain] at hx114_1 | skip)
            (first | simp only [add_plain] at hx114_2 | skip)
            obtain ⟨ce33, hcl33, hM33, hcc33, hfr33⟩ := Kd.R_elem bd.out z61 ((bX) : Int) p33 q33
            obtain rfl := k61_openM hM33
            have hx33_0 : World.cell? _ ⟨go33, ((bX) : Int).toNat * 3, none⟩ = some (.int .i64 ((rd_T61 l0 (bX)).f0)) := hcc33 0 _ rfl
            have hx33_1 : World.cell? _ ⟨go33, ((bX) : Int).toNat * 3 + 1, none⟩ = some (.string ((rd_T61 l0 (bX)).f1)) := hcc33 1 _ rfl
            have hx33_2 : World.cell? _ ⟨go33, ((bX) : Int).toNat * 3 + 2, none⟩ = some (.string ((rd_T61 l0 (bX)).f2)) := hcc33 2 _ rfl
            have hf33_0 : World.frozen? _ ⟨go33, ((bX) : Int).toNat * 3, none⟩ = false := hfr33 0
            have hf33_1 : World.frozen? _ ⟨go33, ((bX) : Int).toNat * 3 + 1, none⟩ = false := hfr33 1
            have hf33_2 : World.frozen? _ ⟨go33, ((bX) : Int).toNat * 3 + 2, none⟩ = false := hfr33 2
            clear hcl33 hcc33 hfr33; (try clear hM33)
            replace p33 := eq_true p33
            replace q33 := eq_true q33
            obtain ⟨ce35, hcl35, hM35, hcc35, hfr35⟩ := Kd.R_elem bd.out z61 ((bX) : Int) (oD z2) (by have h_ : ((bX) : Int) < ((l0.length : Int) : Int) := oD z2; first | exact h_ | (have e_ := (ah bd.out).1; omega) | simpa using h_)
            obtain rfl := k61_openM hM35
            have HP35 := (Kd.R_seg bd.out ((bX) : Int) (oD z2) (by have h_ : ((bX) : Int) < ((l0.length : Int) : Int) := oD z2; first | exact h_ | (have e_ := (ah bd.out).1; omega) | simpa using h_) (seg := [.int .i64 (wrap64 (((rd_T61 l0 (bX)).f0) + a1_0))]) (j := 0) hcl35 hcc35 (show 1 ≤ 3 from by decide) (x' := (⟨wrap64 (((rd_T61 l0 (bX)).f0) + a1_0), (rd_T61 l0 (bX)).f1, (rd_T61 l0 (bX)).f2⟩ : S61)) (k61_mkM _ _ _ (⟨wrap64 (((rd_T61 l0 (bX)).f0) + a1_0), (rd_T61 l0 (bX)).f1, (rd_T61 l0 (bX)).f2⟩ : S61) ) (fun _ hk => hk)).1
            rw [← Ny115.out] at HP35
            have HQ35 := aM HP35
            clear hcl35 hcc35 hfr35 HP35; (try clear hM35)
            refine start_ (n := 12) (S := fun w' => w'.cell? ⟨aZ, 0, none⟩ = some (.int .i64 a1_0) ∧ w'.cell? ⟨aZ, 1, none⟩ = some (.string a1_1) ∧ w'.cell? ⟨aZ, 2, none⟩ = some (.string a1_2) ∧ w'.cell? ⟨go33, ((bX)).toNat * 3, none⟩ = some (.int .i64 ((rd_T61 l0 (bX)).f0)) ∧ w'.cell? ⟨go33, ((bX)).toNat * 3 + 1, none⟩ = some (.string ((rd_T61 l0 (bX)).f1)) ∧ w'.cell? ⟨go33, ((bX)).toNat * 3 + 2, none⟩ = some (.string ((rd_T61 l0 (bX)).f2))) (ds := [11]) #[false, false, false, false, false, false, false, false, false, false, false, false] z0 rfl rfl ⟨(bC aW.out 0).trans rfl, (bC aW.out 1).trans rfl, (bC aW.out 2).trans rfl, hx114_0, hx114_1, hx114_2⟩ (fun hHeld => ?_); refine with_tabW spec_l3Add.tab9 spec_l3Add.bits9 (fun HT_ HW_ => ?_)
            (first | generalize wc.drew = w34 at bd aW a7 HK HB GG33 HQ35 hf33_0 hf33_1 hf33_2 hx112_0 hx112_1 hx112_2 hx114_0 hx114_1 hx114_2 hx33_0 hx33_1 hx33_2 hHeld ⊢ | generalize wc.drew = w34 at bd aW a7 HK HB GG33 HQ35 hf33_0 hf33_1 hf33_2 hx33_0 hx33_1 hx33_2 hHeld ⊢)
            refine pA 0 49 ?_
            refine pA 1 50 ?_
            refine pA 2 51 ?_
            refine pA 3 52 ?_
            refine pA 4 53 ?_
            refine pA 6 55 ?_
            refine t6_ 5 54 ?_
            refine t6_ 7 56 ?_
            refine pA 8 57 ?_
            refine pA 9 58 ?_
            refine pA 10 59 ?_
            refine last_ (i := 11) (N := none) #[true, true, true, true, true, true, true, true, true, true, true, true] rfl rfl (one_of HT_.out z0) (by decide) (fun K hK => ?_)
            refine skip_ (w1 := ?_) (by rfl) rfl ?_ ?_
            rotate_left
            ·go_simp
             rfl
            refine hK.out _ _ ?_
            clear hK K
            refine done_ (done_of HT_.out z0) ?_
            try go_wp2
            go_ret
            exact ⟨_, by first | rfl | (simp [errW_none, errW_some] <;> rfl) | (simp only [← bR, ← nk]; first | rfl | (simp [errW_none, errW_some] <;> rfl)) | (simp [*, errW_none, errW_some] <;> rfl), by (with_reducible repeat (first | apply ac | apply ab | apply aa)); exact ag HQ35.out (fun _ hk => hk.1), by repeat (first | (with_reducible first | exact HB.out | apply bA | apply pD | apply bD | refine am ?_ GB33.out | refine am ?_ eE.out | refine am ?_ ga.out) | exact HB.out), by repeat (first | (with_reducible first | exact HK.out | apply Kept.alloc | apply Kept.drewN | apply Kept.drew | refine Kept.setCell ?_ HMgo33.out _ | refine Kept.setCell ?_ (.inr dJ.out) _ | refine Kept.setCell ?_ (.inr fd.out) _) | exact HK.out)⟩
           ·rw [if_neg hG] at H
            exact absurd H (by simp)
          ·rw [if_neg fo] at H
           exact absurd H (by simp)
         ·replace jR := Bool.eq_false_iff.mpr jR
          subst jR
          rw [if_neg nF_] at H
          have tx := aM H
          clear H
          go_upto_region 10 with (fail)
          go_cut [60] (fun v60 wc => ∃ (kq : Nat) (x60_35 : Bool), v60 = .bool x60_35 ∧ Aside0 (spec_l3Add.j2 kq l0 (l0.length : Int) x60_35 a1_0 a1_1 a1_2 ((rd_T61 l0 (a6)).f0) ((rd_T61 l0 (a6)).f1) ((rd_T61 l0 (a6)).f2) = some r) ∧ Aside0 (kq ≤ kj18) ∧ Aside0 (Kd.R k61 61 wc w0.heap.size (fun k_ => (P0_ k_ ∨ w.heap.size ≤ k_) ∧ k_ ≠ aZ ∧ k_ ≠ bk) (.slice (some ad112) l0.length pa) l0) ∧ Aside0 (wc.heap[aZ]? = some (.cells #[.int .i64 a1_0, .string a1_1, .string a1_2] 61 (0, 0))) ∧ Aside0 (wc.heap[bk]? = some (.cells #[.int .i64 ((rd_T61 l0 (a6)).f0), .string ((rd_T61 l0 (a6)).f1), .string ((rd_T61 l0 (a6)).f2)] 61 (0, 0))) ∧ Aside0 (Kept w wc (fun k_ => P0_ k_)) ∧ Aside0 (Below w0.heap.size w0 wc))
          case first =>
           have H := tx.out
           clear tx
           by_cases na : a1_2.toList = ([] : List UInt8)
           ·rw [if_pos na] at H
            have c37b0 : (a1_2.toList == ([] : List UInt8)) = true := qT na
            have c37b1 : (a1_2.toList != ([] : List UInt8)) = false := nF na
            clear na
            (first | rw [c37b0] | (simp only [i64_w, i32_w]; rw [c37b0]) | skip)
            have H' := aM H
            clear H
            have hnb38 := bB.out
            have hnc38 := cf.out
            obtain ⟨dY, dX, dW, dN, dM, dL⟩ := cc3 aW.out
            go_wp2
            all_goals (try (exfalso; rename_i h_; rw [c37b0] at h_; cases h_; done))
            go_meet
            case rel => exact ⟨_, (false), z1, (by first | exact H' | (simp only [bR]; exact H') | (simp only [← bR]; exact H')), ⟨by have := k6.out; have := pe.out; first | omega | exact Nat.le_refl _⟩, ⟨y7⟩, ⟨y14⟩, ⟨y15⟩, ⟨y37⟩, ⟨y31⟩⟩
           ·rw [if_neg na] at H
            have c37b0 : (a1_2.toList == ([] : List UInt8)) = false := qF na
            have c37b1 : (a1_2.toList != ([] : List UInt8)) = true := nT na
            (first | rw [c37b0] | (simp only [i64_w, i32_w]; rw [c37b0]) | skip)
            have H' := aM H
            clear H
            have hnb40 := bB.out
            have hnc40 := cf.out
            obtain ⟨kN, kM, kL, kE, kD, kC⟩ := cc3 aW.out
            obtain ⟨cT, cS, cR, cN, cM, cL⟩ := cc3 a7.out
            go_wp2
            all_goals (try (exfalso; rename_i h_; rw [c37b0] at h_; cases h_; done))
            go_meet
            case rel => exact ⟨_, ((((rd_T61 l0 (a6)).f2).toList != ([] : List UInt8))), (by first | rfl | (simp; done) | (simp only [← bR] <;> (first | rfl | (simp; done) | (simp; generalize ByteArray.toList _ = u_; cases u_ <;> (first | rfl | (simp; done))))) | (simp [*]; done)), (by first | exact H' | (simp only [bR]; exact H') | (simp only [← bR]; exact H')), ⟨by have := k6.out; have := pe.out; first | omega | exact Nat.le_refl _⟩, ⟨y7⟩, ⟨y14⟩, ⟨y15⟩, ⟨y37⟩, ⟨y31⟩⟩
          case rest =>
           clear tx
           try clear p2
           try clear c6
           try clear c6b0
           try clear c6b1
           try clear c7
           try clear c7b0
           try clear c7b1
           try clear c8
           try clear cy
           try clear b3
           try clear c12b0
           try clear c12b1
           try clear c12b2
           try clear cY
           try clear dy
           try clear c17b0
           try clear d8
           try clear c18b0
           try clear jR
           try clear fW
           try clear fV
           try clear fU
           try clear cW
           try clear cV
           try clear cU
           try clear dm
           try clear dl
           try clear dk
           try clear ce
           try clear cd
           try clear cb
           try clear ca
           try clear b9
           try clear b8
           try clear fP
           try clear fO
           try clear fN
           try clear cQ
           try clear cP
           try clear cO
           try clear dj
           try clear di
           try clear dh
           try clear cj
           try clear b7
           try clear b6
           try clear ci
           try clear b5
           try clear b4
           try clear hx112_0
           try clear hx112_1
           try clear hx112_2
           try clear p112
           try clear p2
           try clear q112
           obtain ⟨kq, x60_35, rfl, HA, rV, bd, aW, a7, HK, HB⟩ := hcut
           cases kq with
           | zero => exact absurd HA.out (by simp [spec_l3Add.j2])
           | succ kj35 =>
            have H := HA.out
            clear HA
            simp only [spec_l3Add.j2] at H
            by_cases hF : x60_35 = true
            ·subst hF
             rw [if_pos rfl] at H
             obtain ⟨bz, es⟩ : ∃ j_ : Int, (wrap64 ((l0.length : Int) - 1)) = j_ := ⟨_, rfl⟩
             (try clear hji16w); (try clear bR)
             replace H : (if 0 ≤ (bz) then (if (bz) < (l0.length : Int) then (if ((rd_T61 l0 (bz)).f2).size + a1_2.size ≤ 9223372036854775807 then (some (l0.set ((bz) : Int).toNat (⟨(rd_T61 l0 (bz)).f0, (rd_T61 l0 (bz)).f1, ((rd_T61 l0 (bz)).f2) ++ a1_2⟩ : S61))) else (none)) else (none)) else (none)) = some r := by first | (rw [es] at H; exact H) | (simp only [es] at H ⊢; exact H)
             have hji44w : (IntKind.i64.wrap ((l0.length : Int) - 1)) = bz := (i64_w _).trans es
             by_cases i6 : 0 ≤ (bz)
             ·rw [if_pos i6] at H
              have c45b0 : decide (0 ≤ (bz)) = true := dT i6
              clear i6
              by_cases eI : (bz) < (l0.length : Int)
              ·rw [if_pos eI] at H
               have c46b0 : decide ((bz) < (l0.length : Int)) = true := dT eI
               clear eI
               by_cases i5 : ((rd_T61 l0 (bz)).f2).size + a1_2.size ≤ 9223372036854775807
               ·rw [if_pos i5] at H
                have c47b0 := eq_true i5
                have c47b1 : decide (((rd_T61 l0 (bz)).f2).size + a1_2.size ≤ 9223372036854775807) = true := dT i5
                try have c47b2 : (9223372036854775807 < ((rd_T61 l0 (bz)).f2).size + a1_2.size) = False := eq_false (Nat.not_lt.2 i5)
                obtain ⟨y117, hy117⟩ : ∃ y_ : List (S61), y_ = (l0.set ((bz) : Int).toNat (⟨(rd_T61 l0 (bz)).f0, (rd_T61 l0 (bz)).f1, ((rd_T61 l0 (bz)).f2) ++ a1_2⟩ : S61)) := ⟨_, rfl⟩
                replace H : (some y117) = some r := by first | (rw [hy117]; with_reducible exact H) | (have H2_ := (Option.bind_some _ _).symm.trans H; rw [hy117]; with_reducible exact H2_) | (have H2_ := (Option.bind_some _ _).symm.trans H; with_reducible exact H2_) | with_reducible exact H | (rw [hy117]; exact H) | exact H
                have Ny117 := aM hy117
                clear hy117
                obtain rfl := sI H
                try go_wp2
                replace bd := aM (aa bd.out)
                replace aW := aM (ai aW.out)
                replace a7 := aM (ai a7.out)
                replace HK := aM (Kept.drew HK.out)
                replace HB := aM (bD HB.out)
                have p116 : 0 ≤ ((bz) : Int) := oD z2
                have q116 : (bz) < (l0.length : Int) := oD z2
                obtain ⟨ad116, e116, hx116_0, hx116_1, hx116_2⟩ := at_T61 (ah bd.out).2.2 (bz) p116 q116
                obtain rfl : ad112 = ad116 := (by injection e116)
                replace p116 := eq_true p116
                replace q116 := eq_true q116
                have p48 : 0 ≤ ((bz) : Int) := oD z2
                have q48 : ((bz) : Int) < ((l0.length : Int) : Int) := oD z2
                obtain ⟨go48, co48, eo48, uT, gl48, cl48, HG48⟩ := Kd.R_form bd.out (by omega)
                (first | cases eo48 | (injection eo48 with ea_ en_ ec_; (first | subst ea_ | (injection ea_ with ea_; subst ea_)); subst ec_; clear en_))
                have GB48 := aM uT
                have GG48 := aM HG48
                clear uT gl48 HG48
                have HMgo48 := aM (show (P0_ go48 ∨ w.heap.size ≤ go48) from (bd.out.1 _ rfl).1)
                (first | simp only [add_plain] at hx116_0 | skip)
                (first | simp only [add_plain] at hx116_1 | skip)
                (first | simp only [add_plain] at hx116_2 | skip)
                obtain ⟨ce48, hcl48, hM48, hcc48, hfr48⟩ := Kd.R_elem bd.out z61 ((bz) : Int) p48 q48
                obtain rfl := k61_openM hM48
                have hx48_0 : World.cell? _ ⟨go48, ((bz) : Int).toNat * 3, none⟩ = some (.int .i64 ((rd_T61 l0 (bz)).f0)) := hcc48 0 _ rfl
                have hx48_1 : World.cell? _ ⟨go48, ((bz) : Int).toNat * 3 + 1, none⟩ = some (.string ((rd_T61 l0 (bz)).f1)) := hcc48 1 _ rfl
                have hx48_2 : World.cell? _ ⟨go48, ((bz) : Int).toNat * 3 + 2, none⟩ = some (.string ((rd_T61 l0 (bz)).f2)) := hcc48 2 _ rfl
                have hf48_0 : World.frozen? _ ⟨go48, ((bz) : Int).toNat * 3, none⟩ = false := hfr48 0
                have hf48_1 : World.frozen? _ ⟨go48, ((bz) : Int).toNat * 3 + 1, none⟩ = false := hfr48 1
                have hf48_2 : World.frozen? _ ⟨go48, ((bz) : Int).toNat * 3 + 2, none⟩ = false := hfr48 2
                clear hcl48 hcc48 hfr48; (try clear hM48)
                replace p48 := eq_true p48
                replace q48 := eq_true q48
                obtain ⟨ce50, hcl50, hM50, hcc50, hfr50⟩ := Kd.R_elem bd.out z61 ((bz) : Int) (oD z2) (by have h_ : ((bz) : Int) < ((l0.length : Int) : Int) := oD z2; first | exact h_ | (have e_ := (ah bd.out).1; omega) | simpa using h_)
                obtain rfl := k61_openM hM50
                have HP50 := (Kd.R_seg bd.out ((bz) : Int) (oD z2) (by have h_ : ((bz) : Int) < ((l0.length : Int) : Int) := oD z2; first | exact h_ | (have e_ := (ah bd.out).1; omega) | simpa using h_) (seg := [.string (((rd_T61 l0 (bz)).f2) ++ a1_2)]) (j := 2) hcl50 hcc50 (show 3 ≤ 3 from by decide) (x' := (⟨(rd_T61 l0 (bz)).f0, (rd_T61 l0 (bz)).f1, ((rd_T61 l0 (bz)).f2) ++ a1_2⟩ : S61)) (k61_mkM _ _ _ (⟨(rd_T61 l0 (bz)).f0, (rd_T61 l0 (bz)).f1, ((rd_T61 l0 (bz)).f2) ++ a1_2⟩ : S61) ) (fun _ hk => hk)).1
                rw [← Ny117.out] at HP50
                have HQ50 := aM HP50
                clear hcl50 hcc50 hfr50 HP50; (try clear hM50)
                refine start_ (n := 12) (S := fun w' => w'.cell? ⟨aZ, 0, none⟩ = some (.int .i64 a1_0) ∧ w'.cell? ⟨aZ, 1, none⟩ = some (.string a1_1) ∧ w'.cell? ⟨aZ, 2, none⟩ = some (.string a1_2) ∧ w'.cell? ⟨go48, ((bz)).toNat * 3, none⟩ = some (.int .i64 ((rd_T61 l0 (bz)).f0)) ∧ w'.cell? ⟨go48, ((bz)).toNat * 3 + 1, none⟩ = some (.string ((rd_T61 l0 (bz)).f1)) ∧ w'.cell? ⟨go48, ((bz)).toNat * 3 + 2, none⟩ = some (.string ((rd_T61 l0 (bz)).f2))) (ds := [11]) #[false, false, false, false, false, false, false, false, false, false, false, false] z0 rfl rfl ⟨(bC aW.out 0).trans rfl, (bC aW.out 1).trans rfl, (bC aW.out 2).trans rfl, hx116_0, hx116_1, hx116_2⟩ (fun hHeld => ?_); refine with_tabW spec_l3Add.tab11 spec_l3Add.bits11 (fun HT_ HW_ => ?_)
                (first | generalize wc.drew = w49 at bd aW a7 HK HB GG48 HQ50 hf48_0 hf48_1 hf48_2 hx116_0 hx116_1 hx116_2 hx48_0 hx48_1 hx48_2 hHeld ⊢ | generalize wc.drew = w49 at bd aW a7 HK HB GG48 HQ50 hf48_0 hf48_1 hf48_2 hx48_0 hx48_1 hx48_2 hHeld ⊢)
                refine pA 0 69 ?_
                refine pA 1 70 ?_
                refine pA 2 71 ?_
                refine pA 3 72 ?_
                refine pA 4 73 ?_
                refine pA 6 75 ?_
                refine t6_ 5 74 ?_
                refine t6_ 7 76 ?_
                refine pA 8 77 ?_
                refine pA 9 78 ?_
                refine pA 10 79 ?_
                refine last_ (i := 11) (N := none) #[true, true, true, true, true, true, true, true, true, true, true, true] rfl rfl (one_of HT_.out z0) (by decide) (fun K hK => ?_)
                refine skip_ (w1 := ?_) (by rfl) rfl ?_ ?_
                rotate_left
                ·go_simp
                 rfl
                refine hK.out _ _ ?_
                clear hK K
                refine done_ (done_of HT_.out z0) ?_
                try go_wp2
                go_ret
                exact ⟨_, by first | rfl | (simp [errW_none, errW_some] <;> rfl) | (simp only [← bR, ← es]; first | rfl | (simp [errW_none, errW_some] <;> rfl)) | (simp [*, errW_none, errW_some] <;> rfl), by (with_reducible repeat (first | apply ac | apply ab | apply aa)); exact ag HQ50.out (fun _ hk => hk.1), by repeat (first | (with_reducible first | exact HB.out | apply bA | apply pD | apply bD | refine am ?_ GB48.out | refine am ?_ eE.out | refine am ?_ ga.out) | exact HB.out), by repeat (first | (with_reducible first | exact HK.out | apply Kept.alloc | apply Kept.drewN | apply Kept.drew | refine Kept.setCell ?_ HMgo48.out _ | refine Kept.setCell ?_ (.inr dJ.out) _ | refine Kept.setCell ?_ (.inr fd.out) _) | exact HK.out)⟩
               ·rw [if_neg i5] at H
                exact absurd H (by simp)
              ·rw [if_neg eI] at H
               exact absurd H (by simp)
             ·rw [if_neg i6] at H
              exact absurd H (by simp)
            ·replace hF := Bool.eq_false_iff.mpr hF
             subst hF
             rw [if_neg nF_] at H
             have tu := aM H
             clear H
             go_upto_region 12 with (fail)
             go_cut [80] (fun v80 wc => ∃ (kq : Nat) (x80_50 : Bool), v80 = .bool x80_50 ∧ Aside0 (spec_l3Add.j3 kq l0 (l0.length : Int) x80_50 a1_0 a1_1 a1_2 ((rd_T61 l0 (a6)).f0) ((rd_T61 l0 (a6)).f1) ((rd_T61 l0 (a6)).f2) = some r) ∧ Aside0 (kq ≤ kj35) ∧ Aside0 (Kd.R k61 61 wc w0.heap.size (fun k_ => (P0_ k_ ∨ w.heap.size ≤ k_) ∧ k_ ≠ aZ ∧ k_ ≠ bk) (.slice (some ad112) l0.length pa) l0) ∧ Aside0 (wc.heap[aZ]? = some (.cells #[.int .i64 a1_0, .string a1_1, .string a1_2] 61 (0, 0))) ∧ Aside0 (wc.heap[bk]? = some (.cells #[.int .i64 ((rd_T61 l0 (a6)).f0), .string ((rd_T61 l0 (a6)).f1), .string ((rd_T61 l0 (a6)).f2)] 61 (0, 0))) ∧ Aside0 (Kept w wc (fun k_ => P0_ k_)) ∧ Aside0 (Below w0.heap.size w0 wc))
             case first =>
              have H := tu.out
              clear tu
              by_cases iQ : a1_1.toList = ([] : List UInt8)
              ·rw [if_pos iQ] at H
               have c52b0 : (a1_1.toList == ([] : List UInt8)) = true := qT iQ
               have c52b1 : (a1_1.toList != ([] : List UInt8)) = false := nF iQ
               clear iQ
               (first | rw [c52b0] | (simp only [i64_w, i32_w]; rw [c52b0]) | skip)
               have H' := aM H
               clear H
               have hnb53 := bB.out
               have hnc53 := cf.out
               obtain ⟨oH, oG, oF, nQ, nP, nO⟩ := cc3 aW.out
               go_wp2
               all_goals (try (exfalso; rename_i h_; rw [c52b0] at h_; cases h_; done))
               go_meet
               case rel => exact ⟨_, (false), z1, (by first | exact H' | (simp only [bR]; exact H') | (simp only [← bR]; exact H')), ⟨by have := k6.out; have := pe.out; have := rV.out; first | omega | exact Nat.le_refl _⟩, ⟨y7⟩, ⟨y14⟩, ⟨y15⟩, ⟨y37⟩, ⟨y31⟩⟩
              ·rw [if_neg iQ] at H
               have c52b0 : (a1_1.toList == ([] : List UInt8)) = false := qF iQ
               have c52b1 : (a1_1.toList != ([] : List UInt8)) = true := nT iQ
               (first | rw [c52b0] | (simp only [i64_w, i32_w]; rw [c52b0]) | skip)
               have H' := aM H
               clear H
               have hnb55 := bB.out
               have hnc55 := cf.out
               obtain ⟨oE, oC, oA, nN, nM, nL⟩ := cc3 aW.out
               obtain ⟨oz, oy, ox, nK, nJ, nI⟩ := cc3 a7.out
               go_wp2
               all_goals (try (exfalso; rename_i h_; rw [c52b0] at h_; cases h_; done))
               go_meet
               case rel => exact ⟨_, ((((rd_T61 l0 (a6)).f1).toList != ([] : List UInt8))), (by first | rfl | (simp; done) | (simp only [← bR] <;> (first | rfl | (simp; done) | (simp; generalize ByteArray.toList _ = u_; cases u_ <;> (first | rfl | (simp; done))))) | (simp [*]; done)), (by first | exact H' | (simp only [bR]; exact H') | (simp only [← bR]; exact H')), ⟨by have := k6.out; have := pe.out; have := rV.out; first | omega | exact Nat.le_refl _⟩, ⟨y7⟩, ⟨y14⟩, ⟨y15⟩, ⟨y37⟩, ⟨y31⟩⟩
             case rest =>
              clear tu
              try clear c1
              try clear p1
              try clear q1
              try clear hx1
              try clear c2
              try clear p2
              try clear c6
              try clear c6b0
              try clear c6b1
              try clear p6
              try clear c7
              try clear c7b0
              try clear c7b1
              try clear c8
              try clear cy
              try clear p11
              try clear q11
              try clear hx11
              try clear b3
              try clear c12b0
              try clear c12b1
              try clear c12b2
              try clear cY
              try clear dy
              try clear c17b0
              try clear d8
              try clear c18b0
              try clear ea
              try clear fZ
              try clear c23b0
              try clear f6
              try clear nb
              try clear jR
              try clear fo
              try clear c31b0
              try clear hG
              try clear c32b0
              try clear p33
              try clear q33
              try clear hF
              try clear fW
              try clear fV
              try clear fU
              try clear cW
              try clear cV
              try clear cU
              try clear dm
              try clear dl
              try clear dk
              try clear g4
              try clear g3
              try clear g1
              try clear gZ
              try clear gY
              try clear gX
              try clear e7
              try clear e6
              try clear e5
              try clear ce
              try clear cd
              try clear cb
              try clear ca
              try clear b9
              try clear b8
              try clear fP
              try clear fO
              try clear fN
              try clear cQ
              try clear cP
              try clear cO
              try clear dj
              try clear di
              try clear dh
              try clear gM
              try clear gL
              try clear gK
              try clear gJ
              try clear gI
              try clear gH
              try clear eW
              try clear eV
              try clear eU
              try clear cj
              try clear b7
              try clear b6
              try clear ci
              try clear b5
              try clear b4
              try clear hx112_0
              try clear hx112_1
              try clear hx112_2
              try clear hx114_0
              try clear hx114_1
              try clear hx114_2
              try clear hx33_0
              try clear hx33_1
              try clear hx33_2
              try clear p1
              try clear p11
              try clear p112
              try clear p114
              try clear p2
              try clear p33
              try clear p6
              try clear q1
              try clear q11
              try clear q112
              try clear q114
              try clear q33
              obtain ⟨kq, x80_50, rfl, HA, vn, bd, aW, a7, HK, HB⟩ := hcut
              cases kq with
              | zero => exact absurd HA.out (by simp [spec_l3Add.j3])
              | succ kj50 =>
               have H := HA.out
               clear HA
               simp only [spec_l3Add.j3] at H
               by_cases lJ : x80_50 = true
               ·subst lJ
                rw [if_pos rfl] at H
                obtain ⟨bT, nj⟩ : ∃ j_ : Int, (wrap64 ((l0.length : Int) - 1)) = j_ := ⟨_, rfl⟩
                (try clear hji16w); (try clear bR)
                replace H : (if 0 ≤ (bT) then (if (bT) < (l0.length : Int) then (if ((rd_T61 l0 (bT)).f1).size + a1_1.size ≤ 9223372036854775807 then (some (l0.set ((bT) : Int).toNat (⟨(rd_T61 l0 (bT)).f0, ((rd_T61 l0 (bT)).f1) ++ a1_1, (rd_T61 l0 (bT)).f2⟩ : S61))) else (none)) else (none)) else (none)) = some r := by first | (rw [nj] at H; exact H) | (simp only [nj] at H ⊢; exact H)
                have hji59w : (IntKind.i64.wrap ((l0.length : Int) - 1)) = bT := (i64_w _).trans nj
                by_cases ie : 0 ≤ (bT)
                ·rw [if_pos ie] at H
                 have c60b0 : decide (0 ≤ (bT)) = true := dT ie
                 clear ie
                 by_cases k0 : (bT) < (l0.length : Int)
                 ·rw [if_pos k0] at H
                  have c61b0 : decide ((bT) < (l0.length : Int)) = true := dT k0
                  clear k0
                  by_cases jY : ((rd_T61 l0 (bT)).f1).size + a1_1.size ≤ 9223372036854775807
                  ·rw [if_pos jY] at H
                   have c62b0 := eq_true jY
                   have c62b1 : decide (((rd_T61 l0 (bT)).f1).size + a1_1.size ≤ 9223372036854775807) = true := dT jY
                   try have c62b2 : (9223372036854775807 < ((rd_T61 l0 (bT)).f1).size + a1_1.size) = False := eq_false (Nat.not_lt.2 jY)
                   obtain ⟨y119, hy119⟩ : ∃ y_ : List (S61), y_ = (l0.set ((bT) : Int).toNat (⟨(rd_T61 l0 (bT)).f0, ((rd_T61 l0 (bT)).f1) ++ a1_1, (rd_T61 l0 (bT)).f2⟩ : S61)) := ⟨_, rfl⟩
                   replace H : (some y119) = some r := by first | (rw [hy119]; with_reducible exact H) | (have H2_ := (Option.bind_some _ _).symm.trans H; rw [hy119]; with_reducible exact H2_) | (have H2_ := (Option.bind_some _ _).symm.trans H; with_reducible exact H2_) | with_reducible exact H | (rw [hy119]; exact H) | exact H
                   have Ny119 := aM hy119
                   clear hy119
                   obtain rfl := sI H
                   try go_wp2
                   replace bd := aM (aa bd.out)
                   replace aW := aM (ai aW.out)
                   replace a7 := aM (ai a7.out)
                   replace HK := aM (Kept.drew HK.out)
                   replace HB := aM (bD HB.out)
                   have p118 : 0 ≤ ((bT) : Int) := oD z2
                   have q118 : (bT) < (l0.length : Int) := oD z2
                   obtain ⟨ad118, e118, hx118_0, hx118_1, hx118_2⟩ := at_T61 (ah bd.out).2.2 (bT) p118 q118
                   obtain rfl : ad112 = ad118 := (by injection e118)
                   replace p118 := eq_true p118
                   replace q118 := eq_true q118
                   have p63 : 0 ≤ ((bT) : Int) := oD z2
                   have q63 : ((bT) : Int) < ((l0.length : Int) : Int) := oD z2
                   obtain ⟨go63, co63, eo63, uS, gl63, cl63, HG63⟩ := Kd.R_form bd.out (by omega)
                   (first | cases eo63 | (injection eo63 with ea_ en_ ec_; (first | subst ea_ | (injection ea_ with ea_; subst ea_)); subst ec_; clear en_))
                   have GB63 := aM uS
                   have GG63 := aM HG63
                   clear uS gl63 HG63
                   have HMgo63 := aM (show (P0_ go63 ∨ w.heap.size ≤ go63) from (bd.out.1 _ rfl).1)
                   (first | simp only [add_plain] at hx118_0 | skip)
                   (first | simp only [add_plain] at hx118_1 | skip)
                   (first | simp only [add_plain] at hx118_2 | skip)
                   obtain ⟨ce63, hcl63, hM63, hcc63, hfr63⟩ := Kd.R_elem bd.out z61 ((bT) : Int) p63 q63
                   obtain rfl := k61_openM hM63
                   have hx63_0 : World.cell? _ ⟨go63, ((bT) : Int).toNat * 3, none⟩ = some (.int .i64 ((rd_T61 l0 (bT)).f0)) := hcc63 0 _ rfl
                   have hx63_1 : World.cell? _ ⟨go63, ((bT) : Int).toNat * 3 + 1, none⟩ = some (.string ((rd_T61 l0 (bT)).f1)) := hcc63 1 _ rfl
                   have hx63_2 : World.cell? _ ⟨go63, ((bT) : Int).toNat * 3 + 2, none⟩ = some (.string ((rd_T61 l0 (bT)).f2)) := hcc63 2 _ rfl
                   have hf63_0 : World.frozen? _ ⟨go63, ((bT) : Int).toNat * 3, none⟩ = false := hfr63 0
                   have hf63_1 : World.frozen? _ ⟨go63, ((bT) : Int).toNat * 3 + 1, none⟩ = false := hfr63 1
                   have hf63_2 : World.frozen? _ ⟨go63, ((bT) : Int).toNat * 3 + 2, none⟩ = false := hfr63 2
                   clear hcl63 hcc63 hfr63; (try clear hM63)
                   replace p63 := eq_true p63
                   replace q63 := eq_true q63
                   obtain ⟨ce65, hcl65, hM65, hcc65, hfr65⟩ := Kd.R_elem bd.out z61 ((bT) : Int) (oD z2) (by have h_ : ((bT) : Int) < ((l0.length : Int) : Int) := oD z2; first | exact h_ | (have e_ := (ah bd.out).1; omega) | simpa using h_)
                   obtain rfl := k61_openM hM65
                   have HP65 := (Kd.R_seg bd.out ((bT) : Int) (oD z2) (by have h_ : ((bT) : Int) < ((l0.length : Int) : Int) := oD z2; first | exact h_ | (have e_ := (ah bd.out).1; omega) | simpa using h_) (seg := [.string (((rd_T61 l0 (bT)).f1) ++ a1_1)]) (j := 1) hcl65 hcc65 (show 2 ≤ 3 from by decide) (x' := (⟨(rd_T61 l0 (bT)).f0, ((rd_T61 l0 (bT)).f1) ++ a1_1, (rd_T61 l0 (bT)).f2⟩ : S61)) (k61_mkM _ _ _ (⟨(rd_T61 l0 (bT)).f0, ((rd_T61 l0 (bT)).f1) ++ a1_1, (rd_T61 l0 (bT)).f2⟩ : S61) ) (fun _ hk => hk)).1
                   rw [← Ny119.out] at HP65
                   have HQ65 := aM HP65
                   clear hcl65 hcc65 hfr65 HP65; (try clear hM65)
                   refine start_ (n := 12) (S := fun w' => w'.cell? ⟨aZ, 0, none⟩ = some (.int .i64 a1_0) ∧ w'.cell? ⟨aZ, 1, none⟩ = some (.string a1_1) ∧ w'.cell? ⟨aZ, 2, none⟩ = some (.string a1_2) ∧ w'.cell? ⟨go63, ((bT)).toNat * 3, none⟩ = some (.int .i64 ((rd_T61 l0 (bT)).f0)) ∧ w'.cell? ⟨go63, ((bT)).toNat * 3 + 1, none⟩ = some (.string ((rd_T61 l0 (bT)).f1)) ∧ w'.cell? ⟨go63, ((bT)).toNat * 3 + 2, none⟩ = some (.string ((rd_T61 l0 (bT)).f2))) (ds := [11]) #[false, false, false, false, false, false, false, false, false, false, false, false] z0 rfl rfl ⟨(bC aW.out 0).trans rfl, (bC aW.out 1).trans rfl, (bC aW.out 2).trans rfl, hx118_0, hx118_1, hx118_2⟩ (fun hHeld => ?_); refine with_tabW spec_l3Add.tab13 spec_l3Add.bits13 (fun HT_ HW_ => ?_)
                   (first | generalize wc.drew = w64 at bd aW a7 HK HB GG63 HQ65 hf63_0 hf63_1 hf63_2 hx118_0 hx118_1 hx118_2 hx63_0 hx63_1 hx63_2 hHeld ⊢ | generalize wc.drew = w64 at bd aW a7 HK HB GG63 HQ65 hf63_0 hf63_1 hf63_2 hx63_0 hx63_1 hx63_2 hHeld ⊢)
                   refine pA 0 89 ?_
                   refine pA 1 90 ?_
                   refine pA 2 91 ?_
                   refine pA 3 92 ?_
                   refine pA 4 93 ?_
                   refine pA 6 95 ?_
                   refine t6_ 5 94 ?_
                   refine t6_ 7 96 ?_
                   refine pA 8 97 ?_
                   refine pA 9 98 ?_
                   refine pA 10 99 ?_
                   refine last_ (i := 11) (N := none) #[true, true, true, true, true, true, true, true, true, true, true, true] rfl rfl (one_of HT_.out z0) (by decide) (fun K hK => ?_)
                   refine skip_ (w1 := ?_) (by rfl) rfl ?_ ?_
                   rotate_left
                   ·go_simp
                    rfl
                   refine hK.out _ _ ?_
                   clear hK K
                   refine done_ (done_of HT_.out z0) ?_
                   try go_wp2
                   go_ret
                   exact ⟨_, by first | rfl | (simp [errW_none, errW_some] <;> rfl) | (simp only [← bR, ← nj]; first | rfl | (simp [errW_none, errW_some] <;> rfl)) | (simp [*, errW_none, errW_some] <;> rfl), by (with_reducible repeat (first | apply ac | apply ab | apply aa)); exact ag HQ65.out (fun _ hk => hk.1), by repeat (first | (with_reducible first | exact HB.out | apply bA | apply pD | apply bD | refine am ?_ GB63.out | refine am ?_ eE.out | refine am ?_ ga.out) | exact HB.out), by repeat (first | (with_reducible first | exact HK.out | apply Kept.alloc | apply Kept.drewN | apply Kept.drew | refine Kept.setCell ?_ HMgo63.out _ | refine Kept.setCell ?_ (.inr dJ.out) _ | refine Kept.setCell ?_ (.inr fd.out) _) | exact HK.out)⟩
                  ·rw [if_neg jY] at H
                   exact absurd H (by simp)
                 ·rw [if_neg k0] at H
                  exact absurd H (by simp)
                ·rw [if_neg ie] at H
                 exact absurd H (by simp)
               ·replace lJ := Bool.eq_false_iff.mpr lJ
                subst lJ
                rw [if_neg nF_] at H
                have tr := aM H
                clear H
                go_upto_region 14 with (fail)
                go_cut [100] (fun v100 wc => ∃ (kq : Nat) (x100_65 : Bool), v100 = .bool x100_65 ∧ Aside0 (spec_l3Add.j4 kq l0 (l0.length : Int) x100_65 a1_0 a1_1 a1_2 ((rd_T61 l0 (a6)).f0) ((rd_T61 l0 (a6)).f1) ((rd_T61 l0 (a6)).f2) = some r) ∧ Aside0 (kq ≤ kj50) ∧ Aside0 (Kd.R k61 61 wc w0.heap.size (fun k_ => (P0_ k_ ∨ w.heap.size ≤ k_) ∧ k_ ≠ aZ ∧ k_ ≠ bk) (.slice (some ad112) l0.length pa) l0) ∧ Aside0 (wc.heap[aZ]? = some (.cells #[.int .i64 a1_0, .string a1_1, .string a1_2] 61 (0, 0))) ∧ Aside0 (wc.heap[bk]? = some (.cells #[.int .i64 ((rd_T61 l0 (a6)).f0), .string ((rd_T61 l0 (a6)).f1), .string ((rd_T61 l0 (a6)).f2)] 61 (0, 0))) ∧ Aside0 (Kept w wc (fun k_ => P0_ k_)) ∧ Aside0 (Below w0.heap.size w0 wc))
                case first =>
                 have H := tr.out
                 clear tr
                 by_cases pc : a1_1.toList = ([] : List UInt8)
                 ·rw [if_pos pc] at H
                  have c67b0 : (a1_1.toList == ([] : List UInt8)) = true := qT pc
                  have c67b1 : (a1_1.toList != ([] : List UInt8)) = false := nF pc
                  clear pc
                  (first | rw [c67b0] | (simp only [i64_w, i32_w]; rw [c67b0]) | skip)
                  have H' := aM H
                  clear H
                  have hnb68 := bB.out
                  have hnc68 := cf.out
                  obtain ⟨hcz69_0, hcz69_1, hcz69_2, hfz69_0, hfz69_1, hfz69_2⟩ := cc3 aW.out
                  go_wp2
                  all_goals (try (exfalso; rename_i h_; rw [c67b0] at h_; cases h_; done))
                  go_meet
                  case rel => exact ⟨_, (false), z1, (by first | exact H' | (simp only [bR]; exact H') | (simp only [← bR]; exact H')), ⟨by have := k6.out; have := pe.out; have := rV.out; have := vn.out; first | omega | exact Nat.le_refl _⟩, ⟨y7⟩, ⟨y14⟩, ⟨y15⟩, ⟨y37⟩, ⟨y31⟩⟩
                 ·rw [if_neg pc] at H
                  have c67b0 : (a1_1.toList == ([] : List UInt8)) = false := qF pc
                  have c67b1 : (a1_1.toList != ([] : List UInt8)) = true := nT pc
                  (first | rw [c67b0] | (simp only [i64_w, i32_w]; rw [c67b0]) | skip)
                  have H' := aM H
                  clear H
                  have hnb70 := bB.out
                  have hnc70 := cf.out
                  obtain ⟨hcz71_0, hcz71_1, hcz71_2, hfz71_0, hfz71_1, hfz71_2⟩ := cc3 aW.out
                  obtain ⟨iD, iC, iB, ik, ij, ii⟩ := cc3 a7.out
                  go_wp2
                  all_goals (try (exfalso; rename_i h_; rw [c67b0] at h_; cases h_; done))
                  go_meet
                  case rel => exact ⟨_, ((((rd_T61 l0 (a6)).f2).toList != ([] : List UInt8))), (by first | rfl | (simp; done) | (simp only [← bR] <;> (first | rfl | (simp; done) | (simp; generalize ByteArray.toList _ = u_; cases u_ <;> (first | rfl | (simp; done))))) | (simp [*]; done)), (by first | exact H' | (simp only [bR]; exact H') | (simp only [← bR]; exact H')), ⟨by have := k6.out; have := pe.out; have := rV.out; have := vn.out; first | omega | exact Nat.le_refl _⟩, ⟨y7⟩, ⟨y14⟩, ⟨y15⟩, ⟨y37⟩, ⟨y31⟩⟩
                case rest =>
                 clear tr
                 try clear c1
                 try clear p1
                 try clear q1
                 try clear hx1
                 try clear c2
                 try clear p2
                 try clear c3
                 try clear p3
                 try clear q3
                 try clear hx3
                 try clear hf3
                 try clear c4
                 try clear c6
                 try clear c6b0
                 try clear c6b1
                 try clear p6
                 try clear c7
                 try clear c7b0
                 try clear c7b1
                 try clear c8
                 try clear cy
                 try clear p11
                 try clear q11
                 try clear hx11
                 try clear b3
                 try clear c12b0
                 try clear c12b1
                 try clear c12b2
                 try clear cY
                 try clear dy
                 try clear c17b0
                 try clear d8
                 try clear c18b0
                 try clear ea
                 try clear fZ
                 try clear c23b0
                 try clear f6
                 try clear nb
                 try clear jR
                 try clear fo
                 try clear c31b0
                 try clear hG
                 try clear c32b0
                 try clear jQ
                 try clear p33
                 try clear q33
                 try clear hx33
                 try clear hf33
                 try clear iR
                 try clear na
                 try clear c37b0
                 try clear c37b1
                 try clear f4
                 try clear jZ
                 try clear hF
                 try clear i6
                 try clear c45b0
                 try clear eI
                 try clear c46b0
                 try clear i5
                 try clear c47b0
                 try clear c47b1
                 try clear c47b2
                 try clear p48
                 try clear q48
                 try clear lJ
                 try clear fW
                 try clear fV
                 try clear fU
                 try clear cW
                 try clear cV
                 try clear cU
                 try clear dm
                 try clear dl
                 try clear dk
                 try clear g4
                 try clear g3
                 try clear g1
                 try clear gZ
                 try clear gY
                 try clear gX
                 try clear e7
                 try clear e6
                 try clear e5
                 try clear dY
                 try clear dX
                 try clear dW
                 try clear kN
                 try clear kM
                 try clear kL
                 try clear cT
                 try clear cS
                 try clear cR
                 try clear ce
                 try clear cd
                 try clear cb
                 try clear ca
                 try clear b9
                 try clear b8
                 try clear fP
                 try clear fO
                 try clear fN
                 try clear cQ
                 try clear cP
                 try clear cO
                 try clear dj
                 try clear di
                 try clear dh
                 try clear gM
                 try clear gL
                 try clear gK
                 try clear gJ
                 try clear gI
                 try clear gH
                 try clear eW
                 try clear eV
                 try clear eU
                 try clear dN
                 try clear dM
                 try clear dL
                 try clear kE
                 try clear kD
                 try clear kC
                 try clear cN
                 try clear cM
                 try clear cL
                 try clear cj
                 try clear b7
                 try clear b6
                 try clear ci
                 try clear b5
                 try clear b4
                 try clear hx112_0
                 try clear hx112_1
                 try clear hx112_2
                 try clear hx114_0
                 try clear hx114_1
                 try clear hx114_2
                 try clear hx116_0
                 try clear hx116_1
                 try clear hx116_2
                 try clear hx33_0
                 try clear hx33_1
                 try clear hx33_2
                 try clear hx48_0
                 try clear hx48_1
                 try clear hx48_2
                 try clear p1
                 try clear p11
                 try clear p112
                 try clear p114
                 try clear p116
                 try clear p2
                 try clear p3
                 try clear p33
                 try clear p48
                 try clear p6
                 try clear q1
                 try clear q11
                 try clear q112
                 try clear q114
                 try clear q116
                 try clear q3
                 try clear q33
                 try clear q48
                 obtain ⟨kq, x100_65, rfl, HA, HJ65, bd, aW, a7, HK, HB⟩ := hcut
                 cases kq with
                 | zero => exact absurd HA.out (by simp [spec_l3Add.j4])
                 | succ kj65 =>
                  have H := HA.out
                  clear HA
                  simp only [spec_l3Add.j4] at H
                  by_cases wg : x100_65 = true
                  ·subst wg
                   rw [if_pos rfl] at H
                   by_cases kZ : (l0.length : Int) > 1
                   ·rw [if_pos kZ] at H
                    have c74b0 : decide (1 < (l0.length : Int)) = true := dT kZ
                    have c74b1 : decide (1 < l0.length) = true := dT (by omega)
                    clear kZ
                    obtain ⟨bG, ll⟩ : ∃ j_ : Int, (wrap64 ((l0.length : Int) - 2)) = j_ := ⟨_, rfl⟩
                    replace H : (if 0 ≤ (bG) then (if (bG) < (l0.length : Int) then (if ((rd_T61 l0 (bG)).f1).toList = ([] : List UInt8) then (if 0 ≤ (wrap64 ((l0.length : Int) - 1)) then (if (wrap64 ((l0.length : Int) - 1)) < (l0.length : Int) then ((some (l0.set ((wrap64 ((l0.length : Int) - 1)) : Int).toNat (⟨a1_0, a1_1, a1_2⟩ : S61) : List (S61))).bind fun y121 => (if y121.length < 3518437208883 then (some (y121 ++ [(⟨((rd_T61 l0 (a6)).f0), ((rd_T61 l0 (a6)).f1), ((rd_T61 l0 (a6)).f2)⟩ : S61)])) else (none))) else (none)) else (none)) else (if ((rd_T61 l0 (bG)).f1).size + a1_1.size ≤ 9223372036854775807 then (some (l0.set ((bG) : Int).toNat (⟨(rd_T61 l0 (bG)).f0, ((rd_T61 l0 (bG)).f1) ++ a1_1, (rd_T61 l0 (bG)).f2⟩ : S61))) else (none))) else (none)) else (none)) = some r := by first | (rw [ll] at H; exact H) | (simp only [ll] at H ⊢; exact H)
                    have hji75w : (IntKind.i64.wrap ((l0.length : Int) - 2)) = bG := (i64_w _).trans ll
                    by_cases we : 0 ≤ (bG)
                    ·rw [if_pos we] at H
                     have c76b0 : decide (0 ≤ (bG)) = true := dT we
                     clear we
                     by_cases tm : (bG) < (l0.length : Int)
                     ·rw [if_pos tm] at H
                      have c77b0 : decide ((bG) < (l0.length : Int)) = true := dT tm
                      clear tm
                      by_cases rK : ((rd_T61 l0 (bG)).f1).toList = ([] : List UInt8)
                      ·rw [if_pos rK] at H
                       have c78b0 : (((rd_T61 l0 (bG)).f1).toList == ([] : List UInt8)) = true := qT rK
                       have c78b1 : (((rd_T61 l0 (bG)).f1).toList != ([] : List UInt8)) = false := nF rK
                       clear rK
                       obtain ⟨dv, ni⟩ : ∃ j_ : Int, (wrap64 ((l0.length : Int) - 1)) = j_ := ⟨_, rfl⟩
                       (try clear hji16w); (try clear bR)
                       replace H : (if 0 ≤ (dv) then (if (dv) < (l0.length : Int) then ((some (l0.set ((dv) : Int).toNat (⟨a1_0, a1_1, a1_2⟩ : S61) : List (S61))).bind fun y121 => (if y121.length < 3518437208883 then (some (y121 ++ [(⟨((rd_T61 l0 (a6)).f0), ((rd_T61 l0 (a6)).f1), ((rd_T61 l0 (a6)).f2)⟩ : S61)])) else (none))) else (none)) else (none)) = some r := by first | (rw [ni] at H; exact H) | (simp only [ni] at H ⊢; exact H)
                       have hji79w : (IntKind.i64.wrap ((l0.length : Int) - 1)) = dv := (i64_w _).trans ni
                       by_cases kX : 0 ≤ (dv)
                       ·rw [if_pos kX] at H
                        have c80b0 : decide (0 ≤ (dv)) = true := dT kX
                        clear kX
                        by_cases kY : (dv) < (l0.length : Int)
                        ·rw [if_pos kY] at H
                         have c81b0 : decide ((dv) < (l0.length : Int)) = true := dT kY
                         clear kY
                         obtain ⟨y121, hy121⟩ : ∃ y_ : List (S61), y_ = (l0.set ((dv) : Int).toNat (⟨a1_0, a1_1, a1_2⟩ : S61)) := ⟨_, rfl⟩
                         replace H : (if y121.length < 3518437208883 then (some (y121 ++ [(⟨((rd_T61 l0 (a6)).f0), ((rd_T61 l0 (a6)).f1), ((rd_T61 l0 (a6)).f2)⟩ : S61)])) else (none)) = some r := by first | (rw [hy121]; with_reducible exact H) | (have H2_ := (Option.bind_some _ _).symm.trans H; rw [hy121]; with_reducible exact H2_) | (have H2_ := (Option.bind_some _ _).symm.trans H; with_reducible exact H2_) | with_reducible exact H | (rw [hy121]; exact H) | exact H
                         have Ny121 := aM hy121
                         clear hy121
                         by_cases wd : y121.length < 3518437208883
                         ·rw [if_pos wd] at H
                          have LMc83 := aM wd
                          clear wd
                          obtain ⟨y122, hy122⟩ : ∃ y_ : List (S61), y_ = (y121 ++ [(⟨((rd_T61 l0 (a6)).f0), ((rd_T61 l0 (a6)).f1), ((rd_T61 l0 (a6)).f2)⟩ : S61)]) := ⟨_, rfl⟩
                          replace H : (some y122) = some r := by first | (rw [hy122]; with_reducible exact H) | (have H2_ := (Option.bind_some _ _).symm.trans H; rw [hy122]; with_reducible exact H2_) | (have H2_ := (Option.bind_some _ _).symm.trans H; with_reducible exact H2_) | with_reducible exact H | (rw [hy122]; exact H) | exact H
                          have Ny122 := aM hy122
                          clear hy122
                          obtain rfl := sI H
                          have p120 : 0 ≤ ((bG) : Int) := oD z2
                          have q120 : (bG) < (l0.length : Int) := oD z2
                          obtain ⟨ad120, e120, hx120_0, hx120_1, hx120_2⟩ := at_T61 (ah bd.out).2.2 (bG) p120 q120
                          obtain rfl : ad112 = ad120 := (by injection e120)
                          replace p120 := eq_true p120
                          replace q120 := eq_true q120
                          have hnb84 := bB.out
                          have hnc84 := cf.out
                          obtain ⟨oa, n9, n8, nt, nr, nq⟩ := cc3 aW.out
                          have p82 : 0 ≤ ((dv) : Int) := oD z2
                          have q82 : ((dv) : Int) < ((l0.length : Int) : Int) := oD z2
                          obtain ⟨go82, co82, eo82, uR, gl82, cl82, HG82⟩ := Kd.R_form bd.out (by omega)
                          (first | cases eo82 | (injection eo82 with ea_ en_ ec_; (first | subst ea_ | (injection ea_ with ea_; subst ea_)); subst ec_; clear en_))
                          have GB82 := aM uR
                          have GG82 := aM HG82
                          clear uR gl82 HG82
                          have HMgo82 := aM (show (P0_ go82 ∨ w.heap.size ≤ go82) from (bd.out.1 _ rfl).1)
                          (first | simp only [add_plain] at hx120_0 | skip)
                          (first | simp only [add_plain] at hx120_1 | skip)
                          (first | simp only [add_plain] at hx120_2 | skip)
                          obtain ⟨ce82, hcl82, hM82, hcc82, hfr82⟩ := Kd.R_elem bd.out z61 ((dv) : Int) p82 q82
                          obtain rfl := k61_openM hM82
                          have hx82_0 : wc.cell? ⟨go82, ((dv) : Int).toNat * 3, none⟩ = some (.int .i64 ((rd_T61 l0 (dv)).f0)) := hcc82 0 _ rfl
                          have hx82_1 : wc.cell? ⟨go82, ((dv) : Int).toNat * 3 + 1, none⟩ = some (.string ((rd_T61 l0 (dv)).f1)) := hcc82 1 _ rfl
                          have hx82_2 : wc.cell? ⟨go82, ((dv) : Int).toNat * 3 + 2, none⟩ = some (.string ((rd_T61 l0 (dv)).f2)) := hcc82 2 _ rfl
                          have hf82_0 : wc.frozen? ⟨go82, ((dv) : Int).toNat * 3, none⟩ = false := hfr82 0
                          have hf82_1 : wc.frozen? ⟨go82, ((dv) : Int).toNat * 3 + 1, none⟩ = false := hfr82 1
                          have hf82_2 : wc.frozen? ⟨go82, ((dv) : Int).toNat * 3 + 2, none⟩ = false := hfr82 2
                          clear hcl82 hcc82 hfr82; (try clear hM82)
                          replace p82 := eq_true p82
                          replace q82 := eq_true q82
                          have HX86 := aM (show Kd.R k61 61 wc w0.heap.size (fun k_ => (P0_ k_ ∨ w.heap.size ≤ k_) ∧ k_ ≠ aZ ∧ k_ ≠ bk) (.slice (some ⟨go82, 0, none⟩) l0.length pa) l0 from (kR_ bd.out))
                          obtain ⟨ce86, hcl86, hM86, hcc86, hfr86⟩ := Kd.R_elem HX86.out z61 ((dv) : Int) (oD z2) (by have h_ : ((dv) : Int) < ((l0.length : Int) : Int) := oD z2; first | exact h_ | (have e_ := (ah bd.out).1; omega) | simpa using h_)
                          obtain rfl := k61_openM hM86
                          have HP86 := Kd.R_seg HX86.out ((dv) : Int) (oD z2) (by have h_ : ((dv) : Int) < ((l0.length : Int) : Int) := oD z2; first | exact h_ | (have e_ := (ah bd.out).1; omega) | simpa using h_) (seg := [.int .i64 a1_0, .string a1_1, .string a1_2]) (j := 0) hcl86 hcc86 (show 3 ≤ 3 from by decide) (x' := (⟨a1_0, a1_1, a1_2⟩ : S61)) (k61_mkM _ _ _ (⟨a1_0, a1_1, a1_2⟩ : S61) ) (fun _ hk => hk)
                          have hx86_0 := hcc86 0 _ rfl
                          (try simp only [show (k61).sz = 3 from rfl, Nat.mul_one, Nat.add_zero] at hx86_0)
                          have hf86_0 := hfr86 0
                          (try simp only [show (k61).sz = 3 from rfl, Nat.mul_one, Nat.add_zero] at hf86_0)
                          have hx86_1 := hcc86 1 _ rfl
                          (try simp only [show (k61).sz = 3 from rfl, Nat.mul_one, Nat.add_zero] at hx86_1)
                          have hf86_1 := hfr86 1
                          (try simp only [show (k61).sz = 3 from rfl, Nat.mul_one, Nat.add_zero] at hf86_1)
                          have hx86_2 := hcc86 2 _ rfl
                          (try simp only [show (k61).sz = 3 from rfl, Nat.mul_one, Nat.add_zero] at hx86_2)
                          have hf86_2 := hfr86 2
                          (try simp only [show (k61).sz = 3 from rfl, Nat.mul_one, Nat.add_zero] at hf86_2)
                          clear hcl86 hcc86 hfr86; (try clear hM86)
                          go_wp2_with (first | ((with_reducible refine gate_store (t := 61) (p := 136) rfl ?_); refine store_event (t := 61) (p := 136) (v := ?vo_w87) (w1 := (((wc.setCell ⟨go82, ((dv) : Int).toNat * 3, none⟩ (.int .i64 a1_0)).setCell ⟨go82, ((dv) : Int).toNat * 3 + 1, none⟩ (.string a1_1)).setCell ⟨go82, ((dv) : Int).toNat * 3 + 2, none⟩ (.string a1_2))) ?hg ?ho ?hn ?hr ?_; (case ho => rfl); (case hg => rfl); (case hn => rfl); (case hr => first | (go_simp; done) | (go_simp; rfl) | ((try simp only [Int.toNat_natCast] at *); go_simp; first | done | rfl)); intro w87 hw; have hg : wc.grownBy w87 (some go82) := (by rw [hw]; exact HP86.2); have hp_ : Kd.R k61 61 w87 w0.heap.size (fun k_ => (P0_ k_ ∨ w.heap.size ≤ k_) ∧ k_ ≠ aZ ∧ k_ ≠ bk) (.slice (some ⟨go82, 0, none⟩) l0.length pa) y121 := (by rw [hw, Ny121.out]; exact HP86.1); clear HP86; replace aW := aM (blk_grown (g := aZ) (o := .cells #[.int .i64 a1_0, .string a1_1, .string a1_2] 61 (0, 0)) z6 hg (Kd.R_away bd.out (fun _ hk => hk.2.1))); replace a7 := aM (blk_grown (g := bk) (o := .cells #[.int .i64 ((rd_T61 l0 (a6)).f0), .string ((rd_T61 l0 (a6)).f1), .string ((rd_T61 l0 (a6)).f2)] 61 (0, 0)) (kB_ a7.out) hg (Kd.R_away bd.out (fun _ hk => hk.2.2))); replace HB := aM ((by rw [hw]; exact am (am (am (HB.out) GB82.out) GB82.out) GB82.out : Below w0.heap.size w0 w87)); replace HK := aM (Kept.of_grown (S := (fun k_ => P0_ k_)) hg (by repeat (first | (with_reducible first | exact HK.out | apply Kept.alloc | apply Kept.drewN | apply Kept.drew | refine Kept.setCell ?_ (.inr dJ.out) _ | refine Kept.setCell ?_ (.inr fd.out) _) | exact HK.out)) (fun k_ e_ => (bd.out.1 k_ e_).1)); replace bd := aM (hp_); clear hg hw hp_; obtain ⟨hcz88_0, hcz88_1, hcz88_2, hfz88_0, hfz88_1, hfz88_2⟩ := cc3 a7.out) | ((with_reducible refine gate_builtin (b := .append) (xs := #[.tmp 137, .tmp 139]) rfl ?_); at_builtin; refine Kd.R_append k61 (w0 := w0) w0.heap.size rfl (.tmp 137) (.tmp 139) 39 61 (.agg #[(.int .i64 0), (.string ⟨#[]⟩), (.string ⟨#[]⟩)]) 40 rfl Try.underlying39 info61 rfl (by decide) (by omega) (.slice (some ⟨go82, 0, none⟩) l0.length pa) y121 (⟨((rd_T61 l0 (a6)).f0), ((rd_T61 l0 (a6)).f1), ((rd_T61 l0 (a6)).f2)⟩ : S61) [.int .i64 ((rd_T61 l0 (a6)).f0), .string ((rd_T61 l0 (a6)).f1), .string ((rd_T61 l0 (a6)).f2)] (fun k_ => (P0_ k_ ∨ w.heap.size ≤ k_) ∧ k_ ≠ aZ ∧ k_ ≠ bk) (fun _ => False) rfl rfl ?aP (fun _ hk => hk.elim) ?aF ?aO ?aB ?aS ?aL ?_; (case aP => exact k61_mkM _ _ _ (⟨((rd_T61 l0 (a6)).f0), ((rd_T61 l0 (a6)).f1), ((rd_T61 l0 (a6)).f2)⟩ : S61)); (case aB => exact (by repeat (first | (with_reducible first | exact HB.out | apply bA | apply pD | apply bD | refine am ?_ eE.out | refine am ?_ ga.out) | exact HB.out))); (case aF => exact (fun k_ hk => ⟨(.inr (Nat.le_trans (by first | exact HK.out.1 | exact (show Kept w _ (fun k_ => P0_ k_) from by repeat (first | (with_reducible first | exact HK.out | apply Kept.alloc | apply Kept.drewN | apply Kept.drew | refine Kept.setCell ?_ (.inr dJ.out) _ | refine Kept.setCell ?_ (.inr fd.out) _) | exact HK.out)).1) hk)), Kd.freshB (g := aZ) (o := .cells #[.int .i64 a1_0, .string a1_1, .string a1_2] 61 (0, 0)) z6 k_ hk, Kd.freshB (g := bk) (o := .cells #[.int .i64 ((rd_T61 l0 (a6)).f0), .string ((rd_T61 l0 (a6)).f1), .string ((rd_T61 l0 (a6)).f2)] 61 (0, 0)) (kB_ a7.out) k_ hk⟩)); (case aO => exact (kR_ bd.out)); (case aS => exact (ap (by repeat (first | (with_reducible first | exact HB.out | apply bA | apply pD | apply bD | refine am ?_ eE.out | refine am ?_ ga.out) | exact HB.out)))); (case aL => have := LMc83.out; omega); intro v123 w89 ho hb hg hat; rw [← Ny122.out] at ho; replace aW := aM (blk_grown (g := aZ) (o := .cells #[.int .i64 a1_0, .string a1_1, .string a1_2] 61 (0, 0)) z6 hg (Kd.R_away bd.out (fun _ hk => hk.2.1))); replace a7 := aM (blk_grown (g := bk) (o := .cells #[.int .i64 ((rd_T61 l0 (a6)).f0), .string ((rd_T61 l0 (a6)).f1), .string ((rd_T61 l0 (a6)).f2)] 61 (0, 0)) (kB_ a7.out) hg (Kd.R_away bd.out (fun _ hk => hk.2.2))); replace HB := aM (hb); replace HK := aM (Kept.of_grown (S := (fun k_ => P0_ k_)) hg (by repeat (first | (with_reducible first | exact HK.out | apply Kept.alloc | apply Kept.drewN | apply Kept.drew | refine Kept.setCell ?_ (.inr dJ.out) _ | refine Kept.setCell ?_ (.inr fd.out) _) | exact HK.out)) (fun k_ e_ => (bd.out.1 k_ e_).1)); have HO124 := aM (ho); clear bd; clear ho hb hg hat))
                          all_goals (try (exfalso; rename_i h_; rw [c78b0] at h_; cases h_; done))
                          go_ret
                          exact ⟨_, by first | rfl | (simp [errW_none, errW_some] <;> rfl) | (simp only [← bR, ← ll, ← ni]; first | rfl | (simp [errW_none, errW_some] <;> rfl)) | (simp [*, errW_none, errW_some] <;> rfl), by (with_reducible repeat (first | apply ac | apply ab | apply aa)); exact ag HO124.out (fun _ hk => hk.1), y31, y37⟩
                         ·rw [if_neg wd] at H
                          exact absurd H (by simp)
                        ·rw [if_neg kY] at H
                         exact absurd H (by simp)
                       ·rw [if_neg kX] at H
                        exact absurd H (by simp)
                      ·rw [if_neg rK] at H
                       have c78b0 : (((rd_T61 l0 (bG)).f1).toList == ([] : List UInt8)) = false := qF rK
                       have c78b1 : (((rd_T61 l0 (bG)).f1).toList != ([] : List UInt8)) = true := nT rK
                       by_cases ro : ((rd_T61 l0 (bG)).f1).size + a1_1.size ≤ 9223372036854775807
                       ·rw [if_pos ro] at H
                        have c90b0 := eq_true ro
                        have c90b1 : decide (((rd_T61 l0 (bG)).f1).size + a1_1.size ≤ 9223372036854775807) = true := dT ro
                        try have c90b2 : (9223372036854775807 < ((rd_T61 l0 (bG)).f1).size + a1_1.size) = False := eq_false (Nat.not_lt.2 ro)
                        obtain ⟨y126, hy126⟩ : ∃ y_ : List (S61), y_ = (l0.set ((bG) : Int).toNat (⟨(rd_T61 l0 (bG)).f0, ((rd_T61 l0 (bG)).f1) ++ a1_1, (rd_T61 l0 (bG)).f2⟩ : S61)) := ⟨_, rfl⟩
                        replace H : (some y126) = some r := by first | (rw [hy126]; with_reducible exact H) | (have H2_ := (Option.bind_some _ _).symm.trans H; rw [hy126]; with_reducible exact H2_) | (have H2_ := (Option.bind_some _ _).symm.trans H; with_reducible exact H2_) | with_reducible exact H | (rw [hy126]; exact H) | exact H
                        have Ny126 := aM hy126
                        clear hy126
                        obtain rfl := sI H
                        have p120 : 0 ≤ ((bG) : Int) := oD z2
                        have q120 : (bG) < (l0.length : Int) := oD z2
                        obtain ⟨ad120, e120, hx120_0, hx120_1, hx120_2⟩ := at_T61 (ah bd.out).2.2 (bG) p120 q120
                        obtain rfl : ad112 = ad120 := (by injection e120)
                        replace p120 := eq_true p120
                        replace q120 := eq_true q120
                        try go_wp2
                        replace bd := aM (aa bd.out)
                        replace aW := aM (ai aW.out)
                        replace a7 := aM (ai a7.out)
                        replace HK := aM (Kept.drew HK.out)
                        replace HB := aM (bD HB.out)
                        have p125 : 0 ≤ ((bG) : Int) := oD z2
                        have q125 : (bG) < (l0.length : Int) := oD z2
                        obtain ⟨ad125, e125, hx125_0, hx125_1, hx125_2⟩ := at_T61 (ah bd.out).2.2 (bG) p125 q125
                        obtain rfl : ad112 = ad125 := (by injection e125)
                        replace p125 := eq_true p125
                        replace q125 := eq_true q125
                        have p91 : 0 ≤ ((bG) : Int) := oD z2
                        have q91 : ((bG) : Int) < ((l0.length : Int) : Int) := oD z2
                        obtain ⟨go91, co91, eo91, uQ, gl91, cl91, HG91⟩ := Kd.R_form bd.out (by omega)
                        (first | cases eo91 | (injection eo91 with ea_ en_ ec_; (first | subst ea_ | (injection ea_ with ea_; subst ea_)); subst ec_; clear en_))
                        have GB91 := aM uQ
                        have GG91 := aM HG91
                        clear uQ gl91 HG91
                        have HMgo91 := aM (show (P0_ go91 ∨ w.heap.size ≤ go91) from (bd.out.1 _ rfl).1)
                        (first | simp only [add_plain] at hx120_0 | skip)
                        (first | simp only [add_plain] at hx120_1 | skip)
                        (first | simp only [add_plain] at hx120_2 | skip)
                        (first | simp only [add_plain] at hx125_0 | skip)
                        (first | simp only [add_plain] at hx125_1 | skip)
                        (first | simp only [add_plain] at hx125_2 | skip)
                        obtain ⟨ce91, hcl91, hM91, hcc91, hfr91⟩ := Kd.R_elem bd.out z61 ((bG) : Int) p91 q91
                        obtain rfl := k61_openM hM91
                        have hx91_0 : World.cell? _ ⟨go91, ((bG) : Int).toNat * 3, none⟩ = some (.int .i64 ((rd_T61 l0 (bG)).f0)) := hcc91 0 _ rfl
                        have hx91_1 : World.cell? _ ⟨go91, ((bG) : Int).toNat * 3 + 1, none⟩ = some (.string ((rd_T61 l0 (bG)).f1)) := hcc91 1 _ rfl
                        have hx91_2 : World.cell? _ ⟨go91, ((bG) : Int).toNat * 3 + 2, none⟩ = some (.string ((rd_T61 l0 (bG)).f2)) := hcc91 2 _ rfl
                        have hf91_0 : World.frozen? _ ⟨go91, ((bG) : Int).toNat * 3, none⟩ = false := hfr91 0
                        have hf91_1 : World.frozen? _ ⟨go91, ((bG) : Int).toNat * 3 + 1, none⟩ = false := hfr91 1
                        have hf91_2 : World.frozen? _ ⟨go91, ((bG) : Int).toNat * 3 + 2, none⟩ = false := hfr91 2
                        clear hcl91 hcc91 hfr91; (try clear hM91)
                        replace p91 := eq_true p91
                        replace q91 := eq_true q91
                        obtain ⟨ce93, hcl93, hM93, hcc93, hfr93⟩ := Kd.R_elem bd.out z61 ((bG) : Int) (oD z2) (by have h_ : ((bG) : Int) < ((l0.length : Int) : Int) := oD z2; first | exact h_ | (have e_ := (ah bd.out).1; omega) | simpa using h_)
                        obtain rfl := k61_openM hM93
                        have HP93 := (Kd.R_seg bd.out ((bG) : Int) (oD z2) (by have h_ : ((bG) : Int) < ((l0.length : Int) : Int) := oD z2; first | exact h_ | (have e_ := (ah bd.out).1; omega) | simpa using h_) (seg := [.string (((rd_T61 l0 (bG)).f1) ++ a1_1)]) (j := 1) hcl93 hcc93 (show 2 ≤ 3 from by decide) (x' := (⟨(rd_T61 l0 (bG)).f0, ((rd_T61 l0 (bG)).f1) ++ a1_1, (rd_T61 l0 (bG)).f2⟩ : S61)) (k61_mkM _ _ _ (⟨(rd_T61 l0 (bG)).f0, ((rd_T61 l0 (bG)).f1) ++ a1_1, (rd_T61 l0 (bG)).f2⟩ : S61) ) (fun _ hk => hk)).1
                        rw [← Ny126.out] at HP93
                        have HQ93 := aM HP93
                        clear hcl93 hcc93 hfr93 HP93; (try clear hM93)
                        refine start_ (n := 12) (S := fun w' => w'.cell? ⟨aZ, 0, none⟩ = some (.int .i64 a1_0) ∧ w'.cell? ⟨aZ, 1, none⟩ = some (.string a1_1) ∧ w'.cell? ⟨aZ, 2, none⟩ = some (.string a1_2) ∧ w'.cell? ⟨go91, ((bG)).toNat * 3, none⟩ = some (.int .i64 ((rd_T61 l0 (bG)).f0)) ∧ w'.cell? ⟨go91, ((bG)).toNat * 3 + 1, none⟩ = some (.string ((rd_T61 l0 (bG)).f1)) ∧ w'.cell? ⟨go91, ((bG)).toNat * 3 + 2, none⟩ = some (.string ((rd_T61 l0 (bG)).f2))) (ds := [11]) #[false, false, false, false, false, false, false, false, false, false, false, false] z0 rfl rfl ⟨(bC aW.out 0).trans rfl, (bC aW.out 1).trans rfl, (bC aW.out 2).trans rfl, hx125_0, hx125_1, hx125_2⟩ (fun hHeld => ?_); refine with_tabW spec_l3Add.tab16 spec_l3Add.bits16 (fun HT_ HW_ => ?_)
                        (first | generalize wc.drew = w92 at bd aW a7 HK HB GG91 HQ93 hf91_0 hf91_1 hf91_2 hx120_0 hx120_1 hx120_2 hx125_0 hx125_1 hx125_2 hx91_0 hx91_1 hx91_2 hHeld ⊢ | generalize wc.drew = w92 at bd aW a7 HK HB GG91 HQ93 hf91_0 hf91_1 hf91_2 hx91_0 hx91_1 hx91_2 hHeld ⊢)
                        refine pA 0 120 ?_
                        refine pA 1 121 ?_
                        refine pA 2 122 ?_
                        refine pA 3 123 ?_
                        refine pA 4 124 ?_
                        refine pA 6 126 ?_
                        refine t6_ 5 125 ?_
                        refine t6_ 7 127 ?_
                        refine pA 8 128 ?_
                        refine pA 9 129 ?_
                        refine pA 10 130 ?_
                        refine last_ (i := 11) (N := none) #[true, true, true, true, true, true, true, true, true, true, true, true] rfl rfl (one_of HT_.out z0) (by decide) (fun K hK => ?_)
                        refine skip_ (w1 := ?_) (by rfl) rfl ?_ ?_
                        rotate_left
                        ·go_simp
                         rfl
                        refine hK.out _ _ ?_
                        clear hK K
                        refine done_ (done_of HT_.out z0) ?_
                        try go_wp2
                        go_ret
                        exact ⟨_, by first | rfl | (simp [errW_none, errW_some] <;> rfl) | (simp only [← bR, ← ll]; first | rfl | (simp [errW_none, errW_some] <;> rfl)) | (simp [*, errW_none, errW_some] <;> rfl), by (with_reducible repeat (first | apply ac | apply ab | apply aa)); exact ag HQ93.out (fun _ hk => hk.1), by repeat (first | (with_reducible first | exact HB.out | apply bA | apply pD | apply bD | refine am ?_ GB91.out | refine am ?_ eE.out | refine am ?_ ga.out) | exact HB.out), by repeat (first | (with_reducible first | exact HK.out | apply Kept.alloc | apply Kept.drewN | apply Kept.drew | refine Kept.setCell ?_ HMgo91.out _ | refine Kept.setCell ?_ (.inr dJ.out) _ | refine Kept.setCell ?_ (.inr fd.out) _) | exact HK.out)⟩
                       ·rw [if_neg ro] at H
                        exact absurd H (by simp)
                     ·rw [if_neg tm] at H
                      exact absurd H (by simp)
                    ·rw [if_neg we] at H
                     exact absurd H (by simp)
                   ·rw [if_neg kZ] at H
                    have c74b0 : decide (1 < (l0.length : Int)) = false := dF kZ
                    have c74b1 : decide (1 < l0.length) = false := dF (by omega)
                    clear kZ
                    obtain ⟨du, nh⟩ : ∃ j_ : Int, (wrap64 ((l0.length : Int) - 1)) = j_ := ⟨_, rfl⟩
                    (try clear hji16w); (try clear bR)
                    replace H : (if 0 ≤ (du) then (if (du) < (l0.length : Int) then ((some (l0.set ((du) : Int).toNat (⟨a1_0, a1_1, a1_2⟩ : S61) : List (S61))).bind fun y127 => (if y127.length < 3518437208883 then (some (y127 ++ [(⟨((rd_T61 l0 (a6)).f0), ((rd_T61 l0 (a6)).f1), ((rd_T61 l0 (a6)).f2)⟩ : S61)])) else (none))) else (none)) else (none)) = some r := by first | (rw [nh] at H; exact H) | (simp only [nh] at H ⊢; exact H)
                    have hji94w : (IntKind.i64.wrap ((l0.length : Int) - 1)) = du := (i64_w _).trans nh
                    by_cases wb : 0 ≤ (du)
                    ·rw [if_pos wb] at H
                     have c95b0 : decide (0 ≤ (du)) = true := dT wb
                     clear wb
                     by_cases wa : (du) < (l0.length : Int)
                     ·rw [if_pos wa] at H
                      have c96b0 : decide ((du) < (l0.length : Int)) = true := dT wa
                      clear wa
                      obtain ⟨y127, hy127⟩ : ∃ y_ : List (S61), y_ = (l0.set ((du) : Int).toNat (⟨a1_0, a1_1, a1_2⟩ : S61)) := ⟨_, rfl⟩
                      replace H : (if y127.length < 3518437208883 then (some (y127 ++ [(⟨((rd_T61 l0 (a6)).f0), ((rd_T61 l0 (a6)).f1), ((rd_T61 l0 (a6)).f2)⟩ : S61)])) else (none)) = some r := by first | (rw [hy127]; with_reducible exact H) | (have H2_ := (Option.bind_some _ _).symm.trans H; rw [hy127]; with_reducible exact H2_) | (have H2_ := (Option.bind_some _ _).symm.trans H; with_reducible exact H2_) | with_reducible exact H | (rw [hy127]; exact H) | exact H
                      have Ny127 := aM hy127
                      clear hy127
                      by_cases u2 : y127.length < 3518437208883
                      ·rw [if_pos u2] at H
                       have LMc98 := aM u2
                       clear u2
                       obtain ⟨y128, hy128⟩ : ∃ y_ : List (S61), y_ = (y127 ++ [(⟨((rd_T61 l0 (a6)).f0), ((rd_T61 l0 (a6)).f1), ((rd_T61 l0 (a6)).f2)⟩ : S61)]) := ⟨_, rfl⟩
                       replace H : (some y128) = some r := by first | (rw [hy128]; with_reducible exact H) | (have H2_ := (Option.bind_some _ _).symm.trans H; rw [hy128]; with_reducible exact H2_) | (have H2_ := (Option.bind_some _ _).symm.trans H; with_reducible exact H2_) | with_reducible exact H | (rw [hy128]; exact H) | exact H
                       have Ny128 := aM hy128
                       clear hy128
                       obtain rfl := sI H
                       have hnb99 := bB.out
                       have hnc99 := cf.out
                       obtain ⟨lF, lE, lD, lw, lv, lu⟩ := cc3 aW.out
                       have p97 : 0 ≤ ((du) : Int) := oD z2
                       have q97 : ((du) : Int) < ((l0.length : Int) : Int) := oD z2
                       obtain ⟨go97, uV, eo97, uP, gl97, cl97, HG97⟩ := Kd.R_form bd.out (by omega)
                       (first | cases eo97 | (injection eo97 with ea_ en_ ec_; (first | subst ea_ | (injection ea_ with ea_; subst ea_)); subst ec_; clear en_))
                       have GB97 := aM uP
                       have GG97 := aM HG97
                       clear uP gl97 HG97
                       have HMgo97 := aM (show (P0_ go97 ∨ w.heap.size ≤ go97) from (bd.out.1 _ rfl).1)
                       obtain ⟨ce97, hcl97, hM97, hcc97, hfr97⟩ := Kd.R_elem bd.out z61 ((du) : Int) p97 q97
                       obtain rfl := k61_openM hM97
                       have hx97_0 : wc.cell? ⟨go97, ((du) : Int).toNat * 3, none⟩ = some (.int .i64 ((rd_T61 l0 (du)).f0)) := hcc97 0 _ rfl
                       have hx97_1 : wc.cell? ⟨go97, ((du) : Int).toNat * 3 + 1, none⟩ = some (.string ((rd_T61 l0 (du)).f1)) := hcc97 1 _ rfl
                       have hx97_2 : wc.cell? ⟨go97, ((du) : Int).toNat * 3 + 2, none⟩ = some (.string ((rd_T61 l0 (du)).f2)) := hcc97 2 _ rfl
                       have hf97_0 : wc.frozen? ⟨go97, ((du) : Int).toNat * 3, none⟩ = false := hfr97 0
                       have hf97_1 : wc.frozen? ⟨go97, ((du) : Int).toNat * 3 + 1, none⟩ = false := hfr97 1
                       have hf97_2 : wc.frozen? ⟨go97, ((du) : Int).toNat * 3 + 2, none⟩ = false := hfr97 2
                       clear hcl97 hcc97 hfr97; (try clear hM97)
                       replace p97 := eq_true p97
                       replace q97 := eq_true q97
                       have HX101 := aM (show Kd.R k61 61 wc w0.heap.size (fun k_ => (P0_ k_ ∨ w.heap.size ≤ k_) ∧ k_ ≠ aZ ∧ k_ ≠ bk) (.slice (some ⟨go97, 0, none⟩) l0.length pa) l0 from (kR_ bd.out))
                       obtain ⟨ce101, hcl101, hM101, hcc101, hfr101⟩ := Kd.R_elem HX101.out z61 ((du) : Int) (oD z2) (by have h_ : ((du) : Int) < ((l0.length : Int) : Int) := oD z2; first | exact h_ | (have e_ := (ah bd.out).1; omega) | simpa using h_)
                       obtain rfl := k61_openM hM101
                       have HP101 := Kd.R_seg HX101.out ((du) : Int) (oD z2) (by have h_ : ((du) : Int) < ((l0.length : Int) : Int) := oD z2; first | exact h_ | (have e_ := (ah bd.out).1; omega) | simpa using h_) (seg := [.int .i64 a1_0, .string a1_1, .string a1_2]) (j := 0) hcl101 hcc101 (show 3 ≤ 3 from by decide) (x' := (⟨a1_0, a1_1, a1_2⟩ : S61)) (k61_mkM _ _ _ (⟨a1_0, a1_1, a1_2⟩ : S61) ) (fun _ hk => hk)
                       have hx101_0 := hcc101 0 _ rfl
                       (try simp only [show (k61).sz = 3 from rfl, Nat.mul_one, Nat.add_zero] at hx101_0)
                       have hf101_0 := hfr101 0
                       (try simp only [show (k61).sz = 3 from rfl, Nat.mul_one, Nat.add_zero] at hf101_0)
                       have hx101_1 := hcc101 1 _ rfl
                       (try simp only [show (k61).sz = 3 from rfl, Nat.mul_one, Nat.add_zero] at hx101_1)
                       have hf101_1 := hfr101 1
                       (try simp only [show (k61).sz = 3 from rfl, Nat.mul_one, Nat.add_zero] at hf101_1)
                       have hx101_2 := hcc101 2 _ rfl
                       (try simp only [show (k61).sz = 3 from rfl, Nat.mul_one, Nat.add_zero] at hx101_2)
                       have hf101_2 := hfr101 2
                       (try simp only [show (k61).sz = 3 from rfl, Nat.mul_one, Nat.add_zero] at hf101_2)
                       clear hcl101 hcc101 hfr101; (try clear hM101)
                       go_wp2_with (first | ((with_reducible refine gate_store (t := 61) (p := 136) rfl ?_); refine store_event (t := 61) (p := 136) (v := ?vo_w102) (w1 := (((wc.setCell ⟨go97, ((du) : Int).toNat * 3, none⟩ (.int .i64 a1_0)).setCell ⟨go97, ((du) : Int).toNat * 3 + 1, none⟩ (.string a1_1)).setCell ⟨go97, ((du) : Int).toNat * 3 + 2, none⟩ (.string a1_2))) ?hg ?ho ?hn ?hr ?_; (case ho => rfl); (case hg => rfl); (case hn => rfl); (case hr => first | (go_simp; done) | (go_simp; rfl) | ((try simp only [Int.toNat_natCast] at *); go_simp; first | done | rfl)); intro w102 hw; have hg : wc.grownBy w102 (some go97) := (by rw [hw]; exact HP101.2); have hp_ : Kd.R k61 61 w102 w0.heap.size (fun k_ => (P0_ k_ ∨ w.heap.size ≤ k_) ∧ k_ ≠ aZ ∧ k_ ≠ bk) (.slice (some ⟨go97, 0, none⟩) l0.length pa) y127 := (by rw [hw, Ny127.out]; exact HP101.1); clear HP101; replace aW := aM (blk_grown (g := aZ) (o := .cells #[.int .i64 a1_0, .string a1_1, .string a1_2] 61 (0, 0)) z6 hg (Kd.R_away bd.out (fun _ hk => hk.2.1))); replace a7 := aM (blk_grown (g := bk) (o := .cells #[.int .i64 ((rd_T61 l0 (a6)).f0), .string ((rd_T61 l0 (a6)).f1), .string ((rd_T61 l0 (a6)).f2)] 61 (0, 0)) (kB_ a7.out) hg (Kd.R_away bd.out (fun _ hk => hk.2.2))); replace HB := aM ((by rw [hw]; exact am (am (am (HB.out) GB97.out) GB97.out) GB97.out : Below w0.heap.size w0 w102)); replace HK := aM (Kept.of_grown (S := (fun k_ => P0_ k_)) hg (by repeat (first | (with_reducible first | exact HK.out | apply Kept.alloc | apply Kept.drewN | apply Kept.drew | refine Kept.setCell ?_ (.inr dJ.out) _ | refine Kept.setCell ?_ (.inr fd.out) _) | exact HK.out)) (fun k_ e_ => (bd.out.1 k_ e_).1)); replace bd := aM (hp_); clear hg hw hp_; obtain ⟨lC, lB, lA, ls, lr, lq⟩ := cc3 a7.out) | ((with_reducible refine gate_builtin (b := .append) (xs := #[.tmp 137, .tmp 139]) rfl ?_); at_builtin; refine Kd.R_append k61 (w0 := w0) w0.heap.size rfl (.tmp 137) (.tmp 139) 39 61 (.agg #[(.int .i64 0), (.string ⟨#[]⟩), (.string ⟨#[]⟩)]) 40 rfl Try.underlying39 info61 rfl (by decide) (by omega) (.slice (some ⟨go97, 0, none⟩) l0.length pa) y127 (⟨((rd_T61 l0 (a6)).f0), ((rd_T61 l0 (a6)).f1), ((rd_T61 l0 (a6)).f2)⟩ : S61) [.int .i64 ((rd_T61 l0 (a6)).f0), .string ((rd_T61 l0 (a6)).f1), .string ((rd_T61 l0 (a6)).f2)] (fun k_ => (P0_ k_ ∨ w.heap.size ≤ k_) ∧ k_ ≠ aZ ∧ k_ ≠ bk) (fun _ => False) rfl rfl ?aP (fun _ hk => hk.elim) ?aF ?aO ?aB ?aS ?aL ?_; (case aP => exact k61_mkM _ _ _ (⟨((rd_T61 l0 (a6)).f0), ((rd_T61 l0 (a6)).f1), ((rd_T61 l0 (a6)).f2)⟩ : S61)); (case aB => exact (by repeat (first | (with_reducible first | exact HB.out | apply bA | apply pD | apply bD | refine am ?_ eE.out | refine am ?_ ga.out) | exact HB.out))); (case aF => exact (fun k_ hk => ⟨(.inr (Nat.le_trans (by first | exact HK.out.1 | exact (show Kept w _ (fun k_ => P0_ k_) from by repeat (first | (with_reducible first | exact HK.out | apply Kept.alloc | apply Kept.drewN | apply Kept.drew | refine Kept.setCell ?_ (.inr dJ.out) _ | refine Kept.setCell ?_ (.inr fd.out) _) | exact HK.out)).1) hk)), Kd.freshB (g := aZ) (o := .cells #[.int .i64 a1_0, .string a1_1, .string a1_2] 61 (0, 0)) z6 k_ hk, Kd.freshB (g := bk) (o := .cells #[.int .i64 ((rd_T61 l0 (a6)).f0), .string ((rd_T61 l0 (a6)).f1), .string ((rd_T61 l0 (a6)).f2)] 61 (0, 0)) (kB_ a7.out) k_ hk⟩)); (case aO => exact (kR_ bd.out)); (case aS => exact (ap (by repeat (first | (with_reducible first | exact HB.out | apply bA | apply pD | apply bD | refine am ?_ eE.out | refine am ?_ ga.out) | exact HB.out)))); (case aL => have := LMc98.out; omega); intro v129 w104 ho hb hg hat; rw [← Ny128.out] at ho; replace aW := aM (blk_grown (g := aZ) (o := .cells #[.int .i64 a1_0, .string a1_1, .string a1_2] 61 (0, 0)) z6 hg (Kd.R_away bd.out (fun _ hk => hk.2.1))); replace a7 := aM (blk_grown (g := bk) (o := .cells #[.int .i64 ((rd_T61 l0 (a6)).f0), .string ((rd_T61 l0 (a6)).f1), .string ((rd_T61 l0 (a6)).f2)] 61 (0, 0)) (kB_ a7.out) hg (Kd.R_away bd.out (fun _ hk => hk.2.2))); replace HB := aM (hb); replace HK := aM (Kept.of_grown (S := (fun k_ => P0_ k_)) hg (by repeat (first | (with_reducible first | exact HK.out | apply Kept.alloc | apply Kept.drewN | apply Kept.drew | refine Kept.setCell ?_ (.inr dJ.out) _ | refine Kept.setCell ?_ (.inr fd.out) _) | exact HK.out)) (fun k_ e_ => (bd.out.1 k_ e_).1)); have HO130 := aM (ho); clear bd; clear ho hb hg hat))
                       go_ret
                       exact ⟨_, by first | rfl | (simp [errW_none, errW_some] <;> rfl) | (simp only [← bR, ← nh]; first | rfl | (simp [errW_none, errW_some] <;> rfl)) | (simp [*, errW_none, errW_some] <;> rfl), by (with_reducible repeat (first | apply ac | apply ab | apply aa)); exact ag HO130.out (fun _ hk => hk.1), y31, y37⟩
                      ·rw [if_neg u2] at H
                       exact absurd H (by simp)
                     ·rw [if_neg wa] at H
                      exact absurd H (by simp)
                    ·rw [if_neg wb] at H
                     exact absurd H (by simp)
                  ·replace wg := Bool.eq_false_iff.mpr wg
                   subst wg
                   rw [if_neg nF_] at H
                   by_cases fa : l0.length < 3518437208883
                   ·rw [if_pos fa] at H
                    have LMc105 := aM fa
                    clear fa
                    obtain ⟨y131, hy131⟩ : ∃ y_ : List (S61), y_ = (l0 ++ [(⟨a1_0, a1_1, a1_2⟩ : S61)]) := ⟨_, rfl⟩
                    replace H : (some y131) = some r := by first | (rw [hy131]; with_reducible exact H) | (have H2_ := (Option.bind_some _ _).symm.trans H; rw [hy131]; with_reducible exact H2_) | (have H2_ := (Option.bind_some _ _).symm.trans H; with_reducible exact H2_) | with_reducible exact H | (rw [hy131]; exact H) | exact H
                    have Ny131 := aM hy131
                    clear hy131
                    obtain rfl := sI H
                    have hnb106 := bB.out
                    have hnc106 := cf.out
                    obtain ⟨lz, ly, lx, lp, ln, lm⟩ := cc3 aW.out
                    go_wp2_with (first | ((with_reducible refine gate_builtin (b := .append) (xs := #[.tmp 36, .tmp 38]) rfl ?_); at_builtin; refine Kd.R_append k61 (w0 := w0) w0.heap.size rfl (.tmp 36) (.tmp 38) 39 61 (.agg #[(.int .i64 0), (.string ⟨#[]⟩), (.string ⟨#[]⟩)]) 40 rfl Try.underlying39 info61 rfl (by decide) (by omega) (.slice (some ad112) l0.length pa) l0 (⟨a1_0, a1_1, a1_2⟩ : S61) [.int .i64 a1_0, .string a1_1, .string a1_2] (fun k_ => (P0_ k_ ∨ w.heap.size ≤ k_) ∧ k_ ≠ aZ ∧ k_ ≠ bk) (fun _ => False) rfl rfl ?aP (fun _ hk => hk.elim) ?aF ?aO ?aB ?aS ?aL ?_; (case aP => exact k61_mkM _ _ _ (⟨a1_0, a1_1, a1_2⟩ : S61)); (case aB => exact (by repeat (first | (with_reducible first | exact HB.out | apply bA | apply pD | apply bD | refine am ?_ eE.out | refine am ?_ ga.out) | exact HB.out))); (case aF => exact (fun k_ hk => ⟨(.inr (Nat.le_trans (by first | exact HK.out.1 | exact (show Kept w _ (fun k_ => P0_ k_) from by repeat (first | (with_reducible first | exact HK.out | apply Kept.alloc | apply Kept.drewN | apply Kept.drew | refine Kept.setCell ?_ (.inr dJ.out) _ | refine Kept.setCell ?_ (.inr fd.out) _) | exact HK.out)).1) hk)), Kd.freshB (g := aZ) (o := .cells #[.int .i64 a1_0, .string a1_1, .string a1_2] 61 (0, 0)) z6 k_ hk, Kd.freshB (g := bk) (o := .cells #[.int .i64 ((rd_T61 l0 (a6)).f0), .string ((rd_T61 l0 (a6)).f1), .string ((rd_T61 l0 (a6)).f2)] 61 (0, 0)) (kB_ a7.out) k_ hk⟩)); (case aO => exact (kR_ bd.out)); (case aS => exact (ap (by repeat (first | (with_reducible first | exact HB.out | apply bA | apply pD | apply bD | refine am ?_ eE.out | refine am ?_ ga.out) | exact HB.out)))); (case aL => have := LMc105.out; omega); intro v132 w108 ho hb hg hat; rw [← Ny131.out] at ho; replace aW := aM (blk_grown (g := aZ) (o := .cells #[.int .i64 a1_0, .string a1_1, .string a1_2] 61 (0, 0)) z6 hg (Kd.R_away bd.out (fun _ hk => hk.2.1))); replace a7 := aM (blk_grown (g := bk) (o := .cells #[.int .i64 ((rd_T61 l0 (a6)).f0), .string ((rd_T61 l0 (a6)).f1), .string ((rd_T61 l0 (a6)).f2)] 61 (0, 0)) (kB_ a7.out) hg (Kd.R_away bd.out (fun _ hk => hk.2.2))); replace HB := aM (hb); replace HK := aM (Kept.of_grown (S := (fun k_ => P0_ k_)) hg (by repeat (first | (with_reducible first | exact HK.out | apply Kept.alloc | apply Kept.drewN | apply Kept.drew | refine Kept.setCell ?_ (.inr dJ.out) _ | refine Kept.setCell ?_ (.inr fd.out) _) | exact HK.out)) (fun k_ e_ => (bd.out.1 k_ e_).1)); have HO133 := aM (ho); clear bd; clear ho hb hg hat))
                    go_ret
                    exact ⟨_, by first | rfl | (simp [errW_none, errW_some] <;> rfl) | (simp only [← bR]; first | rfl | (simp [errW_none, errW_some] <;> rfl)) | (simp [*, errW_none, errW_some] <;> rfl), by (with_reducible repeat (first | apply ac | apply ab | apply aa)); exact ag HO133.out (fun _ hk => hk.1), y31, y37⟩
                   ·rw [if_neg fa] at H
                    exact absurd H (by simp)
      ·rw [if_neg d8] at H
       exact absurd H (by simp)
     ·rw [if_neg dy] at H
      exact absurd H (by simp)

end Go.Proofs.Ytmigfgcpdelnfaa.AFnCommands
