-- this session's own text: written by wip/tools/ownprint.py over the kit's print
import Derived.Test.YtblnnbaeiggmoaaAFnExactEditRopex0
namespace Go.Proofs.Ytblnnbaeiggmoaa.AFnExactEditRope
open Go.RowKit Go.Proofs.YtblnnbaeiggmoaaW.PrintWords Go.Proofs.YtblnnbaeiggmoaaW.PrintLast Go.Proofs.YtblnnbaeiggmoaaW.PrintMore
attribute [local go_sem] max2_int min2_int max_two min_two max_three min_three max_four min_four   -- for this text's walks alone
set_option linter.unusedVariables false
set_option linter.unusedSimpArgs false

/-! ### laws_markText: function 46 -/
def laws_markText.l0 : Nat → Int → ByteArray → Option (ByteArray)
 | 0, _, _ => none
 | k + 1, x0, x3 => if x0 > 0 then ((some (([(wrap64 (48 + (Int.tmod x0 10))) % 256] : List Int) : List Int)).bind fun y244 => (if (strOfNums y244).size + x3.size ≤ 9223372036854775807 then (laws_markText.l0 k (wrap64 (Int.tdiv x0 10)) ((strOfNums y244) ++ x3)) else (none))) else (if 1 + x3.size ≤ 9223372036854775807 then (some ((⟨#[109]⟩ : ByteArray) ++ x3)) else (none))
def laws_markText.f (k : Nat) (a0 : Int) : Option (ByteArray) := if a0 ≤ 0 then (some (⟨#[109, 48]⟩ : ByteArray)) else (laws_markText.l0 k a0 (⟨#[]⟩ : ByteArray))
theorem laws_markText.mono_l : ∀ k, (∀ y0 y1, LeO (laws_markText.l0 k y0 y1) (laws_markText.l0 (k + 1) y0 y1))
 | 0 => fun _ _ r h => by simp [laws_markText.l0] at h
 | k + 1 => by
  have ih0 := laws_markText.mono_l k
  ·intro y0 y1
   unfold laws_markText.l0
   repeat' first
   | (with_reducible exact ih0 _ _)
   | (with_reducible exact LeO.refl _)
   | (with_reducible exact LeO.none _)
   | (with_reducible refine LeO.ite ?_ ?_)
   | (with_reducible refine LeO.bind ?_ (fun _ => ?_))
   | exact ih0 _ _
   | exact LeO.none _
   | refine LeO.ite ?_ ?_
   | refine LeO.bind ?_ (fun _ => ?_)
theorem laws_markText.mono : ∀ a0 k, LeO (laws_markText.f k a0) (laws_markText.f (k + 1) a0) := by
 intro a0 k
 have ih0 := laws_markText.mono_l k
 unfold laws_markText.f
 repeat' first
   | (with_reducible exact ih0 _ _)
   | (with_reducible exact LeO.refl _)
   | (with_reducible exact LeO.none _)
   | (with_reducible refine LeO.ite ?_ ?_)
   | (with_reducible refine LeO.bind ?_ (fun _ => ?_))
   | exact ih0 _ _
   | exact LeO.none _
   | refine LeO.ite ?_ ?_
   | refine LeO.bind ?_ (fun _ => ?_)
set_option maxHeartbeats 8000000 in
set_option maxRecDepth 100000 in
theorem laws_markText.calls (k : Nat) (a0 : Int) (r : ByteArray) (w : World) (h : laws_markText.f k a0 = some r) :
  Calls Try.prog 46 #[.int .i64 a0] w fun e w' => e = .returned (.string r) ∧ Below w.heap.size w w' := by
 have HB := aM (Below.refl w.heap.size w)
 have H : (if a0 ≤ 0 then (some (⟨#[109, 48]⟩ : ByteArray)) else (laws_markText.l0 k a0 (⟨#[]⟩ : ByteArray))) = some r := h
 clear h
 by_cases c2 : a0 ≤ 0
 ·rw [if_pos c2] at H
  have c2b0 : decide (a0 ≤ 0) = true := dT c2
  clear c2
  obtain rfl := sI H
  go_enter Try.func46, Try.ntmps46
  go_wp2
  go_ret
  exact ⟨y3, y4⟩
 ·rw [if_neg c2] at H
  have c2b0 : decide (a0 ≤ 0) = false := dF c2
  clear c2
  have H' := aM H
  clear H
  go_enter Try.func46, Try.ntmps46
  go_wp2
  go_loopg [0, 3] k (fun kq v0 v3 w' => ∃ (x0_1 : Int) (x3_1 : ByteArray), v0 = .int .i64 x0_1 ∧ v3 = .string x3_1 ∧ Aside0 (laws_markText.l0 kq x0_1 x3_1 = some r) ∧ Aside0 (kq ≤ k) ∧ Aside0 (Below w.heap.size w w'))
  case atStart => exact ⟨(a0), ((⟨#[]⟩ : ByteArray)), z1, z1, H', ⟨Nat.le_refl _⟩, ⟨y4⟩⟩
  case round =>
   clear H'
   try clear c2
   try clear c2b0
   try clear p2
   obtain ⟨x0_1, x3_1, rfl, rfl, HA, HK1, HB⟩ := hrel
   cases gk with
   | zero => exact absurd HA.out (by simp [laws_markText.l0])
   | succ k1 =>
    have H := HA.out
    clear HA
    simp only [laws_markText.l0] at H
    by_cases c3 : x0_1 > 0
    ·rw [if_pos c3] at H
     have c3b0 : decide (0 < x0_1) = true := dT c3
     clear c3
     obtain ⟨y244, hy244⟩ : ∃ y_ : List Int, y_ = (([(wrap64 (48 + (Int.tmod x0_1 10))) % 256] : List Int)) := ⟨_, rfl⟩
     replace H : (if (strOfNums y244).size + x3_1.size ≤ 9223372036854775807 then (laws_markText.l0 k1 (wrap64 (Int.tdiv x0_1 10)) ((strOfNums y244) ++ x3_1)) else (none)) = some r := by first | (rw [hy244]; with_reducible exact H) | (have H2_ := (Option.bind_some _ _).symm.trans H; rw [hy244]; with_reducible exact H2_) | (have H2_ := (Option.bind_some _ _).symm.trans H; with_reducible exact H2_) | with_reducible exact H | (rw [hy244]; exact H) | exact H
     have Ny244 := aM hy244
     clear hy244
     by_cases c4 : (strOfNums y244).size + x3_1.size ≤ 9223372036854775807
     ·rw [if_pos c4] at H
      have c4b0 := eq_true c4
      have c4b1 : decide ((strOfNums y244).size + x3_1.size ≤ 9223372036854775807) = true := dT c4
      try have c4b2 : (9223372036854775807 < (strOfNums y244).size + x3_1.size) = False := eq_false (Nat.not_lt.2 c4)
      have H' := aM H
      clear H
      go_wp2_with (first | ((with_reducible refine aJ (N := 12) rfl ?_); refine Kd.R_lit (Kd.int .u8) _ 5 ?hg (N := 12) ?hd (xs := ([(wrap64 (48 + (Int.tmod x0_1 10))) % 256] : List Int)) (inner := [.int .u8 ((wrap64 (48 + (Int.tmod x0_1 10))) % 256)]) (ok := fun _ => True) (okp := fun _ => True) ?hr ?hp (fun _ hk => hk) trivial (Below.refl _ _) (Nat.le_refl _) (by simp) ?_; (case hd => rfl); (case hg => rfl); (case hr => first | (go_simp; done) | (go_simp; rfl)); (case hp => exact (Reps.one (show Kd.M (Kd.int .u8) _ _ _ ((wrap64 (48 + (Int.tmod x0_1 10))) % 256) [.int .u8 ((wrap64 (48 + (Int.tmod x0_1 10))) % 256)] from rfl) (Reps.none _ _))); intro v245 w5 ho6 hb hg_ hnew_; clear hg_ hnew_; (first | rw [← Ny244.out] at ho6 | (simp only [Int.reduceToNat] at ho6; rw [← Ny244.out] at ho6)); have a6 := aM (aT ho6 (az z11)); have ba := aM (ay z11 hb); clear HB; have HO246 := a6; have HB := ba; clear a6 ba; clear hb ho6; have hcv7 := own_string (P := Try.prog) Try.underlying41 Try.underlying5 Try.underlying9 (Kd.own_of_R HO246.out)))
      go_roundg k1
      case measure => have := HK1.out; omega
      case rel => exact ⟨(wrap64 (Int.tdiv x0_1 10)), ((strOfNums y244) ++ x3_1), z1, z1, H', ⟨y0⟩, ⟨y4⟩⟩
     ·rw [if_neg c4] at H
      exact absurd H (by simp)
    ·rw [if_neg c3] at H
     have c3b0 : decide (0 < x0_1) = false := dF c3
     clear c3
     by_cases c8 : 1 + x3_1.size ≤ 9223372036854775807
     ·rw [if_pos c8] at H
      have c8b0 := eq_true c8
      have c8b1 : decide (1 + x3_1.size ≤ 9223372036854775807) = true := dT c8
      try have c8b2 : (9223372036854775807 < 1 + x3_1.size) = False := eq_false (Nat.not_lt.2 c8)
      obtain rfl := sI H
      go_wp2
      go_ret
      exact ⟨y3, y4⟩
     ·rw [if_neg c8] at H
      exact absurd H (by simp)

/-! ### laws_markBoughS: function 45 -/
def laws_markBoughS.l0 : Nat → List (S101) → Int → Int → Option (Int × (List (S101)))
 | 0, _, _, _ => none
 | k + 1, x0, x1, x5 => if x5 < (x0.length : Int) then (if 0 ≤ x5 then ((some (x0.set (x5 : Int).toNat (⟨x1, (rd_T101 x0 x5).f1, (rd_T101 x0 x5).f2, (rd_T101 x0 x5).f3, (rd_T101 x0 x5).f4⟩ : S101) : List (S101))).bind fun y247 => ((some (y247.set (x5 : Int).toNat (⟨(rd_T101 y247 x5).f0, wrap64 (x1 + 1), (rd_T101 y247 x5).f2, (rd_T101 y247 x5).f3, (rd_T101 y247 x5).f4⟩ : S101) : List (S101))).bind fun y248 => ((laws_markText.f k (wrap64 ((wrap64 (x1 + 1)) + 1))).bind fun fW => ((some (y248.set (x5 : Int).toNat (⟨(rd_T101 y248 x5).f0, (rd_T101 y248 x5).f1, fW, (rd_T101 y248 x5).f3, (rd_T101 y248 x5).f4⟩ : S101) : List (S101))).bind fun y250 => ((some (y250.set (x5 : Int).toNat (⟨(rd_T101 y250 x5).f0, (rd_T101 y250 x5).f1, (rd_T101 y250 x5).f2, wrap64 ((wrap64 ((wrap64 (x1 + 1)) + 1)) + 1), (rd_T101 y250 x5).f4⟩ : S101) : List (S101))).bind fun y251 => (laws_markBoughS.l0 k (y251.set (x5 : Int).toNat (⟨(rd_T101 y251 x5).f0, (rd_T101 y251 x5).f1, (rd_T101 y251 x5).f2, (rd_T101 y251 x5).f3, wrap64 ((wrap64 ((wrap64 ((wrap64 (x1 + 1)) + 1)) + 1)) + 1)⟩ : S101)) (wrap64 ((wrap64 ((wrap64 ((wrap64 ((wrap64 (x1 + 1)) + 1)) + 1)) + 1)) + 1)) (wrap64 (x5 + 1)))))))) else (none)) else (some (x1, x0))
def laws_markBoughS.f (k : Nat) (l0 : List (S101)) (a1 : Int) : Option (Int × (List (S101))) := laws_markBoughS.l0 k l0 a1 0
theorem laws_markBoughS.mono_l : ∀ k, (∀ y0 y1 y2, LeO (laws_markBoughS.l0 k y0 y1 y2) (laws_markBoughS.l0 (k + 1) y0 y1 y2))
 | 0 => fun _ _ _ r h => by simp [laws_markBoughS.l0] at h
 | k + 1 => by
  have ih0 := laws_markBoughS.mono_l k
  ·intro y0 y1 y2
   unfold laws_markBoughS.l0
   repeat' first
   | (with_reducible exact ih0 _ _ _)
   | (with_reducible exact laws_markText.mono _ _)
   | (with_reducible exact LeO.refl _)
   | (with_reducible exact LeO.none _)
   | (with_reducible refine LeO.ite ?_ ?_)
   | (with_reducible refine LeO.bind ?_ (fun _ => ?_))
   | exact ih0 _ _ _
   | exact laws_markText.mono _ _
   | exact LeO.none _
   | refine LeO.ite ?_ ?_
   | refine LeO.bind ?_ (fun _ => ?_)
theorem laws_markBoughS.mono : ∀ a0 a1 k, LeO (laws_markBoughS.f k a0 a1) (laws_markBoughS.f (k + 1) a0 a1) := by
 intro a0 a1 k
 have ih0 := laws_markBoughS.mono_l k
 unfold laws_markBoughS.f
 repeat' first
   | (with_reducible exact ih0 _ _ _)
   | (with_reducible exact laws_markText.mono _ _)
   | (with_reducible exact LeO.refl _)
   | (with_reducible exact LeO.none _)
   | (with_reducible refine LeO.ite ?_ ?_)
   | (with_reducible refine LeO.bind ?_ (fun _ => ?_))
   | exact ih0 _ _ _
   | exact laws_markText.mono _ _
   | exact LeO.none _
   | refine LeO.ite ?_ ?_
   | refine LeO.bind ?_ (fun _ => ?_)
set_option maxHeartbeats 8000000 in
set_option maxRecDepth 100000 in
theorem laws_markBoughS.calls (k : Nat) (P0_ : Nat → Prop) (u9000_ : Value) (l0 : List (S101)) (a1 : Int) (r1 : Int) (r2 : List (S101)) (w0 w : World) (hB : Below w0.heap.size w0 w) (ho0 : Kd.R k101 101 w w0.heap.size P0_ u9000_ l0) (h : laws_markBoughS.f k l0 a1 = some (r1, r2)) :
  Calls Try.prog 45 #[u9000_, .int .i64 a1] w fun e w' => e = .returned (.int .i64 r1) ∧ Kd.R k101 101 w' w0.heap.size (fun k_ => (P0_ k_ ∨ w.heap.size ≤ k_)) u9000_ r2 ∧ Below w0.heap.size w0 w' ∧ Kept w w' (fun k_ => P0_ k_) := by
 have oA := aM (show Kd.R k101 101 w w0.heap.size (fun k_ => (P0_ k_ ∨ w.heap.size ≤ k_)) u9000_ l0 from ah ho0 (fun k_ hk => (.inl hk)))
 have HK := aM (Kept.refl w (fun k_ => P0_ k_))
 have HW0 := aM hB.size
 have HB := aM hB
 clear hB
 have H : (laws_markBoughS.l0 k l0 a1 0) = some (r1, r2) := h
 clear h
 have H' := aM H
 clear H
 go_enter Try.func45, Try.ntmps45
 go_wp2
 go_loopg [1, 5] k (fun kq v1 v5 w' => ∃ (x0_1 : List (S101)) (x1_1 : Int) (x5_1 : Int), v1 = .int .i64 x1_1 ∧ v5 = .int .i64 x5_1 ∧ Aside0 (laws_markBoughS.l0 kq x0_1 x1_1 x5_1 = some (r1, r2)) ∧ Aside0 (kq ≤ k) ∧ Aside0 (Kd.R k101 101 w' w0.heap.size (fun k_ => (P0_ k_ ∨ w.heap.size ≤ k_)) u9000_ x0_1) ∧ Aside0 (Kept w w' (fun k_ => P0_ k_)) ∧ Aside0 (Below w0.heap.size w0 w'))
 case atStart => exact ⟨(l0), (a1), (0), z1, z1, H', ⟨Nat.le_refl _⟩, ⟨by (with_reducible repeat (first | apply ae | apply ac | apply aa)); exact oA.out⟩, ⟨y11⟩, ⟨y4⟩⟩
 case round =>
  clear H'
  try clear p2
  obtain ⟨x0_1, x1_1, x5_1, rfl, rfl, HA, HK1, bO, HK, HB⟩ := hrel
  cases gk with
  | zero => exact absurd HA.out (by simp [laws_markBoughS.l0])
  | succ k1 =>
   have H := HA.out
   clear HA
   simp only [laws_markBoughS.l0] at H
   by_cases c3 : x5_1 < (x0_1.length : Int)
   ·rw [if_pos c3] at H
    have c3b0 : decide (x5_1 < (x0_1.length : Int)) = true := dT c3
    clear c3
    by_cases c4 : 0 ≤ x5_1
    ·rw [if_pos c4] at H
     have c4b0 : decide (0 ≤ x5_1) = true := dT c4
     clear c4
     obtain ⟨y247, hy247⟩ : ∃ y_ : List (S101), y_ = (x0_1.set (x5_1 : Int).toNat (⟨x1_1, (rd_T101 x0_1 x5_1).f1, (rd_T101 x0_1 x5_1).f2, (rd_T101 x0_1 x5_1).f3, (rd_T101 x0_1 x5_1).f4⟩ : S101)) := ⟨_, rfl⟩
     replace H : ((some (y247.set (x5_1 : Int).toNat (⟨(rd_T101 y247 x5_1).f0, wrap64 (x1_1 + 1), (rd_T101 y247 x5_1).f2, (rd_T101 y247 x5_1).f3, (rd_T101 y247 x5_1).f4⟩ : S101) : List (S101))).bind fun y248 => ((laws_markText.f k1 (wrap64 ((wrap64 (x1_1 + 1)) + 1))).bind fun fW => ((some (y248.set (x5_1 : Int).toNat (⟨(rd_T101 y248 x5_1).f0, (rd_T101 y248 x5_1).f1, fW, (rd_T101 y248 x5_1).f3, (rd_T101 y248 x5_1).f4⟩ : S101) : List (S101))).bind fun y250 => ((some (y250.set (x5_1 : Int).toNat (⟨(rd_T101 y250 x5_1).f0, (rd_T101 y250 x5_1).f1, (rd_T101 y250 x5_1).f2, wrap64 ((wrap64 ((wrap64 (x1_1 + 1)) + 1)) + 1), (rd_T101 y250 x5_1).f4⟩ : S101) : List (S101))).bind fun y251 => (laws_markBoughS.l0 k1 (y251.set (x5_1 : Int).toNat (⟨(rd_T101 y251 x5_1).f0, (rd_T101 y251 x5_1).f1, (rd_T101 y251 x5_1).f2, (rd_T101 y251 x5_1).f3, wrap64 ((wrap64 ((wrap64 ((wrap64 (x1_1 + 1)) + 1)) + 1)) + 1)⟩ : S101)) (wrap64 ((wrap64 ((wrap64 ((wrap64 ((wrap64 (x1_1 + 1)) + 1)) + 1)) + 1)) + 1)) (wrap64 (x5_1 + 1))))))) = some (r1, r2) := by first | (rw [hy247]; with_reducible exact H) | (have H2_ := (Option.bind_some _ _).symm.trans H; rw [hy247]; with_reducible exact H2_) | (have H2_ := (Option.bind_some _ _).symm.trans H; with_reducible exact H2_) | with_reducible exact H | (rw [hy247]; exact H) | exact H
     have Ny247 := aM hy247
     clear hy247
     obtain ⟨y248, hy248⟩ : ∃ y_ : List (S101), y_ = (y247.set (x5_1 : Int).toNat (⟨(rd_T101 y247 x5_1).f0, wrap64 (x1_1 + 1), (rd_T101 y247 x5_1).f2, (rd_T101 y247 x5_1).f3, (rd_T101 y247 x5_1).f4⟩ : S101)) := ⟨_, rfl⟩
     replace H : ((laws_markText.f k1 (wrap64 ((wrap64 (x1_1 + 1)) + 1))).bind fun fW => ((some (y248.set (x5_1 : Int).toNat (⟨(rd_T101 y248 x5_1).f0, (rd_T101 y248 x5_1).f1, fW, (rd_T101 y248 x5_1).f3, (rd_T101 y248 x5_1).f4⟩ : S101) : List (S101))).bind fun y250 => ((some (y250.set (x5_1 : Int).toNat (⟨(rd_T101 y250 x5_1).f0, (rd_T101 y250 x5_1).f1, (rd_T101 y250 x5_1).f2, wrap64 ((wrap64 ((wrap64 (x1_1 + 1)) + 1)) + 1), (rd_T101 y250 x5_1).f4⟩ : S101) : List (S101))).bind fun y251 => (laws_markBoughS.l0 k1 (y251.set (x5_1 : Int).toNat (⟨(rd_T101 y251 x5_1).f0, (rd_T101 y251 x5_1).f1, (rd_T101 y251 x5_1).f2, (rd_T101 y251 x5_1).f3, wrap64 ((wrap64 ((wrap64 ((wrap64 (x1_1 + 1)) + 1)) + 1)) + 1)⟩ : S101)) (wrap64 ((wrap64 ((wrap64 ((wrap64 ((wrap64 (x1_1 + 1)) + 1)) + 1)) + 1)) + 1)) (wrap64 (x5_1 + 1)))))) = some (r1, r2) := by first | (rw [hy248]; with_reducible exact H) | (have H2_ := (Option.bind_some _ _).symm.trans H; rw [hy248]; with_reducible exact H2_) | (have H2_ := (Option.bind_some _ _).symm.trans H; with_reducible exact H2_) | with_reducible exact H | (rw [hy248]; exact H) | exact H
     have Ny248 := aM hy248
     clear hy248
     replace H := oB H
     obtain ⟨fW, jI, H⟩ := H
     try dsimp only at H
     have A7 := aM jI
     clear jI
     obtain ⟨y250, hy250⟩ : ∃ y_ : List (S101), y_ = (y248.set (x5_1 : Int).toNat (⟨(rd_T101 y248 x5_1).f0, (rd_T101 y248 x5_1).f1, fW, (rd_T101 y248 x5_1).f3, (rd_T101 y248 x5_1).f4⟩ : S101)) := ⟨_, rfl⟩
     replace H : ((some (y250.set (x5_1 : Int).toNat (⟨(rd_T101 y250 x5_1).f0, (rd_T101 y250 x5_1).f1, (rd_T101 y250 x5_1).f2, wrap64 ((wrap64 ((wrap64 (x1_1 + 1)) + 1)) + 1), (rd_T101 y250 x5_1).f4⟩ : S101) : List (S101))).bind fun y251 => (laws_markBoughS.l0 k1 (y251.set (x5_1 : Int).toNat (⟨(rd_T101 y251 x5_1).f0, (rd_T101 y251 x5_1).f1, (rd_T101 y251 x5_1).f2, (rd_T101 y251 x5_1).f3, wrap64 ((wrap64 ((wrap64 ((wrap64 (x1_1 + 1)) + 1)) + 1)) + 1)⟩ : S101)) (wrap64 ((wrap64 ((wrap64 ((wrap64 ((wrap64 (x1_1 + 1)) + 1)) + 1)) + 1)) + 1)) (wrap64 (x5_1 + 1)))) = some (r1, r2) := by first | (rw [hy250]; with_reducible exact H) | (have H2_ := (Option.bind_some _ _).symm.trans H; rw [hy250]; with_reducible exact H2_) | (have H2_ := (Option.bind_some _ _).symm.trans H; with_reducible exact H2_) | with_reducible exact H | (rw [hy250]; exact H) | exact H
     have Ny250 := aM hy250
     clear hy250
     obtain ⟨y251, hy251⟩ : ∃ y_ : List (S101), y_ = (y250.set (x5_1 : Int).toNat (⟨(rd_T101 y250 x5_1).f0, (rd_T101 y250 x5_1).f1, (rd_T101 y250 x5_1).f2, wrap64 ((wrap64 ((wrap64 (x1_1 + 1)) + 1)) + 1), (rd_T101 y250 x5_1).f4⟩ : S101)) := ⟨_, rfl⟩
     replace H : (laws_markBoughS.l0 k1 (y251.set (x5_1 : Int).toNat (⟨(rd_T101 y251 x5_1).f0, (rd_T101 y251 x5_1).f1, (rd_T101 y251 x5_1).f2, (rd_T101 y251 x5_1).f3, wrap64 ((wrap64 ((wrap64 ((wrap64 (x1_1 + 1)) + 1)) + 1)) + 1)⟩ : S101)) (wrap64 ((wrap64 ((wrap64 ((wrap64 ((wrap64 (x1_1 + 1)) + 1)) + 1)) + 1)) + 1)) (wrap64 (x5_1 + 1))) = some (r1, r2) := by first | (rw [hy251]; with_reducible exact H) | (have H2_ := (Option.bind_some _ _).symm.trans H; rw [hy251]; with_reducible exact H2_) | (have H2_ := (Option.bind_some _ _).symm.trans H; with_reducible exact H2_) | with_reducible exact H | (rw [hy251]; exact H) | exact H
     have Ny251 := aM hy251
     clear hy251
     obtain ⟨y252, hy252⟩ : ∃ y_ : List (S101), y_ = (y251.set (x5_1 : Int).toNat (⟨(rd_T101 y251 x5_1).f0, (rd_T101 y251 x5_1).f1, (rd_T101 y251 x5_1).f2, (rd_T101 y251 x5_1).f3, wrap64 ((wrap64 ((wrap64 ((wrap64 (x1_1 + 1)) + 1)) + 1)) + 1)⟩ : S101)) := ⟨_, rfl⟩
     replace H : (laws_markBoughS.l0 k1 y252 (wrap64 ((wrap64 ((wrap64 ((wrap64 ((wrap64 (x1_1 + 1)) + 1)) + 1)) + 1)) + 1)) (wrap64 (x5_1 + 1))) = some (r1, r2) := by first | (rw [hy252]; with_reducible exact H) | (have H2_ := (Option.bind_some _ _).symm.trans H; rw [hy252]; with_reducible exact H2_) | (have H2_ := (Option.bind_some _ _).symm.trans H; with_reducible exact H2_) | with_reducible exact H | (rw [hy252]; exact H) | exact H
     have Ny252 := aM hy252
     clear hy252
     have H' := aM H
     clear H
     obtain ⟨Ao11, gS, eo11⟩ := Kd.R_slice bO.out
     subst eo11
     have p5 : 0 ≤ (x5_1 : Int) := oD z2
     have q5 : (x5_1 : Int) < ((x0_1.length : Int) : Int) := oD z2
     obtain ⟨go5, m0, eo5, nN, gl5, cl5, HG5⟩ := Kd.R_form bO.out (by omega)
     (first | cases eo5 | (injection eo5 with ea_ en_ ec_; (first | subst ea_ | (injection ea_ with ea_; subst ea_)); subst ec_; clear en_))
     have GB5 := aM nN
     have GG5 := aM HG5
     clear nN gl5 HG5
     have HMgo5 := aM (show (P0_ go5 ∨ w.heap.size ≤ go5) from (bO.out.1 _ rfl))
     obtain ⟨ce5, hcl5, hM5, hcc5, hfr5⟩ := Kd.R_elem bO.out z101 (x5_1 : Int) p5 q5
     obtain rfl := k101_openM hM5
     have hx5_0 : wr.cell? ⟨go5, (x5_1 : Int).toNat * 5, none⟩ = some (.int .i64 ((rd_T101 x0_1 x5_1).f0)) := hcc5 0 _ rfl
     have hx5_1 : wr.cell? ⟨go5, (x5_1 : Int).toNat * 5 + 1, none⟩ = some (.int .i64 ((rd_T101 x0_1 x5_1).f1)) := hcc5 1 _ rfl
     have hx5_2 : wr.cell? ⟨go5, (x5_1 : Int).toNat * 5 + 2, none⟩ = some (.string ((rd_T101 x0_1 x5_1).f2)) := hcc5 2 _ rfl
     have hx5_3 : wr.cell? ⟨go5, (x5_1 : Int).toNat * 5 + 3, none⟩ = some (.int .i64 ((rd_T101 x0_1 x5_1).f3)) := hcc5 3 _ rfl
     have hx5_4 : wr.cell? ⟨go5, (x5_1 : Int).toNat * 5 + 4, none⟩ = some (.int .i64 ((rd_T101 x0_1 x5_1).f4)) := hcc5 4 _ rfl
     have hf5_0 : wr.frozen? ⟨go5, (x5_1 : Int).toNat * 5, none⟩ = false := hfr5 0
     have hf5_1 : wr.frozen? ⟨go5, (x5_1 : Int).toNat * 5 + 1, none⟩ = false := hfr5 1
     have hf5_2 : wr.frozen? ⟨go5, (x5_1 : Int).toNat * 5 + 2, none⟩ = false := hfr5 2
     have hf5_3 : wr.frozen? ⟨go5, (x5_1 : Int).toNat * 5 + 3, none⟩ = false := hfr5 3
     have hf5_4 : wr.frozen? ⟨go5, (x5_1 : Int).toNat * 5 + 4, none⟩ = false := hfr5 4
     clear hcl5 hcc5 hfr5; (try clear hM5)
     replace p5 := eq_true p5
     replace q5 := eq_true q5
     have HX12 := aM (show Kd.R k101 101 wr w0.heap.size (fun k_ => (P0_ k_ ∨ w.heap.size ≤ k_)) (.slice (some ⟨go5, 0, none⟩) x0_1.length gS) x0_1 from (by (with_reducible repeat (first | apply ae | apply ac | apply aa)); exact bO.out))
     obtain ⟨ce12, hcl12, hM12, hcc12, hfr12⟩ := Kd.R_elem HX12.out z101 (x5_1 : Int) (oD z2) (by have h_ : (x5_1 : Int) < ((x0_1.length : Int) : Int) := oD z2; first | exact h_ | (have e_ := (ai bO.out).1; omega) | simpa using h_)
     obtain rfl := k101_openM hM12
     have HP12 := Kd.R_seg HX12.out (x5_1 : Int) (oD z2) (by have h_ : (x5_1 : Int) < ((x0_1.length : Int) : Int) := oD z2; first | exact h_ | (have e_ := (ai bO.out).1; omega) | simpa using h_) (seg := [.int .i64 x1_1]) (j := 0) hcl12 hcc12 (show 1 ≤ 5 from by decide) (x' := (⟨x1_1, (rd_T101 x0_1 x5_1).f1, (rd_T101 x0_1 x5_1).f2, (rd_T101 x0_1 x5_1).f3, (rd_T101 x0_1 x5_1).f4⟩ : S101)) (k101_mkM _ _ _ (⟨x1_1, (rd_T101 x0_1 x5_1).f1, (rd_T101 x0_1 x5_1).f2, (rd_T101 x0_1 x5_1).f3, (rd_T101 x0_1 x5_1).f4⟩ : S101) ) (fun _ hk => hk)
     have hx12_0 := hcc12 0 _ rfl
     (try simp only [show (k101).sz = 5 from rfl, Nat.mul_one, Nat.add_zero] at hx12_0)
     have hf12_0 := hfr12 0
     (try simp only [show (k101).sz = 5 from rfl, Nat.mul_one, Nat.add_zero] at hf12_0)
     clear hcl12 hcc12 hfr12; (try clear hM12)
     go_wp2_with (first | ((with_reducible refine gate_store (t := 3) (p := 16) rfl ?_); refine store_event (t := 3) (p := 16) (v := ?vo_w13) (w1 := (wr.setCell ⟨go5, (x5_1 : Int).toNat * 5, none⟩ (.int .i64 x1_1))) ?hg ?ho ?hn ?hr ?_; (case ho => rfl); (case hg => rfl); (case hn => rfl); (case hr => first | (go_simp; done) | (go_simp; rfl) | ((try simp only [aV] at *); go_simp; first | done | rfl)); intro w13 hw; have hg : wr.grownBy w13 (some go5) := (by rw [hw]; exact HP12.2); have hp_ : Kd.R k101 101 w13 w0.heap.size (fun k_ => (P0_ k_ ∨ w.heap.size ≤ k_)) (.slice (some ⟨go5, 0, none⟩) x0_1.length gS) y247 := (by rw [hw, Ny247.out]; exact HP12.1); clear HP12; have a6 := aM (hp_); have ba := aM ((by rw [hw]; exact ax (HB.out) GB5.out : Below w0.heap.size w0 w13)); have bb := aM (Kept.of_grown (S := (fun k_ => P0_ k_)) hg (by repeat (first | (with_reducible first | exact HK.out | apply Kept.alloc | apply Kept.drewN | apply Kept.drew) | exact HK.out)) (fun k_ e_ => (bO.out.1 k_ e_))); clear bO; clear HB; clear HK; have bO := a6; have HB := ba; have HK := bb; clear a6 ba bb; clear hg hw hp_; have p6 : 0 ≤ (x5_1 : Int) := oD z2; have q6 : (x5_1 : Int) < ((x0_1.length : Int) : Int) := oD z2; obtain ⟨ce6, hcl6, hM6, hcc6, hfr6⟩ := Kd.R_elem bO.out z101 (x5_1 : Int) p6 q6; obtain rfl := k101_openM hM6; have hx6_0 : w13.cell? ⟨go5, (x5_1 : Int).toNat * 5, none⟩ = some (.int .i64 ((rd_T101 y247 x5_1).f0)) := hcc6 0 _ rfl; have hx6_1 : w13.cell? ⟨go5, (x5_1 : Int).toNat * 5 + 1, none⟩ = some (.int .i64 ((rd_T101 y247 x5_1).f1)) := hcc6 1 _ rfl; have hx6_2 : w13.cell? ⟨go5, (x5_1 : Int).toNat * 5 + 2, none⟩ = some (.string ((rd_T101 y247 x5_1).f2)) := hcc6 2 _ rfl; have hx6_3 : w13.cell? ⟨go5, (x5_1 : Int).toNat * 5 + 3, none⟩ = some (.int .i64 ((rd_T101 y247 x5_1).f3)) := hcc6 3 _ rfl; have hx6_4 : w13.cell? ⟨go5, (x5_1 : Int).toNat * 5 + 4, none⟩ = some (.int .i64 ((rd_T101 y247 x5_1).f4)) := hcc6 4 _ rfl; have hf6_0 : w13.frozen? ⟨go5, (x5_1 : Int).toNat * 5, none⟩ = false := hfr6 0; have hf6_1 : w13.frozen? ⟨go5, (x5_1 : Int).toNat * 5 + 1, none⟩ = false := hfr6 1; have hf6_2 : w13.frozen? ⟨go5, (x5_1 : Int).toNat * 5 + 2, none⟩ = false := hfr6 2; have hf6_3 : w13.frozen? ⟨go5, (x5_1 : Int).toNat * 5 + 3, none⟩ = false := hfr6 3; have hf6_4 : w13.frozen? ⟨go5, (x5_1 : Int).toNat * 5 + 4, none⟩ = false := hfr6 4; clear hcl6 hcc6 hfr6; (try clear hM6); replace p6 := eq_true p6; replace q6 := eq_true q6; have HX14 := aM (show Kd.R k101 101 w13 w0.heap.size (fun k_ => (P0_ k_ ∨ w.heap.size ≤ k_)) (.slice (some ⟨go5, 0, none⟩) x0_1.length gS) y247 from (by (with_reducible repeat (first | apply ae | apply ac | apply aa)); exact bO.out)); obtain ⟨ce14, hcl14, hM14, hcc14, hfr14⟩ := Kd.R_elem HX14.out z101 (x5_1 : Int) (oD z2) (by have h_ : (x5_1 : Int) < ((x0_1.length : Int) : Int) := oD z2; first | exact h_ | (have e_ := (ai bO.out).1; omega) | simpa using h_); obtain rfl := k101_openM hM14; have HP14 := Kd.R_seg HX14.out (x5_1 : Int) (oD z2) (by have h_ : (x5_1 : Int) < ((x0_1.length : Int) : Int) := oD z2; first | exact h_ | (have e_ := (ai bO.out).1; omega) | simpa using h_) (seg := [.int .i64 (wrap64 (x1_1 + 1))]) (j := 1) hcl14 hcc14 (show 2 ≤ 5 from by decide) (x' := (⟨(rd_T101 y247 x5_1).f0, wrap64 (x1_1 + 1), (rd_T101 y247 x5_1).f2, (rd_T101 y247 x5_1).f3, (rd_T101 y247 x5_1).f4⟩ : S101)) (k101_mkM _ _ _ (⟨(rd_T101 y247 x5_1).f0, wrap64 (x1_1 + 1), (rd_T101 y247 x5_1).f2, (rd_T101 y247 x5_1).f3, (rd_T101 y247 x5_1).f4⟩ : S101) ) (fun _ hk => hk); have hx14_1 := hcc14 1 _ rfl; (try simp only [show (k101).sz = 5 from rfl, Nat.mul_one, Nat.add_zero] at hx14_1); have hf14_1 := hfr14 1; (try simp only [show (k101).sz = 5 from rfl, Nat.mul_one, Nat.add_zero] at hf14_1); clear hcl14 hcc14 hfr14; (try clear hM14)) | ((with_reducible refine gate_store (t := 3) (p := 23) rfl ?_); refine store_event (t := 3) (p := 23) (v := ?vo_w15) (w1 := (w13.setCell ⟨go5, (x5_1 : Int).toNat * 5 + 1, none⟩ (.int .i64 (wrap64 (x1_1 + 1))))) ?hg ?ho ?hn ?hr ?_; (case ho => rfl); (case hg => rfl); (case hn => rfl); (case hr => first | (go_simp; done) | (go_simp; rfl) | ((try simp only [aV] at *); go_simp; first | done | rfl)); intro w15 hw; have hg : w13.grownBy w15 (some go5) := (by rw [hw]; exact HP14.2); have hp_ : Kd.R k101 101 w15 w0.heap.size (fun k_ => (P0_ k_ ∨ w.heap.size ≤ k_)) (.slice (some ⟨go5, 0, none⟩) x0_1.length gS) y248 := (by rw [hw, Ny248.out]; exact HP14.1); clear HP14; have a6 := aM (hp_); have ba := aM ((by rw [hw]; exact ax (HB.out) GB5.out : Below w0.heap.size w0 w15)); have bb := aM (Kept.of_grown (S := (fun k_ => P0_ k_)) hg (by repeat (first | (with_reducible first | exact HK.out | apply Kept.alloc | apply Kept.drewN | apply Kept.drew) | exact HK.out)) (fun k_ e_ => (bO.out.1 k_ e_))); clear bO; clear HB; clear HK; have bO := a6; have HB := ba; have HK := bb; clear a6 ba bb; clear hg hw hp_) | ((with_reducible refine aI (f := 46) rfl ?_); refine aN (some 29) rfl rfl Try.func46 z0 rfl #[.int .i64 (wrap64 ((wrap64 (x1_1 + 1)) + 1))] rfl z12 ?_; (with_reducible refine (laws_markText.calls k1 (wrap64 ((wrap64 (x1_1 + 1)) + 1)) fW _ A7.out).mono ?_); rintro e w16 ⟨rfl, hb⟩; refine ⟨_, rfl, ?_⟩; have a6 := aM (ag (by (with_reducible repeat (first | apply ae | apply ac | apply aa)); exact bO.out) hb); have ba := aM (Kept.below (S := (fun k_ => P0_ k_)) (by repeat (first | (with_reducible first | exact HK.out | apply Kept.alloc | apply Kept.drewN | apply Kept.drew) | exact HK.out)) hb); have bb := aM (ay z11 hb); clear bO; clear HK; clear HB; have bO := a6; have HK := ba; have HB := bb; clear a6 ba bb; (try clear hb); (try clear hb2); (try clear hk); (try clear hi); have p8 : 0 ≤ (x5_1 : Int) := oD z2; have q8 : (x5_1 : Int) < ((x0_1.length : Int) : Int) := oD z2; obtain ⟨ce8, hcl8, hM8, hcc8, hfr8⟩ := Kd.R_elem bO.out z101 (x5_1 : Int) p8 q8; obtain rfl := k101_openM hM8; have hx8_0 : w16.cell? ⟨go5, (x5_1 : Int).toNat * 5, none⟩ = some (.int .i64 ((rd_T101 y248 x5_1).f0)) := hcc8 0 _ rfl; have hx8_1 : w16.cell? ⟨go5, (x5_1 : Int).toNat * 5 + 1, none⟩ = some (.int .i64 ((rd_T101 y248 x5_1).f1)) := hcc8 1 _ rfl; have hx8_2 : w16.cell? ⟨go5, (x5_1 : Int).toNat * 5 + 2, none⟩ = some (.string ((rd_T101 y248 x5_1).f2)) := hcc8 2 _ rfl; have hx8_3 : w16.cell? ⟨go5, (x5_1 : Int).toNat * 5 + 3, none⟩ = some (.int .i64 ((rd_T101 y248 x5_1).f3)) := hcc8 3 _ rfl; have hx8_4 : w16.cell? ⟨go5, (x5_1 : Int).toNat * 5 + 4, none⟩ = some (.int .i64 ((rd_T101 y248 x5_1).f4)) := hcc8 4 _ rfl; have hf8_0 : w16.frozen? ⟨go5, (x5_1 : Int).toNat * 5, none⟩ = false := hfr8 0; have hf8_1 : w16.frozen? ⟨go5, (x5_1 : Int).toNat * 5 + 1, none⟩ = false := hfr8 1; have hf8_2 : w16.frozen? ⟨go5, (x5_1 : Int).toNat * 5 + 2, none⟩ = false := hfr8 2; have hf8_3 : w16.frozen? ⟨go5, (x5_1 : Int).toNat * 5 + 3, none⟩ = false := hfr8 3; have hf8_4 : w16.frozen? ⟨go5, (x5_1 : Int).toNat * 5 + 4, none⟩ = false := hfr8 4; clear hcl8 hcc8 hfr8; (try clear hM8); replace p8 := eq_true p8; replace q8 := eq_true q8; have HX17 := aM (show Kd.R k101 101 w16 w0.heap.size (fun k_ => (P0_ k_ ∨ w.heap.size ≤ k_)) (.slice (some ⟨go5, 0, none⟩) x0_1.length gS) y248 from (by (with_reducible repeat (first | apply ae | apply ac | apply aa)); exact bO.out)); obtain ⟨ce17, hcl17, hM17, hcc17, hfr17⟩ := Kd.R_elem HX17.out z101 (x5_1 : Int) (oD z2) (by have h_ : (x5_1 : Int) < ((x0_1.length : Int) : Int) := oD z2; first | exact h_ | (have e_ := (ai bO.out).1; omega) | simpa using h_); obtain rfl := k101_openM hM17; have HP17 := Kd.R_seg HX17.out (x5_1 : Int) (oD z2) (by have h_ : (x5_1 : Int) < ((x0_1.length : Int) : Int) := oD z2; first | exact h_ | (have e_ := (ai bO.out).1; omega) | simpa using h_) (seg := [.string fW]) (j := 2) hcl17 hcc17 (show 3 ≤ 5 from by decide) (x' := (⟨(rd_T101 y248 x5_1).f0, (rd_T101 y248 x5_1).f1, fW, (rd_T101 y248 x5_1).f3, (rd_T101 y248 x5_1).f4⟩ : S101)) (k101_mkM _ _ _ (⟨(rd_T101 y248 x5_1).f0, (rd_T101 y248 x5_1).f1, fW, (rd_T101 y248 x5_1).f3, (rd_T101 y248 x5_1).f4⟩ : S101) ) (fun _ hk => hk); have hx17_2 := hcc17 2 _ rfl; (try simp only [show (k101).sz = 5 from rfl, Nat.mul_one, Nat.add_zero] at hx17_2); have hf17_2 := hfr17 2; (try simp only [show (k101).sz = 5 from rfl, Nat.mul_one, Nat.add_zero] at hf17_2); clear hcl17 hcc17 hfr17; (try clear hM17)) | ((with_reducible refine gate_store (t := 9) (p := 31) rfl ?_); refine store_event (t := 9) (p := 31) (v := ?vo_w18) (w1 := (w16.setCell ⟨go5, (x5_1 : Int).toNat * 5 + 2, none⟩ (.string fW))) ?hg ?ho ?hn ?hr ?_; (case ho => rfl); (case hg => rfl); (case hn => rfl); (case hr => first | (go_simp; done) | (go_simp; rfl) | ((try simp only [aV] at *); go_simp; first | done | rfl)); intro w18 hw; have hg : w16.grownBy w18 (some go5) := (by rw [hw]; exact HP17.2); have hp_ : Kd.R k101 101 w18 w0.heap.size (fun k_ => (P0_ k_ ∨ w.heap.size ≤ k_)) (.slice (some ⟨go5, 0, none⟩) x0_1.length gS) y250 := (by rw [hw, Ny250.out]; exact HP17.1); clear HP17; have a6 := aM (hp_); have ba := aM ((by rw [hw]; exact ax (HB.out) GB5.out : Below w0.heap.size w0 w18)); have bb := aM (Kept.of_grown (S := (fun k_ => P0_ k_)) hg (by repeat (first | (with_reducible first | exact HK.out | apply Kept.alloc | apply Kept.drewN | apply Kept.drew) | exact HK.out)) (fun k_ e_ => (bO.out.1 k_ e_))); clear bO; clear HB; clear HK; have bO := a6; have HB := ba; have HK := bb; clear a6 ba bb; clear hg hw hp_; have p9 : 0 ≤ (x5_1 : Int) := oD z2; have q9 : (x5_1 : Int) < ((x0_1.length : Int) : Int) := oD z2; obtain ⟨ce9, hcl9, hM9, hcc9, hfr9⟩ := Kd.R_elem bO.out z101 (x5_1 : Int) p9 q9; obtain rfl := k101_openM hM9; have hx9_0 : w18.cell? ⟨go5, (x5_1 : Int).toNat * 5, none⟩ = some (.int .i64 ((rd_T101 y250 x5_1).f0)) := hcc9 0 _ rfl; have hx9_1 : w18.cell? ⟨go5, (x5_1 : Int).toNat * 5 + 1, none⟩ = some (.int .i64 ((rd_T101 y250 x5_1).f1)) := hcc9 1 _ rfl; have hx9_2 : w18.cell? ⟨go5, (x5_1 : Int).toNat * 5 + 2, none⟩ = some (.string ((rd_T101 y250 x5_1).f2)) := hcc9 2 _ rfl; have hx9_3 : w18.cell? ⟨go5, (x5_1 : Int).toNat * 5 + 3, none⟩ = some (.int .i64 ((rd_T101 y250 x5_1).f3)) := hcc9 3 _ rfl; have hx9_4 : w18.cell? ⟨go5, (x5_1 : Int).toNat * 5 + 4, none⟩ = some (.int .i64 ((rd_T101 y250 x5_1).f4)) := hcc9 4 _ rfl; have hf9_0 : w18.frozen? ⟨go5, (x5_1 : Int).toNat * 5, none⟩ = false := hfr9 0; have hf9_1 : w18.frozen? ⟨go5, (x5_1 : Int).toNat * 5 + 1, none⟩ = false := hfr9 1; have hf9_2 : w18.frozen? ⟨go5, (x5_1 : Int).toNat * 5 + 2, none⟩ = false := hfr9 2; have hf9_3 : w18.frozen? ⟨go5, (x5_1 : Int).toNat * 5 + 3, none⟩ = false := hfr9 3; have hf9_4 : w18.frozen? ⟨go5, (x5_1 : Int).toNat * 5 + 4, none⟩ = false := hfr9 4; clear hcl9 hcc9 hfr9; (try clear hM9); replace p9 := eq_true p9; replace q9 := eq_true q9; have HX19 := aM (show Kd.R k101 101 w18 w0.heap.size (fun k_ => (P0_ k_ ∨ w.heap.size ≤ k_)) (.slice (some ⟨go5, 0, none⟩) x0_1.length gS) y250 from (by (with_reducible repeat (first | apply ae | apply ac | apply aa)); exact bO.out)); obtain ⟨ce19, hcl19, hM19, hcc19, hfr19⟩ := Kd.R_elem HX19.out z101 (x5_1 : Int) (oD z2) (by have h_ : (x5_1 : Int) < ((x0_1.length : Int) : Int) := oD z2; first | exact h_ | (have e_ := (ai bO.out).1; omega) | simpa using h_); obtain rfl := k101_openM hM19; have HP19 := Kd.R_seg HX19.out (x5_1 : Int) (oD z2) (by have h_ : (x5_1 : Int) < ((x0_1.length : Int) : Int) := oD z2; first | exact h_ | (have e_ := (ai bO.out).1; omega) | simpa using h_) (seg := [.int .i64 (wrap64 ((wrap64 ((wrap64 (x1_1 + 1)) + 1)) + 1))]) (j := 3) hcl19 hcc19 (show 4 ≤ 5 from by decide) (x' := (⟨(rd_T101 y250 x5_1).f0, (rd_T101 y250 x5_1).f1, (rd_T101 y250 x5_1).f2, wrap64 ((wrap64 ((wrap64 (x1_1 + 1)) + 1)) + 1), (rd_T101 y250 x5_1).f4⟩ : S101)) (k101_mkM _ _ _ (⟨(rd_T101 y250 x5_1).f0, (rd_T101 y250 x5_1).f1, (rd_T101 y250 x5_1).f2, wrap64 ((wrap64 ((wrap64 (x1_1 + 1)) + 1)) + 1), (rd_T101 y250 x5_1).f4⟩ : S101) ) (fun _ hk => hk); have hx19_3 := hcc19 3 _ rfl; (try simp only [show (k101).sz = 5 from rfl, Nat.mul_one, Nat.add_zero] at hx19_3); have hf19_3 := hfr19 3; (try simp only [show (k101).sz = 5 from rfl, Nat.mul_one, Nat.add_zero] at hf19_3); clear hcl19 hcc19 hfr19; (try clear hM19)) | ((with_reducible refine gate_store (t := 3) (p := 38) rfl ?_); refine store_event (t := 3) (p := 38) (v := ?vo_w20) (w1 := (w18.setCell ⟨go5, (x5_1 : Int).toNat * 5 + 3, none⟩ (.int .i64 (wrap64 ((wrap64 ((wrap64 (x1_1 + 1)) + 1)) + 1))))) ?hg ?ho ?hn ?hr ?_; (case ho => rfl); (case hg => rfl); (case hn => rfl); (case hr => first | (go_simp; done) | (go_simp; rfl) | ((try simp only [aV] at *); go_simp; first | done | rfl)); intro w20 hw; have hg : w18.grownBy w20 (some go5) := (by rw [hw]; exact HP19.2); have hp_ : Kd.R k101 101 w20 w0.heap.size (fun k_ => (P0_ k_ ∨ w.heap.size ≤ k_)) (.slice (some ⟨go5, 0, none⟩) x0_1.length gS) y251 := (by rw [hw, Ny251.out]; exact HP19.1); clear HP19; have a6 := aM (hp_); have ba := aM ((by rw [hw]; exact ax (HB.out) GB5.out : Below w0.heap.size w0 w20)); have bb := aM (Kept.of_grown (S := (fun k_ => P0_ k_)) hg (by repeat (first | (with_reducible first | exact HK.out | apply Kept.alloc | apply Kept.drewN | apply Kept.drew) | exact HK.out)) (fun k_ e_ => (bO.out.1 k_ e_))); clear bO; clear HB; clear HK; have bO := a6; have HB := ba; have HK := bb; clear a6 ba bb; clear hg hw hp_; have p10 : 0 ≤ (x5_1 : Int) := oD z2; have q10 : (x5_1 : Int) < ((x0_1.length : Int) : Int) := oD z2; obtain ⟨ce10, hcl10, hM10, hcc10, hfr10⟩ := Kd.R_elem bO.out z101 (x5_1 : Int) p10 q10; obtain rfl := k101_openM hM10; have hx10_0 : w20.cell? ⟨go5, (x5_1 : Int).toNat * 5, none⟩ = some (.int .i64 ((rd_T101 y251 x5_1).f0)) := hcc10 0 _ rfl; have hx10_1 : w20.cell? ⟨go5, (x5_1 : Int).toNat * 5 + 1, none⟩ = some (.int .i64 ((rd_T101 y251 x5_1).f1)) := hcc10 1 _ rfl; have hx10_2 : w20.cell? ⟨go5, (x5_1 : Int).toNat * 5 + 2, none⟩ = some (.string ((rd_T101 y251 x5_1).f2)) := hcc10 2 _ rfl; have hx10_3 : w20.cell? ⟨go5, (x5_1 : Int).toNat * 5 + 3, none⟩ = some (.int .i64 ((rd_T101 y251 x5_1).f3)) := hcc10 3 _ rfl; have hx10_4 : w20.cell? ⟨go5, (x5_1 : Int).toNat * 5 + 4, none⟩ = some (.int .i64 ((rd_T101 y251 x5_1).f4)) := hcc10 4 _ rfl; have hf10_0 : w20.frozen? ⟨go5, (x5_1 : Int).toNat * 5, none⟩ = false := hfr10 0; have hf10_1 : w20.frozen? ⟨go5, (x5_1 : Int).toNat * 5 + 1, none⟩ = false := hfr10 1; have hf10_2 : w20.frozen? ⟨go5, (x5_1 : Int).toNat * 5 + 2, none⟩ = false := hfr10 2; have hf10_3 : w20.frozen? ⟨go5, (x5_1 : Int).toNat * 5 + 3, none⟩ = false := hfr10 3; have hf10_4 : w20.frozen? ⟨go5, (x5_1 : Int).toNat * 5 + 4, none⟩ = false := hfr10 4; clear hcl10 hcc10 hfr10; (try clear hM10); replace p10 := eq_true p10; replace q10 := eq_true q10; have HX21 := aM (show Kd.R k101 101 w20 w0.heap.size (fun k_ => (P0_ k_ ∨ w.heap.size ≤ k_)) (.slice (some ⟨go5, 0, none⟩) x0_1.length gS) y251 from (by (with_reducible repeat (first | apply ae | apply ac | apply aa)); exact bO.out)); obtain ⟨ce21, hcl21, hM21, hcc21, hfr21⟩ := Kd.R_elem HX21.out z101 (x5_1 : Int) (oD z2) (by have h_ : (x5_1 : Int) < ((x0_1.length : Int) : Int) := oD z2; first | exact h_ | (have e_ := (ai bO.out).1; omega) | simpa using h_); obtain rfl := k101_openM hM21; have HP21 := Kd.R_seg HX21.out (x5_1 : Int) (oD z2) (by have h_ : (x5_1 : Int) < ((x0_1.length : Int) : Int) := oD z2; first | exact h_ | (have e_ := (ai bO.out).1; omega) | simpa using h_) (seg := [.int .i64 (wrap64 ((wrap64 ((wrap64 ((wrap64 (x1_1 + 1)) + 1)) + 1)) + 1))]) (j := 4) hcl21 hcc21 (show 5 ≤ 5 from by decide) (x' := (⟨(rd_T101 y251 x5_1).f0, (rd_T101 y251 x5_1).f1, (rd_T101 y251 x5_1).f2, (rd_T101 y251 x5_1).f3, wrap64 ((wrap64 ((wrap64 ((wrap64 (x1_1 + 1)) + 1)) + 1)) + 1)⟩ : S101)) (k101_mkM _ _ _ (⟨(rd_T101 y251 x5_1).f0, (rd_T101 y251 x5_1).f1, (rd_T101 y251 x5_1).f2, (rd_T101 y251 x5_1).f3, wrap64 ((wrap64 ((wrap64 ((wrap64 (x1_1 + 1)) + 1)) + 1)) + 1)⟩ : S101) ) (fun _ hk => hk); have hx21_4 := hcc21 4 _ rfl; (try simp only [show (k101).sz = 5 from rfl, Nat.mul_one, Nat.add_zero] at hx21_4); have hf21_4 := hfr21 4; (try simp only [show (k101).sz = 5 from rfl, Nat.mul_one, Nat.add_zero] at hf21_4); clear hcl21 hcc21 hfr21; (try clear hM21)) | ((with_reducible refine gate_store (t := 3) (p := 45) rfl ?_); refine store_event (t := 3) (p := 45) (v := ?vo_w22) (w1 := (w20.setCell ⟨go5, (x5_1 : Int).toNat * 5 + 4, none⟩ (.int .i64 (wrap64 ((wrap64 ((wrap64 ((wrap64 (x1_1 + 1)) + 1)) + 1)) + 1))))) ?hg ?ho ?hn ?hr ?_; (case ho => rfl); (case hg => rfl); (case hn => rfl); (case hr => first | (go_simp; done) | (go_simp; rfl) | ((try simp only [aV] at *); go_simp; first | done | rfl)); intro w22 hw; have hg : w20.grownBy w22 (some go5) := (by rw [hw]; exact HP21.2); have hp_ : Kd.R k101 101 w22 w0.heap.size (fun k_ => (P0_ k_ ∨ w.heap.size ≤ k_)) (.slice (some ⟨go5, 0, none⟩) x0_1.length gS) y252 := (by rw [hw, Ny252.out]; exact HP21.1); clear HP21; have a6 := aM (hp_); have ba := aM ((by rw [hw]; exact ax (HB.out) GB5.out : Below w0.heap.size w0 w22)); have bb := aM (Kept.of_grown (S := (fun k_ => P0_ k_)) hg (by repeat (first | (with_reducible first | exact HK.out | apply Kept.alloc | apply Kept.drewN | apply Kept.drew) | exact HK.out)) (fun k_ e_ => (bO.out.1 k_ e_))); clear bO; clear HB; clear HK; have bO := a6; have HB := ba; have HK := bb; clear a6 ba bb; clear hg hw hp_))
     go_roundg k1
     case measure => have := HK1.out; omega
     case rel => exact ⟨(y252), (wrap64 ((wrap64 ((wrap64 ((wrap64 ((wrap64 (x1_1 + 1)) + 1)) + 1)) + 1)) + 1)), (wrap64 (x5_1 + 1)), z1, z1, H', ⟨y0⟩, ⟨by (with_reducible repeat (first | apply ae | apply ac | apply aa)); exact bO.out⟩, ⟨y11⟩, ⟨y4⟩⟩
    ·rw [if_neg c4] at H
     exact absurd H (by simp)
   ·rw [if_neg c3] at H
    have c3b0 : decide (x5_1 < (x0_1.length : Int)) = false := dF c3
    clear c3
    simp only [Option.some.injEq, Prod.mk.injEq] at H
    obtain ⟨rfl, rfl⟩ := H
    obtain ⟨Ao23, co23, eo23⟩ := Kd.R_slice bO.out
    subst eo23
    go_wp2
    go_ret
    exact ⟨y3, by (with_reducible repeat (first | apply ae | apply ac | apply aa)); exact bO.out, y4, y11⟩

/-! ### laws_markRope: function 13 -/
def laws_markRope.f (k : Nat) (l0_0 : List (S101)) (a1 : Int) : Option (Int × (List (S101))) := (laws_markBoughS.f k l0_0 a1).bind fun js => (some (js.1, js.2))
theorem laws_markRope.mono : ∀ a0 a1 k, LeO (laws_markRope.f k a0 a1) (laws_markRope.f (k + 1) a0 a1) := by
 intro a0 a1 k
 unfold laws_markRope.f
 repeat' first
   | (with_reducible exact laws_markBoughS.mono _ _ _)
   | (with_reducible exact LeO.refl _)
   | (with_reducible exact LeO.none _)
   | (with_reducible refine LeO.ite ?_ ?_)
   | (with_reducible refine LeO.bind ?_ (fun _ => ?_))
   | exact laws_markBoughS.mono _ _ _
   | exact LeO.none _
   | refine LeO.ite ?_ ?_
   | refine LeO.bind ?_ (fun _ => ?_)
set_option maxHeartbeats 8000000 in
set_option maxRecDepth 100000 in
theorem laws_markRope.calls (k : Nat) (P0_0_ : Nat → Prop) (u9000_ : Value) (l0_0 : List (S101)) (a1 : Int) (r1 : Int) (r2 : List (S101)) (w0 w : World) (hB : Below w0.heap.size w0 w) (ho0_0 : Kd.R k101 101 w w0.heap.size P0_0_ u9000_ l0_0) (h : laws_markRope.f k l0_0 a1 = some (r1, r2)) :
  Calls Try.prog 13 #[.agg #[u9000_], .int .i64 a1] w fun e w' => e = .returned (.int .i64 r1) ∧ Kd.R k101 101 w' w0.heap.size (fun k_ => (P0_0_ k_ ∨ w.heap.size ≤ k_)) u9000_ r2 ∧ Below w0.heap.size w0 w' ∧ Kept w w' (fun k_ => P0_0_ k_) := by
 have hu30 := Try.underlying30
 have ey := aM (show Kd.R k101 101 w w0.heap.size (fun k_ => (P0_0_ k_ ∨ w.heap.size ≤ k_)) u9000_ l0_0 from ah ho0_0 (fun k_ hk => (.inl hk)))
 have HK := aM (Kept.refl w (fun k_ => P0_0_ k_))
 have HW0 := aM hB.size
 have HB := aM hB
 clear hB
 have H : ((laws_markBoughS.f k l0_0 a1).bind fun js => (some (js.1, js.2))) = some (r1, r2) := h
 clear h
 replace H := oB H
 obtain ⟨⟨t254, t255⟩, fT, H⟩ := H
 try dsimp only at H
 have A3 := aM fT
 clear fT
 simp only [Option.some.injEq, Prod.mk.injEq] at H
 obtain ⟨rfl, rfl⟩ := H
 obtain ⟨np, m7, eo4⟩ := Kd.R_slice ey.out
 subst eo4
 go_enter Try.func13, Try.ntmps13
 go_wp2_with (first | ((with_reducible refine aJ (N := 2) rfl ?_); refine aK ?hg (N := 2) ?hd (cs := #[.slice np l0_0.length m7]) (t := 30) ?hr ?_; (case hd => rfl); (case hg => rfl); (case hr => first | (go_simp; done) | (go_simp; rfl)); intro lA hg w5 hbox hb; have a6 := aM (ag (by (with_reducible repeat (first | apply ae | apply ac | apply aa)); exact ey.out) hb); have ba := aM (Kept.below (S := (fun k_ => P0_0_ k_)) (by repeat (first | (with_reducible first | exact HK.out | apply Kept.alloc | apply Kept.drewN | apply Kept.drew) | exact HK.out)) hb); have bb := aM (ay z11 hb); have bf := aM (hbox); have bz := aM ((by rw [hg]; exact (by first | exact HK.out.1 | exact (show Kept w _ (fun k_ => P0_0_ k_) from by repeat (first | (with_reducible first | exact HK.out | apply Kept.alloc | apply Kept.drewN | apply Kept.drew) | exact HK.out)).1) : w.heap.size ≤ lA)); have bH := aM ((by rw [hg]; exact (az z11) : w0.heap.size ≤ lA)); clear ey; clear HK; clear HB; have ey := a6; have HK := ba; have HB := bb; have g8 := bf; have my := bz; have mC := bH; clear a6 ba bb bf bz bH; clear hb hbox hg; have dL : w5.cell? ⟨lA, 0, none⟩ = some (.slice np l0_0.length m7) := (bC g8.out 0).trans rfl; have dK := bF g8.out 0) | ((with_reducible refine aI (f := 45) rfl ?_); refine aN (some 8) rfl rfl Try.func45 z0 rfl #[.slice np l0_0.length m7, .int .i64 a1] rfl z12 ?_; (with_reducible refine (laws_markBoughS.calls k (fun k_ => some k_ = (.slice np l0_0.length m7 : Value).ownBlock) (.slice np l0_0.length m7) l0_0 a1 t254 t255 w0 _ ?side1 ?side2 A3.out).mono ?_); (case side1 => repeat (first | (with_reducible first | exact HB.out | apply bA | apply pD | apply bD | refine ax ?_ mC.out) | exact HB.out)); (case side2 => exact Kd.R_tight rfl ey.out); rintro e w7 ⟨rfl, hy0, hb, hkp⟩; refine ⟨_, rfl, ?_⟩; have a6 := aM (Kd.R_reok rfl hy0 (fun k_ e_ => ey.out.1 k_ e_)); have ba := aM (blk_kept (by (with_reducible repeat (first | refine ar ?_ _ | refine aq ?_ | refine au ?_ _)); exact g8.out) hkp (fun hs_ => (fun e_ => (Kd.R_ne ey.out g8.out (by decide)) e_) hs_)); have bb := aM (Kept.then_ (S := (fun k_ => P0_0_ k_)) (by repeat (first | (with_reducible first | exact HK.out | apply Kept.alloc | apply Kept.drewN | apply Kept.drew | refine Kept.setCell ?_ (.inr my.out) _) | exact HK.out)) hkp (fun k_ hs_ => (fun e_ => (ey.out.1 k_ e_.symm)) hs_)); have bf := aM (hb); clear ey; clear g8; clear HK; clear HB; have ey := a6; have g8 := ba; have HK := bb; have HB := bf; clear a6 ba bb bf; (try clear hb); (try clear hkp); (try clear hy0)))
 go_ret
 exact ⟨y3, by (with_reducible repeat (first | apply ae | apply ac | apply aa)); exact ey.out, by repeat (first | (with_reducible first | exact HB.out | apply bA | apply pD | apply bD | refine ax ?_ mC.out) | exact HB.out), by repeat (first | (with_reducible first | exact HK.out | apply Kept.alloc | apply Kept.drewN | apply Kept.drew | refine Kept.setCell ?_ (.inr my.out) _) | exact HK.out)⟩

/-! ### laws_markPartS: function 14 -/
def laws_markPartS.l0 : Nat → List (S59) → Int → Int → Option (Int × (List (S59)))
 | 0, _, _, _ => none
 | k + 1, x0, x1, x5 => if x5 < (x0.length : Int) then (if 0 ≤ x5 then ((some (x0.set (x5 : Int).toNat (⟨x1, (rd_T59 x0 x5).f1, (rd_T59 x0 x5).f2⟩ : S59) : List (S59))).bind fun y256 => ((laws_markText.f k (wrap64 (x1 + 1))).bind fun gO => ((some (y256.set (x5 : Int).toNat (⟨(rd_T59 y256 x5).f0, gO, (rd_T59 y256 x5).f2⟩ : S59) : List (S59))).bind fun y258 => ((laws_markText.f k (wrap64 ((wrap64 (x1 + 1)) + 1))).bind fun fV => (laws_markPartS.l0 k (y258.set (x5 : Int).toNat (⟨(rd_T59 y258 x5).f0, (rd_T59 y258 x5).f1, fV⟩ : S59)) (wrap64 ((wrap64 ((wrap64 (x1 + 1)) + 1)) + 1)) (wrap64 (x5 + 1))))))) else (none)) else (some (x1, x0))
def laws_markPartS.f (k : Nat) (l0 : List (S59)) (a1 : Int) : Option (Int × (List (S59))) := laws_markPartS.l0 k l0 a1 0
theorem laws_markPartS.mono_l : ∀ k, (∀ y0 y1 y2, LeO (laws_markPartS.l0 k y0 y1 y2) (laws_markPartS.l0 (k + 1) y0 y1 y2))
 | 0 => fun _ _ _ r h => by simp [laws_markPartS.l0] at h
 | k + 1 => by
  have ih0 := laws_markPartS.mono_l k
  ·intro y0 y1 y2
   unfold laws_markPartS.l0
   repeat' first
   | (with_reducible exact ih0 _ _ _)
   | (with_reducible exact laws_markText.mono _ _)
   | (with_reducible exact LeO.refl _)
   | (with_reducible exact LeO.none _)
   | (with_reducible refine LeO.ite ?_ ?_)
   | (with_reducible refine LeO.bind ?_ (fun _ => ?_))
   | exact ih0 _ _ _
   | exact laws_markText.mono _ _
   | exact LeO.none _
   | refine LeO.ite ?_ ?_
   | refine LeO.bind ?_ (fun _ => ?_)
theorem laws_markPartS.mono : ∀ a0 a1 k, LeO (laws_markPartS.f k a0 a1) (laws_markPartS.f (k + 1) a0 a1) := by
 intro a0 a1 k
 have ih0 := laws_markPartS.mono_l k
 unfold laws_markPartS.f
 repeat' first
   | (with_reducible exact ih0 _ _ _)
   | (with_reducible exact laws_markText.mono _ _)
   | (with_reducible exact LeO.refl _)
   | (with_reducible exact LeO.none _)
   | (with_reducible refine LeO.ite ?_ ?_)
   | (with_reducible refine LeO.bind ?_ (fun _ => ?_))
   | exact ih0 _ _ _
   | exact laws_markText.mono _ _
   | exact LeO.none _
   | refine LeO.ite ?_ ?_
   | refine LeO.bind ?_ (fun _ => ?_)
set_option maxHeartbeats 8000000 in
set_option maxRecDepth 100000 in
theorem laws_markPartS.calls (k : Nat) (P0_ : Nat → Prop) (u9000_ : Value) (l0 : List (S59)) (a1 : Int) (r1 : Int) (r2 : List (S59)) (w0 w : World) (hB : Below w0.heap.size w0 w) (ho0 : Kd.R k59 59 w w0.heap.size P0_ u9000_ l0) (h : laws_markPartS.f k l0 a1 = some (r1, r2)) :
  Calls Try.prog 14 #[u9000_, .int .i64 a1] w fun e w' => e = .returned (.int .i64 r1) ∧ Kd.R k59 59 w' w0.heap.size (fun k_ => (P0_ k_ ∨ w.heap.size ≤ k_)) u9000_ r2 ∧ Below w0.heap.size w0 w' ∧ Kept w w' (fun k_ => P0_ k_) := by
 have oA := aM (show Kd.R k59 59 w w0.heap.size (fun k_ => (P0_ k_ ∨ w.heap.size ≤ k_)) u9000_ l0 from ah ho0 (fun k_ hk => (.inl hk)))
 have HK := aM (Kept.refl w (fun k_ => P0_ k_))
 have HW0 := aM hB.size
 have HB := aM hB
 clear hB
 have H : (laws_markPartS.l0 k l0 a1 0) = some (r1, r2) := h
 clear h
 have H' := aM H
 clear H
 go_enter Try.func14, Try.ntmps14
 go_wp2
 go_loopg [1, 5] k (fun kq v1 v5 w' => ∃ (x0_1 : List (S59)) (x1_1 : Int) (x5_1 : Int), v1 = .int .i64 x1_1 ∧ v5 = .int .i64 x5_1 ∧ Aside0 (laws_markPartS.l0 kq x0_1 x1_1 x5_1 = some (r1, r2)) ∧ Aside0 (kq ≤ k) ∧ Aside0 (Kd.R k59 59 w' w0.heap.size (fun k_ => (P0_ k_ ∨ w.heap.size ≤ k_)) u9000_ x0_1) ∧ Aside0 (Kept w w' (fun k_ => P0_ k_)) ∧ Aside0 (Below w0.heap.size w0 w'))
 case atStart => exact ⟨(l0), (a1), (0), z1, z1, H', ⟨Nat.le_refl _⟩, ⟨by (with_reducible repeat (first | apply ae | apply ac | apply aa)); exact oA.out⟩, ⟨y11⟩, ⟨y4⟩⟩
 case round =>
  clear H'
  try clear c1
  try clear p2
  obtain ⟨x0_1, x1_1, x5_1, rfl, rfl, HA, HK1, bO, HK, HB⟩ := hrel
  cases gk with
  | zero => exact absurd HA.out (by simp [laws_markPartS.l0])
  | succ k1 =>
   have H := HA.out
   clear HA
   simp only [laws_markPartS.l0] at H
   by_cases c3 : x5_1 < (x0_1.length : Int)
   ·rw [if_pos c3] at H
    have c3b0 : decide (x5_1 < (x0_1.length : Int)) = true := dT c3
    clear c3
    by_cases c4 : 0 ≤ x5_1
    ·rw [if_pos c4] at H
     have c4b0 : decide (0 ≤ x5_1) = true := dT c4
     clear c4
     obtain ⟨y256, hy256⟩ : ∃ y_ : List (S59), y_ = (x0_1.set (x5_1 : Int).toNat (⟨x1_1, (rd_T59 x0_1 x5_1).f1, (rd_T59 x0_1 x5_1).f2⟩ : S59)) := ⟨_, rfl⟩
     replace H : ((laws_markText.f k1 (wrap64 (x1_1 + 1))).bind fun gO => ((some (y256.set (x5_1 : Int).toNat (⟨(rd_T59 y256 x5_1).f0, gO, (rd_T59 y256 x5_1).f2⟩ : S59) : List (S59))).bind fun y258 => ((laws_markText.f k1 (wrap64 ((wrap64 (x1_1 + 1)) + 1))).bind fun fV => (laws_markPartS.l0 k1 (y258.set (x5_1 : Int).toNat (⟨(rd_T59 y258 x5_1).f0, (rd_T59 y258 x5_1).f1, fV⟩ : S59)) (wrap64 ((wrap64 ((wrap64 (x1_1 + 1)) + 1)) + 1)) (wrap64 (x5_1 + 1)))))) = some (r1, r2) := by first | (rw [hy256]; with_reducible exact H) | (have H2_ := (Option.bind_some _ _).symm.trans H; rw [hy256]; with_reducible exact H2_) | (have H2_ := (Option.bind_some _ _).symm.trans H; with_reducible exact H2_) | with_reducible exact H | (rw [hy256]; exact H) | exact H
     have Ny256 := aM hy256
     clear hy256
     replace H := oB H
     obtain ⟨gO, fU, H⟩ := H
     try dsimp only at H
     have A6 := aM fU
     clear fU
     obtain ⟨y258, hy258⟩ : ∃ y_ : List (S59), y_ = (y256.set (x5_1 : Int).toNat (⟨(rd_T59 y256 x5_1).f0, gO, (rd_T59 y256 x5_1).f2⟩ : S59)) := ⟨_, rfl⟩
     replace H : ((laws_markText.f k1 (wrap64 ((wrap64 (x1_1 + 1)) + 1))).bind fun fV => (laws_markPartS.l0 k1 (y258.set (x5_1 : Int).toNat (⟨(rd_T59 y258 x5_1).f0, (rd_T59 y258 x5_1).f1, fV⟩ : S59)) (wrap64 ((wrap64 ((wrap64 (x1_1 + 1)) + 1)) + 1)) (wrap64 (x5_1 + 1)))) = some (r1, r2) := by first | (rw [hy258]; with_reducible exact H) | (have H2_ := (Option.bind_some _ _).symm.trans H; rw [hy258]; with_reducible exact H2_) | (have H2_ := (Option.bind_some _ _).symm.trans H; with_reducible exact H2_) | with_reducible exact H | (rw [hy258]; exact H) | exact H
     have Ny258 := aM hy258
     clear hy258
     replace H := oB H
     obtain ⟨fV, kN, H⟩ := H
     try dsimp only at H
     have A8 := aM kN
     clear kN
     obtain ⟨y260, hy260⟩ : ∃ y_ : List (S59), y_ = (y258.set (x5_1 : Int).toNat (⟨(rd_T59 y258 x5_1).f0, (rd_T59 y258 x5_1).f1, fV⟩ : S59)) := ⟨_, rfl⟩
     replace H : (laws_markPartS.l0 k1 y260 (wrap64 ((wrap64 ((wrap64 (x1_1 + 1)) + 1)) + 1)) (wrap64 (x5_1 + 1))) = some (r1, r2) := by first | (rw [hy260]; with_reducible exact H) | (have H2_ := (Option.bind_some _ _).symm.trans H; rw [hy260]; with_reducible exact H2_) | (have H2_ := (Option.bind_some _ _).symm.trans H; with_reducible exact H2_) | with_reducible exact H | (rw [hy260]; exact H) | exact H
     have Ny260 := aM hy260
     clear hy260
     have H' := aM H
     clear H
     obtain ⟨mh, eS, eo10⟩ := Kd.R_slice bO.out
     subst eo10
     have p5 : 0 ≤ (x5_1 : Int) := oD z2
     have q5 : (x5_1 : Int) < ((x0_1.length : Int) : Int) := oD z2
     obtain ⟨go5, m0, eo5, nN, gl5, cl5, HG5⟩ := Kd.R_form bO.out (by omega)
     (first | cases eo5 | (injection eo5 with ea_ en_ ec_; (first | subst ea_ | (injection ea_ with ea_; subst ea_)); subst ec_; clear en_))
     have GB5 := aM nN
     have GG5 := aM HG5
     clear nN gl5 HG5
     have HMgo5 := aM (show (P0_ go5 ∨ w.heap.size ≤ go5) from (bO.out.1 _ rfl))
     obtain ⟨ce5, hcl5, hM5, hcc5, hfr5⟩ := Kd.R_elem bO.out z59 (x5_1 : Int) p5 q5
     obtain rfl := k59_openM hM5
     have hx5_0 : wr.cell? ⟨go5, (x5_1 : Int).toNat * 3, none⟩ = some (.int .i64 ((rd_T59 x0_1 x5_1).f0)) := hcc5 0 _ rfl
     have hx5_1 : wr.cell? ⟨go5, (x5_1 : Int).toNat * 3 + 1, none⟩ = some (.string ((rd_T59 x0_1 x5_1).f1)) := hcc5 1 _ rfl
     have hx5_2 : wr.cell? ⟨go5, (x5_1 : Int).toNat * 3 + 2, none⟩ = some (.string ((rd_T59 x0_1 x5_1).f2)) := hcc5 2 _ rfl
     have hf5_0 : wr.frozen? ⟨go5, (x5_1 : Int).toNat * 3, none⟩ = false := hfr5 0
     have hf5_1 : wr.frozen? ⟨go5, (x5_1 : Int).toNat * 3 + 1, none⟩ = false := hfr5 1
     have hf5_2 : wr.frozen? ⟨go5, (x5_1 : Int).toNat * 3 + 2, none⟩ = false := hfr5 2
     clear hcl5 hcc5 hfr5; (try clear hM5)
     replace p5 := eq_true p5
     replace q5 := eq_true q5
     have HX11 := aM (show Kd.R k59 59 wr w0.heap.size (fun k_ => (P0_ k_ ∨ w.heap.size ≤ k_)) (.slice (some ⟨go5, 0, none⟩) x0_1.length eS) x0_1 from (by (with_reducible repeat (first | apply ae | apply ac | apply aa)); exact bO.out))
     obtain ⟨ce11, hcl11, hM11, hcc11, hfr11⟩ := Kd.R_elem HX11.out z59 (x5_1 : Int) (oD z2) (by have h_ : (x5_1 : Int) < ((x0_1.length : Int) : Int) := oD z2; first | exact h_ | (have e_ := (ai bO.out).1; omega) | simpa using h_)
     obtain rfl := k59_openM hM11
     have HP11 := Kd.R_seg HX11.out (x5_1 : Int) (oD z2) (by have h_ : (x5_1 : Int) < ((x0_1.length : Int) : Int) := oD z2; first | exact h_ | (have e_ := (ai bO.out).1; omega) | simpa using h_) (seg := [.int .i64 x1_1]) (j := 0) hcl11 hcc11 (show 1 ≤ 3 from by decide) (x' := (⟨x1_1, (rd_T59 x0_1 x5_1).f1, (rd_T59 x0_1 x5_1).f2⟩ : S59)) (k59_mkM _ _ _ (⟨x1_1, (rd_T59 x0_1 x5_1).f1, (rd_T59 x0_1 x5_1).f2⟩ : S59) ) (fun _ hk => hk)
     have hx11_0 := hcc11 0 _ rfl
     (try simp only [show (k59).sz = 3 from rfl, Nat.mul_one, Nat.add_zero] at hx11_0)
     have hf11_0 := hfr11 0
     (try simp only [show (k59).sz = 3 from rfl, Nat.mul_one, Nat.add_zero] at hf11_0)
     clear hcl11 hcc11 hfr11; (try clear hM11)
     go_wp2_with (first | ((with_reducible refine gate_store (t := 3) (p := 16) rfl ?_); refine store_event (t := 3) (p := 16) (v := ?vo_w12) (w1 := (wr.setCell ⟨go5, (x5_1 : Int).toNat * 3, none⟩ (.int .i64 x1_1))) ?hg ?ho ?hn ?hr ?_; (case ho => rfl); (case hg => rfl); (case hn => rfl); (case hr => first | (go_simp; done) | (go_simp; rfl) | ((try simp only [aV] at *); go_simp; first | done | rfl)); intro w12 hw; have hg : wr.grownBy w12 (some go5) := (by rw [hw]; exact HP11.2); have hp_ : Kd.R k59 59 w12 w0.heap.size (fun k_ => (P0_ k_ ∨ w.heap.size ≤ k_)) (.slice (some ⟨go5, 0, none⟩) x0_1.length eS) y256 := (by rw [hw, Ny256.out]; exact HP11.1); clear HP11; have a6 := aM (hp_); have ba := aM ((by rw [hw]; exact ax (HB.out) GB5.out : Below w0.heap.size w0 w12)); have bb := aM (Kept.of_grown (S := (fun k_ => P0_ k_)) hg (by repeat (first | (with_reducible first | exact HK.out | apply Kept.alloc | apply Kept.drewN | apply Kept.drew) | exact HK.out)) (fun k_ e_ => (bO.out.1 k_ e_))); clear bO; clear HB; clear HK; have bO := a6; have HB := ba; have HK := bb; clear a6 ba bb; clear hg hw hp_) | ((with_reducible refine aI (f := 46) rfl ?_); refine aN (some 22) rfl rfl Try.func46 z0 rfl #[.int .i64 (wrap64 (x1_1 + 1))] rfl z12 ?_; (with_reducible refine (laws_markText.calls k1 (wrap64 (x1_1 + 1)) gO _ A6.out).mono ?_); rintro e w13 ⟨rfl, hb⟩; refine ⟨_, rfl, ?_⟩; have a6 := aM (ag (by (with_reducible repeat (first | apply ae | apply ac | apply aa)); exact bO.out) hb); have ba := aM (Kept.below (S := (fun k_ => P0_ k_)) (by repeat (first | (with_reducible first | exact HK.out | apply Kept.alloc | apply Kept.drewN | apply Kept.drew) | exact HK.out)) hb); have bb := aM (ay z11 hb); clear bO; clear HK; clear HB; have bO := a6; have HK := ba; have HB := bb; clear a6 ba bb; (try clear hb); (try clear hb2); (try clear hk); (try clear hi); have p7 : 0 ≤ (x5_1 : Int) := oD z2; have q7 : (x5_1 : Int) < ((x0_1.length : Int) : Int) := oD z2; obtain ⟨ce7, hcl7, hM7, hcc7, hfr7⟩ := Kd.R_elem bO.out z59 (x5_1 : Int) p7 q7; obtain rfl := k59_openM hM7; have hx7_0 : w13.cell? ⟨go5, (x5_1 : Int).toNat * 3, none⟩ = some (.int .i64 ((rd_T59 y256 x5_1).f0)) := hcc7 0 _ rfl; have hx7_1 : w13.cell? ⟨go5, (x5_1 : Int).toNat * 3 + 1, none⟩ = some (.string ((rd_T59 y256 x5_1).f1)) := hcc7 1 _ rfl; have hx7_2 : w13.cell? ⟨go5, (x5_1 : Int).toNat * 3 + 2, none⟩ = some (.string ((rd_T59 y256 x5_1).f2)) := hcc7 2 _ rfl; have hf7_0 : w13.frozen? ⟨go5, (x5_1 : Int).toNat * 3, none⟩ = false := hfr7 0; have hf7_1 : w13.frozen? ⟨go5, (x5_1 : Int).toNat * 3 + 1, none⟩ = false := hfr7 1; have hf7_2 : w13.frozen? ⟨go5, (x5_1 : Int).toNat * 3 + 2, none⟩ = false := hfr7 2; clear hcl7 hcc7 hfr7; (try clear hM7); replace p7 := eq_true p7; replace q7 := eq_true q7; have HX14 := aM (show Kd.R k59 59 w13 w0.heap.size (fun k_ => (P0_ k_ ∨ w.heap.size ≤ k_)) (.slice (some ⟨go5, 0, none⟩) x0_1.length eS) y256 from (by (with_reducible repeat (first | apply ae | apply ac | apply aa)); exact bO.out)); obtain ⟨ce14, hcl14, hM14, hcc14, hfr14⟩ := Kd.R_elem HX14.out z59 (x5_1 : Int) (oD z2) (by have h_ : (x5_1 : Int) < ((x0_1.length : Int) : Int) := oD z2; first | exact h_ | (have e_ := (ai bO.out).1; omega) | simpa using h_); obtain rfl := k59_openM hM14; have HP14 := Kd.R_seg HX14.out (x5_1 : Int) (oD z2) (by have h_ : (x5_1 : Int) < ((x0_1.length : Int) : Int) := oD z2; first | exact h_ | (have e_ := (ai bO.out).1; omega) | simpa using h_) (seg := [.string gO]) (j := 1) hcl14 hcc14 (show 2 ≤ 3 from by decide) (x' := (⟨(rd_T59 y256 x5_1).f0, gO, (rd_T59 y256 x5_1).f2⟩ : S59)) (k59_mkM _ _ _ (⟨(rd_T59 y256 x5_1).f0, gO, (rd_T59 y256 x5_1).f2⟩ : S59) ) (fun _ hk => hk); have hx14_1 := hcc14 1 _ rfl; (try simp only [show (k59).sz = 3 from rfl, Nat.mul_one, Nat.add_zero] at hx14_1); have hf14_1 := hfr14 1; (try simp only [show (k59).sz = 3 from rfl, Nat.mul_one, Nat.add_zero] at hf14_1); clear hcl14 hcc14 hfr14; (try clear hM14)) | ((with_reducible refine gate_store (t := 9) (p := 24) rfl ?_); refine store_event (t := 9) (p := 24) (v := ?vo_w15) (w1 := (w13.setCell ⟨go5, (x5_1 : Int).toNat * 3 + 1, none⟩ (.string gO))) ?hg ?ho ?hn ?hr ?_; (case ho => rfl); (case hg => rfl); (case hn => rfl); (case hr => first | (go_simp; done) | (go_simp; rfl) | ((try simp only [aV] at *); go_simp; first | done | rfl)); intro w15 hw; have hg : w13.grownBy w15 (some go5) := (by rw [hw]; exact HP14.2); have hp_ : Kd.R k59 59 w15 w0.heap.size (fun k_ => (P0_ k_ ∨ w.heap.size ≤ k_)) (.slice (some ⟨go5, 0, none⟩) x0_1.length eS) y258 := (by rw [hw, Ny258.out]; exact HP14.1); clear HP14; have a6 := aM (hp_); have ba := aM ((by rw [hw]; exact ax (HB.out) GB5.out : Below w0.heap.size w0 w15)); have bb := aM (Kept.of_grown (S := (fun k_ => P0_ k_)) hg (by repeat (first | (with_reducible first | exact HK.out | apply Kept.alloc | apply Kept.drewN | apply Kept.drew) | exact HK.out)) (fun k_ e_ => (bO.out.1 k_ e_))); clear bO; clear HB; clear HK; have bO := a6; have HB := ba; have HK := bb; clear a6 ba bb; clear hg hw hp_) | ((with_reducible refine aI (f := 46) rfl ?_); refine aN (some 30) rfl rfl Try.func46 z0 rfl #[.int .i64 (wrap64 ((wrap64 (x1_1 + 1)) + 1))] rfl z12 ?_; (with_reducible refine (laws_markText.calls k1 (wrap64 ((wrap64 (x1_1 + 1)) + 1)) fV _ A8.out).mono ?_); rintro e w16 ⟨rfl, hb⟩; refine ⟨_, rfl, ?_⟩; have a6 := aM (ag (by (with_reducible repeat (first | apply ae | apply ac | apply aa)); exact bO.out) hb); have ba := aM (Kept.below (S := (fun k_ => P0_ k_)) (by repeat (first | (with_reducible first | exact HK.out | apply Kept.alloc | apply Kept.drewN | apply Kept.drew) | exact HK.out)) hb); have bb := aM (ay z11 hb); clear bO; clear HK; clear HB; have bO := a6; have HK := ba; have HB := bb; clear a6 ba bb; (try clear hb); (try clear hb2); (try clear hk); (try clear hi); have p9 : 0 ≤ (x5_1 : Int) := oD z2; have q9 : (x5_1 : Int) < ((x0_1.length : Int) : Int) := oD z2; obtain ⟨ce9, hcl9, hM9, hcc9, hfr9⟩ := Kd.R_elem bO.out z59 (x5_1 : Int) p9 q9; obtain rfl := k59_openM hM9; have hx9_0 : w16.cell? ⟨go5, (x5_1 : Int).toNat * 3, none⟩ = some (.int .i64 ((rd_T59 y258 x5_1).f0)) := hcc9 0 _ rfl; have hx9_1 : w16.cell? ⟨go5, (x5_1 : Int).toNat * 3 + 1, none⟩ = some (.string ((rd_T59 y258 x5_1).f1)) := hcc9 1 _ rfl; have hx9_2 : w16.cell? ⟨go5, (x5_1 : Int).toNat * 3 + 2, none⟩ = some (.string ((rd_T59 y258 x5_1).f2)) := hcc9 2 _ rfl; have hf9_0 : w16.frozen? ⟨go5, (x5_1 : Int).toNat * 3, none⟩ = false := hfr9 0; have hf9_1 : w16.frozen? ⟨go5, (x5_1 : Int).toNat * 3 + 1, none⟩ = false := hfr9 1; have hf9_2 : w16.frozen? ⟨go5, (x5_1 : Int).toNat * 3 + 2, none⟩ = false := hfr9 2; clear hcl9 hcc9 hfr9; (try clear hM9); replace p9 := eq_true p9; replace q9 := eq_true q9; have HX17 := aM (show Kd.R k59 59 w16 w0.heap.size (fun k_ => (P0_ k_ ∨ w.heap.size ≤ k_)) (.slice (some ⟨go5, 0, none⟩) x0_1.length eS) y258 from (by (with_reducible repeat (first | apply ae | apply ac | apply aa)); exact bO.out)); obtain ⟨ce17, hcl17, hM17, hcc17, hfr17⟩ := Kd.R_elem HX17.out z59 (x5_1 : Int) (oD z2) (by have h_ : (x5_1 : Int) < ((x0_1.length : Int) : Int) := oD z2; first | exact h_ | (have e_ := (ai bO.out).1; omega) | simpa using h_); obtain rfl := k59_openM hM17; have HP17 := Kd.R_seg HX17.out (x5_1 : Int) (oD z2) (by have h_ : (x5_1 : Int) < ((x0_1.length : Int) : Int) := oD z2; first | exact h_ | (have e_ := (ai bO.out).1; omega) | simpa using h_) (seg := [.string fV]) (j := 2) hcl17 hcc17 (show 3 ≤ 3 from by decide) (x' := (⟨(rd_T59 y258 x5_1).f0, (rd_T59 y258 x5_1).f1, fV⟩ : S59)) (k59_mkM _ _ _ (⟨(rd_T59 y258 x5_1).f0, (rd_T59 y258 x5_1).f1, fV⟩ : S59) ) (fun _ hk => hk); have hx17_2 := hcc17 2 _ rfl; (try simp only [show (k59).sz = 3 from rfl, Nat.mul_one, Nat.add_zero] at hx17_2); have hf17_2 := hfr17 2; (try simp only [show (k59).sz = 3 from rfl, Nat.mul_one, Nat.add_zero] at hf17_2); clear hcl17 hcc17 hfr17; (try clear hM17)) | ((with_reducible refine gate_store (t := 9) (p := 32) rfl ?_); refine store_event (t := 9) (p := 32) (v := ?vo_w18) (w1 := (w16.setCell ⟨go5, (x5_1 : Int).toNat * 3 + 2, none⟩ (.string fV))) ?hg ?ho ?hn ?hr ?_; (case ho => rfl); (case hg => rfl); (case hn => rfl); (case hr => first | (go_simp; done) | (go_simp; rfl) | ((try simp only [aV] at *); go_simp; first | done | rfl)); intro w18 hw; have hg : w16.grownBy w18 (some go5) := (by rw [hw]; exact HP17.2); have hp_ : Kd.R k59 59 w18 w0.heap.size (fun k_ => (P0_ k_ ∨ w.heap.size ≤ k_)) (.slice (some ⟨go5, 0, none⟩) x0_1.length eS) y260 := (by rw [hw, Ny260.out]; exact HP17.1); clear HP17; have a6 := aM (hp_); have ba := aM ((by rw [hw]; exact ax (HB.out) GB5.out : Below w0.heap.size w0 w18)); have bb := aM (Kept.of_grown (S := (fun k_ => P0_ k_)) hg (by repeat (first | (with_reducible first | exact HK.out | apply Kept.alloc | apply Kept.drewN | apply Kept.drew) | exact HK.out)) (fun k_ e_ => (bO.out.1 k_ e_))); clear bO; clear HB; clear HK; have bO := a6; have HB := ba; have HK := bb; clear a6 ba bb; clear hg hw hp_))
     go_roundg k1
     case measure => have := HK1.out; omega
     case rel => exact ⟨(y260), (wrap64 ((wrap64 ((wrap64 (x1_1 + 1)) + 1)) + 1)), (wrap64 (x5_1 + 1)), z1, z1, H', ⟨y0⟩, ⟨by (with_reducible repeat (first | apply ae | apply ac | apply aa)); exact bO.out⟩, ⟨y11⟩, ⟨y4⟩⟩
    ·rw [if_neg c4] at H
     exact absurd H (by simp)
   ·rw [if_neg c3] at H
    have c3b0 : decide (x5_1 < (x0_1.length : Int)) = false := dF c3
    clear c3
    simp only [Option.some.injEq, Prod.mk.injEq] at H
    obtain ⟨rfl, rfl⟩ := H
    obtain ⟨Ao19, co19, eo19⟩ := Kd.R_slice bO.out
    subst eo19
    go_wp2
    go_ret
    exact ⟨y3, by (with_reducible repeat (first | apply ae | apply ac | apply aa)); exact bO.out, y4, y11⟩

end Go.Proofs.Ytblnnbaeiggmoaa.AFnExactEditRope
