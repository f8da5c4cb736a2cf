-- this session's own text: written by wip/tools/ownprint.py over the kit's print
import Derived.Test.YtmkenlejdaphnaaAFnRopesx0
import Derived.Test.YtmkenlejdaphnaaAFnRopesx6
import Derived.Test.YtmkenlejdaphnaaAFnRopesx7
namespace Go.Proofs.Ytmkenlejdaphnaa.AFnRopes
open Go.RowKit Go.Proofs.YtmkenlejdaphnaaW.PrintWords Go.Proofs.YtmkenlejdaphnaaW.PrintLast Go.Proofs.YtmkenlejdaphnaaW.PrintMore
attribute [local go_sem] max2_int min2_int max_two min_two max_three min_three max_four min_four   -- for this text's walks alone
set_option linter.unusedVariables false
set_option linter.unusedSimpArgs false

/-! ### spec_l1Cur_inner: function 85 -/
mutual
def spec_l1Cur_inner.l0 : Nat → Int → Int → ByteArray → List Int → Int → Int → Option (ByteArray × Int × Int)
 | 0, _, _, _, _, _, _ => none
 | k + 1, x1, x2, x7, x1000, x1001, x1002 => if x1 > 0 then (if x2 > 0 then ((spec_l1Cur_one.f x1000 x1001 x1002 3).bind fun o0 => (spec_l1Cur_inner.j1 k x1 x2 x7 o0.1 x1000 o0.2.1 o0.2.2)) else (spec_l1Cur_inner.j1 k x1 x2 x7 false x1000 x1001 x1002)) else (some (x7, x1001, x1002))
def spec_l1Cur_inner.j1 : Nat → Int → Int → ByteArray → Bool → List Int → Int → Int → Option (ByteArray × Int × Int)
 | 0, _, _, _, _, _, _, _ => none
 | k + 1, x1, x2, x7, x17, x1000, x1001, x1002 => if x17 = true then ((spec_l1Cur_pick.f x1000 x1001 x1002 4).bind fun oZ => ((some (([(wrap64 (65 + oZ.1)) % 256] : List Int) : List Int)).bind fun y158 => ((spec_l1Cur_pick.f x1000 oZ.2.1 oZ.2.2 4).bind fun jr => ((spec_l1Cur_inner.f k x1000 jr.2.1 jr.2.2 jr.1 (wrap64 (x2 - 1))).bind fun fC => (if (strOfNums y158).size + fC.1.size ≤ 9223372036854775807 then (if ((strOfNums y158) ++ fC.1).size + 1 ≤ 9223372036854775807 then (if x7.size + (((strOfNums y158) ++ fC.1) ++ (⟨#[47]⟩ : ByteArray)).size ≤ 9223372036854775807 then (spec_l1Cur_inner.l0 k (wrap64 (x1 - 1)) x2 (x7 ++ (((strOfNums y158) ++ fC.1) ++ (⟨#[47]⟩ : ByteArray))) x1000 fC.2.1 fC.2.2) else (none)) else (none)) else (none)))))) else ((spec_l1Cur_of.f x1000 x1001 x1002 (([(⟨#[97]⟩ : ByteArray), (⟨#[98]⟩ : ByteArray), (⟨#[97, 98]⟩ : ByteArray), (⟨#[120]⟩ : ByteArray), (⟨#[32]⟩ : ByteArray), (⟨#[111, 110, 101]⟩ : ByteArray), (⟨#[49]⟩ : ByteArray), (⟨#[122, 46]⟩ : ByteArray)] : List ByteArray))).bind fun gZ => (if x7.size + gZ.1.size ≤ 9223372036854775807 then (spec_l1Cur_inner.l0 k (wrap64 (x1 - 1)) x2 (x7 ++ gZ.1) x1000 gZ.2.1 gZ.2.2) else (none)))
def spec_l1Cur_inner.f : Nat → List Int → Int → Int → Int → Int → Option (ByteArray × Int × Int)
 | 0, _, _, _, _, _ => none
 | k + 1, s0_0, s0_1, s0_2, a1, a2 => spec_l1Cur_inner.l0 k a1 a2 (⟨#[]⟩ : ByteArray) s0_0 s0_1 s0_2
end
theorem spec_l1Cur_inner.mono_l : ∀ k, (∀ y0 y1 y2 y3 y4, LeO (spec_l1Cur_inner.f k y0 y1 y2 y3 y4) (spec_l1Cur_inner.f (k + 1) y0 y1 y2 y3 y4)) ∧ (∀ y0 y1 y2 y3 y4 y5, LeO (spec_l1Cur_inner.l0 k y0 y1 y2 y3 y4 y5) (spec_l1Cur_inner.l0 (k + 1) y0 y1 y2 y3 y4 y5)) ∧ (∀ y0 y1 y2 y3 y4 y5 y6, LeO (spec_l1Cur_inner.j1 k y0 y1 y2 y3 y4 y5 y6) (spec_l1Cur_inner.j1 (k + 1) y0 y1 y2 y3 y4 y5 y6))
 | 0 => ⟨fun _ _ _ _ _ r h => by simp [spec_l1Cur_inner.f] at h, fun _ _ _ _ _ _ r h => by simp [spec_l1Cur_inner.l0] at h, fun _ _ _ _ _ _ _ r h => by simp [spec_l1Cur_inner.j1] at h⟩
 | k + 1 => by
  obtain ⟨ih0, ih1, ih2⟩ := spec_l1Cur_inner.mono_l k
  refine ⟨?_, ?_, ?_⟩
  ·intro y0 y1 y2 y3 y4
   unfold spec_l1Cur_inner.f
   repeat' first
   | (with_reducible exact ih0 _ _ _ _ _)
   | (with_reducible exact ih1 _ _ _ _ _ _)
   | (with_reducible exact ih2 _ _ _ _ _ _ _)
   | (with_reducible exact LeO.refl _)
   | (with_reducible exact LeO.none _)
   | (with_reducible refine LeO.ite ?_ ?_)
   | (with_reducible refine LeO.bind ?_ (fun _ => ?_))
  ·intro y0 y1 y2 y3 y4 y5
   unfold spec_l1Cur_inner.l0
   repeat' first
   | (with_reducible exact ih0 _ _ _ _ _)
   | (with_reducible exact ih1 _ _ _ _ _ _)
   | (with_reducible exact ih2 _ _ _ _ _ _ _)
   | (with_reducible exact LeO.refl _)
   | (with_reducible exact LeO.none _)
   | (with_reducible refine LeO.ite ?_ ?_)
   | (with_reducible refine LeO.bind ?_ (fun _ => ?_))
  ·intro y0 y1 y2 y3 y4 y5 y6
   unfold spec_l1Cur_inner.j1
   repeat' first
   | (with_reducible exact ih0 _ _ _ _ _)
   | (with_reducible exact ih1 _ _ _ _ _ _)
   | (with_reducible exact ih2 _ _ _ _ _ _ _)
   | (with_reducible exact LeO.refl _)
   | (with_reducible exact LeO.none _)
   | (with_reducible refine LeO.ite ?_ ?_)
   | (with_reducible refine LeO.bind ?_ (fun _ => ?_))
theorem spec_l1Cur_inner.mono : ∀ a0 a1 a2 a3 a4 k, LeO (spec_l1Cur_inner.f k a0 a1 a2 a3 a4) (spec_l1Cur_inner.f (k + 1) a0 a1 a2 a3 a4) := by
 intro a0 a1 a2 a3 a4 k
 obtain ⟨ih0, ih1, ih2⟩ := spec_l1Cur_inner.mono_l k
 exact ih0 a0 a1 a2 a3 a4
def spec_l1Cur_inner.T5 : Bool × List (List Nat × List Nat) := (true, [([], []), ([], []), ([1], [1]), ([2], [2]), ([3], [3]), ([4], [4]), ([5], [5]), ([], []), ([], []), ([8, 2], [8]), ([], []), ([10], [10]), ([7, 9, 11, 9], [7, 9, 11]), ([6, 12], [6, 12]), ([13], [13]), ([0, 14], [0, 14]), ([15, 12, 0, 1, 2, 3, 4, 5, 6, 7, 8, 9, 10, 11, 12, 13, 14, 15], [0, 15])])
def spec_l1Cur_inner.B5 : List Nat := [0, 0, 2, 6, 14, 30, 62, 0, 0, 262, 0, 1024, 3974, 8190, 16382, 32767, 65535]
theorem spec_l1Cur_inner.tab5 : rtab .any (opsOf Try.f85 5) = spec_l1Cur_inner.T5 := by kernel_rfl
theorem spec_l1Cur_inner.bits5 : waitsOk spec_l1Cur_inner.T5.2 spec_l1Cur_inner.B5 = true := by kernel_rfl
set_option maxHeartbeats 8000000 in
set_option maxRecDepth 100000 in
theorem spec_l1Cur_inner.calls (k : Nat) : ∀ (g : Nat) (s0_0 : List Int) (s0_1 : Int) (s0_2 : Int) (a1 : Int) (a2 : Int) (r1 : ByteArray) (r2 : Int) (r3 : Int) (w0 w : World) (hI : IsS95 w0 w g s0_0 s0_1 s0_2) (hB : Below w0.heap.size w0 w) (h : spec_l1Cur_inner.f k s0_0 s0_1 s0_2 a1 a2 = some (r1, r2, r3)),
  Calls Try.prog 85 #[.pointer (some ⟨g, 0, none⟩), .int .i64 a1, .int .i64 a2] w fun e w' => e = .returned (.string r1) ∧ IsS95 w0 w' g s0_0 r2 r3 ∧ Below w0.heap.size w0 w' ∧ KeepBut w w' g none := by
 induction k using Nat.strongRecOn with
 | _ k ih =>
 intro g s0_0 s0_1 s0_2 a1 a2 r1 r2 r3 w0 w hI hB h
 cases k with
 | zero => exact absurd h (by simp [spec_l1Cur_inner.f])
 | succ k =>
 simp only [spec_l1Cur_inner.f] at h
 have HI0 := aM hI
 have HK := aM (KeepBut.refl w g none)
 have HL := aM hB.size
 clear hI
 have HW0 := aM hB.size
 have HB := aM hB
 clear hB
 have H : (spec_l1Cur_inner.l0 k a1 a2 (⟨#[]⟩ : ByteArray) s0_0 s0_1 s0_2) = some (r1, r2, r3) := h
 clear h
 have H' := aM H
 clear H
 go_enter Try.func85, Try.ntmps85
 go_wp2
 go_loopg [1, 7] k (fun kq v1 v7 w' => ∃ (x1_1 : Int) (x7_1 : ByteArray) (x1001_1 : Int) (x1002_1 : Int), v1 = .int .i64 x1_1 ∧ v7 = .string x7_1 ∧ Aside0 (spec_l1Cur_inner.l0 kq x1_1 a2 x7_1 s0_0 x1001_1 x1002_1 = some (r1, r2, r3)) ∧ Aside0 (kq ≤ k) ∧ Aside0 (IsS95 w0 w' g s0_0 x1001_1 x1002_1) ∧ Aside0 (KeepBut w w' g none) ∧ Aside0 (Below w0.heap.size w0 w'))
 case atStart => exact ⟨(a1), ((⟨#[]⟩ : ByteArray)), (s0_1), (s0_2), z2, z2, H', ⟨Nat.le_refl _⟩, ⟨y19⟩, ⟨y14⟩, ⟨y13⟩⟩
 case round =>
  clear H'
  obtain ⟨x1_1, x7_1, x1001_1, x1002_1, rfl, rfl, HA, HK1, HI0, HK, HB⟩ := hrel
  cases gk with
  | zero => exact absurd HA.out (by simp [spec_l1Cur_inner.l0])
  | succ k1 =>
   have H := HA.out
   clear HA
   simp only [spec_l1Cur_inner.l0] at H
   by_cases c4 : x1_1 > 0
   ·rw [if_pos c4] at H
    have c4b0 : decide (0 < x1_1) = true := dT c4
    clear c4
    have g6 := aM H
    clear H
    go_upto_region 4 with (fail)
    go_cut [17] (fun v17 wc => ∃ (kq : Nat) (x17_4 : Bool) (x1001_4 : Int) (x1002_4 : Int), v17 = .bool x17_4 ∧ Aside0 (spec_l1Cur_inner.j1 kq x1_1 a2 x7_1 x17_4 s0_0 x1001_4 x1002_4 = some (r1, r2, r3)) ∧ Aside0 (kq ≤ k1) ∧ Aside0 (IsS95 w0 wc g s0_0 x1001_4 x1002_4) ∧ Aside0 (KeepBut w wc g none) ∧ Aside0 (Below w0.heap.size w0 wc))
    case first =>
     have H := g6.out
     clear g6
     by_cases c6 : a2 > 0
     ·rw [if_pos c6] at H
      have c6b0 : decide (0 < a2) = true := dT c6
      clear c6
      (first | rw [c6b0] | (simp only [i64_w, i32_w]; rw [c6b0]) | skip)
      obtain ⟨⟨r9, r8, r7⟩, A7, H⟩ := oA_ H
      try dsimp only at H
      have H' := aM H
      clear H
      go_wp2_with (first | (go_at_call 88; (with_reducible refine (spec_l1Cur_one.calls g s0_0 x1001_1 x1002_1 3 r9 r8 r7 w0 _ ?side1 ?side2 A7.out).mono ?_); (case side1 => exact y44); (case side2 => exact y34); rintro e w8 ⟨rfl, hi, hb, hk⟩; replace HK := aM (KeepBut.trans z22 hk (.inl rfl)); replace HB := aM (hb); replace HI0 := aM (hi); (try clear hb); (try clear hk); (try clear hi); (try clear dX)))
      go_meet
      case rel => exact ⟨_, (r9), (r8), (r7), z2, H', ⟨y2⟩, ⟨y19⟩, ⟨y14⟩, ⟨y13⟩⟩
     ·rw [if_neg c6] at H
      have c6b0 : decide (0 < a2) = false := dF c6
      clear c6
      (first | rw [c6b0] | (simp only [i64_w, i32_w]; rw [c6b0]) | skip)
      have H' := aM H
      clear H
      go_wp2
      go_meet
      case rel => exact ⟨_, (false), (x1001_1), (x1002_1), z2, H', ⟨y2⟩, ⟨y19⟩, ⟨y14⟩, ⟨y13⟩⟩
    case rest =>
     clear g6
     try clear p2
     try clear c4
     try clear c4b0
     try clear p2
     obtain ⟨kq, x17_4, x1001_4, x1002_4, rfl, HA, gJ, HI0, HK, HB⟩ := hcut
     cases kq with
     | zero => exact absurd HA.out (by simp [spec_l1Cur_inner.j1])
     | succ kj4 =>
      have H := HA.out
      clear HA
      simp only [spec_l1Cur_inner.j1] at H
      by_cases c9 : x17_4 = true
      ·subst c9
       rw [if_pos rfl] at H
       obtain ⟨⟨gN, iQ, iP⟩, lK, H⟩ := oA_ H
       try dsimp only at H
       obtain ⟨y158, hy158⟩ : ∃ y_ : List Int, y_ = (([(wrap64 (65 + gN)) % 256] : List Int)) := ⟨_, rfl⟩
       replace H : ((spec_l1Cur_pick.f s0_0 iQ iP 4).bind fun jr => ((spec_l1Cur_inner.f kj4 s0_0 jr.2.1 jr.2.2 jr.1 (wrap64 (a2 - 1))).bind fun fC => (if (strOfNums y158).size + fC.1.size ≤ 9223372036854775807 then (if ((strOfNums y158) ++ fC.1).size + 1 ≤ 9223372036854775807 then (if x7_1.size + (((strOfNums y158) ++ fC.1) ++ (⟨#[47]⟩ : ByteArray)).size ≤ 9223372036854775807 then (spec_l1Cur_inner.l0 kj4 (wrap64 (x1_1 - 1)) a2 (x7_1 ++ (((strOfNums y158) ++ fC.1) ++ (⟨#[47]⟩ : ByteArray))) s0_0 fC.2.1 fC.2.2) else (none)) else (none)) else (none)))) = some (r1, r2, r3) := by first | (rw [hy158]; with_reducible exact H) | (have H2_ := (Option.bind_some _ _).symm.trans H; rw [hy158]; with_reducible exact H2_) | (have H2_ := (Option.bind_some _ _).symm.trans H; with_reducible exact H2_) | with_reducible exact H | (rw [hy158]; exact H) | exact H
       have Ny158 := aM hy158
       clear hy158
       obtain ⟨⟨f6, gD, gM⟩, sW, H⟩ := oA_ H
       try dsimp only at H
       obtain ⟨⟨gC, iD, jK⟩, lb, H⟩ := oA_ H
       try dsimp only at H
       by_cases fj : (strOfNums y158).size + gC.size ≤ 9223372036854775807
       ·rw [if_pos fj] at H
        have c13b0 := eq_true fj
        have c13b1 : decide ((strOfNums y158).size + gC.size ≤ 9223372036854775807) = true := dT fj
        try have c13b2 : (9223372036854775807 < (strOfNums y158).size + gC.size) = False := eq_false (Nat.not_lt.2 fj)
        by_cases f5 : ((strOfNums y158) ++ gC).size + 1 ≤ 9223372036854775807
        ·rw [if_pos f5] at H
         have c14b0 := eq_true f5
         have c14b1 : decide (((strOfNums y158) ++ gC).size + 1 ≤ 9223372036854775807) = true := dT f5
         try have c14b2 : (9223372036854775807 < ((strOfNums y158) ++ gC).size + 1) = False := eq_false (Nat.not_lt.2 f5)
         (try (have c14b2s := c14b2; simp only [a6] at c14b2s))
         by_cases fe : x7_1.size + (((strOfNums y158) ++ gC) ++ (⟨#[47]⟩ : ByteArray)).size ≤ 9223372036854775807
         ·rw [if_pos fe] at H
          have c15b0 := eq_true fe
          have c15b1 : decide (x7_1.size + (((strOfNums y158) ++ gC) ++ (⟨#[47]⟩ : ByteArray)).size ≤ 9223372036854775807) = true := dT fe
          try have c15b2 : (9223372036854775807 < x7_1.size + (((strOfNums y158) ++ gC) ++ (⟨#[47]⟩ : ByteArray)).size) = False := eq_false (Nat.not_lt.2 fe)
          (try (have c15b2s := c15b2; simp only [a6, show (⟨#[47]⟩ : ByteArray).size = 1 from rfl] at c15b2s))
          have H' := aM H
          clear H
          try go_wp2
          replace HI0 := aM (IsS95.drew HI0.out)
          replace HK := aM (keep_drew HK.out)
          replace HB := aM (bD HB.out)
          refine start_ (n := 17) (S := fun w' => True) (ds := []) #[false, false, false, false, false, false, false, false, false, false, false, false, false, false, false, false, false] z1 rfl rfl trivial (fun hHeld => ?_); refine with_tabW spec_l1Cur_inner.tab5 spec_l1Cur_inner.bits5 (fun HT_ HW_ => ?_)
          generalize wc.drew = w16 at HI0 HK HB hHeld ⊢
          refine pA 0 18 ?_
          refine pA 1 19 ?_
          refine pA 7 25 ?_
          refine pA 8 26 ?_
          refine pA 10 28 ?_
          refine pA 11 29 ?_
          refine one_ (i := 2) (N := some 20) #[true, true, true, false, false, false, false, true, true, false, true, true, false, false, false, false, false] rfl rfl (one_of HT_.out z1) z0 (fun K hK => ?_)
          refine goes_ Try.func86 z1 rfl #[.pointer (some ⟨g, 0, none⟩), .int .i64 4] (by rfl) rfl rfl z21 ?_
          with_reducible refine (spec_l1Cur_pick.calls g s0_0 x1001_4 x1002_4 4 gN iQ iP w0 _ ?side1 ?side2 lK.out).mono ?_
          (case side1 => exact y44)
          (case side2 => exact y34)
          rintro e w17 ⟨rfl, hi, hb, hk⟩
          refine ⟨_, rfl, ?_⟩
          replace HK := aM (KeepBut.trans z22 hk (.inl rfl))
          replace HB := aM (hb)
          replace HI0 := aM (hi)
          (try clear hb)
          skip
          (try clear hk)
          (try clear hi)
          (try clear dX)
          refine hK.out _ _ trivial (fun hHeld => ?_)
          clear hK K
          refine norm_ (a' := ?_) ?_ ?_
          rotate_left
          ·show Act.put _ (some 20) _ = _
           simp only [Act.put, sA, sB, sC, i64_w, i32_w]
           rfl
          refine pA 3 21 ?_
          refine pA 4 22 ?_
          refine join_ (σ := Value) 4 #[true, true, true, true, true, true, true, true, true, true, true, true, true, false, false, false, false] (fun s_ => [(23, s_), (24, .string (strOfNums y158)), (27, .int .i64 f6), (30, .string gC)]) (fun s_ w' => (Kd.R (Kd.int .u8) 5 w' w.heap.size (fun _ => True) s_ y158) ∧ (IsS95 w0 w' g s0_0 iD jK) ∧ (KeepBut w w' g none) ∧ (Below w0.heap.size w0 w')) ?_ ?_
          rotate_left
          ·intro hJ5_6_9_12
           refine join_ (σ := Value) 5 #[true, true, true, true, true, true, true, true, true, true, true, true, false, false, false, false, false] (fun s_ => [(23, s_), (24, .string (strOfNums y158)), (27, .int .i64 f6)]) (fun s_ w' => (Kd.R (Kd.int .u8) 5 w' w.heap.size (fun _ => True) s_ y158) ∧ (IsS95 w0 w' g s0_0 gD gM) ∧ (KeepBut w w' g none) ∧ (Below w0.heap.size w0 w')) ?_ ?_
           rotate_left
           ·intro hJ5_6_9
            refine join_ (σ := Value) 5 #[true, true, true, true, true, true, false, true, true, true, true, true, true, false, false, false, false] (fun s_ => [(23, s_), (27, .int .i64 f6), (30, .string gC)]) (fun s_ w' => (Kd.R (Kd.int .u8) 5 w' w.heap.size (fun _ => True) s_ y158) ∧ (IsS95 w0 w' g s0_0 iD jK) ∧ (KeepBut w w' g none) ∧ (Below w0.heap.size w0 w')) ?_ ?_
            rotate_left
            ·intro hJ5_9_12
             refine join_ (σ := Value) 6 #[true, true, true, true, true, true, true, true, true, false, true, true, false, false, false, false, false] (fun s_ => [(23, s_), (24, .string (strOfNums y158))]) (fun s_ w' => (Kd.R (Kd.int .u8) 5 w' w.heap.size (fun _ => True) s_ y158) ∧ (IsS95 w0 w' g s0_0 iQ iP) ∧ (KeepBut w w' g none) ∧ (Below w0.heap.size w0 w')) ?_ ?_
             rotate_left
             ·intro hJ5_6
              refine join_ (σ := Value) 6 #[true, true, true, true, true, true, false, true, true, true, true, true, false, false, false, false, false] (fun s_ => [(23, s_), (27, .int .i64 f6)]) (fun s_ w' => (Kd.R (Kd.int .u8) 5 w' w.heap.size (fun _ => True) s_ y158) ∧ (IsS95 w0 w' g s0_0 gD gM) ∧ (KeepBut w w' g none) ∧ (Below w0.heap.size w0 w')) ?_ ?_
              rotate_left
              ·intro hJ5_9
               refine join_ (σ := Unit) 6 #[true, true, true, true, true, false, false, true, true, true, true, true, true, false, false, false, false] (fun s_ => [(27, .int .i64 f6), (30, .string gC)]) (fun s_ w' => (IsS95 w0 w' g s0_0 iD jK) ∧ (KeepBut w w' g none) ∧ (Below w0.heap.size w0 w')) ?_ ?_
               rotate_left
               ·intro hJ9_12
                refine join_ (σ := Value) 7 #[true, true, true, true, true, true, false, true, true, false, true, true, false, false, false, false, false] (fun s_ => [(23, s_)]) (fun s_ w' => (Kd.R (Kd.int .u8) 5 w' w.heap.size (fun _ => True) s_ y158) ∧ (IsS95 w0 w' g s0_0 iQ iP) ∧ (KeepBut w w' g none) ∧ (Below w0.heap.size w0 w')) ?_ ?_
                rotate_left
                ·intro hJ5
                 refine join_ (σ := Unit) 7 #[true, true, true, true, true, false, false, true, true, true, true, true, false, false, false, false, false] (fun s_ => [(27, .int .i64 f6)]) (fun s_ w' => (IsS95 w0 w' g s0_0 gD gM) ∧ (KeepBut w w' g none) ∧ (Below w0.heap.size w0 w')) ?_ ?_
                 rotate_left
                 ·intro hJ9
                  refine two_ (i := 5) (j := 9) (Ni := some 23) (Nj := some 27) #[true, true, true, true, true, true, false, true, true, false, true, true, false, false, false, false, false] #[true, true, true, true, true, false, false, true, true, true, true, true, false, false, false, false, false] rfl rfl rfl rfl (two_of HT_.out z1) z0 z0 (fun K hK => ?_) (fun K hK => ?_)
                  ·skip
                   refine Kd.R_lit_step (Kd.int .u8) _ 5 ?hg (N := 23) ?hd (xs := ([(wrap64 (65 + gN)) % 256] : List Int)) (inner := [.int .u8 ((wrap64 (65 + gN)) % 256)]) (ok := fun _ => True) (okp := fun _ => True) ?hr ?hp (fun _ hk => hk) trivial (Below.refl _ _) (Nat.le_refl _) (by simp) ?_; (case hd => rfl); (case hg => rfl); (case hr => first | (go_simp; done) | (go_simp; rfl)); (case hp => exact (Reps.one (show Kd.M (Kd.int .u8) _ _ _ ((wrap64 (65 + gN)) % 256) [.int .u8 ((wrap64 (65 + gN)) % 256)] from rfl) (Reps.none _ _)))
                   intro v159 w18 ho19 hb hg_ hnew_
                   clear hg_ hnew_
                   (first | rw [← Ny158.out] at ho19 | (simp only [Int.reduceToNat] at ho19; rw [← Ny158.out] at ho19))
                   have cX := aM (aW ho19 (keep_size (w := w) (g := g) (row := none) z22))
                   replace HK := aM (KeepBut.trans z22 (KeepBut.of_below hb g none) (.inl rfl))
                   replace HB := aM (aA z27 hb)
                   replace HI0 := aM (IsS95.below z30 hb)
                   clear hb ho19
                   refine hK.out _ _ trivial (fun hHeld => ?_)
                   clear hK K
                   refine norm_ (a' := ?_) ?_ ?_
                   rotate_left
                   ·show Act.put _ (some 23) _ = _
                    simp only [Act.put, sA, sB, sC, i64_w, i32_w]
                    rfl
                   exact norm_ z32 (hJ5 (v159) _ ⟨(kR_ cX.out), z30, z22, z27⟩)
                  ·skip
                   refine goes_ Try.func86 z1 rfl #[.pointer (some ⟨g, 0, none⟩), .int .i64 4] (by rfl) rfl rfl z21 ?_
                   with_reducible refine (spec_l1Cur_pick.calls g s0_0 iQ iP 4 f6 gD gM w0 _ ?side1 ?side2 sW.out).mono ?_
                   (case side1 => exact y44)
                   (case side2 => exact y34)
                   rintro e w18 ⟨rfl, hi, hb, hk⟩
                   refine ⟨_, rfl, ?_⟩
                   replace HK := aM (KeepBut.trans z22 hk (.inl rfl))
                   replace HB := aM (hb)
                   replace HI0 := aM (hi)
                   (try clear hb)
                   skip
                   (try clear hk)
                   (try clear hi)
                   (try clear dX)
                   refine hK.out _ _ trivial (fun hHeld => ?_)
                   clear hK K
                   refine norm_ (a' := ?_) ?_ ?_
                   rotate_left
                   ·show Act.put _ (some 27) _ = _
                    simp only [Act.put, sA, sB, sC, i64_w, i32_w]
                    rfl
                   exact norm_ z32 (hJ9 () _ ⟨z30, z22, z27⟩)
                 ·skip
                  rintro _ w19 ⟨h0_, h1_, h2_⟩
                  have bc : Aside0 (IsS95 w0 w19 g s0_0 gD gM) := ⟨h0_⟩
                  have bd : Aside0 (KeepBut w w19 g none) := ⟨h1_⟩
                  have bg : Aside0 (Below w0.heap.size w0 w19) := ⟨h2_⟩
                  clear HI0
                  clear HK
                  clear HB
                  clear h0_ h1_ h2_
                  have HI0 := bc
                  have HK := bd
                  have HB := bg
                  clear bc bd bg
                  have hHeld := trivial
                  refine norm_ (a' := ?_) ?_ ?_
                  rotate_left
                  ·simp only [putAll, Act.put, sA, sB, sC]
                   rfl
                  refine two_ (i := 5) (j := 12) (Ni := some 23) (Nj := some 30) #[true, true, true, true, true, true, false, true, true, true, true, true, false, false, false, false, false] #[true, true, true, true, true, false, false, true, true, true, true, true, true, false, false, false, false] rfl rfl rfl rfl (two_of HT_.out z1) z0 z0 (fun K hK => ?_) (fun K hK => ?_)
                  ·skip
                   refine Kd.R_lit_step (Kd.int .u8) _ 5 ?hg (N := 23) ?hd (xs := ([(wrap64 (65 + gN)) % 256] : List Int)) (inner := [.int .u8 ((wrap64 (65 + gN)) % 256)]) (ok := fun _ => True) (okp := fun _ => True) ?hr ?hp (fun _ hk => hk) trivial (Below.refl _ _) (Nat.le_refl _) (by simp) ?_; (case hd => rfl); (case hg => rfl); (case hr => first | (go_simp; done) | (go_simp; rfl)); (case hp => exact (Reps.one (show Kd.M (Kd.int .u8) _ _ _ ((wrap64 (65 + gN)) % 256) [.int .u8 ((wrap64 (65 + gN)) % 256)] from rfl) (Reps.none _ _)))
                   intro v159 w20 ho21 hb hg_ hnew_
                   clear hg_ hnew_
                   (first | rw [← Ny158.out] at ho21 | (simp only [Int.reduceToNat] at ho21; rw [← Ny158.out] at ho21))
                   have cX := aM (aW ho21 (keep_size (w := w) (g := g) (row := none) z22))
                   replace HK := aM (KeepBut.trans z22 (KeepBut.of_below hb g none) (.inl rfl))
                   replace HB := aM (aA z27 hb)
                   replace HI0 := aM (IsS95.below z30 hb)
                   clear hb ho21
                   refine hK.out _ _ trivial (fun hHeld => ?_)
                   clear hK K
                   refine norm_ (a' := ?_) ?_ ?_
                   rotate_left
                   ·show Act.put _ (some 23) _ = _
                    simp only [Act.put, sA, sB, sC, i64_w, i32_w]
                    rfl
                   exact norm_ z32 (hJ5_9 (v159) _ ⟨(kR_ cX.out), z30, z22, z27⟩)
                  ·skip
                   refine goes_ Try.func85 z1 rfl #[.pointer (some ⟨g, 0, none⟩), .int .i64 f6, .int .i64 (wrap64 (a2 - 1))] (by rfl) rfl rfl z21 ?_
                   with_reducible refine (ih kj4 (by have := HK1.out; have := gJ.out; omega) g s0_0 gD gM f6 (wrap64 (a2 - 1)) gC iD jK w0 _ ?side1 ?side2 lb.out).mono ?_
                   (case side1 => exact y44)
                   (case side2 => exact y34)
                   rintro e w20 ⟨rfl, hi, hb, hk⟩
                   refine ⟨_, rfl, ?_⟩
                   replace HK := aM (KeepBut.trans z22 hk (.inl rfl))
                   replace HB := aM (hb)
                   replace HI0 := aM (hi)
                   (try clear hb)
                   skip
                   (try clear hk)
                   (try clear hi)
                   (try clear dX)
                   refine hK.out _ _ trivial (fun hHeld => ?_)
                   clear hK K
                   refine norm_ (a' := ?_) ?_ ?_
                   rotate_left
                   ·show Act.put _ (some 30) _ = _
                    simp only [Act.put, sA, sB, sC, i64_w, i32_w]
                    rfl
                   exact norm_ z32 (hJ9_12 () _ ⟨z30, z22, z27⟩)
                ·skip
                 rintro v159 w20 ⟨h0_, h1_, h2_, h3_⟩
                 have bc : Aside0 (Kd.R (Kd.int .u8) 5 w20 w.heap.size (fun _ => True) v159 y158) := ⟨h0_⟩
                 have bd : Aside0 (IsS95 w0 w20 g s0_0 iQ iP) := ⟨h1_⟩
                 have bg : Aside0 (KeepBut w w20 g none) := ⟨h2_⟩
                 have bn : Aside0 (Below w0.heap.size w0 w20) := ⟨h3_⟩
                 clear HI0
                 clear HK
                 clear HB
                 clear h0_ h1_ h2_ h3_
                 have cX := bc
                 have HI0 := bd
                 have HK := bg
                 have HB := bn
                 clear bc bd bg bn
                 have hHeld := trivial
                 refine norm_ (a' := ?_) ?_ ?_
                 rotate_left
                 ·simp only [putAll, Act.put, sA, sB, sC]
                  rfl
                 refine two_ (i := 6) (j := 9) (Ni := some 24) (Nj := some 27) #[true, true, true, true, true, true, true, true, true, false, true, true, false, false, false, false, false] #[true, true, true, true, true, true, false, true, true, true, true, true, false, false, false, false, false] rfl rfl rfl rfl (two_of HT_.out z1) z0 z0 (fun K hK => ?_) (fun K hK => ?_)
                 ·skip
                  have hcv21 := own_string (P := Try.prog) Try.underlying54 Try.underlying5 Try.underlying9 (Kd.own_of_R cX.out)
                  refine value_ (w1 := ?_) (v := ?_) (by rfl) rfl ?_ ?_
                  rotate_left 2
                  ·go_simp
                   constructor
                   ·rfl
                   ·rfl
                  clear hcv21
                  refine hK.out _ _ trivial (fun hHeld => ?_)
                  clear hK K
                  refine norm_ (a' := ?_) ?_ ?_
                  rotate_left
                  ·show Act.put _ (some 24) _ = _
                   simp only [Act.put, sA, sB, sC, i64_w, i32_w]
                   rfl
                  exact norm_ z32 (hJ5_6 (v159) _ ⟨(kR_ cX.out), z30, z22, z27⟩)
                 ·skip
                  refine goes_ Try.func86 z1 rfl #[.pointer (some ⟨g, 0, none⟩), .int .i64 4] (by rfl) rfl rfl z21 ?_
                  with_reducible refine (spec_l1Cur_pick.calls g s0_0 iQ iP 4 f6 gD gM w0 _ ?side1 ?side2 sW.out).mono ?_
                  (case side1 => exact y44)
                  (case side2 => exact y34)
                  rintro e w21 ⟨rfl, hi, hb, hk⟩
                  refine ⟨_, rfl, ?_⟩
                  replace cX := aM (ah (Kd.R_keep (IsS95.apart (show IsS95 w0 _ g s0_0 iQ iP from by (try simp only [Int.add_zero]); repeat (first | (with_reducible first | exact HI0.out | apply IsS95.alloc | apply IsS95.drewN | apply IsS95.drew | apply IsS95.set_1 | apply IsS95.set_2) | exact HI0.out)) (kR_ cX.out) z0) hk (fun _ h => h.2)) (fun _ h => h.1))
                  replace HK := aM (KeepBut.trans z22 hk (.inl rfl))
                  replace HB := aM (hb)
                  replace HI0 := aM (hi)
                  (try clear hb)
                  skip
                  (try clear hk)
                  (try clear hi)
                  (try clear dX)
                  refine hK.out _ _ trivial (fun hHeld => ?_)
                  clear hK K
                  refine norm_ (a' := ?_) ?_ ?_
                  rotate_left
                  ·show Act.put _ (some 27) _ = _
                   simp only [Act.put, sA, sB, sC, i64_w, i32_w]
                   rfl
                  exact norm_ z32 (hJ5_9 (v159) _ ⟨(kR_ cX.out), z30, z22, z27⟩)
               ·skip
                rintro _ w20 ⟨h0_, h1_, h2_⟩
                have bc : Aside0 (IsS95 w0 w20 g s0_0 iD jK) := ⟨h0_⟩
                have bd : Aside0 (KeepBut w w20 g none) := ⟨h1_⟩
                have bg : Aside0 (Below w0.heap.size w0 w20) := ⟨h2_⟩
                clear HI0
                clear HK
                clear HB
                clear h0_ h1_ h2_
                have HI0 := bc
                have HK := bd
                have HB := bg
                clear bc bd bg
                have hHeld := trivial
                refine norm_ (a' := ?_) ?_ ?_
                rotate_left
                ·simp only [putAll, Act.put, sA, sB, sC]
                 rfl
                refine one_ (i := 5) (N := some 23) #[true, true, true, true, true, true, false, true, true, true, true, true, true, false, false, false, false] rfl rfl (one_of HT_.out z1) z0 (fun K hK => ?_)
                refine Kd.R_lit_step (Kd.int .u8) _ 5 ?hg (N := 23) ?hd (xs := ([(wrap64 (65 + gN)) % 256] : List Int)) (inner := [.int .u8 ((wrap64 (65 + gN)) % 256)]) (ok := fun _ => True) (okp := fun _ => True) ?hr ?hp (fun _ hk => hk) trivial (Below.refl _ _) (Nat.le_refl _) (by simp) ?_; (case hd => rfl); (case hg => rfl); (case hr => first | (go_simp; done) | (go_simp; rfl)); (case hp => exact (Reps.one (show Kd.M (Kd.int .u8) _ _ _ ((wrap64 (65 + gN)) % 256) [.int .u8 ((wrap64 (65 + gN)) % 256)] from rfl) (Reps.none _ _)))
                intro v159 w21 ho22 hb hg_ hnew_
                clear hg_ hnew_
                (first | rw [← Ny158.out] at ho22 | (simp only [Int.reduceToNat] at ho22; rw [← Ny158.out] at ho22))
                have cX := aM (aW ho22 (keep_size (w := w) (g := g) (row := none) z22))
                replace HK := aM (KeepBut.trans z22 (KeepBut.of_below hb g none) (.inl rfl))
                replace HB := aM (aA z27 hb)
                replace HI0 := aM (IsS95.below z30 hb)
                clear hb ho22
                refine hK.out _ _ trivial (fun hHeld => ?_)
                clear hK K
                refine norm_ (a' := ?_) ?_ ?_
                rotate_left
                ·show Act.put _ (some 23) _ = _
                 simp only [Act.put, sA, sB, sC, i64_w, i32_w]
                 rfl
                exact norm_ z32 (hJ5_9_12 (v159) _ ⟨(kR_ cX.out), z30, z22, z27⟩)
              ·skip
               rintro v159 w21 ⟨h0_, h1_, h2_, h3_⟩
               have bc : Aside0 (Kd.R (Kd.int .u8) 5 w21 w.heap.size (fun _ => True) v159 y158) := ⟨h0_⟩
               have bd : Aside0 (IsS95 w0 w21 g s0_0 gD gM) := ⟨h1_⟩
               have bg : Aside0 (KeepBut w w21 g none) := ⟨h2_⟩
               have bn : Aside0 (Below w0.heap.size w0 w21) := ⟨h3_⟩
               clear HI0
               clear HK
               clear HB
               clear h0_ h1_ h2_ h3_
               have cX := bc
               have HI0 := bd
               have HK := bg
               have HB := bn
               clear bc bd bg bn
               have hHeld := trivial
               refine norm_ (a' := ?_) ?_ ?_
               rotate_left
               ·simp only [putAll, Act.put, sA, sB, sC]
                rfl
               refine two_ (i := 6) (j := 12) (Ni := some 24) (Nj := some 30) #[true, true, true, true, true, true, true, true, true, true, true, true, false, false, false, false, false] #[true, true, true, true, true, true, false, true, true, true, true, true, true, false, false, false, false] rfl rfl rfl rfl (two_of HT_.out z1) z0 z0 (fun K hK => ?_) (fun K hK => ?_)
               ·skip
                have hcv22 := own_string (P := Try.prog) Try.underlying54 Try.underlying5 Try.underlying9 (Kd.own_of_R cX.out)
                refine value_ (w1 := ?_) (v := ?_) (by rfl) rfl ?_ ?_
                rotate_left 2
                ·go_simp
                 constructor
                 ·rfl
                 ·rfl
                clear hcv22
                refine hK.out _ _ trivial (fun hHeld => ?_)
                clear hK K
                refine norm_ (a' := ?_) ?_ ?_
                rotate_left
                ·show Act.put _ (some 24) _ = _
                 simp only [Act.put, sA, sB, sC, i64_w, i32_w]
                 rfl
                exact norm_ z32 (hJ5_6_9 (v159) _ ⟨(kR_ cX.out), z30, z22, z27⟩)
               ·skip
                refine goes_ Try.func85 z1 rfl #[.pointer (some ⟨g, 0, none⟩), .int .i64 f6, .int .i64 (wrap64 (a2 - 1))] (by rfl) rfl rfl z21 ?_
                with_reducible refine (ih kj4 (by have := HK1.out; have := gJ.out; omega) g s0_0 gD gM f6 (wrap64 (a2 - 1)) gC iD jK w0 _ ?side1 ?side2 lb.out).mono ?_
                (case side1 => exact y44)
                (case side2 => exact y34)
                rintro e w22 ⟨rfl, hi, hb, hk⟩
                refine ⟨_, rfl, ?_⟩
                replace cX := aM (ah (Kd.R_keep (IsS95.apart (show IsS95 w0 _ g s0_0 gD gM from by (try simp only [Int.add_zero]); repeat (first | (with_reducible first | exact HI0.out | apply IsS95.alloc | apply IsS95.drewN | apply IsS95.drew | apply IsS95.set_1 | apply IsS95.set_2) | exact HI0.out)) (kR_ cX.out) z0) hk (fun _ h => h.2)) (fun _ h => h.1))
                replace HK := aM (KeepBut.trans z22 hk (.inl rfl))
                replace HB := aM (hb)
                replace HI0 := aM (hi)
                (try clear hb)
                skip
                (try clear hk)
                (try clear hi)
                (try clear dX)
                refine hK.out _ _ trivial (fun hHeld => ?_)
                clear hK K
                refine norm_ (a' := ?_) ?_ ?_
                rotate_left
                ·show Act.put _ (some 30) _ = _
                 simp only [Act.put, sA, sB, sC, i64_w, i32_w]
                 rfl
                exact norm_ z32 (hJ5_9_12 (v159) _ ⟨(kR_ cX.out), z30, z22, z27⟩)
             ·skip
              rintro v159 w21 ⟨h0_, h1_, h2_, h3_⟩
              have bc : Aside0 (Kd.R (Kd.int .u8) 5 w21 w.heap.size (fun _ => True) v159 y158) := ⟨h0_⟩
              have bd : Aside0 (IsS95 w0 w21 g s0_0 iQ iP) := ⟨h1_⟩
              have bg : Aside0 (KeepBut w w21 g none) := ⟨h2_⟩
              have bn : Aside0 (Below w0.heap.size w0 w21) := ⟨h3_⟩
              clear HI0
              clear HK
              clear HB
              clear h0_ h1_ h2_ h3_
              have cX := bc
              have HI0 := bd
              have HK := bg
              have HB := bn
              clear bc bd bg bn
              have hHeld := trivial
              refine norm_ (a' := ?_) ?_ ?_
              rotate_left
              ·simp only [putAll, Act.put, sA, sB, sC]
               rfl
              refine one_ (i := 9) (N := some 27) #[true, true, true, true, true, true, true, true, true, true, true, true, false, false, false, false, false] rfl rfl (one_of HT_.out z1) z0 (fun K hK => ?_)
              refine goes_ Try.func86 z1 rfl #[.pointer (some ⟨g, 0, none⟩), .int .i64 4] (by rfl) rfl rfl z21 ?_
              with_reducible refine (spec_l1Cur_pick.calls g s0_0 iQ iP 4 f6 gD gM w0 _ ?side1 ?side2 sW.out).mono ?_
              (case side1 => exact y44)
              (case side2 => exact y34)
              rintro e w22 ⟨rfl, hi, hb, hk⟩
              refine ⟨_, rfl, ?_⟩
              replace cX := aM (ah (Kd.R_keep (IsS95.apart (show IsS95 w0 _ g s0_0 iQ iP from by (try simp only [Int.add_zero]); repeat (first | (with_reducible first | exact HI0.out | apply IsS95.alloc | apply IsS95.drewN | apply IsS95.drew | apply IsS95.set_1 | apply IsS95.set_2) | exact HI0.out)) (kR_ cX.out) z0) hk (fun _ h => h.2)) (fun _ h => h.1))
              replace HK := aM (KeepBut.trans z22 hk (.inl rfl))
              replace HB := aM (hb)
              replace HI0 := aM (hi)
              (try clear hb)
              skip
              (try clear hk)
              (try clear hi)
              (try clear dX)
              refine hK.out _ _ trivial (fun hHeld => ?_)
              clear hK K
              refine norm_ (a' := ?_) ?_ ?_
              rotate_left
              ·show Act.put _ (some 27) _ = _
               simp only [Act.put, sA, sB, sC, i64_w, i32_w]
               rfl
              exact norm_ z32 (hJ5_6_9 (v159) _ ⟨(kR_ cX.out), z30, z22, z27⟩)
            ·skip
             rintro v159 w22 ⟨h0_, h1_, h2_, h3_⟩
             have bc : Aside0 (Kd.R (Kd.int .u8) 5 w22 w.heap.size (fun _ => True) v159 y158) := ⟨h0_⟩
             have bd : Aside0 (IsS95 w0 w22 g s0_0 iD jK) := ⟨h1_⟩
             have bg : Aside0 (KeepBut w w22 g none) := ⟨h2_⟩
             have bn : Aside0 (Below w0.heap.size w0 w22) := ⟨h3_⟩
             clear HI0
             clear HK
             clear HB
             clear h0_ h1_ h2_ h3_
             have cX := bc
             have HI0 := bd
             have HK := bg
             have HB := bn
             clear bc bd bg bn
             have hHeld := trivial
             refine norm_ (a' := ?_) ?_ ?_
             rotate_left
             ·simp only [putAll, Act.put, sA, sB, sC]
              rfl
             refine one_ (i := 6) (N := some 24) #[true, true, true, true, true, true, true, true, true, true, true, true, true, false, false, false, false] rfl rfl (one_of HT_.out z1) z0 (fun K hK => ?_)
             have hcv23 := own_string (P := Try.prog) Try.underlying54 Try.underlying5 Try.underlying9 (Kd.own_of_R cX.out)
             refine value_ (w1 := ?_) (v := ?_) (by rfl) rfl ?_ ?_
             rotate_left 2
             ·go_simp
              constructor
              ·rfl
              ·rfl
             clear hcv23
             refine hK.out _ _ trivial (fun hHeld => ?_)
             clear hK K
             refine norm_ (a' := ?_) ?_ ?_
             rotate_left
             ·show Act.put _ (some 24) _ = _
              simp only [Act.put, sA, sB, sC, i64_w, i32_w]
              rfl
             exact norm_ z32 (hJ5_6_9_12 (v159) _ ⟨(kR_ cX.out), z30, z22, z27⟩)
           ·skip
            rintro v159 w22 ⟨h0_, h1_, h2_, h3_⟩
            have bc : Aside0 (Kd.R (Kd.int .u8) 5 w22 w.heap.size (fun _ => True) v159 y158) := ⟨h0_⟩
            have bd : Aside0 (IsS95 w0 w22 g s0_0 gD gM) := ⟨h1_⟩
            have bg : Aside0 (KeepBut w w22 g none) := ⟨h2_⟩
            have bn : Aside0 (Below w0.heap.size w0 w22) := ⟨h3_⟩
            clear HI0
            clear HK
            clear HB
            clear h0_ h1_ h2_ h3_
            have cX := bc
            have HI0 := bd
            have HK := bg
            have HB := bn
            clear bc bd bg bn
            have hHeld := trivial
            refine norm_ (a' := ?_) ?_ ?_
            rotate_left
            ·simp only [putAll, Act.put, sA, sB, sC]
             rfl
            refine one_ (i := 12) (N := some 30) #[true, true, true, true, true, true, true, true, true, true, true, true, true, false, false, false, false] rfl rfl (one_of HT_.out z1) z0 (fun K hK => ?_)
            refine goes_ Try.func85 z1 rfl #[.pointer (some ⟨g, 0, none⟩), .int .i64 f6, .int .i64 (wrap64 (a2 - 1))] (by rfl) rfl rfl z21 ?_
            with_reducible refine (ih kj4 (by have := HK1.out; have := gJ.out; omega) g s0_0 gD gM f6 (wrap64 (a2 - 1)) gC iD jK w0 _ ?side1 ?side2 lb.out).mono ?_
            (case side1 => exact y44)
            (case side2 => exact y34)
            rintro e w23 ⟨rfl, hi, hb, hk⟩
            refine ⟨_, rfl, ?_⟩
            replace cX := aM (ah (Kd.R_keep (IsS95.apart (show IsS95 w0 _ g s0_0 gD gM from by (try simp only [Int.add_zero]); repeat (first | (with_reducible first | exact HI0.out | apply IsS95.alloc | apply IsS95.drewN | apply IsS95.drew | apply IsS95.set_1 | apply IsS95.set_2) | exact HI0.out)) (kR_ cX.out) z0) hk (fun _ h => h.2)) (fun _ h => h.1))
            replace HK := aM (KeepBut.trans z22 hk (.inl rfl))
            replace HB := aM (hb)
            replace HI0 := aM (hi)
            (try clear hb)
            skip
            (try clear hk)
            (try clear hi)
            (try clear dX)
            refine hK.out _ _ trivial (fun hHeld => ?_)
            clear hK K
            refine norm_ (a' := ?_) ?_ ?_
            rotate_left
            ·show Act.put _ (some 30) _ = _
             simp only [Act.put, sA, sB, sC, i64_w, i32_w]
             rfl
            exact norm_ z32 (hJ5_6_9_12 (v159) _ ⟨(kR_ cX.out), z30, z22, z27⟩)
          rintro v159 w23 ⟨h0_, h1_, h2_, h3_⟩
          have bc : Aside0 (Kd.R (Kd.int .u8) 5 w23 w.heap.size (fun _ => True) v159 y158) := ⟨h0_⟩
          have bd : Aside0 (IsS95 w0 w23 g s0_0 iD jK) := ⟨h1_⟩
          have bg : Aside0 (KeepBut w w23 g none) := ⟨h2_⟩
          have bn : Aside0 (Below w0.heap.size w0 w23) := ⟨h3_⟩
          clear HI0
          clear HK
          clear HB
          clear h0_ h1_ h2_ h3_
          have cX := bc
          have HI0 := bd
          have HK := bg
          have HB := bn
          clear bc bd bg bn
          have hHeld := trivial
          refine norm_ (a' := ?_) ?_ ?_
          rotate_left
          ·simp only [putAll, Act.put, sA, sB, sC]
           rfl
          refine pA 13 31 ?_
          refine pA 14 32 ?_
          refine pA 15 33 ?_
          refine pA 16 7 ?_
          refine done_ (done_of HT_.out z1) ?_
          try go_wp2
          go_roundg kj4
          case measure => have := HK1.out; have := gJ.out; omega
          case rel => exact ⟨(wrap64 (x1_1 - 1)), (x7_1 ++ (((strOfNums y158) ++ gC) ++ (⟨#[47]⟩ : ByteArray))), (iD), (jK), z2, z2, H', ⟨by have := HK1.out; have := gJ.out; omega⟩, ⟨y19⟩, ⟨y14⟩, ⟨y13⟩⟩
         ·rw [if_neg fe] at H
          exact absurd H (by simp)
        ·rw [if_neg f5] at H
         exact absurd H (by simp)
       ·rw [if_neg fj] at H
        exact absurd H (by simp)
      ·replace c9 := Bool.eq_false_iff.mpr c9
       subst c9
       rw [if_neg nF_] at H
       obtain ⟨y167, hy167⟩ : ∃ y_ : List ByteArray, y_ = (([(⟨#[97]⟩ : ByteArray), (⟨#[98]⟩ : ByteArray), (⟨#[97, 98]⟩ : ByteArray), (⟨#[120]⟩ : ByteArray), (⟨#[32]⟩ : ByteArray), (⟨#[111, 110, 101]⟩ : ByteArray), (⟨#[49]⟩ : ByteArray), (⟨#[122, 46]⟩ : ByteArray)] : List ByteArray)) := ⟨_, rfl⟩
       replace H : ((spec_l1Cur_of.f s0_0 x1001_4 x1002_4 y167).bind fun gZ => (if x7_1.size + gZ.1.size ≤ 9223372036854775807 then (spec_l1Cur_inner.l0 kj4 (wrap64 (x1_1 - 1)) a2 (x7_1 ++ gZ.1) s0_0 gZ.2.1 gZ.2.2) else (none))) = some (r1, r2, r3) := by first | (rw [hy167]; with_reducible exact H) | (have H2_ := (Option.bind_some _ _).symm.trans H; rw [hy167]; with_reducible exact H2_) | (have H2_ := (Option.bind_some _ _).symm.trans H; with_reducible exact H2_) | with_reducible exact H | (rw [hy167]; exact H) | exact H
       have Ny167 := aM hy167
       clear hy167
       obtain ⟨⟨oq, r6, r5⟩, A24, H⟩ := oA_ H
       try dsimp only at H
       by_cases jB : x7_1.size + oq.size ≤ 9223372036854775807
       ·rw [if_pos jB] at H
        have c25b0 := eq_true jB
        have c25b1 : decide (x7_1.size + oq.size ≤ 9223372036854775807) = true := dT jB
        try have c25b2 : (9223372036854775807 < x7_1.size + oq.size) = False := eq_false (Nat.not_lt.2 jB)
        have H' := aM H
        clear H
        go_wp2_with (first | ((with_reducible refine aN (N := 36) rfl ?_); refine Kd.R_lit Kd.string _ 9 ?hg (N := 36) ?hd (xs := ([(⟨#[97]⟩ : ByteArray), (⟨#[98]⟩ : ByteArray), (⟨#[97, 98]⟩ : ByteArray), (⟨#[120]⟩ : ByteArray), (⟨#[32]⟩ : ByteArray), (⟨#[111, 110, 101]⟩ : ByteArray), (⟨#[49]⟩ : ByteArray), (⟨#[122, 46]⟩ : ByteArray)] : List ByteArray)) (inner := [.string (⟨#[97]⟩ : ByteArray), .string (⟨#[98]⟩ : ByteArray), .string (⟨#[97, 98]⟩ : ByteArray), .string (⟨#[120]⟩ : ByteArray), .string (⟨#[32]⟩ : ByteArray), .string (⟨#[111, 110, 101]⟩ : ByteArray), .string (⟨#[49]⟩ : ByteArray), .string (⟨#[122, 46]⟩ : ByteArray)]) (ok := fun _ => True) (okp := fun _ => True) ?hr ?hp (fun _ hk => hk) trivial (Below.refl _ _) (Nat.le_refl _) (by simp) ?_; (case hd => rfl); (case hg => rfl); (case hr => first | (go_simp; done) | (go_simp; rfl)); (case hp => exact (Reps.one (show Kd.M Kd.string _ _ _ (⟨#[97]⟩ : ByteArray) [.string (⟨#[97]⟩ : ByteArray)] from rfl) (Reps.one (show Kd.M Kd.string _ _ _ (⟨#[98]⟩ : ByteArray) [.string (⟨#[98]⟩ : ByteArray)] from rfl) (Reps.one (show Kd.M Kd.string _ _ _ (⟨#[97, 98]⟩ : ByteArray) [.string (⟨#[97, 98]⟩ : ByteArray)] from rfl) (Reps.one (show Kd.M Kd.string _ _ _ (⟨#[120]⟩ : ByteArray) [.string (⟨#[120]⟩ : ByteArray)] from rfl) (Reps.one (show Kd.M Kd.string _ _ _ (⟨#[32]⟩ : ByteArray) [.string (⟨#[32]⟩ : ByteArray)] from rfl) (Reps.one (show Kd.M Kd.string _ _ _ (⟨#[111, 110, 101]⟩ : ByteArray) [.string (⟨#[111, 110, 101]⟩ : ByteArray)] from rfl) (Reps.one (show Kd.M Kd.string _ _ _ (⟨#[49]⟩ : ByteArray) [.string (⟨#[49]⟩ : ByteArray)] from rfl) (Reps.one (show Kd.M Kd.string _ _ _ (⟨#[122, 46]⟩ : ByteArray) [.string (⟨#[122, 46]⟩ : ByteArray)] from rfl) (Reps.none _ _)))))))))); intro v168 w26 ho27 hb hg_ hnew_; clear hg_ hnew_; (first | rw [← Ny167.out] at ho27 | (simp only [Int.reduceToNat] at ho27; rw [← Ny167.out] at ho27)); have jv := aM (aW ho27 (keep_size (w := w) (g := g) (row := none) z22)); replace HK := aM (KeepBut.trans z22 (KeepBut.of_below hb g none) (.inl rfl)); replace HB := aM (aA z27 hb); replace HI0 := aM (IsS95.below z30 hb); clear hb ho27; obtain ⟨Ao28, co28, eo28⟩ := Kd.R_slice jv.out; subst eo28) | ((with_reducible refine aK (f := 87) rfl ?_); refine aT (some 37) rfl rfl Try.func87 z1 rfl #[.pointer (some ⟨g, 0, none⟩), .slice Ao28 y167.length co28] rfl z21 ?_; (with_reducible refine (spec_l1Cur_of.calls g s0_0 x1001_4 x1002_4 _ _ y167 oq r6 r5 w0 _ ?side1 ?side2 ?side3 ?side4 ?side5 A24.out).mono ?_); (case side1 => exact y44); (case side2 => exact y34); (case side3 => repeat (first | exact (ai jv.out).2.2 | (with_reducible refine aH ?_ _) | (with_reducible refine aI ?_ _) | (with_reducible refine aJ ?_))); (case side4 => exact (ai jv.out).2.1); (case side5 => exact far_slice (IsS95.own_ne HI0.out jv.out z0)); rintro e w29 ⟨rfl, hi, hb, hk⟩; refine ⟨_, rfl, ?_⟩; replace jv := aM (ah (Kd.R_keep (IsS95.apart (show IsS95 w0 _ g s0_0 x1001_4 x1002_4 from by (try simp only [Int.add_zero]); repeat (first | (with_reducible first | exact HI0.out | apply IsS95.alloc | apply IsS95.drewN | apply IsS95.drew | apply IsS95.set_1 | apply IsS95.set_2) | exact HI0.out)) (kR_ jv.out) z0) hk (fun _ h => h.2)) (fun _ h => h.1)); replace HK := aM (KeepBut.trans z22 hk (.inl rfl)); replace HB := aM (hb); replace HI0 := aM (hi); (try clear hb); (try clear hk); (try clear hi); (try clear dX)))
        go_roundg kj4
        case measure => have := HK1.out; have := gJ.out; omega
        case rel => exact ⟨(wrap64 (x1_1 - 1)), (x7_1 ++ oq), (r6), (r5), z2, z2, H', ⟨by have := HK1.out; have := gJ.out; omega⟩, ⟨y19⟩, ⟨y14⟩, ⟨y13⟩⟩
       ·rw [if_neg jB] at H
        exact absurd H (by simp)
   ·rw [if_neg c4] at H
    have c4b0 : decide (0 < x1_1) = false := dF c4
    clear c4
    simp only [Option.some.injEq, Prod.mk.injEq] at H
    obtain ⟨rfl, rfl, rfl⟩ := H
    go_wp2
    go_ret
    exact ⟨y4, y19, y13, y14⟩

end Go.Proofs.Ytmkenlejdaphnaa.AFnRopes
