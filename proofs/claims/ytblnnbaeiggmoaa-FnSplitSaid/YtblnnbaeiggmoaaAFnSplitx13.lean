-- this session's own text: written by wip/tools/ownprint.py over the kit's print
import Derived.Test.YtblnnbaeiggmoaaAFnSplitx0
import Derived.Test.YtblnnbaeiggmoaaAFnSplitx3
import Derived.Test.YtblnnbaeiggmoaaAFnSplitx5
import Derived.Test.YtblnnbaeiggmoaaAFnSplitx10
import Derived.Test.YtblnnbaeiggmoaaAFnSplitx12
namespace Go.Proofs.Ytblnnbaeiggmoaa.AFnSplit
open Go.RowKit Go.Proofs.YtblnnbaeiggmoaaW.PrintWords Go.Proofs.YtblnnbaeiggmoaaW.PrintLast Go.Proofs.YtblnnbaeiggmoaaW.PrintMore
attribute [local go_sem] max2_int min2_int max_two min_two max_three min_three max_four min_four   -- for this text's walks alone
set_option linter.unusedVariables false
set_option linter.unusedSimpArgs false

/-! ### spec_l1Cur_spoilt: function 86 -/
mutual
def spec_l1Cur_spoilt.l0 : Nat → ByteArray → ByteArray → Int → List Int → Int → Int → Option (ByteArray × Int × Int)
 | 0, _, _, _, _, _, _ => none
 | k + 1, x1, x2, x7, x1000, x1001, x1002 => if x7 > 0 then (spec_l1Cur_spoilt.j1 k x1 x2 x7 (decide ((x1.size : Int) > 0)) x1000 x1001 x1002) else (spec_l1Cur_spoilt.j1 k x1 x2 x7 false x1000 x1001 x1002)
def spec_l1Cur_spoilt.j1 : Nat → ByteArray → ByteArray → Int → Bool → List Int → Int → Int → Option (ByteArray × Int × Int)
 | 0, _, _, _, _, _, _, _ => none
 | k + 1, x1, x2, x7, x18, x1000, x1001, x1002 => if x18 = true then ((spec_l1Cur_pick.f x1000 x1001 x1002 (x1.size : Int)).bind fun fq => ((spec_l1Cur_pick.f x1000 fq.2.1 fq.2.2 (x2.size : Int)).bind fun nR => (if 0 ≤ nR.1 then (if nR.1 < (x2.size : Int) then ((some (([bt x2 nR.1] : List Int) : List Int)).bind fun y270 => ((spec_l1Cur_pick.f x1000 nR.2.1 nR.2.2 3).bind fun gw => (if gw.1 = 0 then (if 0 ≤ fq.1 then (if fq.1 ≤ (x1.size : Int) then (if (x1.extract 0 (fq.1 : Int).toNat).size + (strOfNums y270).size ≤ 9223372036854775807 then (if ((x1.extract 0 (fq.1 : Int).toNat) ++ (strOfNums y270)).size + (x1.extract (fq.1 : Int).toNat x1.size).size ≤ 9223372036854775807 then (spec_l1Cur_spoilt.l0 k (((x1.extract 0 (fq.1 : Int).toNat) ++ (strOfNums y270)) ++ (x1.extract (fq.1 : Int).toNat x1.size)) x2 (wrap64 (x7 - 1)) x1000 gw.2.1 gw.2.2) else (none)) else (none)) else (none)) else (none)) else (if gw.1 = 1 then (if 0 ≤ fq.1 then (if fq.1 ≤ (x1.size : Int) then (if (x1.extract 0 (fq.1 : Int).toNat).size + (strOfNums y270).size ≤ 9223372036854775807 then (if 0 ≤ (wrap64 (fq.1 + 1)) then (if (wrap64 (fq.1 + 1)) ≤ (x1.size : Int) then (if ((x1.extract 0 (fq.1 : Int).toNat) ++ (strOfNums y270)).size + (x1.extract ((wrap64 (fq.1 + 1)) : Int).toNat x1.size).size ≤ 9223372036854775807 then (spec_l1Cur_spoilt.l0 k (((x1.extract 0 (fq.1 : Int).toNat) ++ (strOfNums y270)) ++ (x1.extract ((wrap64 (fq.1 + 1)) : Int).toNat x1.size)) x2 (wrap64 (x7 - 1)) x1000 gw.2.1 gw.2.2) else (none)) else (none)) else (none)) else (none)) else (none)) else (none)) else (if 0 ≤ fq.1 then (if fq.1 ≤ (x1.size : Int) then (if 0 ≤ (wrap64 (fq.1 + 1)) then (if (wrap64 (fq.1 + 1)) ≤ (x1.size : Int) then (if (x1.extract 0 (fq.1 : Int).toNat).size + (x1.extract ((wrap64 (fq.1 + 1)) : Int).toNat x1.size).size ≤ 9223372036854775807 then (spec_l1Cur_spoilt.l0 k ((x1.extract 0 (fq.1 : Int).toNat) ++ (x1.extract ((wrap64 (fq.1 + 1)) : Int).toNat x1.size)) x2 (wrap64 (x7 - 1)) x1000 gw.2.1 gw.2.2) else (none)) else (none)) else (none)) else (none)) else (none)))))) else (none)) else (none)))) else (some (x1, x1001, x1002))
end
def spec_l1Cur_spoilt.f (k : Nat) (s0_0 : List Int) (s0_1 : Int) (s0_2 : Int) (a1 : ByteArray) (a2 : ByteArray) : Option (ByteArray × Int × Int) := (spec_l1Cur_pick.f s0_0 s0_1 s0_2 3).bind fun lA => (spec_l1Cur_spoilt.l0 k a1 a2 lA.1 s0_0 lA.2.1 lA.2.2)
theorem spec_l1Cur_spoilt.mono_l : ∀ k, (∀ y0 y1 y2 y3 y4 y5, LeO (spec_l1Cur_spoilt.l0 k y0 y1 y2 y3 y4 y5) (spec_l1Cur_spoilt.l0 (k + 1) y0 y1 y2 y3 y4 y5)) ∧ (∀ y0 y1 y2 y3 y4 y5 y6, LeO (spec_l1Cur_spoilt.j1 k y0 y1 y2 y3 y4 y5 y6) (spec_l1Cur_spoilt.j1 (k + 1) y0 y1 y2 y3 y4 y5 y6))
 | 0 => ⟨fun _ _ _ _ _ _ r h => by simp [spec_l1Cur_spoilt.l0] at h, fun _ _ _ _ _ _ _ r h => by simp [spec_l1Cur_spoilt.j1] at h⟩
 | k + 1 => by
  obtain ⟨ih0, ih1⟩ := spec_l1Cur_spoilt.mono_l k
  refine ⟨?_, ?_⟩
  ·intro y0 y1 y2 y3 y4 y5
   unfold spec_l1Cur_spoilt.l0
   repeat' first
   | (with_reducible exact ih0 _ _ _ _ _ _)
   | (with_reducible exact ih1 _ _ _ _ _ _ _)
   | (with_reducible exact LeO.refl _)
   | (with_reducible exact LeO.none _)
   | (with_reducible refine LeO.ite ?_ ?_)
   | (with_reducible refine LeO.bind ?_ (fun _ => ?_))
  ·intro y0 y1 y2 y3 y4 y5 y6
   unfold spec_l1Cur_spoilt.j1
   repeat' first
   | (with_reducible exact ih0 _ _ _ _ _ _)
   | (with_reducible exact ih1 _ _ _ _ _ _ _)
   | (with_reducible exact LeO.refl _)
   | (with_reducible exact LeO.none _)
   | (with_reducible refine LeO.ite ?_ ?_)
   | (with_reducible refine LeO.bind ?_ (fun _ => ?_))
theorem spec_l1Cur_spoilt.mono : ∀ a0 a1 a2 a3 a4 k, LeO (spec_l1Cur_spoilt.f k a0 a1 a2 a3 a4) (spec_l1Cur_spoilt.f (k + 1) a0 a1 a2 a3 a4) := by
 intro a0 a1 a2 a3 a4 k
 obtain ⟨ih0, ih1⟩ := spec_l1Cur_spoilt.mono_l k
 unfold spec_l1Cur_spoilt.f
 repeat' first
   | (with_reducible exact ih0 _ _ _ _ _ _)
   | (with_reducible exact ih1 _ _ _ _ _ _ _)
   | (with_reducible exact LeO.refl _)
   | (with_reducible exact LeO.none _)
   | (with_reducible refine LeO.ite ?_ ?_)
   | (with_reducible refine LeO.bind ?_ (fun _ => ?_))
set_option maxHeartbeats 8000000 in
set_option maxRecDepth 100000 in
theorem spec_l1Cur_spoilt.calls (k : Nat) (g : Nat) (s0_0 : List Int) (s0_1 : Int) (s0_2 : Int) (a1 : ByteArray) (a2 : ByteArray) (r1 : ByteArray) (r2 : Int) (r3 : Int) (w0 w : World) (hI : IsS90 w0 w g s0_0 s0_1 s0_2) (hB : Below w0.heap.size w0 w) (h : spec_l1Cur_spoilt.f k s0_0 s0_1 s0_2 a1 a2 = some (r1, r2, r3)) :
  Calls Try.prog 86 #[.pointer (some ⟨g, 0, none⟩), .string a1, .string a2] w fun e w' => e = .returned (.string r1) ∧ IsS90 w0 w' g s0_0 r2 r3 ∧ Below w0.heap.size w0 w' ∧ KeepBut w w' g none := by
 have HI0 := aM hI
 have HK := aM (KeepBut.refl w g none)
 have HL := aM hB.size
 clear hI
 have HW0 := aM hB.size
 have HB := aM hB
 clear hB
 have H : ((spec_l1Cur_pick.f s0_0 s0_1 s0_2 3).bind fun lA => (spec_l1Cur_spoilt.l0 k a1 a2 lA.1 s0_0 lA.2.1 lA.2.2)) = some (r1, r2, r3) := h
 clear h
 obtain ⟨⟨rR, rQ, rP⟩, A4, H⟩ := oA_ H
 try dsimp only at H
 have H' := aM H
 clear H
 go_enter Try.func86, Try.ntmps86
 go_wp2_with (first | (go_at_call 66; (with_reducible refine (spec_l1Cur_pick.calls g s0_0 s0_1 s0_2 3 rR rQ rP w0 _ ?side1 ?side2 A4.out).mono ?_); (case side1 => exact y42); (case side2 => exact y35); rintro e w5 ⟨rfl, hi, hb, hk⟩; replace HK := aM (KeepBut.trans z34 hk (.inl rfl)); replace HB := aM (hb); replace HI0 := aM (hi); (try clear hb); (try clear hk); (try clear hi); (try clear d7)))
 repeat (go_quiet (fail); try go_wp2_with (first | (go_at_call 66; (with_reducible refine (spec_l1Cur_pick.calls g s0_0 s0_1 s0_2 3 rR rQ rP w0 _ ?side1 ?side2 A4.out).mono ?_); (case side1 => exact y42); (case side2 => exact y35); rintro e w5 ⟨rfl, hi, hb, hk⟩; replace HK := aM (KeepBut.trans z34 hk (.inl rfl)); replace HB := aM (hb); replace HI0 := aM (hi); (try clear hb); (try clear hk); (try clear hi); (try clear d7))))
 go_loopg [1, 7] k (fun kq v1 v7 w' => ∃ (x1_1 : ByteArray) (x7_1 : Int) (x1001_1 : Int) (x1002_1 : Int), v1 = .string x1_1 ∧ v7 = .int .i64 x7_1 ∧ Aside0 (spec_l1Cur_spoilt.l0 kq x1_1 a2 x7_1 s0_0 x1001_1 x1002_1 = some (r1, r2, r3)) ∧ Aside0 (kq ≤ k) ∧ Aside0 (IsS90 w0 w' g s0_0 x1001_1 x1002_1) ∧ Aside0 (KeepBut w w' g none) ∧ Aside0 (Below w0.heap.size w0 w'))
 case atStart => exact ⟨(a1), (rR), (rQ), (rP), z2, z2, H', ⟨Nat.le_refl _⟩, ⟨y19⟩, ⟨y14⟩, ⟨y13⟩⟩
 case round =>
  clear H'
  obtain ⟨x1_1, x7_1, x1001_1, x1002_1, rfl, rfl, HA, HK1, HI0, HK, HB⟩ := hrel
  cases gk with
  | zero => exact absurd HA.out (by simp [spec_l1Cur_spoilt.l0])
  | succ k1 =>
   have H := HA.out
   clear HA
   simp only [spec_l1Cur_spoilt.l0] at H
   have mm := aM H
   clear H
   go_upto_region 2 with (fail)
   repeat (go_quiet (fail); go_upto_region 2 with (fail))
   go_cut [18] (fun v18 wc => ∃ (kq : Nat) (x18_5 : Bool), v18 = .bool x18_5 ∧ Aside0 (spec_l1Cur_spoilt.j1 kq x1_1 a2 x7_1 x18_5 s0_0 x1001_1 x1002_1 = some (r1, r2, r3)) ∧ Aside0 (kq ≤ k1) ∧ Aside0 (IsS90 w0 wc g s0_0 x1001_1 x1002_1) ∧ Aside0 (KeepBut w wc g none) ∧ Aside0 (Below w0.heap.size w0 wc))
   case first =>
    have H := mm.out
    clear mm
    by_cases c7 : x7_1 > 0
    ·rw [if_pos c7] at H
     have c7b0 : decide (0 < x7_1) = true := dT c7
     clear c7
     (first | rw [c7b0] | (simp only [i64_w, i32_w]; rw [c7b0]) | skip)
     have H' := aM H
     clear H
     go_wp2
     repeat (go_quiet (fail); try go_wp2)
     go_meet
     case rel => exact ⟨_, (decide ((x1_1.size : Int) > 0)), z2, H', ⟨y2⟩, ⟨y19⟩, ⟨y14⟩, ⟨y13⟩⟩
    ·rw [if_neg c7] at H
     have c7b0 : decide (0 < x7_1) = false := dF c7
     clear c7
     (first | rw [c7b0] | (simp only [i64_w, i32_w]; rw [c7b0]) | skip)
     have H' := aM H
     clear H
     go_wp2
     repeat (go_quiet (fail); try go_wp2)
     go_meet
     case rel => exact ⟨_, (false), z2, H', ⟨y2⟩, ⟨y19⟩, ⟨y14⟩, ⟨y13⟩⟩
   case rest =>
    clear mm
    try clear p2
    try clear p2
    obtain ⟨kq, x18_5, rfl, HA, ri, HI0, HK, HB⟩ := hcut
    cases kq with
    | zero => exact absurd HA.out (by simp [spec_l1Cur_spoilt.j1])
    | succ kj5 =>
     have H := HA.out
     clear HA
     simp only [spec_l1Cur_spoilt.j1] at H
     by_cases c8 : x18_5 = true
     ·subst c8
      rw [if_pos rfl] at H
      obtain ⟨⟨cQ, iv, iu⟩, A9, H⟩ := oA_ H
      try dsimp only at H
      obtain ⟨⟨cV, gh, gc⟩, i5, H⟩ := oA_ H
      try dsimp only at H
      by_cases fY : 0 ≤ cV
      ·rw [if_pos fY] at H
       have c11b0 : decide (0 ≤ cV) = true := dT fY
       clear fY
       by_cases gj : cV < (a2.size : Int)
       ·rw [if_pos gj] at H
        have c12b0 : decide (cV < (a2.size : Int)) = true := dT gj
        clear gj
        obtain ⟨y270, hy270⟩ : ∃ y_ : List Int, y_ = (([bt a2 cV] : List Int)) := ⟨_, rfl⟩
        replace H : ((spec_l1Cur_pick.f s0_0 gh gc 3).bind fun gw => (if gw.1 = 0 then (if 0 ≤ cQ then (if cQ ≤ (x1_1.size : Int) then (if (x1_1.extract 0 (cQ : Int).toNat).size + (strOfNums y270).size ≤ 9223372036854775807 then (if ((x1_1.extract 0 (cQ : Int).toNat) ++ (strOfNums y270)).size + (x1_1.extract (cQ : Int).toNat x1_1.size).size ≤ 9223372036854775807 then (spec_l1Cur_spoilt.l0 kj5 (((x1_1.extract 0 (cQ : Int).toNat) ++ (strOfNums y270)) ++ (x1_1.extract (cQ : Int).toNat x1_1.size)) a2 (wrap64 (x7_1 - 1)) s0_0 gw.2.1 gw.2.2) else (none)) else (none)) else (none)) else (none)) else (if gw.1 = 1 then (if 0 ≤ cQ then (if cQ ≤ (x1_1.size : Int) then (if (x1_1.extract 0 (cQ : Int).toNat).size + (strOfNums y270).size ≤ 9223372036854775807 then (if 0 ≤ (wrap64 (cQ + 1)) then (if (wrap64 (cQ + 1)) ≤ (x1_1.size : Int) then (if ((x1_1.extract 0 (cQ : Int).toNat) ++ (strOfNums y270)).size + (x1_1.extract ((wrap64 (cQ + 1)) : Int).toNat x1_1.size).size ≤ 9223372036854775807 then (spec_l1Cur_spoilt.l0 kj5 (((x1_1.extract 0 (cQ : Int).toNat) ++ (strOfNums y270)) ++ (x1_1.extract ((wrap64 (cQ + 1)) : Int).toNat x1_1.size)) a2 (wrap64 (x7_1 - 1)) s0_0 gw.2.1 gw.2.2) else (none)) else (none)) else (none)) else (none)) else (none)) else (none)) else (if 0 ≤ cQ then (if cQ ≤ (x1_1.size : Int) then (if 0 ≤ (wrap64 (cQ + 1)) then (if (wrap64 (cQ + 1)) ≤ (x1_1.size : Int) then (if (x1_1.extract 0 (cQ : Int).toNat).size + (x1_1.extract ((wrap64 (cQ + 1)) : Int).toNat x1_1.size).size ≤ 9223372036854775807 then (spec_l1Cur_spoilt.l0 kj5 ((x1_1.extract 0 (cQ : Int).toNat) ++ (x1_1.extract ((wrap64 (cQ + 1)) : Int).toNat x1_1.size)) a2 (wrap64 (x7_1 - 1)) s0_0 gw.2.1 gw.2.2) else (none)) else (none)) else (none)) else (none)) else (none))))) = some (r1, r2, r3) := by first | (rw [hy270]; with_reducible exact H) | (have H2_ := (Option.bind_some _ _).symm.trans H; rw [hy270]; with_reducible exact H2_) | (have H2_ := (Option.bind_some _ _).symm.trans H; with_reducible exact H2_) | with_reducible exact H | (rw [hy270]; exact H) | exact H
        have Ny270 := aM hy270
        clear hy270
        obtain ⟨⟨il, jl, jk⟩, iP, H⟩ := oA_ H
        try dsimp only at H
        by_cases gn : il = 0
        ·rw [if_pos gn] at H
         have c15b0 : (il == 0) = true := qT gn
         have c15b1 : (il != 0) = false := nF gn
         clear gn
         by_cases gE : 0 ≤ cQ
         ·rw [if_pos gE] at H
          have c16b0 := eq_true gE
          have c16b1 : decide (0 ≤ cQ) = true := dT gE
          clear gE
          by_cases gA : cQ ≤ (x1_1.size : Int)
          ·rw [if_pos gA] at H
           have c17b0 := eq_true gA
           have c17b1 : decide (cQ ≤ (x1_1.size : Int)) = true := dT gA
           clear gA
           by_cases hH : (x1_1.extract 0 (cQ : Int).toNat).size + (strOfNums y270).size ≤ 9223372036854775807
           ·rw [if_pos hH] at H
            have c18b0 := eq_true hH
            have c18b1 : decide ((x1_1.extract 0 (cQ : Int).toNat).size + (strOfNums y270).size ≤ 9223372036854775807) = true := dT hH
            try have c18b2 : (9223372036854775807 < (x1_1.extract 0 (cQ : Int).toNat).size + (strOfNums y270).size) = False := eq_false (Nat.not_lt.2 hH)
            (try (have c18x : (9223372036854775807 < (cQ).toNat + (strOfNums y270).size) = False := eq_false (fun h_ => by have e_ := of_eq_true c18b0; simp only [a8, a7] at e_; have f0_ : (cQ) ≤ (x1_1.size : Int) := (by first | assumption | exact of_eq_true (by assumption) | exact oD (by assumption)); omega)))
            have c19b0 := eq_true (oD z3 : 0 ≤ cQ)
            have c20b0 := eq_true (oD z3 : cQ ≤ (x1_1.size : Int))
            by_cases lU : ((x1_1.extract 0 (cQ : Int).toNat) ++ (strOfNums y270)).size + (x1_1.extract (cQ : Int).toNat x1_1.size).size ≤ 9223372036854775807
            ·rw [if_pos lU] at H
             have c21b0 := eq_true lU
             have c21b1 : decide (((x1_1.extract 0 (cQ : Int).toNat) ++ (strOfNums y270)).size + (x1_1.extract (cQ : Int).toNat x1_1.size).size ≤ 9223372036854775807) = true := dT lU
             try have c21b2 : (9223372036854775807 < ((x1_1.extract 0 (cQ : Int).toNat) ++ (strOfNums y270)).size + (x1_1.extract (cQ : Int).toNat x1_1.size).size) = False := eq_false (Nat.not_lt.2 lU)
             (try (have c21x : (9223372036854775807 < ((cQ).toNat + (strOfNums y270).size) + (x1_1.size.toNat - (cQ).toNat)) = False := eq_false (fun h_ => by have e_ := of_eq_true c21b0; simp only [a8, a7] at e_; have f0_ : x1_1.size ≤ (x1_1.size : Int) := (by first | assumption | exact of_eq_true (by assumption) | exact oD (by assumption)); have f1_ : (cQ) ≤ (x1_1.size : Int) := (by first | assumption | exact of_eq_true (by assumption) | exact oD (by assumption)); omega)))
             (try (have c21b2s := c21b2; simp only [a7] at c21b2s))
             have H' := aM H
             clear H
             go_wp2_with (first | (go_at_call 66; (with_reducible refine (spec_l1Cur_pick.calls g s0_0 x1001_1 x1002_1 (x1_1.size : Int) cQ iv iu w0 _ ?side1 ?side2 A9.out).mono ?_); (case side1 => exact y42); (case side2 => exact y35); rintro e w22 ⟨rfl, hi, hb, hk⟩; replace HK := aM (KeepBut.trans z34 hk (.inl rfl)); replace HB := aM (hb); replace HI0 := aM (hi); (try clear hb); (try clear hk); (try clear hi); (try clear d7)) | (go_at_call 66; (with_reducible refine (spec_l1Cur_pick.calls g s0_0 iv iu (a2.size : Int) cV gh gc w0 _ ?side1 ?side2 i5.out).mono ?_); (case side1 => exact y42); (case side2 => exact y35); rintro e w23 ⟨rfl, hi, hb, hk⟩; replace HK := aM (KeepBut.trans z34 hk (.inl rfl)); replace HB := aM (hb); replace HI0 := aM (hi); (try clear hb); (try clear hk); (try clear hi); (try clear d7); have p13 : 0 ≤ (cV : Int) := oD z3; have q13 : cV < (a2.size : Int) := oD z3; have hx13 := bt_at a2 cV; replace p13 := eq_true p13; replace q13 := eq_true q13) | ((with_reducible refine aN (N := 31) rfl ?_); (try (refine gate_guard (by rfl) ?_; dsimp only)); refine Kd.R_lit (Kd.int .u8) _ 5 ?hg (N := 31) ?hd (xs := ([bt a2 cV] : List Int)) (inner := [.int .u8 (bt a2 cV)]) (ok := fun _ => True) (okp := fun _ => True) ?hr ?hp (fun _ hk => hk) trivial (Below.refl _ _) (Nat.le_refl _) (by simp) ?_; (case hd => rfl); (case hg => rfl); (case hr => first | (go_simp; done) | (go_simp; rfl)); (case hp => exact (Reps.one (show Kd.M (Kd.int .u8) _ _ _ (bt a2 cV) [.int .u8 (bt a2 cV)] from rfl) (Reps.none _ _))); intro v271 w24 ho25 hb hg_ hnew_; clear hg_ hnew_; (first | rw [← Ny270.out] at ho25 | (simp only [Int.reduceToNat] at ho25; rw [← Ny270.out] at ho25)); have dd := aM (aW ho25 (keep_size (w := w) (g := g) (row := none) z34)); replace HK := aM (KeepBut.trans z34 (KeepBut.of_below hb g none) (.inl rfl)); replace HB := aM (aA z41 hb); replace HI0 := aM (IsS90.below z42 hb); clear hb ho25; have hcv26 := own_string (P := Try.prog) Try.underlying41 Try.underlying5 Try.underlying9 (Kd.own_of_R dd.out)) | (go_at_call 66; (with_reducible refine (spec_l1Cur_pick.calls g s0_0 gh gc 3 il jl jk w0 _ ?side1 ?side2 iP.out).mono ?_); (case side1 => exact y42); (case side2 => exact y35); rintro e w27 ⟨rfl, hi, hb, hk⟩; replace dd := aM (ah (Kd.R_keep (IsS90.apart (show IsS90 w0 _ g s0_0 gh gc from by (try simp only [Int.add_zero]); repeat (first | (with_reducible first | exact HI0.out | apply IsS90.alloc | apply IsS90.drewN | apply IsS90.drew | apply IsS90.set_1 | apply IsS90.set_2) | exact HI0.out)) (kR_ dd.out) z0) hk (fun _ h => h.2)) (fun _ h => h.1)); replace HK := aM (KeepBut.trans z34 hk (.inl rfl)); replace HB := aM (hb); replace HI0 := aM (hi); (try clear hb); (try clear hk); (try clear hi); (try clear d7)))
             repeat (go_quiet (fail); try go_wp2_with (first | (go_at_call 66; (with_reducible refine (spec_l1Cur_pick.calls g s0_0 x1001_1 x1002_1 (x1_1.size : Int) cQ iv iu w0 _ ?side1 ?side2 A9.out).mono ?_); (case side1 => exact y42); (case side2 => exact y35); rintro e w22 ⟨rfl, hi, hb, hk⟩; replace HK := aM (KeepBut.trans z34 hk (.inl rfl)); replace HB := aM (hb); replace HI0 := aM (hi); (try clear hb); (try clear hk); (try clear hi); (try clear d7)) | (go_at_call 66; (with_reducible refine (spec_l1Cur_pick.calls g s0_0 iv iu (a2.size : Int) cV gh gc w0 _ ?side1 ?side2 i5.out).mono ?_); (case side1 => exact y42); (case side2 => exact y35); rintro e w23 ⟨rfl, hi, hb, hk⟩; replace HK := aM (KeepBut.trans z34 hk (.inl rfl)); replace HB := aM (hb); replace HI0 := aM (hi); (try clear hb); (try clear hk); (try clear hi); (try clear d7); have p13 : 0 ≤ (cV : Int) := oD z3; have q13 : cV < (a2.size : Int) := oD z3; have hx13 := bt_at a2 cV; replace p13 := eq_true p13; replace q13 := eq_true q13) | ((with_reducible refine aN (N := 31) rfl ?_); (try (refine gate_guard (by rfl) ?_; dsimp only)); refine Kd.R_lit (Kd.int .u8) _ 5 ?hg (N := 31) ?hd (xs := ([bt a2 cV] : List Int)) (inner := [.int .u8 (bt a2 cV)]) (ok := fun _ => True) (okp := fun _ => True) ?hr ?hp (fun _ hk => hk) trivial (Below.refl _ _) (Nat.le_refl _) (by simp) ?_; (case hd => rfl); (case hg => rfl); (case hr => first | (go_simp; done) | (go_simp; rfl)); (case hp => exact (Reps.one (show Kd.M (Kd.int .u8) _ _ _ (bt a2 cV) [.int .u8 (bt a2 cV)] from rfl) (Reps.none _ _))); intro v271 w24 ho25 hb hg_ hnew_; clear hg_ hnew_; (first | rw [← Ny270.out] at ho25 | (simp only [Int.reduceToNat] at ho25; rw [← Ny270.out] at ho25)); have dd := aM (aW ho25 (keep_size (w := w) (g := g) (row := none) z34)); replace HK := aM (KeepBut.trans z34 (KeepBut.of_below hb g none) (.inl rfl)); replace HB := aM (aA z41 hb); replace HI0 := aM (IsS90.below z42 hb); clear hb ho25; have hcv26 := own_string (P := Try.prog) Try.underlying41 Try.underlying5 Try.underlying9 (Kd.own_of_R dd.out)) | (go_at_call 66; (with_reducible refine (spec_l1Cur_pick.calls g s0_0 gh gc 3 il jl jk w0 _ ?side1 ?side2 iP.out).mono ?_); (case side1 => exact y42); (case side2 => exact y35); rintro e w27 ⟨rfl, hi, hb, hk⟩; replace dd := aM (ah (Kd.R_keep (IsS90.apart (show IsS90 w0 _ g s0_0 gh gc from by (try simp only [Int.add_zero]); repeat (first | (with_reducible first | exact HI0.out | apply IsS90.alloc | apply IsS90.drewN | apply IsS90.drew | apply IsS90.set_1 | apply IsS90.set_2) | exact HI0.out)) (kR_ dd.out) z0) hk (fun _ h => h.2)) (fun _ h => h.1)); replace HK := aM (KeepBut.trans z34 hk (.inl rfl)); replace HB := aM (hb); replace HI0 := aM (hi); (try clear hb); (try clear hk); (try clear hi); (try clear d7))))
             go_roundg kj5
             case measure => have := HK1.out; have := ri.out; omega
             case rel => exact ⟨(((x1_1.extract 0 (cQ : Int).toNat) ++ (strOfNums y270)) ++ (x1_1.extract (cQ : Int).toNat x1_1.size)), (wrap64 (x7_1 - 1)), (jl), (jk), z2, z2, H', ⟨by have := HK1.out; have := ri.out; omega⟩, ⟨y19⟩, ⟨y14⟩, ⟨y13⟩⟩
            ·rw [if_neg lU] at H
             exact absurd H (by simp)
           ·rw [if_neg hH] at H
            exact absurd H (by simp)
          ·rw [if_neg gA] at H
           exact absurd H (by simp)
         ·rw [if_neg gE] at H
          exact absurd H (by simp)
        ·rw [if_neg gn] at H
         have c15b0 : (il == 0) = false := qF gn
         have c15b1 : (il != 0) = true := nT gn
         by_cases nm : il = 1
         ·rw [if_pos nm] at H
          have c28b0 : (il == 1) = true := qT nm
          have c28b1 : (il != 1) = false := nF nm
          clear nm
          by_cases jO : 0 ≤ cQ
          ·rw [if_pos jO] at H
           have c29b0 := eq_true jO
           have c29b1 : decide (0 ≤ cQ) = true := dT jO
           clear jO
           by_cases uh : cQ ≤ (x1_1.size : Int)
           ·rw [if_pos uh] at H
            have c30b0 := eq_true uh
            have c30b1 : decide (cQ ≤ (x1_1.size : Int)) = true := dT uh
            clear uh
            by_cases rC : (x1_1.extract 0 (cQ : Int).toNat).size + (strOfNums y270).size ≤ 9223372036854775807
            ·rw [if_pos rC] at H
             have c31b0 := eq_true rC
             have c31b1 : decide ((x1_1.extract 0 (cQ : Int).toNat).size + (strOfNums y270).size ≤ 9223372036854775807) = true := dT rC
             try have c31b2 : (9223372036854775807 < (x1_1.extract 0 (cQ : Int).toNat).size + (strOfNums y270).size) = False := eq_false (Nat.not_lt.2 rC)
             (try (have c31x : (9223372036854775807 < (cQ).toNat + (strOfNums y270).size) = False := eq_false (fun h_ => by have e_ := of_eq_true c31b0; simp only [a8, a7] at e_; have f0_ : (cQ) ≤ (x1_1.size : Int) := (by first | assumption | exact of_eq_true (by assumption) | exact oD (by assumption)); omega)))
             obtain ⟨jq, js⟩ : ∃ j_ : Int, (wrap64 (cQ + 1)) = j_ := ⟨_, rfl⟩
             replace H : (if 0 ≤ (jq) then (if (jq) ≤ (x1_1.size : Int) then (if ((x1_1.extract 0 (cQ : Int).toNat) ++ (strOfNums y270)).size + (x1_1.extract ((jq) : Int).toNat x1_1.size).size ≤ 9223372036854775807 then (spec_l1Cur_spoilt.l0 kj5 (((x1_1.extract 0 (cQ : Int).toNat) ++ (strOfNums y270)) ++ (x1_1.extract ((jq) : Int).toNat x1_1.size)) a2 (wrap64 (x7_1 - 1)) s0_0 jl jk) else (none)) else (none)) else (none)) = some (r1, r2, r3) := by first | (rw [js] at H; exact H) | (simp only [js] at H ⊢; exact H)
             (try rw [js] at A9)
             (try rw [js] at i5)
             (try rw [js] at iP)
             have hji32w : (IntKind.i64.wrap (cQ + 1)) = jq := (i64_w _).trans js
             by_cases pP : 0 ≤ (jq)
             ·rw [if_pos pP] at H
              have c33b0 := eq_true pP
              have c33b1 : decide (0 ≤ (jq)) = true := dT pP
              clear pP
              by_cases ug : (jq) ≤ (x1_1.size : Int)
              ·rw [if_pos ug] at H
               have c34b0 := eq_true ug
               have c34b1 : decide ((jq) ≤ (x1_1.size : Int)) = true := dT ug
               clear ug
               by_cases qS : ((x1_1.extract 0 (cQ : Int).toNat) ++ (strOfNums y270)).size + (x1_1.extract ((jq) : Int).toNat x1_1.size).size ≤ 9223372036854775807
               ·rw [if_pos qS] at H
                have c35b0 := eq_true qS
                have c35b1 : decide (((x1_1.extract 0 (cQ : Int).toNat) ++ (strOfNums y270)).size + (x1_1.extract ((jq) : Int).toNat x1_1.size).size ≤ 9223372036854775807) = true := dT qS
                try have c35b2 : (9223372036854775807 < ((x1_1.extract 0 (cQ : Int).toNat) ++ (strOfNums y270)).size + (x1_1.extract ((jq) : Int).toNat x1_1.size).size) = False := eq_false (Nat.not_lt.2 qS)
                (try (have c35x : (9223372036854775807 < ((cQ).toNat + (strOfNums y270).size) + (x1_1.size.toNat - (jq).toNat)) = False := eq_false (fun h_ => by have e_ := of_eq_true c35b0; simp only [a8, a7] at e_; have f0_ : x1_1.size ≤ (x1_1.size : Int) := (by first | assumption | exact of_eq_true (by assumption) | exact oD (by assumption)); have f1_ : (cQ) ≤ (x1_1.size : Int) := (by first | assumption | exact of_eq_true (by assumption) | exact oD (by assumption)); omega)))
                (try (have c35b2s := c35b2; simp only [a7] at c35b2s))
                have H' := aM H
                clear H
                go_wp2_with (first | (go_at_call 66; (with_reducible refine (spec_l1Cur_pick.calls g s0_0 x1001_1 x1002_1 (x1_1.size : Int) cQ iv iu w0 _ ?side1 ?side2 A9.out).mono ?_); (case side1 => exact y42); (case side2 => exact y35); rintro e w36 ⟨rfl, hi, hb, hk⟩; replace HK := aM (KeepBut.trans z34 hk (.inl rfl)); replace HB := aM (hb); replace HI0 := aM (hi); (try clear hb); (try clear hk); (try clear hi); (try clear d7)) | (go_at_call 66; (with_reducible refine (spec_l1Cur_pick.calls g s0_0 iv iu (a2.size : Int) cV gh gc w0 _ ?side1 ?side2 i5.out).mono ?_); (case side1 => exact y42); (case side2 => exact y35); rintro e w37 ⟨rfl, hi, hb, hk⟩; replace HK := aM (KeepBut.trans z34 hk (.inl rfl)); replace HB := aM (hb); replace HI0 := aM (hi); (try clear hb); (try clear hk); (try clear hi); (try clear d7); have p13 : 0 ≤ (cV : Int) := oD z3; have q13 : cV < (a2.size : Int) := oD z3; have hx13 := bt_at a2 cV; replace p13 := eq_true p13; replace q13 := eq_true q13) | ((with_reducible refine aN (N := 31) rfl ?_); (try (refine gate_guard (by rfl) ?_; dsimp only)); refine Kd.R_lit (Kd.int .u8) _ 5 ?hg (N := 31) ?hd (xs := ([bt a2 cV] : List Int)) (inner := [.int .u8 (bt a2 cV)]) (ok := fun _ => True) (okp := fun _ => True) ?hr ?hp (fun _ hk => hk) trivial (Below.refl _ _) (Nat.le_refl _) (by simp) ?_; (case hd => rfl); (case hg => rfl); (case hr => first | (go_simp; done) | (go_simp; rfl)); (case hp => exact (Reps.one (show Kd.M (Kd.int .u8) _ _ _ (bt a2 cV) [.int .u8 (bt a2 cV)] from rfl) (Reps.none _ _))); intro v271 w38 ho39 hb hg_ hnew_; clear hg_ hnew_; (first | rw [← Ny270.out] at ho39 | (simp only [Int.reduceToNat] at ho39; rw [← Ny270.out] at ho39)); have dd := aM (aW ho39 (keep_size (w := w) (g := g) (row := none) z34)); replace HK := aM (KeepBut.trans z34 (KeepBut.of_below hb g none) (.inl rfl)); replace HB := aM (aA z41 hb); replace HI0 := aM (IsS90.below z42 hb); clear hb ho39; have hcv40 := own_string (P := Try.prog) Try.underlying41 Try.underlying5 Try.underlying9 (Kd.own_of_R dd.out)) | (go_at_call 66; (with_reducible refine (spec_l1Cur_pick.calls g s0_0 gh gc 3 il jl jk w0 _ ?side1 ?side2 iP.out).mono ?_); (case side1 => exact y42); (case side2 => exact y35); rintro e w41 ⟨rfl, hi, hb, hk⟩; replace dd := aM (ah (Kd.R_keep (IsS90.apart (show IsS90 w0 _ g s0_0 gh gc from by (try simp only [Int.add_zero]); repeat (first | (with_reducible first | exact HI0.out | apply IsS90.alloc | apply IsS90.drewN | apply IsS90.drew | apply IsS90.set_1 | apply IsS90.set_2) | exact HI0.out)) (kR_ dd.out) z0) hk (fun _ h => h.2)) (fun _ h => h.1)); replace HK := aM (KeepBut.trans z34 hk (.inl rfl)); replace HB := aM (hb); replace HI0 := aM (hi); (try clear hb); (try clear hk); (try clear hi); (try clear d7)))
                repeat (go_quiet (fail); try go_wp2_with (first | (go_at_call 66; (with_reducible refine (spec_l1Cur_pick.calls g s0_0 x1001_1 x1002_1 (x1_1.size : Int) cQ iv iu w0 _ ?side1 ?side2 A9.out).mono ?_); (case side1 => exact y42); (case side2 => exact y35); rintro e w36 ⟨rfl, hi, hb, hk⟩; replace HK := aM (KeepBut.trans z34 hk (.inl rfl)); replace HB := aM (hb); replace HI0 := aM (hi); (try clear hb); (try clear hk); (try clear hi); (try clear d7)) | (go_at_call 66; (with_reducible refine (spec_l1Cur_pick.calls g s0_0 iv iu (a2.size : Int) cV gh gc w0 _ ?side1 ?side2 i5.out).mono ?_); (case side1 => exact y42); (case side2 => exact y35); rintro e w37 ⟨rfl, hi, hb, hk⟩; replace HK := aM (KeepBut.trans z34 hk (.inl rfl)); replace HB := aM (hb); replace HI0 := aM (hi); (try clear hb); (try clear hk); (try clear hi); (try clear d7); have p13 : 0 ≤ (cV : Int) := oD z3; have q13 : cV < (a2.size : Int) := oD z3; have hx13 := bt_at a2 cV; replace p13 := eq_true p13; replace q13 := eq_true q13) | ((with_reducible refine aN (N := 31) rfl ?_); (try (refine gate_guard (by rfl) ?_; dsimp only)); refine Kd.R_lit (Kd.int .u8) _ 5 ?hg (N := 31) ?hd (xs := ([bt a2 cV] : List Int)) (inner := [.int .u8 (bt a2 cV)]) (ok := fun _ => True) (okp := fun _ => True) ?hr ?hp (fun _ hk => hk) trivial (Below.refl _ _) (Nat.le_refl _) (by simp) ?_; (case hd => rfl); (case hg => rfl); (case hr => first | (go_simp; done) | (go_simp; rfl)); (case hp => exact (Reps.one (show Kd.M (Kd.int .u8) _ _ _ (bt a2 cV) [.int .u8 (bt a2 cV)] from rfl) (Reps.none _ _))); intro v271 w38 ho39 hb hg_ hnew_; clear hg_ hnew_; (first | rw [← Ny270.out] at ho39 | (simp only [Int.reduceToNat] at ho39; rw [← Ny270.out] at ho39)); have dd := aM (aW ho39 (keep_size (w := w) (g := g) (row := none) z34)); replace HK := aM (KeepBut.trans z34 (KeepBut.of_below hb g none) (.inl rfl)); replace HB := aM (aA z41 hb); replace HI0 := aM (IsS90.below z42 hb); clear hb ho39; have hcv40 := own_string (P := Try.prog) Try.underlying41 Try.underlying5 Try.underlying9 (Kd.own_of_R dd.out)) | (go_at_call 66; (with_reducible refine (spec_l1Cur_pick.calls g s0_0 gh gc 3 il jl jk w0 _ ?side1 ?side2 iP.out).mono ?_); (case side1 => exact y42); (case side2 => exact y35); rintro e w41 ⟨rfl, hi, hb, hk⟩; replace dd := aM (ah (Kd.R_keep (IsS90.apart (show IsS90 w0 _ g s0_0 gh gc from by (try simp only [Int.add_zero]); repeat (first | (with_reducible first | exact HI0.out | apply IsS90.alloc | apply IsS90.drewN | apply IsS90.drew | apply IsS90.set_1 | apply IsS90.set_2) | exact HI0.out)) (kR_ dd.out) z0) hk (fun _ h => h.2)) (fun _ h => h.1)); replace HK := aM (KeepBut.trans z34 hk (.inl rfl)); replace HB := aM (hb); replace HI0 := aM (hi); (try clear hb); (try clear hk); (try clear hi); (try clear d7))))
                go_roundg kj5
                case measure => have := HK1.out; have := ri.out; omega
                case rel => exact ⟨(((x1_1.extract 0 (cQ : Int).toNat) ++ (strOfNums y270)) ++ (x1_1.extract ((jq) : Int).toNat x1_1.size)), (wrap64 (x7_1 - 1)), (jl), (jk), (by first | rfl | (simp; done) | (simp only [← js] <;> (first | rfl | (simp; done) | (simp; generalize ByteArray.toList _ = u_; cases u_ <;> (first | rfl | (simp; done))))) | (simp [*]; done)), z2, (by first | exact H' | (simp only [js]; exact H') | (simp only [← js]; exact H')), ⟨by have := HK1.out; have := ri.out; omega⟩, ⟨y19⟩, ⟨y14⟩, ⟨y13⟩⟩
               ·rw [if_neg qS] at H
                exact absurd H (by simp)
              ·rw [if_neg ug] at H
               exact absurd H (by simp)
             ·rw [if_neg pP] at H
              exact absurd H (by simp)
            ·rw [if_neg rC] at H
             exact absurd H (by simp)
           ·rw [if_neg uh] at H
            exact absurd H (by simp)
          ·rw [if_neg jO] at H
           exact absurd H (by simp)
         ·rw [if_neg nm] at H
          have c28b0 : (il == 1) = false := qF nm
          have c28b1 : (il != 1) = true := nT nm
          by_cases qd : 0 ≤ cQ
          ·rw [if_pos qd] at H
           have c42b0 := eq_true qd
           have c42b1 : decide (0 ≤ cQ) = true := dT qd
           clear qd
           by_cases vw : cQ ≤ (x1_1.size : Int)
           ·rw [if_pos vw] at H
            have c43b0 := eq_true vw
            have c43b1 : decide (cQ ≤ (x1_1.size : Int)) = true := dT vw
            clear vw
            obtain ⟨jp, jr⟩ : ∃ j_ : Int, (wrap64 (cQ + 1)) = j_ := ⟨_, rfl⟩
            replace H : (if 0 ≤ (jp) then (if (jp) ≤ (x1_1.size : Int) then (if (x1_1.extract 0 (cQ : Int).toNat).size + (x1_1.extract ((jp) : Int).toNat x1_1.size).size ≤ 9223372036854775807 then (spec_l1Cur_spoilt.l0 kj5 ((x1_1.extract 0 (cQ : Int).toNat) ++ (x1_1.extract ((jp) : Int).toNat x1_1.size)) a2 (wrap64 (x7_1 - 1)) s0_0 jl jk) else (none)) else (none)) else (none)) = some (r1, r2, r3) := by first | (rw [jr] at H; exact H) | (simp only [jr] at H ⊢; exact H)
            (try rw [jr] at A9)
            (try rw [jr] at i5)
            (try rw [jr] at iP)
            have hji44w : (IntKind.i64.wrap (cQ + 1)) = jp := (i64_w _).trans jr
            by_cases vv : 0 ≤ (jp)
            ·rw [if_pos vv] at H
             have c45b0 := eq_true vv
             have c45b1 : decide (0 ≤ (jp)) = true := dT vv
             clear vv
             by_cases ue : (jp) ≤ (x1_1.size : Int)
             ·rw [if_pos ue] at H
              have c46b0 := eq_true ue
              have c46b1 : decide ((jp) ≤ (x1_1.size : Int)) = true := dT ue
              clear ue
              by_cases ud : (x1_1.extract 0 (cQ : Int).toNat).size + (x1_1.extract ((jp) : Int).toNat x1_1.size).size ≤ 9223372036854775807
              ·rw [if_pos ud] at H
               have c47b0 := eq_true ud
               have c47b1 : decide ((x1_1.extract 0 (cQ : Int).toNat).size + (x1_1.extract ((jp) : Int).toNat x1_1.size).size ≤ 9223372036854775807) = true := dT ud
               try have c47b2 : (9223372036854775807 < (x1_1.extract 0 (cQ : Int).toNat).size + (x1_1.extract ((jp) : Int).toNat x1_1.size).size) = False := eq_false (Nat.not_lt.2 ud)
               (try (have c47x : (9223372036854775807 < (cQ).toNat + (x1_1.size.toNat - (jp).toNat)) = False := eq_false (fun h_ => by have e_ := of_eq_true c47b0; simp only [a8, a7] at e_; have f0_ : x1_1.size ≤ (x1_1.size : Int) := (by first | assumption | exact of_eq_true (by assumption) | exact oD (by assumption)); have f1_ : (cQ) ≤ (x1_1.size : Int) := (by first | assumption | exact of_eq_true (by assumption) | exact oD (by assumption)); omega)))
               have H' := aM H
               clear H
               go_wp2_with (first | (go_at_call 66; (with_reducible refine (spec_l1Cur_pick.calls g s0_0 x1001_1 x1002_1 (x1_1.size : Int) cQ iv iu w0 _ ?side1 ?side2 A9.out).mono ?_); (case side1 => exact y42); (case side2 => exact y35); rintro e w48 ⟨rfl, hi, hb, hk⟩; replace HK := aM (KeepBut.trans z34 hk (.inl rfl)); replace HB := aM (hb); replace HI0 := aM (hi); (try clear hb); (try clear hk); (try clear hi); (try clear d7)) | (go_at_call 66; (with_reducible refine (spec_l1Cur_pick.calls g s0_0 iv iu (a2.size : Int) cV gh gc w0 _ ?side1 ?side2 i5.out).mono ?_); (case side1 => exact y42); (case side2 => exact y35); rintro e w49 ⟨rfl, hi, hb, hk⟩; replace HK := aM (KeepBut.trans z34 hk (.inl rfl)); replace HB := aM (hb); replace HI0 := aM (hi); (try clear hb); (try clear hk); (try clear hi); (try clear d7); have p13 : 0 ≤ (cV : Int) := oD z3; have q13 : cV < (a2.size : Int) := oD z3; have hx13 := bt_at a2 cV; replace p13 := eq_true p13; replace q13 := eq_true q13) | ((with_reducible refine aN (N := 31) rfl ?_); (try (refine gate_guard (by rfl) ?_; dsimp only)); refine Kd.R_lit (Kd.int .u8) _ 5 ?hg (N := 31) ?hd (xs := ([bt a2 cV] : List Int)) (inner := [.int .u8 (bt a2 cV)]) (ok := fun _ => True) (okp := fun _ => True) ?hr ?hp (fun _ hk => hk) trivial (Below.refl _ _) (Nat.le_refl _) (by simp) ?_; (case hd => rfl); (case hg => rfl); (case hr => first | (go_simp; done) | (go_simp; rfl)); (case hp => exact (Reps.one (show Kd.M (Kd.int .u8) _ _ _ (bt a2 cV) [.int .u8 (bt a2 cV)] from rfl) (Reps.none _ _))); intro v271 w50 ho51 hb hg_ hnew_; clear hg_ hnew_; (first | rw [← Ny270.out] at ho51 | (simp only [Int.reduceToNat] at ho51; rw [← Ny270.out] at ho51)); have dd := aM (aW ho51 (keep_size (w := w) (g := g) (row := none) z34)); replace HK := aM (KeepBut.trans z34 (KeepBut.of_below hb g none) (.inl rfl)); replace HB := aM (aA z41 hb); replace HI0 := aM (IsS90.below z42 hb); clear hb ho51; have hcv52 := own_string (P := Try.prog) Try.underlying41 Try.underlying5 Try.underlying9 (Kd.own_of_R dd.out)) | (go_at_call 66; (with_reducible refine (spec_l1Cur_pick.calls g s0_0 gh gc 3 il jl jk w0 _ ?side1 ?side2 iP.out).mono ?_); (case side1 => exact y42); (case side2 => exact y35); rintro e w53 ⟨rfl, hi, hb, hk⟩; replace dd := aM (ah (Kd.R_keep (IsS90.apart (show IsS90 w0 _ g s0_0 gh gc from by (try simp only [Int.add_zero]); repeat (first | (with_reducible first | exact HI0.out | apply IsS90.alloc | apply IsS90.drewN | apply IsS90.drew | apply IsS90.set_1 | apply IsS90.set_2) | exact HI0.out)) (kR_ dd.out) z0) hk (fun _ h => h.2)) (fun _ h => h.1)); replace HK := aM (KeepBut.trans z34 hk (.inl rfl)); replace HB := aM (hb); replace HI0 := aM (hi); (try clear hb); (try clear hk); (try clear hi); (try clear d7)))
               repeat (go_quiet (fail); try go_wp2_with (first | (go_at_call 66; (with_reducible refine (spec_l1Cur_pick.calls g s0_0 x1001_1 x1002_1 (x1_1.size : Int) cQ iv iu w0 _ ?side1 ?side2 A9.out).mono ?_); (case side1 => exact y42); (case side2 => exact y35); rintro e w48 ⟨rfl, hi, hb, hk⟩; replace HK := aM (KeepBut.trans z34 hk (.inl rfl)); replace HB := aM (hb); replace HI0 := aM (hi); (try clear hb); (try clear hk); (try clear hi); (try clear d7)) | (go_at_call 66; (with_reducible refine (spec_l1Cur_pick.calls g s0_0 iv iu (a2.size : Int) cV gh gc w0 _ ?side1 ?side2 i5.out).mono ?_); (case side1 => exact y42); (case side2 => exact y35); rintro e w49 ⟨rfl, hi, hb, hk⟩; replace HK := aM (KeepBut.trans z34 hk (.inl rfl)); replace HB := aM (hb); replace HI0 := aM (hi); (try clear hb); (try clear hk); (try clear hi); (try clear d7); have p13 : 0 ≤ (cV : Int) := oD z3; have q13 : cV < (a2.size : Int) := oD z3; have hx13 := bt_at a2 cV; replace p13 := eq_true p13; replace q13 := eq_true q13) | ((with_reducible refine aN (N := 31) rfl ?_); (try (refine gate_guard (by rfl) ?_; dsimp only)); refine Kd.R_lit (Kd.int .u8) _ 5 ?hg (N := 31) ?hd (xs := ([bt a2 cV] : List Int)) (inner := [.int .u8 (bt a2 cV)]) (ok := fun _ => True) (okp := fun _ => True) ?hr ?hp (fun _ hk => hk) trivial (Below.refl _ _) (Nat.le_refl _) (by simp) ?_; (case hd => rfl); (case hg => rfl); (case hr => first | (go_simp; done) | (go_simp; rfl)); (case hp => exact (Reps.one (show Kd.M (Kd.int .u8) _ _ _ (bt a2 cV) [.int .u8 (bt a2 cV)] from rfl) (Reps.none _ _))); intro v271 w50 ho51 hb hg_ hnew_; clear hg_ hnew_; (first | rw [← Ny270.out] at ho51 | (simp only [Int.reduceToNat] at ho51; rw [← Ny270.out] at ho51)); have dd := aM (aW ho51 (keep_size (w := w) (g := g) (row := none) z34)); replace HK := aM (KeepBut.trans z34 (KeepBut.of_below hb g none) (.inl rfl)); replace HB := aM (aA z41 hb); replace HI0 := aM (IsS90.below z42 hb); clear hb ho51; have hcv52 := own_string (P := Try.prog) Try.underlying41 Try.underlying5 Try.underlying9 (Kd.own_of_R dd.out)) | (go_at_call 66; (with_reducible refine (spec_l1Cur_pick.calls g s0_0 gh gc 3 il jl jk w0 _ ?side1 ?side2 iP.out).mono ?_); (case side1 => exact y42); (case side2 => exact y35); rintro e w53 ⟨rfl, hi, hb, hk⟩; replace dd := aM (ah (Kd.R_keep (IsS90.apart (show IsS90 w0 _ g s0_0 gh gc from by (try simp only [Int.add_zero]); repeat (first | (with_reducible first | exact HI0.out | apply IsS90.alloc | apply IsS90.drewN | apply IsS90.drew | apply IsS90.set_1 | apply IsS90.set_2) | exact HI0.out)) (kR_ dd.out) z0) hk (fun _ h => h.2)) (fun _ h => h.1)); replace HK := aM (KeepBut.trans z34 hk (.inl rfl)); replace HB := aM (hb); replace HI0 := aM (hi); (try clear hb); (try clear hk); (try clear hi); (try clear d7))))
               go_roundg kj5
               case measure => have := HK1.out; have := ri.out; omega
               case rel => exact ⟨((x1_1.extract 0 (cQ : Int).toNat) ++ (x1_1.extract ((jp) : Int).toNat x1_1.size)), (wrap64 (x7_1 - 1)), (jl), (jk), (by first | rfl | (simp; done) | (simp only [← jr] <;> (first | rfl | (simp; done) | (simp; generalize ByteArray.toList _ = u_; cases u_ <;> (first | rfl | (simp; done))))) | (simp [*]; done)), z2, (by first | exact H' | (simp only [jr]; exact H') | (simp only [← jr]; exact H')), ⟨by have := HK1.out; have := ri.out; omega⟩, ⟨y19⟩, ⟨y14⟩, ⟨y13⟩⟩
              ·rw [if_neg ud] at H
               exact absurd H (by simp)
             ·rw [if_neg ue] at H
              exact absurd H (by simp)
            ·rw [if_neg vv] at H
             exact absurd H (by simp)
           ·rw [if_neg vw] at H
            exact absurd H (by simp)
          ·rw [if_neg qd] at H
           exact absurd H (by simp)
       ·rw [if_neg gj] at H
        exact absurd H (by simp)
      ·rw [if_neg fY] at H
       exact absurd H (by simp)
     ·replace c8 := Bool.eq_false_iff.mpr c8
      subst c8
      rw [if_neg nF_] at H
      simp only [Option.some.injEq, Prod.mk.injEq] at H
      obtain ⟨rfl, rfl, rfl⟩ := H
      go_wp2
      repeat (go_quiet (fail); try go_wp2)
      go_ret
      exact ⟨y4, y19, y13, y14⟩

/-! ### spec_l1Cur_doc: function 81 -/
def spec_l1Cur_doc.j0 : Nat → ByteArray → List Int → Int → Int → Option (ByteArray × Int × Int)
 | 0, _, _, _, _ => none
 | k + 1, x3, x1000, x1001, x1002 => (spec_l1Cur_one.f x1000 x1001 x1002 12).bind fun nQ => (if nQ.1 = true then ((spec_l1Cur_spoilt.f k x1000 nQ.2.1 nQ.2.2 x3 (⟨#[65, 47, 97, 90]⟩ : ByteArray)).bind fun re => (some (re.1, re.2.1, re.2.2))) else (some (x3, nQ.2.1, nQ.2.2)))
def spec_l1Cur_doc.f (k : Nat) (s0_0 : List Int) (s0_1 : Int) (s0_2 : Int) : Option (ByteArray × Int × Int) := (spec_l1Cur_pick.f s0_0 s0_1 s0_2 7).bind fun lz => ((spec_l1Cur_inner.f k s0_0 lz.2.1 lz.2.2 lz.1 3).bind fun ly => ((spec_l1Cur_pick.f s0_0 ly.2.1 ly.2.2 30).bind fun gv => (if gv.1 = 0 then ((spec_l1Cur_inner.f k s0_0 gv.2.1 gv.2.2 60 3).bind fun lx => (spec_l1Cur_doc.j0 k lx.1 s0_0 lx.2.1 lx.2.2)) else (if gv.1 = 1 then ((spec_l1Cur_of.f s0_0 gv.2.1 gv.2.2 (([(⟨#[65, 65, 65, 65, 65, 65, 65, 65, 65, 65, 65, 65, 47, 47, 47, 47, 47, 47, 47, 47, 47, 47, 47, 47]⟩ : ByteArray), (⟨#[65, 65, 65, 65, 65, 65, 65, 65, 65, 65, 65, 65, 65, 47, 47, 47, 47, 47, 47, 47, 47, 47, 47, 47, 47, 47]⟩ : ByteArray)] : List ByteArray))).bind fun iJ => (spec_l1Cur_doc.j0 k iJ.1 s0_0 iJ.2.1 iJ.2.2)) else (spec_l1Cur_doc.j0 k ly.1 s0_0 gv.2.1 gv.2.2)))))
theorem spec_l1Cur_doc.mono_l : ∀ k, (∀ y0 y1 y2 y3, LeO (spec_l1Cur_doc.j0 k y0 y1 y2 y3) (spec_l1Cur_doc.j0 (k + 1) y0 y1 y2 y3))
 | 0 => fun _ _ _ _ r h => by simp [spec_l1Cur_doc.j0] at h
 | k + 1 => by
  have ih0 := spec_l1Cur_doc.mono_l k
  ·intro y0 y1 y2 y3
   unfold spec_l1Cur_doc.j0
   repeat' first
   | (with_reducible exact ih0 _ _ _ _)
   | (with_reducible exact spec_l1Cur_inner.mono _ _ _ _ _ _)
   | (with_reducible exact spec_l1Cur_spoilt.mono _ _ _ _ _ _)
   | (with_reducible exact LeO.refl _)
   | (with_reducible exact LeO.none _)
   | (with_reducible refine LeO.ite ?_ ?_)
   | (with_reducible refine LeO.bind ?_ (fun _ => ?_))
theorem spec_l1Cur_doc.mono : ∀ a0 a1 a2 k, LeO (spec_l1Cur_doc.f k a0 a1 a2) (spec_l1Cur_doc.f (k + 1) a0 a1 a2) := by
 intro a0 a1 a2 k
 have ih0 := spec_l1Cur_doc.mono_l k
 unfold spec_l1Cur_doc.f
 repeat' first
   | (with_reducible exact ih0 _ _ _ _)
   | (with_reducible exact spec_l1Cur_inner.mono _ _ _ _ _ _)
   | (with_reducible exact spec_l1Cur_spoilt.mono _ _ _ _ _ _)
   | (with_reducible exact LeO.refl _)
   | (with_reducible exact LeO.none _)
   | (with_reducible refine LeO.ite ?_ ?_)
   | (with_reducible refine LeO.bind ?_ (fun _ => ?_))
set_option maxHeartbeats 8000000 in
set_option maxRecDepth 100000 in
theorem spec_l1Cur_doc.calls (k : Nat) (g : Nat) (s0_0 : List Int) (s0_1 : Int) (s0_2 : Int) (r1 : ByteArray) (r2 : Int) (r3 : Int) (w0 w : World) (hI : IsS90 w0 w g s0_0 s0_1 s0_2) (hB : Below w0.heap.size w0 w) (h : spec_l1Cur_doc.f k s0_0 s0_1 s0_2 = some (r1, r2, r3)) :
  Calls Try.prog 81 #[.pointer (some ⟨g, 0, none⟩)] w fun e w' => e = .returned (.string r1) ∧ IsS90 w0 w' g s0_0 r2 r3 ∧ Below w0.heap.size w0 w' ∧ KeepBut w w' g none := by
 have HI0 := aM hI
 have HK := aM (KeepBut.refl w g none)
 have HL := aM hB.size
 clear hI
 have HW0 := aM hB.size
 have HB := aM hB
 clear hB
 have H : ((spec_l1Cur_pick.f s0_0 s0_1 s0_2 7).bind fun lz => ((spec_l1Cur_inner.f k s0_0 lz.2.1 lz.2.2 lz.1 3).bind fun ly => ((spec_l1Cur_pick.f s0_0 ly.2.1 ly.2.2 30).bind fun gv => (if gv.1 = 0 then ((spec_l1Cur_inner.f k s0_0 gv.2.1 gv.2.2 60 3).bind fun lx => (spec_l1Cur_doc.j0 k lx.1 s0_0 lx.2.1 lx.2.2)) else (if gv.1 = 1 then ((spec_l1Cur_of.f s0_0 gv.2.1 gv.2.2 (([(⟨#[65, 65, 65, 65, 65, 65, 65, 65, 65, 65, 65, 65, 47, 47, 47, 47, 47, 47, 47, 47, 47, 47, 47, 47]⟩ : ByteArray), (⟨#[65, 65, 65, 65, 65, 65, 65, 65, 65, 65, 65, 65, 65, 47, 47, 47, 47, 47, 47, 47, 47, 47, 47, 47, 47, 47]⟩ : ByteArray)] : List ByteArray))).bind fun iJ => (spec_l1Cur_doc.j0 k iJ.1 s0_0 iJ.2.1 iJ.2.2)) else (spec_l1Cur_doc.j0 k ly.1 s0_0 gv.2.1 gv.2.2)))))) = some (r1, r2, r3) := h
 clear h
 obtain ⟨⟨tq, uT, uS⟩, A2, H⟩ := oA_ H
 try dsimp only at H
 obtain ⟨⟨uR, uQ, uP⟩, A3, H⟩ := oA_ H
 try dsimp only at H
 obtain ⟨⟨kL, p9, p3⟩, A4, H⟩ := oA_ H
 try dsimp only at H
 have jH := aM H
 clear H
 go_enter Try.func81, Try.ntmps81
 go_upto_block 0 with (first | ((with_reducible refine aK (f := 66) rfl ?_); refine aT (some 6) rfl rfl Try.func66 z1 rfl #[.pointer (some ⟨g, 0, none⟩), .int .i64 7] rfl z33 ?_; (with_reducible refine (spec_l1Cur_pick.calls g s0_0 s0_1 s0_2 7 tq uT uS w0 _ ?side1 ?side2 A2.out).mono ?_); (case side1 => exact y42); (case side2 => exact y35); rintro e w6 ⟨rfl, hi, hb, hk⟩; refine ⟨_, rfl, ?_⟩; replace HK := aM (KeepBut.trans z34 hk (.inl rfl)); replace HB := aM (hb); replace HI0 := aM (hi); (try clear hb); (try clear hk); (try clear hi); (try clear d7)) | ((with_reducible refine aK (f := 85) rfl ?_); refine aT (some 7) rfl rfl Try.func85 z1 rfl #[.pointer (some ⟨g, 0, none⟩), .int .i64 tq, .int .i64 3] rfl z33 ?_; (with_reducible refine (spec_l1Cur_inner.calls k g s0_0 uT uS tq 3 uR uQ uP w0 _ ?side1 ?side2 A3.out).mono ?_); (case side1 => exact y42); (case side2 => exact y35); rintro e w7 ⟨rfl, hi, hb, hk⟩; refine ⟨_, rfl, ?_⟩; replace HK := aM (KeepBut.trans z34 hk (.inl rfl)); replace HB := aM (hb); replace HI0 := aM (hi); (try clear hb); (try clear hk); (try clear hi); (try clear d7)) | ((with_reducible refine aK (f := 66) rfl ?_); refine aT (some 9) rfl rfl Try.func66 z1 rfl #[.pointer (some ⟨g, 0, none⟩), .int .i64 30] rfl z33 ?_; (with_reducible refine (spec_l1Cur_pick.calls g s0_0 uQ uP 30 kL p9 p3 w0 _ ?side1 ?side2 A4.out).mono ?_); (case side1 => exact y42); (case side2 => exact y35); rintro e w8 ⟨rfl, hi, hb, hk⟩; refine ⟨_, rfl, ?_⟩; replace HK := aM (KeepBut.trans z34 hk (.inl rfl)); replace HB := aM (hb); replace HI0 := aM (hi); (try clear hb); (try clear hk); (try clear hi); (try clear d7)))
 (try simp only [Act.put, sA, sB, sC])
 go_cut [3] (fun v3 wc => ∃ (kq : Nat) (x3_4 : ByteArray) (x1001_4 : Int) (x1002_4 : Int), v3 = .string x3_4 ∧ Aside0 (spec_l1Cur_doc.j0 kq x3_4 s0_0 x1001_4 x1002_4 = some (r1, r2, r3)) ∧ Aside0 (kq ≤ k) ∧ Aside0 (IsS90 w0 wc g s0_0 x1001_4 x1002_4) ∧ Aside0 (KeepBut w wc g none) ∧ Aside0 (Below w0.heap.size w0 wc))
 case first =>
  have H := jH.out
  clear jH
  by_cases c9 : kL = 0
  ·rw [if_pos c9] at H
   have c9b0 : (kL == 0) = true := qT c9
   have c9b1 : (kL != 0) = false := nF c9
   clear c9
   (first | rw [c9b0] | (simp only [i64_w, i32_w]; rw [c9b0]) | skip)
   obtain ⟨⟨uO, uN, uM⟩, i5, H⟩ := oA_ H
   try dsimp only at H
   have H' := aM H
   clear H
   go_wp2_with (first | ((with_reducible refine aK (f := 85) rfl ?_); refine aT (some 13) rfl rfl Try.func85 z1 rfl #[.pointer (some ⟨g, 0, none⟩), .int .i64 60, .int .i64 3] rfl z33 ?_; (with_reducible refine (spec_l1Cur_inner.calls k g s0_0 p9 p3 60 3 uO uN uM w0 _ ?side1 ?side2 i5.out).mono ?_); (case side1 => exact y42); (case side2 => exact y35); rintro e w11 ⟨rfl, hi, hb, hk⟩; refine ⟨_, rfl, ?_⟩; replace HK := aM (KeepBut.trans z34 hk (.inl rfl)); replace HB := aM (hb); replace HI0 := aM (hi); (try clear hb); (try clear hk); (try clear hi); (try clear d7)))
   go_meet
   case rel => exact ⟨_, (uO), (uN), (uM), z2, H', ⟨by first | omega | exact Nat.le_refl _⟩, ⟨y19⟩, ⟨y14⟩, ⟨y13⟩⟩
  ·rw [if_neg c9] at H
   have c9b0 : (kL == 0) = false := qF c9
   have c9b1 : (kL != 0) = true := nT c9
   (first | rw [c9b0] | (simp only [i64_w, i32_w]; rw [c9b0]) | skip)
   by_cases gj : kL = 1
   ·rw [if_pos gj] at H
    have c12b0 : (kL == 1) = true := qT gj
    have c12b1 : (kL != 1) = false := nF gj
    clear gj
    obtain ⟨y288, hy288⟩ : ∃ y_ : List ByteArray, y_ = (([(⟨#[65, 65, 65, 65, 65, 65, 65, 65, 65, 65, 65, 65, 47, 47, 47, 47, 47, 47, 47, 47, 47, 47, 47, 47]⟩ : ByteArray), (⟨#[65, 65, 65, 65, 65, 65, 65, 65, 65, 65, 65, 65, 65, 47, 47, 47, 47, 47, 47, 47, 47, 47, 47, 47, 47, 47]⟩ : ByteArray)] : List ByteArray)) := ⟨_, rfl⟩
    replace H : ((spec_l1Cur_of.f s0_0 p9 p3 y288).bind fun iJ => (spec_l1Cur_doc.j0 k iJ.1 s0_0 iJ.2.1 iJ.2.2)) = some (r1, r2, r3) := by first | (rw [hy288]; with_reducible exact H) | (have H2_ := (Option.bind_some _ _).symm.trans H; rw [hy288]; with_reducible exact H2_) | (have H2_ := (Option.bind_some _ _).symm.trans H; with_reducible exact H2_) | with_reducible exact H | (rw [hy288]; exact H) | exact H
    have Ny288 := aM hy288
    clear hy288
    obtain ⟨⟨uL, uK, uJ⟩, s8, H⟩ := oA_ H
    try dsimp only at H
    have H' := aM H
    clear H
    go_wp2_with (first | ((with_reducible refine aN (N := 17) rfl ?_); refine Kd.R_lit Kd.string _ 9 ?hg (N := 17) ?hd (xs := ([(⟨#[65, 65, 65, 65, 65, 65, 65, 65, 65, 65, 65, 65, 47, 47, 47, 47, 47, 47, 47, 47, 47, 47, 47, 47]⟩ : ByteArray), (⟨#[65, 65, 65, 65, 65, 65, 65, 65, 65, 65, 65, 65, 65, 47, 47, 47, 47, 47, 47, 47, 47, 47, 47, 47, 47, 47]⟩ : ByteArray)] : List ByteArray)) (inner := [.string (⟨#[65, 65, 65, 65, 65, 65, 65, 65, 65, 65, 65, 65, 47, 47, 47, 47, 47, 47, 47, 47, 47, 47, 47, 47]⟩ : ByteArray), .string (⟨#[65, 65, 65, 65, 65, 65, 65, 65, 65, 65, 65, 65, 65, 47, 47, 47, 47, 47, 47, 47, 47, 47, 47, 47, 47, 47]⟩ : ByteArray)]) (ok := fun _ => True) (okp := fun _ => True) ?hr ?hp (fun _ hk => hk) trivial (Below.refl _ _) (Nat.le_refl _) (by simp) ?_; (case hd => rfl); (case hg => rfl); (case hr => first | (go_simp; done) | (go_simp; rfl)); (case hp => exact (Reps.one (show Kd.M Kd.string _ _ _ (⟨#[65, 65, 65, 65, 65, 65, 65, 65, 65, 65, 65, 65, 47, 47, 47, 47, 47, 47, 47, 47, 47, 47, 47, 47]⟩ : ByteArray) [.string (⟨#[65, 65, 65, 65, 65, 65, 65, 65, 65, 65, 65, 65, 47, 47, 47, 47, 47, 47, 47, 47, 47, 47, 47, 47]⟩ : ByteArray)] from rfl) (Reps.one (show Kd.M Kd.string _ _ _ (⟨#[65, 65, 65, 65, 65, 65, 65, 65, 65, 65, 65, 65, 65, 47, 47, 47, 47, 47, 47, 47, 47, 47, 47, 47, 47, 47]⟩ : ByteArray) [.string (⟨#[65, 65, 65, 65, 65, 65, 65, 65, 65, 65, 65, 65, 65, 47, 47, 47, 47, 47, 47, 47, 47, 47, 47, 47, 47, 47]⟩ : ByteArray)] from rfl) (Reps.none _ _)))); intro v289 w14 ho15 hb hg_ hnew_; clear hg_ hnew_; (first | rw [← Ny288.out] at ho15 | (simp only [Int.reduceToNat] at ho15; rw [← Ny288.out] at ho15)); have lH := aM (aW ho15 (keep_size (w := w) (g := g) (row := none) z34)); replace HK := aM (KeepBut.trans z34 (KeepBut.of_below hb g none) (.inl rfl)); replace HB := aM (aA z41 hb); replace HI0 := aM (IsS90.below z42 hb); clear hb ho15; obtain ⟨Ao16, co16, eo16⟩ := Kd.R_slice lH.out; subst eo16) | ((with_reducible refine aK (f := 71) rfl ?_); refine aT (some 18) rfl rfl Try.func71 z1 rfl #[.pointer (some ⟨g, 0, none⟩), .slice Ao16 y288.length co16] rfl z33 ?_; (with_reducible refine (spec_l1Cur_of.calls g s0_0 p9 p3 _ _ y288 uL uK uJ w0 _ ?side1 ?side2 ?side3 ?side4 ?side5 s8.out).mono ?_); (case side1 => exact y42); (case side2 => exact y35); (case side3 => repeat (first | exact (ai lH.out).2.2 | (with_reducible refine aH ?_ _) | (with_reducible refine aI ?_ _) | (with_reducible refine aJ ?_))); (case side4 => exact (ai lH.out).2.1); (case side5 => exact far_slice (IsS90.own_ne HI0.out lH.out z0)); rintro e w17 ⟨rfl, hi, hb, hk⟩; refine ⟨_, rfl, ?_⟩; replace lH := aM (ah (Kd.R_keep (IsS90.apart (show IsS90 w0 _ g s0_0 p9 p3 from by (try simp only [Int.add_zero]); repeat (first | (with_reducible first | exact HI0.out | apply IsS90.alloc | apply IsS90.drewN | apply IsS90.drew | apply IsS90.set_1 | apply IsS90.set_2) | exact HI0.out)) (kR_ lH.out) z0) hk (fun _ h => h.2)) (fun _ h => h.1)); replace HK := aM (KeepBut.trans z34 hk (.inl rfl)); replace HB := aM (hb); replace HI0 := aM (hi); (try clear hb); (try clear hk); (try clear hi); (try clear d7)))
    go_meet
    case rel => exact ⟨_, (uL), (uK), (uJ), z2, H', ⟨by first | omega | exact Nat.le_refl _⟩, ⟨y19⟩, ⟨y14⟩, ⟨y13⟩⟩
   ·rw [if_neg gj] at H
    have c12b0 : (kL == 1) = false := qF gj
    have c12b1 : (kL != 1) = true := nT gj
    have H' := aM H
    clear H
    go_wp2
    go_meet
    case rel => exact ⟨_, (uR), (p9), (p3), z2, H', ⟨by first | omega | exact Nat.le_refl _⟩, ⟨y19⟩, ⟨y14⟩, ⟨y13⟩⟩
 case rest =>
  clear jH
  obtain ⟨kq, x3_4, x1001_4, x1002_4, rfl, HA, jg, HI0, HK, HB⟩ := hcut
  cases kq with
  | zero => exact absurd HA.out (by simp [spec_l1Cur_doc.j0])
  | succ kj4 =>
   have H := HA.out
   clear HA
   simp only [spec_l1Cur_doc.j0] at H
   obtain ⟨⟨t294, tp, tn⟩, tX, H⟩ := oA_ H
   try dsimp only at H
   by_cases nI : t294 = true
   ·subst nI
    rw [if_pos rfl] at H
    obtain ⟨⟨t297, t298, t299⟩, jf, H⟩ := oA_ H
    try dsimp only at H
    simp only [Option.some.injEq, Prod.mk.injEq] at H
    obtain ⟨rfl, rfl, rfl⟩ := H
    go_wp2_with (first | ((with_reducible refine aK (f := 52) rfl ?_); refine aT (some 20) rfl rfl Try.func52 z1 rfl #[.pointer (some ⟨g, 0, none⟩), .int .i64 12] rfl z33 ?_; (with_reducible refine (spec_l1Cur_one.calls g s0_0 x1001_4 x1002_4 12 true tp tn w0 _ ?side1 ?side2 tX.out).mono ?_); (case side1 => exact y42); (case side2 => exact y35); rintro e w21 ⟨rfl, hi, hb, hk⟩; refine ⟨_, rfl, ?_⟩; replace HK := aM (KeepBut.trans z34 hk (.inl rfl)); replace HB := aM (hb); replace HI0 := aM (hi); (try clear hb); (try clear hk); (try clear hi); (try clear d7)) | ((with_reducible refine aK (f := 86) rfl ?_); refine aT (some 23) rfl rfl Try.func86 z1 rfl #[.pointer (some ⟨g, 0, none⟩), .string x3_4, .string (⟨#[65, 47, 97, 90]⟩ : ByteArray)] rfl z33 ?_; (with_reducible refine (spec_l1Cur_spoilt.calls kj4 g s0_0 tp tn x3_4 (⟨#[65, 47, 97, 90]⟩ : ByteArray) t297 t298 t299 w0 _ ?side1 ?side2 jf.out).mono ?_); (case side1 => exact y42); (case side2 => exact y35); rintro e w22 ⟨rfl, hi, hb, hk⟩; refine ⟨_, rfl, ?_⟩; replace HK := aM (KeepBut.trans z34 hk (.inl rfl)); replace HB := aM (hb); replace HI0 := aM (hi); (try clear hb); (try clear hk); (try clear hi); (try clear d7)))
    go_ret
    exact ⟨y4, y19, y13, y14⟩
   ·replace nI := Bool.eq_false_iff.mpr nI
    subst nI
    rw [if_neg nF_] at H
    simp only [Option.some.injEq, Prod.mk.injEq] at H
    obtain ⟨rfl, rfl, rfl⟩ := H
    go_wp2_with (first | ((with_reducible refine aK (f := 52) rfl ?_); refine aT (some 20) rfl rfl Try.func52 z1 rfl #[.pointer (some ⟨g, 0, none⟩), .int .i64 12] rfl z33 ?_; (with_reducible refine (spec_l1Cur_one.calls g s0_0 x1001_4 x1002_4 12 false tp tn w0 _ ?side1 ?side2 tX.out).mono ?_); (case side1 => exact y42); (case side2 => exact y35); rintro e w23 ⟨rfl, hi, hb, hk⟩; refine ⟨_, rfl, ?_⟩; replace HK := aM (KeepBut.trans z34 hk (.inl rfl)); replace HB := aM (hb); replace HI0 := aM (hi); (try clear hb); (try clear hk); (try clear hi); (try clear d7)))
    go_ret
    exact ⟨y4, y19, y13, y14⟩

/-! ### spec_l1Cur_plainText: function 68 -/
def spec_l1Cur_plainText.f (k : Nat) (s0_0 : List Int) (s0_1 : Int) (s0_2 : Int) : Option (ByteArray × Int × Int) := (spec_l1Cur_doc.f k s0_0 s0_1 s0_2).bind fun em => ((spec_GoodText.f k em.1).bind fun qt => (if qt = true then (if (em.1.size : Int) > 40 then ((spec_l1Cur_one.f s0_0 em.2.1 em.2.2 20).bind fun iI => (if iI.1 = true then (some (em.1, iI.2.1, iI.2.2)) else (if 0 ≤ 40 then (if 40 ≤ (em.1.size : Int) then (some (em.1.extract 0 40, iI.2.1, iI.2.2)) else (none)) else (none)))) else (some (em.1, em.2.1, em.2.2))) else (if 4 > 40 then ((spec_l1Cur_one.f s0_0 em.2.1 em.2.2 20).bind fun iH => (if iH.1 = true then (some ((⟨#[116, 101, 120, 116]⟩ : ByteArray), iH.2.1, iH.2.2)) else (if 0 ≤ 40 then (if 40 ≤ 4 then (some ((⟨#[116, 101, 120, 116]⟩ : ByteArray).extract 0 40, iH.2.1, iH.2.2)) else (none)) else (none)))) else (some ((⟨#[116, 101, 120, 116]⟩ : ByteArray), em.2.1, em.2.2)))))
theorem spec_l1Cur_plainText.mono : ∀ a0 a1 a2 k, LeO (spec_l1Cur_plainText.f k a0 a1 a2) (spec_l1Cur_plainText.f (k + 1) a0 a1 a2) := by
 intro a0 a1 a2 k
 unfold spec_l1Cur_plainText.f
 repeat' first
   | (with_reducible exact spec_GoodText.mono _ _)
   | (with_reducible exact spec_l1Cur_doc.mono _ _ _ _)
   | (with_reducible exact LeO.refl _)
   | (with_reducible exact LeO.none _)
   | (with_reducible refine LeO.ite ?_ ?_)
   | (with_reducible refine LeO.bind ?_ (fun _ => ?_))
set_option maxHeartbeats 8000000 in
set_option maxRecDepth 100000 in
theorem spec_l1Cur_plainText.calls (k : Nat) (g : Nat) (s0_0 : List Int) (s0_1 : Int) (s0_2 : Int) (r1 : ByteArray) (r2 : Int) (r3 : Int) (w0 w : World) (hI : IsS90 w0 w g s0_0 s0_1 s0_2) (hB : Below w0.heap.size w0 w) (h : spec_l1Cur_plainText.f k s0_0 s0_1 s0_2 = some (r1, r2, r3)) :
  Calls Try.prog 68 #[.pointer (some ⟨g, 0, none⟩)] w fun e w' => e = .returned (.string r1) ∧ IsS90 w0 w' g s0_0 r2 r3 ∧ Below w0.heap.size w0 w' ∧ KeepBut w w' g none := by
 have HI0 := aM hI
 have HK := aM (KeepBut.refl w g none)
 have HL := aM hB.size
 clear hI
 have HW0 := aM hB.size
 have HB := aM hB
 clear hB
 have H : ((spec_l1Cur_doc.f k s0_0 s0_1 s0_2).bind fun em => ((spec_GoodText.f k em.1).bind fun qt => (if qt = true then (if (em.1.size : Int) > 40 then ((spec_l1Cur_one.f s0_0 em.2.1 em.2.2 20).bind fun iI => (if iI.1 = true then (some (em.1, iI.2.1, iI.2.2)) else (if 0 ≤ 40 then (if 40 ≤ (em.1.size : Int) then (some (em.1.extract 0 40, iI.2.1, iI.2.2)) else (none)) else (none)))) else (some (em.1, em.2.1, em.2.2))) else (if 4 > 40 then ((spec_l1Cur_one.f s0_0 em.2.1 em.2.2 20).bind fun iH => (if iH.1 = true then (some ((⟨#[116, 101, 120, 116]⟩ : ByteArray), iH.2.1, iH.2.2)) else (if 0 ≤ 40 then (if 40 ≤ 4 then (some ((⟨#[116, 101, 120, 116]⟩ : ByteArray).extract 0 40, iH.2.1, iH.2.2)) else (none)) else (none)))) else (some ((⟨#[116, 101, 120, 116]⟩ : ByteArray), em.2.1, em.2.2)))))) = some (r1, r2, r3) := h
 clear h
 obtain ⟨⟨ik, p0, pZ⟩, A2, H⟩ := oA_ H
 try dsimp only at H
 obtain ⟨qt, A3, H⟩ := oA_ H
 try dsimp only at H
 by_cases c4 : qt = true
 ·subst c4
  rw [if_pos rfl] at H
  by_cases c5 : (ik.size : Int) > 40
  ·rw [if_pos c5] at H
   have c5b0 : decide (40 < (ik.size : Int)) = true := dT c5
   have c5b1 : decide (40 < ik.size) = true := dT (by omega)
   clear c5
   obtain ⟨⟨t304, uI, uH⟩, A6, H⟩ := oA_ H
   try dsimp only at H
   by_cases c7 : t304 = true
   ·subst c7
    rw [if_pos rfl] at H
    simp only [Option.some.injEq, Prod.mk.injEq] at H
    obtain ⟨rfl, rfl, rfl⟩ := H
    go_enter Try.func68, Try.ntmps68
    go_wp2_with (first | ((with_reducible refine aK (f := 81) rfl ?_); refine aT (some 5) rfl rfl Try.func81 z1 rfl #[.pointer (some ⟨g, 0, none⟩)] rfl z33 ?_; (with_reducible refine (spec_l1Cur_doc.calls k g s0_0 s0_1 s0_2 ik p0 pZ w0 _ ?side1 ?side2 A2.out).mono ?_); (case side1 => exact y42); (case side2 => exact y35); rintro e w8 ⟨rfl, hi, hb, hk⟩; refine ⟨_, rfl, ?_⟩; replace HK := aM (KeepBut.trans z34 hk (.inl rfl)); replace HB := aM (hb); replace HI0 := aM (hi); (try clear hb); (try clear hk); (try clear hi); (try clear d7)) | ((with_reducible refine aK (f := 78) rfl ?_); refine aT (some 7) rfl rfl Try.func78 z1 rfl #[.string ik] rfl z33 ?_; (with_reducible refine (spec_GoodText.calls k ik true _ A3.out).mono ?_); rintro e w' ⟨rfl, ⟨nd, rfl⟩⟩; refine ⟨_, rfl, ?_⟩) | (go_at_call 52; (with_reducible refine (spec_l1Cur_one.calls g s0_0 p0 pZ 20 true uI uH w0 _ ?side1 ?side2 A6.out).mono ?_); (case side1 => exact y42); (case side2 => exact y35); rintro e w9 ⟨rfl, hi, hb, hk⟩; replace HK := aM (KeepBut.trans z34 hk (.inl rfl)); replace HB := aM (hb); replace HI0 := aM (hi); (try clear hb); (try clear hk); (try clear hi); (try clear d7)))
    go_ret
    exact ⟨y4, y19, y13, y14⟩
   ·replace c7 := Bool.eq_false_iff.mpr c7
    subst c7
    rw [if_neg nF_] at H
    by_cases fo : 0 ≤ 40
    ·rw [if_pos fo] at H
     have c10b0 := eq_true fo
     have c10b1 : decide (0 ≤ 40) = true := dT fo
     clear fo
     by_cases fY : 40 ≤ (ik.size : Int)
     ·rw [if_pos fY] at H
      have c11b0 := eq_true fY
      have c11b1 : decide (40 ≤ (ik.size : Int)) = true := dT fY
      clear fY
      simp only [Option.some.injEq, Prod.mk.injEq] at H
      obtain ⟨rfl, rfl, rfl⟩ := H
      go_enter Try.func68, Try.ntmps68
      go_wp2_with (first | ((with_reducible refine aK (f := 81) rfl ?_); refine aT (some 5) rfl rfl Try.func81 z1 rfl #[.pointer (some ⟨g, 0, none⟩)] rfl z33 ?_; (with_reducible refine (spec_l1Cur_doc.calls k g s0_0 s0_1 s0_2 ik p0 pZ w0 _ ?side1 ?side2 A2.out).mono ?_); (case side1 => exact y42); (case side2 => exact y35); rintro e w12 ⟨rfl, hi, hb, hk⟩; refine ⟨_, rfl, ?_⟩; replace HK := aM (KeepBut.trans z34 hk (.inl rfl)); replace HB := aM (hb); replace HI0 := aM (hi); (try clear hb); (try clear hk); (try clear hi); (try clear d7)) | ((with_reducible refine aK (f := 78) rfl ?_); refine aT (some 7) rfl rfl Try.func78 z1 rfl #[.string ik] rfl z33 ?_; (with_reducible refine (spec_GoodText.calls k ik true _ A3.out).mono ?_); rintro e w' ⟨rfl, ⟨nd, rfl⟩⟩; refine ⟨_, rfl, ?_⟩) | (go_at_call 52; (with_reducible refine (spec_l1Cur_one.calls g s0_0 p0 pZ 20 false uI uH w0 _ ?side1 ?side2 A6.out).mono ?_); (case side1 => exact y42); (case side2 => exact y35); rintro e w13 ⟨rfl, hi, hb, hk⟩; replace HK := aM (KeepBut.trans z34 hk (.inl rfl)); replace HB := aM (hb); replace HI0 := aM (hi); (try clear hb); (try clear hk); (try clear hi); (try clear d7)))
      go_ret
      exact ⟨y4, y19, y13, y14⟩
     ·rw [if_neg fY] at H
      exact absurd H (by simp)
    ·exact absurd z0 fo
  ·rw [if_neg c5] at H
   have c5b0 : decide (40 < (ik.size : Int)) = false := dF c5
   have c5b1 : decide (40 < ik.size) = false := dF (by omega)
   clear c5
   simp only [Option.some.injEq, Prod.mk.injEq] at H
   obtain ⟨rfl, rfl, rfl⟩ := H
   go_enter Try.func68, Try.ntmps68
   go_wp2_with (first | ((with_reducible refine aK (f := 81) rfl ?_); refine aT (some 5) rfl rfl Try.func81 z1 rfl #[.pointer (some ⟨g, 0, none⟩)] rfl z33 ?_; (with_reducible refine (spec_l1Cur_doc.calls k g s0_0 s0_1 s0_2 ik p0 pZ w0 _ ?side1 ?side2 A2.out).mono ?_); (case side1 => exact y42); (case side2 => exact y35); rintro e w14 ⟨rfl, hi, hb, hk⟩; refine ⟨_, rfl, ?_⟩; replace HK := aM (KeepBut.trans z34 hk (.inl rfl)); replace HB := aM (hb); replace HI0 := aM (hi); (try clear hb); (try clear hk); (try clear hi); (try clear d7)) | ((with_reducible refine aK (f := 78) rfl ?_); refine aT (some 7) rfl rfl Try.func78 z1 rfl #[.string ik] rfl z33 ?_; (with_reducible refine (spec_GoodText.calls k ik true _ A3.out).mono ?_); rintro e w' ⟨rfl, ⟨nd, rfl⟩⟩; refine ⟨_, rfl, ?_⟩))
   go_ret
   exact ⟨y4, y19, y13, y14⟩
 ·replace c4 := Bool.eq_false_iff.mpr c4
  subst c4
  rw [if_neg nF_] at H
  by_cases gn : 4 > 40
  ·exact absurd gn z0
  ·rw [if_neg gn] at H
   have c15b0 : decide (40 < 4) = false := dF gn
   clear gn
   simp only [Option.some.injEq, Prod.mk.injEq] at H
   obtain ⟨rfl, rfl, rfl⟩ := H
   go_enter Try.func68, Try.ntmps68
   go_wp2_with (first | ((with_reducible refine aK (f := 81) rfl ?_); refine aT (some 5) rfl rfl Try.func81 z1 rfl #[.pointer (some ⟨g, 0, none⟩)] rfl z33 ?_; (with_reducible refine (spec_l1Cur_doc.calls k g s0_0 s0_1 s0_2 ik p0 pZ w0 _ ?side1 ?side2 A2.out).mono ?_); (case side1 => exact y42); (case side2 => exact y35); rintro e w24 ⟨rfl, hi, hb, hk⟩; refine ⟨_, rfl, ?_⟩; replace HK := aM (KeepBut.trans z34 hk (.inl rfl)); replace HB := aM (hb); replace HI0 := aM (hi); (try clear hb); (try clear hk); (try clear hi); (try clear d7)) | ((with_reducible refine aK (f := 78) rfl ?_); refine aT (some 7) rfl rfl Try.func78 z1 rfl #[.string ik] rfl z33 ?_; (with_reducible refine (spec_GoodText.calls k ik false _ A3.out).mono ?_); rintro e w' ⟨rfl, ⟨nd, rfl⟩⟩; refine ⟨_, rfl, ?_⟩))
   go_ret
   exact ⟨y4, y19, y13, y14⟩

/-! ### spec_JoinRopes: function 69, by hand -/
def spec_JoinRopes.j0 : Nat → Bool → List (S101) → List (S101) → Option ((List (S101)) × Bool)
 | 0, _, _, _ => none
 | k + 1, x14, x197000, x198000 => if x14 = true then (some (([] : List (S101)), false)) else ((some (([] : List (S101)) : List (S101))).bind fun y201 => ((spec_l12Join.f k x197000 x198000).bind fun fa => (if y201.length + fa.length < 2932031007402 then ((some (y201 ++ fa : List (S101))).bind fun y207 => ((spec_GoodRope.f k y207).bind fun jE => (if jE = true then (some (y207, true)) else (some (([] : List (S101)), false))))) else (none))))
def spec_JoinRopes.f (k : Nat) (l0_0 : List (S101)) (l1_0 : List (S101)) : Option ((List (S101)) × Bool) := (spec_GoodRope.f k l0_0).bind fun kS => (if kS = true then ((spec_GoodRope.f k l1_0).bind fun kA => (spec_JoinRopes.j0 k (!kA) l0_0 l1_0)) else (spec_JoinRopes.j0 k true l0_0 l1_0))
theorem spec_JoinRopes.mono_l : ∀ k, (∀ y0 y1 y2, LeO (spec_JoinRopes.j0 k y0 y1 y2) (spec_JoinRopes.j0 (k + 1) y0 y1 y2))
 | 0 => fun _ _ _ r h => by simp [spec_JoinRopes.j0] at h
 | k + 1 => by
  have ih0 := spec_JoinRopes.mono_l k
  ·intro y0 y1 y2
   unfold spec_JoinRopes.j0
   repeat' first
   | (with_reducible exact ih0 _ _ _)
   | (with_reducible exact spec_GoodRope.mono _ _)
   | (with_reducible exact spec_l12Join.mono _ _ _)
   | (with_reducible exact LeO.refl _)
   | (with_reducible exact LeO.none _)
   | (with_reducible refine LeO.ite ?_ ?_)
   | (with_reducible refine LeO.bind ?_ (fun _ => ?_))
theorem spec_JoinRopes.mono : ∀ a0 a1 k, LeO (spec_JoinRopes.f k a0 a1) (spec_JoinRopes.f (k + 1) a0 a1) := by
 intro a0 a1 k
 have ih0 := spec_JoinRopes.mono_l k
 unfold spec_JoinRopes.f
 repeat' first
   | (with_reducible exact ih0 _ _ _)
   | (with_reducible exact spec_GoodRope.mono _ _)
   | (with_reducible exact spec_l12Join.mono _ _ _)
   | (with_reducible exact LeO.refl _)
   | (with_reducible exact LeO.none _)
   | (with_reducible refine LeO.ite ?_ ?_)
   | (with_reducible refine LeO.bind ?_ (fun _ => ?_))
/-- What stands through the whole call. -/
def JrF (A0 : Option Addr) (c0 : Nat) (l0 : List S101) (A1 : Option Addr) (c1 : Nat) (l1 : List S101) (w W : World) : Prop := Below w.heap.size w W ∧ W.heap[w.heap.size]? = some (.cells #[.slice A0 l0.length c0] 30 (0, 0)) ∧ W.heap[w.heap.size + 1]? = some (.cells #[.slice A1 l1.length c1] 30 (0, 0)) ∧ W.heap[w.heap.size + 1 + 1]? = some (.cells #[.slice none 0 0] 30 (0, 0)) ∧ Kd.C k101 W A0 l0.length l0 ∧ Kd.C k101 W A1 l1.length l1
section
variable {A0 : Option Addr} {c0 : Nat} {l0 : List S101} {A1 : Option Addr} {c1 : Nat} {l1 : List S101} {w W W' : World}
theorem JrF.below (h : JrF A0 c0 l0 A1 c1 l1 w W) (hb : Below W.heap.size W W') : JrF A0 c0 l0 A1 c1 l1 w W' := ⟨aA h.1 hb, af h.2.1 hb, af h.2.2.1 hb, af h.2.2.2.1 hb, aG h.2.2.2.2.1 hb, aG h.2.2.2.2.2 hb⟩
theorem JrF.alloc (h : JrF A0 c0 l0 A1 c1 l1 w W) (o : Obj) : JrF A0 c0 l0 A1 c1 l1 w (W.alloc o) := h.below (bA (Below.refl _ _) _)
theorem JrF.drewN (h : JrF A0 c0 l0 A1 c1 l1 w W) (n : Nat) : JrF A0 c0 l0 A1 c1 l1 w (W.drewN n) := h.below (pD (Below.refl _ _) _)
theorem JrF.drew (h : JrF A0 c0 l0 A1 c1 l1 w W) : JrF A0 c0 l0 A1 c1 l1 w W.drew := h.below (below_drew (Below.refl _ _))
end
set_option maxHeartbeats 8000000 in
set_option maxRecDepth 100000 in
theorem spec_JoinRopes.calls (k : Nat) (cL : Option Addr) (cM : Nat) (l0_0 : List S101) (hD : Option Addr) (g8 : Nat) (l1_0 : List S101) (r1 : List S101) (r2 : Bool) (w : World) (hr0_0 : Kd.C k101 w cL l0_0.length l0_0) (hc0_0 : l0_0.length ≤ cM) (hr1_0 : Kd.C k101 w hD l1_0.length l1_0) (hc1_0 : l1_0.length ≤ g8) (h : spec_JoinRopes.f k l0_0 l1_0 = some (r1, r2)) :
  Calls Try.prog 69 #[.agg #[.slice cL l0_0.length cM], .agg #[.slice hD l1_0.length g8]] w fun e w' => ∃ v0_ : Value, e = .returned (.tuple #[.agg #[v0_], .bool r2]) ∧ Kd.R k101 101 w' w.heap.size (fun _ => True) v0_ r1 ∧ Below w.heap.size w w' := by
 obtain ⟨W2, hW2⟩ : ∃ W2, ((w.alloc (.cells #[.slice cL l0_0.length cM] 30)).alloc (.cells #[.slice hD l1_0.length g8] 30)).alloc (.cells #[.slice none 0 0] 30) = W2 := ⟨_, rfl⟩
 have HWB : Below w.heap.size w W2 := by rw [← hW2]; exact bA (bA (bA (Below.refl _ _) _) _) _
 have HF : Aside0 (JrF cL cM l0_0 hD g8 l1_0 w W2) := ⟨HWB, by rw [← hW2]; have := av (av (blk_new w (.cells #[.slice cL l0_0.length cM] 30)) (.cells #[.slice hD l1_0.length g8] 30)) (.cells #[.slice none 0 0] 30); simpa using this, by rw [← hW2]; have := av (blk_new (w.alloc (.cells #[.slice cL l0_0.length cM] 30)) (.cells #[.slice hD l1_0.length g8] 30)) (.cells #[.slice none 0 0] 30); simpa using this, by rw [← hW2]; have := blk_new ((w.alloc (.cells #[.slice cL l0_0.length cM] 30)).alloc (.cells #[.slice hD l1_0.length g8] 30)) (.cells #[.slice none 0 0] 30); simpa using this, aG hr0_0 HWB, aG hr1_0 HWB⟩
 have HWE := aM hW2
 have en := aM hc0_0
 have gm := aM hc1_0
 obtain ⟨gg, hg, h⟩ := oB h
 have HG := aM hg
 clear HWB hr0_0 hc0_0 hr1_0 hc1_0 hg hW2
 cases gg with
 | false =>
  rw [if_neg (by simp)] at h
  cases k with
  | zero => exact absurd h (by simp [spec_JoinRopes.j0])
  | succ k2 =>
  simp only [spec_JoinRopes.j0, if_true] at h
  obtain ⟨rfl, rfl⟩ := Prod.mk.inj (sI h)
  clear h
  go_enter Try.func69, Try.ntmps69
  go_wp2_with (first | (go_at_call_of 24 (Value.agg #[.slice cL l0_0.length cM]); (try rw [HWE.out]); refine (spec_GoodRope.calls (k2 + 1) _ _ l0_0 _ _ (by repeat (first | exact HF.out.2.2.2.2.1 | (with_reducible refine aH ?_ _) | (with_reducible refine aI ?_ _) | (with_reducible refine aJ ?_))) en.out HG.out).mono ?_; rintro e w1 ⟨rfl, hb⟩; replace HF := aM (JrF.below (by repeat (first | exact HF.out | (with_reducible refine JrF.alloc ?_ _) | (with_reducible refine JrF.drewN ?_ _) | (with_reducible refine JrF.drew ?_))) hb); (try clear cA cB cR fR); have cA : w1.cell? ⟨w.heap.size, 0, none⟩ = some (.slice cL l0_0.length cM) := (bC HF.out.2.1 0).trans rfl; have cB : w1.cell? ⟨w.heap.size + 1, 0, none⟩ = some (.slice hD l1_0.length g8) := (bC HF.out.2.2.1 0).trans rfl; have cR : w1.cell? ⟨w.heap.size + 1 + 1, 0, none⟩ = some (.slice none 0 0) := (bC HF.out.2.2.2.1 0).trans rfl; have fR := bF HF.out.2.2.2.1 0; clear hb))
  refine aU (aV rfl _ _ (w.heap.size + 1 + 1) 30 #[.slice none 0 0] (0, 0) _ rfl (by exact ax (cs := #[.slice none 0 0]) HF.out.2.2.2.1 0 _ rfl) Try.underlying30 rfl z1) rfl ?_
  exact ⟨_, rfl, Kd.R_nil _ _ _ _ _, az HF.out.1 (by omega)⟩
 | true =>
 rw [if_pos rfl] at h
 obtain ⟨g2, hg2, h⟩ := oB h
 have HG2 := aM hg2
 clear hg2
 cases k with
 | zero => exact absurd h (by simp [spec_JoinRopes.j0])
 | succ k2 =>
 cases g2 with
 | false =>
  simp only [spec_JoinRopes.j0, Bool.not_false, if_true] at h
  obtain ⟨rfl, rfl⟩ := Prod.mk.inj (sI h)
  clear h
  go_enter Try.func69, Try.ntmps69
  go_wp2_with (first | (go_at_call_of 24 (Value.agg #[.slice cL l0_0.length cM]); (try rw [HWE.out]); refine (spec_GoodRope.calls (k2 + 1) _ _ l0_0 _ _ (by repeat (first | exact HF.out.2.2.2.2.1 | (with_reducible refine aH ?_ _) | (with_reducible refine aI ?_ _) | (with_reducible refine aJ ?_))) en.out HG.out).mono ?_; rintro e w1 ⟨rfl, hb⟩; replace HF := aM (JrF.below (by repeat (first | exact HF.out | (with_reducible refine JrF.alloc ?_ _) | (with_reducible refine JrF.drewN ?_ _) | (with_reducible refine JrF.drew ?_))) hb); (try clear cA cB cR fR); have cA : w1.cell? ⟨w.heap.size, 0, none⟩ = some (.slice cL l0_0.length cM) := (bC HF.out.2.1 0).trans rfl; have cB : w1.cell? ⟨w.heap.size + 1, 0, none⟩ = some (.slice hD l1_0.length g8) := (bC HF.out.2.2.1 0).trans rfl; have cR : w1.cell? ⟨w.heap.size + 1 + 1, 0, none⟩ = some (.slice none 0 0) := (bC HF.out.2.2.2.1 0).trans rfl; have fR := bF HF.out.2.2.2.1 0; clear hb) | (go_at_call_of 24 (Value.agg #[.slice hD l1_0.length g8]); refine (spec_GoodRope.calls (k2 + 1) _ _ l1_0 _ _ (by repeat (first | exact HF.out.2.2.2.2.2 | (with_reducible refine aH ?_ _) | (with_reducible refine aI ?_ _) | (with_reducible refine aJ ?_))) gm.out HG2.out).mono ?_; rintro e w2 ⟨rfl, hb⟩; replace HF := aM (JrF.below (by repeat (first | exact HF.out | (with_reducible refine JrF.alloc ?_ _) | (with_reducible refine JrF.drewN ?_ _) | (with_reducible refine JrF.drew ?_))) hb); (try clear cA cB cR fR); have cA : w2.cell? ⟨w.heap.size, 0, none⟩ = some (.slice cL l0_0.length cM) := (bC HF.out.2.1 0).trans rfl; have cB : w2.cell? ⟨w.heap.size + 1, 0, none⟩ = some (.slice hD l1_0.length g8) := (bC HF.out.2.2.1 0).trans rfl; have cR : w2.cell? ⟨w.heap.size + 1 + 1, 0, none⟩ = some (.slice none 0 0) := (bC HF.out.2.2.2.1 0).trans rfl; have fR := bF HF.out.2.2.2.1 0; clear hb))
  refine aU (aV rfl _ _ (w.heap.size + 1 + 1) 30 #[.slice none 0 0] (0, 0) _ rfl (by exact ax (cs := #[.slice none 0 0]) HF.out.2.2.2.1 0 _ rfl) Try.underlying30 rfl z1) rfl ?_
  exact ⟨_, rfl, Kd.R_nil _ _ _ _ _, az HF.out.1 (by omega)⟩
 | true =>
 simp only [spec_JoinRopes.j0, Bool.not_true] at h
 rw [if_neg (by simp), Option.bind_some] at h
 obtain ⟨fa, hj, h⟩ := oB h
 split at h
 case isFalse => cases h
 case isTrue hlen =>
 rw [Option.bind_some, List.nil_append] at h
 obtain ⟨g3, hg3, h⟩ := oB h
 have HJ := aM hj
 have HG3 := aM hg3
 have HH := aM h
 have LM : Aside0 (([] : List S101).length + fa.length < 2932031007402) := ⟨hlen⟩
 clear hj hg3 h hlen
 go_enter Try.func69, Try.ntmps69
 go_upto_region 3 with (first | (go_at_call_of 24 (Value.agg #[.slice cL l0_0.length cM]); (try rw [HWE.out]); refine (spec_GoodRope.calls (k2 + 1) _ _ l0_0 _ _ (by repeat (first | exact HF.out.2.2.2.2.1 | (with_reducible refine aH ?_ _) | (with_reducible refine aI ?_ _) | (with_reducible refine aJ ?_))) en.out HG.out).mono ?_; rintro e w1 ⟨rfl, hb⟩; replace HF := aM (JrF.below (by repeat (first | exact HF.out | (with_reducible refine JrF.alloc ?_ _) | (with_reducible refine JrF.drewN ?_ _) | (with_reducible refine JrF.drew ?_))) hb); (try clear cA cB cR fR); have cA : w1.cell? ⟨w.heap.size, 0, none⟩ = some (.slice cL l0_0.length cM) := (bC HF.out.2.1 0).trans rfl; have cB : w1.cell? ⟨w.heap.size + 1, 0, none⟩ = some (.slice hD l1_0.length g8) := (bC HF.out.2.2.1 0).trans rfl; have cR : w1.cell? ⟨w.heap.size + 1 + 1, 0, none⟩ = some (.slice none 0 0) := (bC HF.out.2.2.2.1 0).trans rfl; have fR := bF HF.out.2.2.2.1 0; clear hb) | (go_at_call_of 24 (Value.agg #[.slice hD l1_0.length g8]); refine (spec_GoodRope.calls (k2 + 1) _ _ l1_0 _ _ (by repeat (first | exact HF.out.2.2.2.2.2 | (with_reducible refine aH ?_ _) | (with_reducible refine aI ?_ _) | (with_reducible refine aJ ?_))) gm.out HG2.out).mono ?_; rintro e w2 ⟨rfl, hb⟩; replace HF := aM (JrF.below (by repeat (first | exact HF.out | (with_reducible refine JrF.alloc ?_ _) | (with_reducible refine JrF.drewN ?_ _) | (with_reducible refine JrF.drew ?_))) hb); (try clear cA cB cR fR); have cA : w2.cell? ⟨w.heap.size, 0, none⟩ = some (.slice cL l0_0.length cM) := (bC HF.out.2.1 0).trans rfl; have cB : w2.cell? ⟨w.heap.size + 1, 0, none⟩ = some (.slice hD l1_0.length g8) := (bC HF.out.2.2.1 0).trans rfl; have cR : w2.cell? ⟨w.heap.size + 1 + 1, 0, none⟩ = some (.slice none 0 0) := (bC HF.out.2.2.2.1 0).trans rfl; have fR := bF HF.out.2.2.2.1 0; clear hb))
 have HG0 := HF
 go_upto_region 4 with (first | ((with_reducible refine aN (N := 16) rfl ?_); refine Kd.R_lit k101 (w0 := w2) w2.heap.size 101 ?hg (N := 16) ?hd (xs := ([] : List (S101))) (inner := []) (ok := fun _ => True) (okp := fun _ => True) ?hr ?hp (fun _ hk => hk) trivial (Below.refl _ _) (Nat.le_refl _) (by simp) ?_; (case hd => rfl); (case hg => rfl); (case hr => first | (go_simp; done) | (go_simp; rfl)); (case hp => exact (Reps.none _ _)); intro v1 w3 ho1 hb hg_ hnew_; obtain ⟨A3, c3, eo⟩ := Kd.R_slice ho1; subst eo; have HV1 := aM ho1; have HB1 : Aside0 (Below w2.heap.size w2 w3) := ⟨hb⟩; replace HF := aM (JrF.below (by repeat (first | exact HF.out | (with_reducible refine JrF.alloc ?_ _) | (with_reducible refine JrF.drewN ?_ _) | (with_reducible refine JrF.drew ?_))) hb); (try clear cA cB cR fR); have cA : w3.cell? ⟨w.heap.size, 0, none⟩ = some (.slice cL l0_0.length cM) := (bC HF.out.2.1 0).trans rfl; have cB : w3.cell? ⟨w.heap.size + 1, 0, none⟩ = some (.slice hD l1_0.length g8) := (bC HF.out.2.2.1 0).trans rfl; have cR : w3.cell? ⟨w.heap.size + 1 + 1, 0, none⟩ = some (.slice none 0 0) := (bC HF.out.2.2.2.1 0).trans rfl; have fR := bF HF.out.2.2.2.1 0; clear ho1 hb hg_ hnew_) | (go_at_call 29; refine (join_rd k2 l0_0 cL cM l1_0 hD g8 fa _ (by repeat (first | exact HF.out.2.2.2.2.1 | (with_reducible refine aH ?_ _) | (with_reducible refine aI ?_ _) | (with_reducible refine aJ ?_))) en.out (by repeat (first | exact HF.out.2.2.2.2.2 | (with_reducible refine aH ?_ _) | (with_reducible refine aI ?_ _) | (with_reducible refine aJ ?_))) gm.out HJ.out).mono ?_; rintro e w4 ⟨A5, c5, rfl, hc5, hl5, hb⟩; have jH := aM hc5; have nv_ := aM (ag (by repeat (first | exact HV1.out | (with_reducible refine ae ?_ _) | (with_reducible refine ac ?_ _) | (with_reducible refine aa ?_))) hb); clear HV1; have HV1 := nv_; have nb_ := aM (aA (by repeat (first | (with_reducible first | exact HB1.out | apply bA | apply pD | apply bD) | exact HB1.out)) hb); clear HB1; have HB1 := nb_; clear nv_ nb_; replace HF := aM (JrF.below (by repeat (first | exact HF.out | (with_reducible refine JrF.alloc ?_ _) | (with_reducible refine JrF.drewN ?_ _) | (with_reducible refine JrF.drew ?_))) hb); (try clear cA cB cR fR); have cA : w4.cell? ⟨w.heap.size, 0, none⟩ = some (.slice cL l0_0.length cM) := (bC HF.out.2.1 0).trans rfl; have cB : w4.cell? ⟨w.heap.size + 1, 0, none⟩ = some (.slice hD l1_0.length g8) := (bC HF.out.2.2.1 0).trans rfl; have cR : w4.cell? ⟨w.heap.size + 1 + 1, 0, none⟩ = some (.slice none 0 0) := (bC HF.out.2.2.2.1 0).trans rfl; have fR := bF HF.out.2.2.2.1 0; clear hc5 hl5 hb) | ((with_reducible refine gate_builtin (b := .append) (xs := #[.tmp 16, .tmp 21]) rfl ?_); at_builtin; refine Kd.R_append_rows k101 (w0 := w2) w2.heap.size rfl (.tmp 16) (.tmp 21) 28 101 (.agg #[(.int .i64 0), (.int .i64 0), (.string ⟨#[]⟩), (.int .i64 0), (.int .i64 0)]) 48 rfl Try.underlying28 info101 rfl z0 (by omega) (.slice A3 0 c3) [] fa _ _ _ (fun _ => True) (fun _ => False) rfl rfl ?aO ?aR (fun _ _ h => h) (fun _ h => h.elim) (fun _ _ => trivial) ?aB ?aS ?aL ?_; (case aR => repeat (first | exact jH.out | (with_reducible refine aH ?_ _) | (with_reducible refine aI ?_ _) | (with_reducible refine aJ ?_))); (case aB => exact (by repeat (first | (with_reducible first | exact HB1.out | apply bA | apply pD | apply bD) | exact HB1.out))); (case aO => exact (kR_ HV1.out)); (case aS => exact (aC (by repeat (first | (with_reducible first | exact HB1.out | apply bA | apply pD | apply bD) | exact HB1.out)))); (case aL => have := LM.out; simp only [List.length_nil] at *; omega); intro v5 w5 ho hb5 hg hat; rw [List.nil_append] at ho; obtain ⟨A6, c6, eo⟩ := Kd.R_slice ho; subst eo; have HV2 := aM ho; replace HF := aM (JrF.below HG0.out hb5); (try clear cA cB cR fR); have cA : w5.cell? ⟨w.heap.size, 0, none⟩ = some (.slice cL l0_0.length cM) := (bC HF.out.2.1 0).trans rfl; have cB : w5.cell? ⟨w.heap.size + 1, 0, none⟩ = some (.slice hD l1_0.length g8) := (bC HF.out.2.2.1 0).trans rfl; have cR : w5.cell? ⟨w.heap.size + 1 + 1, 0, none⟩ = some (.slice none 0 0) := (bC HF.out.2.2.2.1 0).trans rfl; have fR := bF HF.out.2.2.2.1 0; clear ho hb5 hg hat))
 obtain ⟨wc, hwc⟩ : ∃ x, w5.alloc (.cells #[.slice A6 fa.length c6] 30) = x := ⟨_, rfl⟩
 rw [hwc]
 have hb : Below w5.heap.size w5 wc := by rw [← hwc]; exact bA (Below.refl _ _) _
 have BX : Aside0 (wc.heap[w5.heap.size]? = some (.cells #[.slice A6 fa.length c6] 30 (0, 0))) := ⟨by rw [← hwc]; exact blk_new _ _⟩
 have nf_ := aM (JrF.below (by repeat (first | exact HF.out | (with_reducible refine JrF.alloc ?_ _) | (with_reducible refine JrF.drewN ?_ _) | (with_reducible refine JrF.drew ?_))) hb); clear HF; have HF := nf_; clear nf_; (try clear cA cB cR fR); have cA : wc.cell? ⟨w.heap.size, 0, none⟩ = some (.slice cL l0_0.length cM) := (bC HF.out.2.1 0).trans rfl; have cB : wc.cell? ⟨w.heap.size + 1, 0, none⟩ = some (.slice hD l1_0.length g8) := (bC HF.out.2.2.1 0).trans rfl; have cR : wc.cell? ⟨w.heap.size + 1 + 1, 0, none⟩ = some (.slice none 0 0) := (bC HF.out.2.2.2.1 0).trans rfl; have fR := bF HF.out.2.2.2.1 0
 have HV3 := aM (ag HV2.out hb)
 have mm := aM (ai HV3.out).2.2
 have HL6 := aM (ai HV3.out).2.1
 have HSZ := aM HG0.out.1.size
 obtain ⟨gx, hgx⟩ : ∃ g, w5.heap.size = g := ⟨_, rfl⟩
 rw [hgx] at BX ⊢
 clear hb hwc hgx HV2 HV1 HB1 jH HJ HG HG2 HG0 HWE
 have hcx_0 : wc.cell? ⟨gx, 0, none⟩ = some (.slice A6 fa.length c6) := (bC BX.out 0).trans rfl
 have hh := HH.out
 clear HH
 cases g3 with
 | false =>
  rw [if_neg (by simp)] at hh
  obtain ⟨rfl, rfl⟩ := Prod.mk.inj (sI hh)
  clear hh
  go_wp2_with (first | (go_at_call 24; refine (spec_GoodRope.calls k2 _ _ fa _ _ (by repeat (first | exact mm.out | (with_reducible refine aH ?_ _) | (with_reducible refine aI ?_ _) | (with_reducible refine aJ ?_))) HL6.out HG3.out).mono ?_; rintro e w6 ⟨rfl, hb⟩; replace HF := aM (JrF.below (by repeat (first | exact HF.out | (with_reducible refine JrF.alloc ?_ _) | (with_reducible refine JrF.drewN ?_ _) | (with_reducible refine JrF.drew ?_))) hb); (try clear cA cB cR fR); have cA : w6.cell? ⟨w.heap.size, 0, none⟩ = some (.slice cL l0_0.length cM) := (bC HF.out.2.1 0).trans rfl; have cB : w6.cell? ⟨w.heap.size + 1, 0, none⟩ = some (.slice hD l1_0.length g8) := (bC HF.out.2.2.1 0).trans rfl; have cR : w6.cell? ⟨w.heap.size + 1 + 1, 0, none⟩ = some (.slice none 0 0) := (bC HF.out.2.2.2.1 0).trans rfl; have fR := bF HF.out.2.2.2.1 0; have nx_ := aM (af BX.out hb); clear BX hcx_0; have BX := nx_; have nv_ := aM (ag HV3.out hb); clear HV3 nx_; have HV3 := nv_; have hcx_0 : w6.cell? ⟨gx, 0, none⟩ = some (.slice A6 fa.length c6) := (bC BX.out 0).trans rfl; clear hb nv_))
  refine aU (aV rfl _ _ (w.heap.size + 1 + 1) 30 #[.slice none 0 0] (0, 0) _ rfl (by exact ax (cs := #[.slice none 0 0]) HF.out.2.2.2.1 0 _ rfl) Try.underlying30 rfl z1) rfl ?_
  exact ⟨_, rfl, Kd.R_nil _ _ _ _ _, az HF.out.1 (by omega)⟩
 | true =>
  rw [if_pos rfl] at hh
  obtain ⟨rfl, rfl⟩ := Prod.mk.inj (sI hh)
  clear hh
  go_wp2_with (first | (go_at_call 24; refine (spec_GoodRope.calls k2 _ _ fa _ _ (by repeat (first | exact mm.out | (with_reducible refine aH ?_ _) | (with_reducible refine aI ?_ _) | (with_reducible refine aJ ?_))) HL6.out HG3.out).mono ?_; rintro e w6 ⟨rfl, hb⟩; replace HF := aM (JrF.below (by repeat (first | exact HF.out | (with_reducible refine JrF.alloc ?_ _) | (with_reducible refine JrF.drewN ?_ _) | (with_reducible refine JrF.drew ?_))) hb); (try clear cA cB cR fR); have cA : w6.cell? ⟨w.heap.size, 0, none⟩ = some (.slice cL l0_0.length cM) := (bC HF.out.2.1 0).trans rfl; have cB : w6.cell? ⟨w.heap.size + 1, 0, none⟩ = some (.slice hD l1_0.length g8) := (bC HF.out.2.2.1 0).trans rfl; have cR : w6.cell? ⟨w.heap.size + 1 + 1, 0, none⟩ = some (.slice none 0 0) := (bC HF.out.2.2.2.1 0).trans rfl; have fR := bF HF.out.2.2.2.1 0; have nx_ := aM (af BX.out hb); clear BX hcx_0; have BX := nx_; have nv_ := aM (ag HV3.out hb); clear HV3 nx_; have HV3 := nv_; have hcx_0 : w6.cell? ⟨gx, 0, none⟩ = some (.slice A6 fa.length c6) := (bC BX.out 0).trans rfl; clear hb nv_))
  refine aU (aV rfl _ _ (w.heap.size + 1 + 1) 30 #[.slice A6 fa.length c6] (0, 0) _ rfl (by exact ax (cs := #[.slice none 0 0]) HF.out.2.2.2.1 0 _ rfl) Try.underlying30 rfl z1) rfl ?_
  exact ⟨_, rfl, Kd.R_set (aW HV3.out HSZ.out) HF.out.2.2.2.1 z0 0 _, az HF.out.1 (by omega)⟩

end Go.Proofs.Ytblnnbaeiggmoaa.AFnSplit
