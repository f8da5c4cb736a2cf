-- this session's own text: written by wip/tools/ownprint.py over the kit's print
import Derived.Test.YtmkenlejdaphnaaAFnRopesx0
import Derived.Test.YtmkenlejdaphnaaAFnRopesx2
import Derived.Test.YtmkenlejdaphnaaAFnRopesx6
import Derived.Test.YtmkenlejdaphnaaAFnRopesx7
import Derived.Test.YtmkenlejdaphnaaAFnRopesx8
namespace Go.Proofs.Ytmkenlejdaphnaa.AFnRopes
open Go.RowKit Go.Proofs.YtmkenlejdaphnaaW.PrintWords Go.Proofs.YtmkenlejdaphnaaW.PrintLast Go.Proofs.YtmkenlejdaphnaaW.PrintMore
attribute [local go_sem] max2_int min2_int max_two min_two max_three min_three max_four min_four   -- for this text's walks alone
set_option linter.unusedVariables false
set_option linter.unusedSimpArgs false

/-! ### spec_l1Cur_spoilt: function 89 -/
mutual
def spec_l1Cur_spoilt.l0 : Nat → ByteArray → ByteArray → Int → List Int → Int → Int → Option (ByteArray × Int × Int)
 | 0, _, _, _, _, _, _ => none
 | k + 1, x1, x2, x7, x1000, x1001, x1002 => if x7 > 0 then (spec_l1Cur_spoilt.j1 k x1 x2 x7 (decide ((x1.size : Int) > 0)) x1000 x1001 x1002) else (spec_l1Cur_spoilt.j1 k x1 x2 x7 false x1000 x1001 x1002)
def spec_l1Cur_spoilt.j1 : Nat → ByteArray → ByteArray → Int → Bool → List Int → Int → Int → Option (ByteArray × Int × Int)
 | 0, _, _, _, _, _, _, _ => none
 | k + 1, x1, x2, x7, x18, x1000, x1001, x1002 => if x18 = true then ((spec_l1Cur_pick.f x1000 x1001 x1002 (x1.size : Int)).bind fun ed => ((spec_l1Cur_pick.f x1000 ed.2.1 ed.2.2 (x2.size : Int)).bind fun lC => (if 0 ≤ lC.1 then (if lC.1 < (x2.size : Int) then ((some (([bt x2 lC.1] : List Int) : List Int)).bind fun y182 => ((spec_l1Cur_pick.f x1000 lC.2.1 lC.2.2 3).bind fun eY => (if eY.1 = 0 then (if 0 ≤ ed.1 then (if ed.1 ≤ (x1.size : Int) then (if (x1.extract 0 (ed.1 : Int).toNat).size + (strOfNums y182).size ≤ 9223372036854775807 then (if ((x1.extract 0 (ed.1 : Int).toNat) ++ (strOfNums y182)).size + (x1.extract (ed.1 : Int).toNat x1.size).size ≤ 9223372036854775807 then (spec_l1Cur_spoilt.l0 k (((x1.extract 0 (ed.1 : Int).toNat) ++ (strOfNums y182)) ++ (x1.extract (ed.1 : Int).toNat x1.size)) x2 (wrap64 (x7 - 1)) x1000 eY.2.1 eY.2.2) else (none)) else (none)) else (none)) else (none)) else (if eY.1 = 1 then (if 0 ≤ ed.1 then (if ed.1 ≤ (x1.size : Int) then (if (x1.extract 0 (ed.1 : Int).toNat).size + (strOfNums y182).size ≤ 9223372036854775807 then (if 0 ≤ (wrap64 (ed.1 + 1)) then (if (wrap64 (ed.1 + 1)) ≤ (x1.size : Int) then (if ((x1.extract 0 (ed.1 : Int).toNat) ++ (strOfNums y182)).size + (x1.extract ((wrap64 (ed.1 + 1)) : Int).toNat x1.size).size ≤ 9223372036854775807 then (spec_l1Cur_spoilt.l0 k (((x1.extract 0 (ed.1 : Int).toNat) ++ (strOfNums y182)) ++ (x1.extract ((wrap64 (ed.1 + 1)) : Int).toNat x1.size)) x2 (wrap64 (x7 - 1)) x1000 eY.2.1 eY.2.2) else (none)) else (none)) else (none)) else (none)) else (none)) else (none)) else (if 0 ≤ ed.1 then (if ed.1 ≤ (x1.size : Int) then (if 0 ≤ (wrap64 (ed.1 + 1)) then (if (wrap64 (ed.1 + 1)) ≤ (x1.size : Int) then (if (x1.extract 0 (ed.1 : Int).toNat).size + (x1.extract ((wrap64 (ed.1 + 1)) : Int).toNat x1.size).size ≤ 9223372036854775807 then (spec_l1Cur_spoilt.l0 k ((x1.extract 0 (ed.1 : Int).toNat) ++ (x1.extract ((wrap64 (ed.1 + 1)) : Int).toNat x1.size)) x2 (wrap64 (x7 - 1)) x1000 eY.2.1 eY.2.2) else (none)) else (none)) else (none)) else (none)) else (none)))))) else (none)) else (none)))) else (some (x1, x1001, x1002))
end
def spec_l1Cur_spoilt.f (k : Nat) (s0_0 : List Int) (s0_1 : Int) (s0_2 : Int) (a1 : ByteArray) (a2 : ByteArray) : Option (ByteArray × Int × Int) := (spec_l1Cur_pick.f s0_0 s0_1 s0_2 3).bind fun jq => (spec_l1Cur_spoilt.l0 k a1 a2 jq.1 s0_0 jq.2.1 jq.2.2)
theorem spec_l1Cur_spoilt.mono_l : ∀ k, (∀ y0 y1 y2 y3 y4 y5, LeO (spec_l1Cur_spoilt.l0 k y0 y1 y2 y3 y4 y5) (spec_l1Cur_spoilt.l0 (k + 1) y0 y1 y2 y3 y4 y5)) ∧ (∀ y0 y1 y2 y3 y4 y5 y6, LeO (spec_l1Cur_spoilt.j1 k y0 y1 y2 y3 y4 y5 y6) (spec_l1Cur_spoilt.j1 (k + 1) y0 y1 y2 y3 y4 y5 y6))
 | 0 => ⟨fun _ _ _ _ _ _ r h => by simp [spec_l1Cur_spoilt.l0] at h, fun _ _ _ _ _ _ _ r h => by simp [spec_l1Cur_spoilt.j1] at h⟩
 | k + 1 => by
  obtain ⟨ih0, ih1⟩ := spec_l1Cur_spoilt.mono_l k
  refine ⟨?_, ?_⟩
  ·intro y0 y1 y2 y3 y4 y5
   unfold spec_l1Cur_spoilt.l0
   repeat' first
   | (with_reducible exact ih0 _ _ _ _ _ _)
   | (with_reducible exact ih1 _ _ _ _ _ _ _)
   | (with_reducible exact LeO.refl _)
   | (with_reducible exact LeO.none _)
   | (with_reducible refine LeO.ite ?_ ?_)
   | (with_reducible refine LeO.bind ?_ (fun _ => ?_))
  ·intro y0 y1 y2 y3 y4 y5 y6
   unfold spec_l1Cur_spoilt.j1
   repeat' first
   | (with_reducible exact ih0 _ _ _ _ _ _)
   | (with_reducible exact ih1 _ _ _ _ _ _ _)
   | (with_reducible exact LeO.refl _)
   | (with_reducible exact LeO.none _)
   | (with_reducible refine LeO.ite ?_ ?_)
   | (with_reducible refine LeO.bind ?_ (fun _ => ?_))
theorem spec_l1Cur_spoilt.mono : ∀ a0 a1 a2 a3 a4 k, LeO (spec_l1Cur_spoilt.f k a0 a1 a2 a3 a4) (spec_l1Cur_spoilt.f (k + 1) a0 a1 a2 a3 a4) := by
 intro a0 a1 a2 a3 a4 k
 obtain ⟨ih0, ih1⟩ := spec_l1Cur_spoilt.mono_l k
 unfold spec_l1Cur_spoilt.f
 repeat' first
   | (with_reducible exact ih0 _ _ _ _ _ _)
   | (with_reducible exact ih1 _ _ _ _ _ _ _)
   | (with_reducible exact LeO.refl _)
   | (with_reducible exact LeO.none _)
   | (with_reducible refine LeO.ite ?_ ?_)
   | (with_reducible refine LeO.bind ?_ (fun _ => ?_))
set_option maxHeartbeats 8000000 in
set_option maxRecDepth 100000 in
theorem spec_l1Cur_spoilt.calls (k : Nat) (g : Nat) (s0_0 : List Int) (s0_1 : Int) (s0_2 : Int) (a1 : ByteArray) (a2 : ByteArray) (r1 : ByteArray) (r2 : Int) (r3 : Int) (w0 w : World) (hI : IsS95 w0 w g s0_0 s0_1 s0_2) (hB : Below w0.heap.size w0 w) (h : spec_l1Cur_spoilt.f k s0_0 s0_1 s0_2 a1 a2 = some (r1, r2, r3)) :
  Calls Try.prog 89 #[.pointer (some ⟨g, 0, none⟩), .string a1, .string a2] w fun e w' => e = .returned (.string r1) ∧ IsS95 w0 w' g s0_0 r2 r3 ∧ Below w0.heap.size w0 w' ∧ KeepBut w w' g none := by
 have HI0 := aM hI
 have HK := aM (KeepBut.refl w g none)
 have HL := aM hB.size
 clear hI
 have HW0 := aM hB.size
 have HB := aM hB
 clear hB
 have H : ((spec_l1Cur_pick.f s0_0 s0_1 s0_2 3).bind fun jq => (spec_l1Cur_spoilt.l0 k a1 a2 jq.1 s0_0 jq.2.1 jq.2.2)) = some (r1, r2, r3) := h
 clear h
 obtain ⟨⟨pG, pF, pE⟩, A4, H⟩ := oA_ H
 try dsimp only at H
 have H' := aM H
 clear H
 go_enter Try.func89, Try.ntmps89
 go_wp2_with (first | (go_at_call 86; (with_reducible refine (spec_l1Cur_pick.calls g s0_0 s0_1 s0_2 3 pG pF pE w0 _ ?side1 ?side2 A4.out).mono ?_); (case side1 => exact y44); (case side2 => exact y34); rintro e w5 ⟨rfl, hi, hb, hk⟩; replace HK := aM (KeepBut.trans z22 hk (.inl rfl)); replace HB := aM (hb); replace HI0 := aM (hi); (try clear hb); (try clear hk); (try clear hi); (try clear dX)))
 repeat (go_quiet (fail); try go_wp2_with (first | (go_at_call 86; (with_reducible refine (spec_l1Cur_pick.calls g s0_0 s0_1 s0_2 3 pG pF pE w0 _ ?side1 ?side2 A4.out).mono ?_); (case side1 => exact y44); (case side2 => exact y34); rintro e w5 ⟨rfl, hi, hb, hk⟩; replace HK := aM (KeepBut.trans z22 hk (.inl rfl)); replace HB := aM (hb); replace HI0 := aM (hi); (try clear hb); (try clear hk); (try clear hi); (try clear dX))))
 go_loopg [1, 7] k (fun kq v1 v7 w' => ∃ (x1_1 : ByteArray) (x7_1 : Int) (x1001_1 : Int) (x1002_1 : Int), v1 = .string x1_1 ∧ v7 = .int .i64 x7_1 ∧ Aside0 (spec_l1Cur_spoilt.l0 kq x1_1 a2 x7_1 s0_0 x1001_1 x1002_1 = some (r1, r2, r3)) ∧ Aside0 (kq ≤ k) ∧ Aside0 (IsS95 w0 w' g s0_0 x1001_1 x1002_1) ∧ Aside0 (KeepBut w w' g none) ∧ Aside0 (Below w0.heap.size w0 w'))
 case atStart => exact ⟨(a1), (pG), (pF), (pE), z2, z2, H', ⟨Nat.le_refl _⟩, ⟨y19⟩, ⟨y14⟩, ⟨y13⟩⟩
 case round =>
  clear H'
  obtain ⟨x1_1, x7_1, x1001_1, x1002_1, rfl, rfl, HA, HK1, HI0, HK, HB⟩ := hrel
  cases gk with
  | zero => exact absurd HA.out (by simp [spec_l1Cur_spoilt.l0])
  | succ k1 =>
   have H := HA.out
   clear HA
   simp only [spec_l1Cur_spoilt.l0] at H
   have jV := aM H
   clear H
   go_upto_region 2 with (fail)
   repeat (go_quiet (fail); go_upto_region 2 with (fail))
   go_cut [18] (fun v18 wc => ∃ (kq : Nat) (x18_5 : Bool), v18 = .bool x18_5 ∧ Aside0 (spec_l1Cur_spoilt.j1 kq x1_1 a2 x7_1 x18_5 s0_0 x1001_1 x1002_1 = some (r1, r2, r3)) ∧ Aside0 (kq ≤ k1) ∧ Aside0 (IsS95 w0 wc g s0_0 x1001_1 x1002_1) ∧ Aside0 (KeepBut w wc g none) ∧ Aside0 (Below w0.heap.size w0 wc))
   case first =>
    have H := jV.out
    clear jV
    by_cases c7 : x7_1 > 0
    ·rw [if_pos c7] at H
     have c7b0 : decide (0 < x7_1) = true := dT c7
     clear c7
     (first | rw [c7b0] | (simp only [i64_w, i32_w]; rw [c7b0]) | skip)
     have H' := aM H
     clear H
     go_wp2
     repeat (go_quiet (fail); try go_wp2)
     go_meet
     case rel => exact ⟨_, (decide ((x1_1.size : Int) > 0)), z2, H', ⟨y2⟩, ⟨y19⟩, ⟨y14⟩, ⟨y13⟩⟩
    ·rw [if_neg c7] at H
     have c7b0 : decide (0 < x7_1) = false := dF c7
     clear c7
     (first | rw [c7b0] | (simp only [i64_w, i32_w]; rw [c7b0]) | skip)
     have H' := aM H
     clear H
     go_wp2
     repeat (go_quiet (fail); try go_wp2)
     go_meet
     case rel => exact ⟨_, (false), z2, H', ⟨y2⟩, ⟨y19⟩, ⟨y14⟩, ⟨y13⟩⟩
   case rest =>
    clear jV
    try clear p2
    try clear p2
    obtain ⟨kq, x18_5, rfl, HA, o4, HI0, HK, HB⟩ := hcut
    cases kq with
    | zero => exact absurd HA.out (by simp [spec_l1Cur_spoilt.j1])
    | succ kj5 =>
     have H := HA.out
     clear HA
     simp only [spec_l1Cur_spoilt.j1] at H
     by_cases c8 : x18_5 = true
     ·subst c8
      rw [if_pos rfl] at H
      obtain ⟨⟨cn, fX, fW⟩, A9, H⟩ := oA_ H
      try dsimp only at H
      obtain ⟨⟨cq, eS, eR⟩, lK, H⟩ := oA_ H
      try dsimp only at H
      by_cases e9 : 0 ≤ cq
      ·rw [if_pos e9] at H
       have c11b0 : decide (0 ≤ cq) = true := dT e9
       clear e9
       by_cases eZ : cq < (a2.size : Int)
       ·rw [if_pos eZ] at H
        have c12b0 : decide (cq < (a2.size : Int)) = true := dT eZ
        clear eZ
        obtain ⟨y182, hy182⟩ : ∃ y_ : List Int, y_ = (([bt a2 cq] : List Int)) := ⟨_, rfl⟩
        replace H : ((spec_l1Cur_pick.f s0_0 eS eR 3).bind fun eY => (if eY.1 = 0 then (if 0 ≤ cn then (if cn ≤ (x1_1.size : Int) then (if (x1_1.extract 0 (cn : Int).toNat).size + (strOfNums y182).size ≤ 9223372036854775807 then (if ((x1_1.extract 0 (cn : Int).toNat) ++ (strOfNums y182)).size + (x1_1.extract (cn : Int).toNat x1_1.size).size ≤ 9223372036854775807 then (spec_l1Cur_spoilt.l0 kj5 (((x1_1.extract 0 (cn : Int).toNat) ++ (strOfNums y182)) ++ (x1_1.extract (cn : Int).toNat x1_1.size)) a2 (wrap64 (x7_1 - 1)) s0_0 eY.2.1 eY.2.2) else (none)) else (none)) else (none)) else (none)) else (if eY.1 = 1 then (if 0 ≤ cn then (if cn ≤ (x1_1.size : Int) then (if (x1_1.extract 0 (cn : Int).toNat).size + (strOfNums y182).size ≤ 9223372036854775807 then (if 0 ≤ (wrap64 (cn + 1)) then (if (wrap64 (cn + 1)) ≤ (x1_1.size : Int) then (if ((x1_1.extract 0 (cn : Int).toNat) ++ (strOfNums y182)).size + (x1_1.extract ((wrap64 (cn + 1)) : Int).toNat x1_1.size).size ≤ 9223372036854775807 then (spec_l1Cur_spoilt.l0 kj5 (((x1_1.extract 0 (cn : Int).toNat) ++ (strOfNums y182)) ++ (x1_1.extract ((wrap64 (cn + 1)) : Int).toNat x1_1.size)) a2 (wrap64 (x7_1 - 1)) s0_0 eY.2.1 eY.2.2) else (none)) else (none)) else (none)) else (none)) else (none)) else (none)) else (if 0 ≤ cn then (if cn ≤ (x1_1.size : Int) then (if 0 ≤ (wrap64 (cn + 1)) then (if (wrap64 (cn + 1)) ≤ (x1_1.size : Int) then (if (x1_1.extract 0 (cn : Int).toNat).size + (x1_1.extract ((wrap64 (cn + 1)) : Int).toNat x1_1.size).size ≤ 9223372036854775807 then (spec_l1Cur_spoilt.l0 kj5 ((x1_1.extract 0 (cn : Int).toNat) ++ (x1_1.extract ((wrap64 (cn + 1)) : Int).toNat x1_1.size)) a2 (wrap64 (x7_1 - 1)) s0_0 eY.2.1 eY.2.2) else (none)) else (none)) else (none)) else (none)) else (none))))) = some (r1, r2, r3) := by first | (rw [hy182]; with_reducible exact H) | (have H2_ := (Option.bind_some _ _).symm.trans H; rw [hy182]; with_reducible exact H2_) | (have H2_ := (Option.bind_some _ _).symm.trans H; with_reducible exact H2_) | with_reducible exact H | (rw [hy182]; exact H) | exact H
        have Ny182 := aM hy182
        clear hy182
        obtain ⟨⟨fL, gL, gK⟩, g9, H⟩ := oA_ H
        try dsimp only at H
        by_cases fe : fL = 0
        ·rw [if_pos fe] at H
         have c15b0 : (fL == 0) = true := qT fe
         have c15b1 : (fL != 0) = false := nF fe
         clear fe
         by_cases fS : 0 ≤ cn
         ·rw [if_pos fS] at H
          have c16b0 := eq_true fS
          have c16b1 : decide (0 ≤ cn) = true := dT fS
          clear fS
          by_cases gE : cn ≤ (x1_1.size : Int)
          ·rw [if_pos gE] at H
           have c17b0 := eq_true gE
           have c17b1 : decide (cn ≤ (x1_1.size : Int)) = true := dT gE
           clear gE
           by_cases lc : (x1_1.extract 0 (cn : Int).toNat).size + (strOfNums y182).size ≤ 9223372036854775807
           ·rw [if_pos lc] at H
            have c18b0 := eq_true lc
            have c18b1 : decide ((x1_1.extract 0 (cn : Int).toNat).size + (strOfNums y182).size ≤ 9223372036854775807) = true := dT lc
            try have c18b2 : (9223372036854775807 < (x1_1.extract 0 (cn : Int).toNat).size + (strOfNums y182).size) = False := eq_false (Nat.not_lt.2 lc)
            (try (have c18x : (9223372036854775807 < (cn).toNat + (strOfNums y182).size) = False := eq_false (fun h_ => by have e_ := of_eq_true c18b0; simp only [a7, a6] at e_; have f0_ : (cn) ≤ (x1_1.size : Int) := (by first | assumption | exact of_eq_true (by assumption) | exact oD (by assumption)); omega)))
            have c19b0 := eq_true (oD z3 : 0 ≤ cn)
            have c20b0 := eq_true (oD z3 : cn ≤ (x1_1.size : Int))
            by_cases oJ : ((x1_1.extract 0 (cn : Int).toNat) ++ (strOfNums y182)).size + (x1_1.extract (cn : Int).toNat x1_1.size).size ≤ 9223372036854775807
            ·rw [if_pos oJ] at H
             have c21b0 := eq_true oJ
             have c21b1 : decide (((x1_1.extract 0 (cn : Int).toNat) ++ (strOfNums y182)).size + (x1_1.extract (cn : Int).toNat x1_1.size).size ≤ 9223372036854775807) = true := dT oJ
             try have c21b2 : (9223372036854775807 < ((x1_1.extract 0 (cn : Int).toNat) ++ (strOfNums y182)).size + (x1_1.extract (cn : Int).toNat x1_1.size).size) = False := eq_false (Nat.not_lt.2 oJ)
             (try (have c21x : (9223372036854775807 < ((cn).toNat + (strOfNums y182).size) + (x1_1.size.toNat - (cn).toNat)) = False := eq_false (fun h_ => by have e_ := of_eq_true c21b0; simp only [a7, a6] at e_; have f0_ : x1_1.size ≤ (x1_1.size : Int) := (by first | assumption | exact of_eq_true (by assumption) | exact oD (by assumption)); have f1_ : (cn) ≤ (x1_1.size : Int) := (by first | assumption | exact of_eq_true (by assumption) | exact oD (by assumption)); omega)))
             (try (have c21b2s := c21b2; simp only [a6] at c21b2s))
             have H' := aM H
             clear H
             go_wp2_with (first | (go_at_call 86; (with_reducible refine (spec_l1Cur_pick.calls g s0_0 x1001_1 x1002_1 (x1_1.size : Int) cn fX fW w0 _ ?side1 ?side2 A9.out).mono ?_); (case side1 => exact y44); (case side2 => exact y34); rintro e w22 ⟨rfl, hi, hb, hk⟩; replace HK := aM (KeepBut.trans z22 hk (.inl rfl)); replace HB := aM (hb); replace HI0 := aM (hi); (try clear hb); (try clear hk); (try clear hi); (try clear dX)) | (go_at_call 86; (with_reducible refine (spec_l1Cur_pick.calls g s0_0 fX fW (a2.size : Int) cq eS eR w0 _ ?side1 ?side2 lK.out).mono ?_); (case side1 => exact y44); (case side2 => exact y34); rintro e w23 ⟨rfl, hi, hb, hk⟩; replace HK := aM (KeepBut.trans z22 hk (.inl rfl)); replace HB := aM (hb); replace HI0 := aM (hi); (try clear hb); (try clear hk); (try clear hi); (try clear dX); have p13 : 0 ≤ (cq : Int) := oD z3; have q13 : cq < (a2.size : Int) := oD z3; have hx13 := bt_at a2 cq; replace p13 := eq_true p13; replace q13 := eq_true q13) | ((with_reducible refine aN (N := 31) rfl ?_); (try (refine gate_guard (by rfl) ?_; dsimp only)); refine Kd.R_lit (Kd.int .u8) _ 5 ?hg (N := 31) ?hd (xs := ([bt a2 cq] : List Int)) (inner := [.int .u8 (bt a2 cq)]) (ok := fun _ => True) (okp := fun _ => True) ?hr ?hp (fun _ hk => hk) trivial (Below.refl _ _) (Nat.le_refl _) (by simp) ?_; (case hd => rfl); (case hg => rfl); (case hr => first | (go_simp; done) | (go_simp; rfl)); (case hp => exact (Reps.one (show Kd.M (Kd.int .u8) _ _ _ (bt a2 cq) [.int .u8 (bt a2 cq)] from rfl) (Reps.none _ _))); intro v183 w24 ho25 hb hg_ hnew_; clear hg_ hnew_; (first | rw [← Ny182.out] at ho25 | (simp only [Int.reduceToNat] at ho25; rw [← Ny182.out] at ho25)); have cC := aM (aW ho25 (keep_size (w := w) (g := g) (row := none) z22)); replace HK := aM (KeepBut.trans z22 (KeepBut.of_below hb g none) (.inl rfl)); replace HB := aM (aA z27 hb); replace HI0 := aM (IsS95.below z30 hb); clear hb ho25; have hcv26 := own_string (P := Try.prog) Try.underlying54 Try.underlying5 Try.underlying9 (Kd.own_of_R cC.out)) | (go_at_call 86; (with_reducible refine (spec_l1Cur_pick.calls g s0_0 eS eR 3 fL gL gK w0 _ ?side1 ?side2 g9.out).mono ?_); (case side1 => exact y44); (case side2 => exact y34); rintro e w27 ⟨rfl, hi, hb, hk⟩; replace cC := aM (ah (Kd.R_keep (IsS95.apart (show IsS95 w0 _ g s0_0 eS eR from by (try simp only [Int.add_zero]); repeat (first | (with_reducible first | exact HI0.out | apply IsS95.alloc | apply IsS95.drewN | apply IsS95.drew | apply IsS95.set_1 | apply IsS95.set_2) | exact HI0.out)) (kR_ cC.out) z0) hk (fun _ h => h.2)) (fun _ h => h.1)); replace HK := aM (KeepBut.trans z22 hk (.inl rfl)); replace HB := aM (hb); replace HI0 := aM (hi); (try clear hb); (try clear hk); (try clear hi); (try clear dX)))
             repeat (go_quiet (fail); try go_wp2_with (first | (go_at_call 86; (with_reducible refine (spec_l1Cur_pick.calls g s0_0 x1001_1 x1002_1 (x1_1.size : Int) cn fX fW w0 _ ?side1 ?side2 A9.out).mono ?_); (case side1 => exact y44); (case side2 => exact y34); rintro e w22 ⟨rfl, hi, hb, hk⟩; replace HK := aM (KeepBut.trans z22 hk (.inl rfl)); replace HB := aM (hb); replace HI0 := aM (hi); (try clear hb); (try clear hk); (try clear hi); (try clear dX)) | (go_at_call 86; (with_reducible refine (spec_l1Cur_pick.calls g s0_0 fX fW (a2.size : Int) cq eS eR w0 _ ?side1 ?side2 lK.out).mono ?_); (case side1 => exact y44); (case side2 => exact y34); rintro e w23 ⟨rfl, hi, hb, hk⟩; replace HK := aM (KeepBut.trans z22 hk (.inl rfl)); replace HB := aM (hb); replace HI0 := aM (hi); (try clear hb); (try clear hk); (try clear hi); (try clear dX); have p13 : 0 ≤ (cq : Int) := oD z3; have q13 : cq < (a2.size : Int) := oD z3; have hx13 := bt_at a2 cq; replace p13 := eq_true p13; replace q13 := eq_true q13) | ((with_reducible refine aN (N := 31) rfl ?_); (try (refine gate_guard (by rfl) ?_; dsimp only)); refine Kd.R_lit (Kd.int .u8) _ 5 ?hg (N := 31) ?hd (xs := ([bt a2 cq] : List Int)) (inner := [.int .u8 (bt a2 cq)]) (ok := fun _ => True) (okp := fun _ => True) ?hr ?hp (fun _ hk => hk) trivial (Below.refl _ _) (Nat.le_refl _) (by simp) ?_; (case hd => rfl); (case hg => rfl); (case hr => first | (go_simp; done) | (go_simp; rfl)); (case hp => exact (Reps.one (show Kd.M (Kd.int .u8) _ _ _ (bt a2 cq) [.int .u8 (bt a2 cq)] from rfl) (Reps.none _ _))); intro v183 w24 ho25 hb hg_ hnew_; clear hg_ hnew_; (first | rw [← Ny182.out] at ho25 | (simp only [Int.reduceToNat] at ho25; rw [← Ny182.out] at ho25)); have cC := aM (aW ho25 (keep_size (w := w) (g := g) (row := none) z22)); replace HK := aM (KeepBut.trans z22 (KeepBut.of_below hb g none) (.inl rfl)); replace HB := aM (aA z27 hb); replace HI0 := aM (IsS95.below z30 hb); clear hb ho25; have hcv26 := own_string (P := Try.prog) Try.underlying54 Try.underlying5 Try.underlying9 (Kd.own_of_R cC.out)) | (go_at_call 86; (with_reducible refine (spec_l1Cur_pick.calls g s0_0 eS eR 3 fL gL gK w0 _ ?side1 ?side2 g9.out).mono ?_); (case side1 => exact y44); (case side2 => exact y34); rintro e w27 ⟨rfl, hi, hb, hk⟩; replace cC := aM (ah (Kd.R_keep (IsS95.apart (show IsS95 w0 _ g s0_0 eS eR from by (try simp only [Int.add_zero]); repeat (first | (with_reducible first | exact HI0.out | apply IsS95.alloc | apply IsS95.drewN | apply IsS95.drew | apply IsS95.set_1 | apply IsS95.set_2) | exact HI0.out)) (kR_ cC.out) z0) hk (fun _ h => h.2)) (fun _ h => h.1)); replace HK := aM (KeepBut.trans z22 hk (.inl rfl)); replace HB := aM (hb); replace HI0 := aM (hi); (try clear hb); (try clear hk); (try clear hi); (try clear dX))))
             go_roundg kj5
             case measure => have := HK1.out; have := o4.out; omega
             case rel => exact ⟨(((x1_1.extract 0 (cn : Int).toNat) ++ (strOfNums y182)) ++ (x1_1.extract (cn : Int).toNat x1_1.size)), (wrap64 (x7_1 - 1)), (gL), (gK), z2, z2, H', ⟨by have := HK1.out; have := o4.out; omega⟩, ⟨y19⟩, ⟨y14⟩, ⟨y13⟩⟩
            ·rw [if_neg oJ] at H
             exact absurd H (by simp)
           ·rw [if_neg lc] at H
            exact absurd H (by simp)
          ·rw [if_neg gE] at H
           exact absurd H (by simp)
         ·rw [if_neg fS] at H
          exact absurd H (by simp)
        ·rw [if_neg fe] at H
         have c15b0 : (fL == 0) = false := qF fe
         have c15b1 : (fL != 0) = true := nT fe
         by_cases nW : fL = 1
         ·rw [if_pos nW] at H
          have c28b0 : (fL == 1) = true := qT nW
          have c28b1 : (fL != 1) = false := nF nW
          clear nW
          by_cases gY : 0 ≤ cn
          ·rw [if_pos gY] at H
           have c29b0 := eq_true gY
           have c29b1 : decide (0 ≤ cn) = true := dT gY
           clear gY
           by_cases sq : cn ≤ (x1_1.size : Int)
           ·rw [if_pos sq] at H
            have c30b0 := eq_true sq
            have c30b1 : decide (cn ≤ (x1_1.size : Int)) = true := dT sq
            clear sq
            by_cases pl : (x1_1.extract 0 (cn : Int).toNat).size + (strOfNums y182).size ≤ 9223372036854775807
            ·rw [if_pos pl] at H
             have c31b0 := eq_true pl
             have c31b1 : decide ((x1_1.extract 0 (cn : Int).toNat).size + (strOfNums y182).size ≤ 9223372036854775807) = true := dT pl
             try have c31b2 : (9223372036854775807 < (x1_1.extract 0 (cn : Int).toNat).size + (strOfNums y182).size) = False := eq_false (Nat.not_lt.2 pl)
             (try (have c31x : (9223372036854775807 < (cn).toNat + (strOfNums y182).size) = False := eq_false (fun h_ => by have e_ := of_eq_true c31b0; simp only [a7, a6] at e_; have f0_ : (cn) ≤ (x1_1.size : Int) := (by first | assumption | exact of_eq_true (by assumption) | exact oD (by assumption)); omega)))
             obtain ⟨gP, gR⟩ : ∃ j_ : Int, (wrap64 (cn + 1)) = j_ := ⟨_, rfl⟩
             replace H : (if 0 ≤ (gP) then (if (gP) ≤ (x1_1.size : Int) then (if ((x1_1.extract 0 (cn : Int).toNat) ++ (strOfNums y182)).size + (x1_1.extract ((gP) : Int).toNat x1_1.size).size ≤ 9223372036854775807 then (spec_l1Cur_spoilt.l0 kj5 (((x1_1.extract 0 (cn : Int).toNat) ++ (strOfNums y182)) ++ (x1_1.extract ((gP) : Int).toNat x1_1.size)) a2 (wrap64 (x7_1 - 1)) s0_0 gL gK) else (none)) else (none)) else (none)) = some (r1, r2, r3) := by first | (rw [gR] at H; exact H) | (simp only [gR] at H ⊢; exact H)
             (try rw [gR] at A9)
             (try rw [gR] at lK)
             (try rw [gR] at g9)
             have hji32w : (IntKind.i64.wrap (cn + 1)) = gP := (i64_w _).trans gR
             by_cases nV : 0 ≤ (gP)
             ·rw [if_pos nV] at H
              have c33b0 := eq_true nV
              have c33b1 : decide (0 ≤ (gP)) = true := dT nV
              clear nV
              by_cases sp : (gP) ≤ (x1_1.size : Int)
              ·rw [if_pos sp] at H
               have c34b0 := eq_true sp
               have c34b1 : decide ((gP) ≤ (x1_1.size : Int)) = true := dT sp
               clear sp
               by_cases lu : ((x1_1.extract 0 (cn : Int).toNat) ++ (strOfNums y182)).size + (x1_1.extract ((gP) : Int).toNat x1_1.size).size ≤ 9223372036854775807
               ·rw [if_pos lu] at H
                have c35b0 := eq_true lu
                have c35b1 : decide (((x1_1.extract 0 (cn : Int).toNat) ++ (strOfNums y182)).size + (x1_1.extract ((gP) : Int).toNat x1_1.size).size ≤ 9223372036854775807) = true := dT lu
                try have c35b2 : (9223372036854775807 < ((x1_1.extract 0 (cn : Int).toNat) ++ (strOfNums y182)).size + (x1_1.extract ((gP) : Int).toNat x1_1.size).size) = False := eq_false (Nat.not_lt.2 lu)
                (try (have c35x : (9223372036854775807 < ((cn).toNat + (strOfNums y182).size) + (x1_1.size.toNat - (gP).toNat)) = False := eq_false (fun h_ => by have e_ := of_eq_true c35b0; simp only [a7, a6] at e_; have f0_ : x1_1.size ≤ (x1_1.size : Int) := (by first | assumption | exact of_eq_true (by assumption) | exact oD (by assumption)); have f1_ : (cn) ≤ (x1_1.size : Int) := (by first | assumption | exact of_eq_true (by assumption) | exact oD (by assumption)); omega)))
                (try (have c35b2s := c35b2; simp only [a6] at c35b2s))
                have H' := aM H
                clear H
                go_wp2_with (first | (go_at_call 86; (with_reducible refine (spec_l1Cur_pick.calls g s0_0 x1001_1 x1002_1 (x1_1.size : Int) cn fX fW w0 _ ?side1 ?side2 A9.out).mono ?_); (case side1 => exact y44); (case side2 => exact y34); rintro e w36 ⟨rfl, hi, hb, hk⟩; replace HK := aM (KeepBut.trans z22 hk (.inl rfl)); replace HB := aM (hb); replace HI0 := aM (hi); (try clear hb); (try clear hk); (try clear hi); (try clear dX)) | (go_at_call 86; (with_reducible refine (spec_l1Cur_pick.calls g s0_0 fX fW (a2.size : Int) cq eS eR w0 _ ?side1 ?side2 lK.out).mono ?_); (case side1 => exact y44); (case side2 => exact y34); rintro e w37 ⟨rfl, hi, hb, hk⟩; replace HK := aM (KeepBut.trans z22 hk (.inl rfl)); replace HB := aM (hb); replace HI0 := aM (hi); (try clear hb); (try clear hk); (try clear hi); (try clear dX); have p13 : 0 ≤ (cq : Int) := oD z3; have q13 : cq < (a2.size : Int) := oD z3; have hx13 := bt_at a2 cq; replace p13 := eq_true p13; replace q13 := eq_true q13) | ((with_reducible refine aN (N := 31) rfl ?_); (try (refine gate_guard (by rfl) ?_; dsimp only)); refine Kd.R_lit (Kd.int .u8) _ 5 ?hg (N := 31) ?hd (xs := ([bt a2 cq] : List Int)) (inner := [.int .u8 (bt a2 cq)]) (ok := fun _ => True) (okp := fun _ => True) ?hr ?hp (fun _ hk => hk) trivial (Below.refl _ _) (Nat.le_refl _) (by simp) ?_; (case hd => rfl); (case hg => rfl); (case hr => first | (go_simp; done) | (go_simp; rfl)); (case hp => exact (Reps.one (show Kd.M (Kd.int .u8) _ _ _ (bt a2 cq) [.int .u8 (bt a2 cq)] from rfl) (Reps.none _ _))); intro v183 w38 ho39 hb hg_ hnew_; clear hg_ hnew_; (first | rw [← Ny182.out] at ho39 | (simp only [Int.reduceToNat] at ho39; rw [← Ny182.out] at ho39)); have cC := aM (aW ho39 (keep_size (w := w) (g := g) (row := none) z22)); replace HK := aM (KeepBut.trans z22 (KeepBut.of_below hb g none) (.inl rfl)); replace HB := aM (aA z27 hb); replace HI0 := aM (IsS95.below z30 hb); clear hb ho39; have hcv40 := own_string (P := Try.prog) Try.underlying54 Try.underlying5 Try.underlying9 (Kd.own_of_R cC.out)) | (go_at_call 86; (with_reducible refine (spec_l1Cur_pick.calls g s0_0 eS eR 3 fL gL gK w0 _ ?side1 ?side2 g9.out).mono ?_); (case side1 => exact y44); (case side2 => exact y34); rintro e w41 ⟨rfl, hi, hb, hk⟩; replace cC := aM (ah (Kd.R_keep (IsS95.apart (show IsS95 w0 _ g s0_0 eS eR from by (try simp only [Int.add_zero]); repeat (first | (with_reducible first | exact HI0.out | apply IsS95.alloc | apply IsS95.drewN | apply IsS95.drew | apply IsS95.set_1 | apply IsS95.set_2) | exact HI0.out)) (kR_ cC.out) z0) hk (fun _ h => h.2)) (fun _ h => h.1)); replace HK := aM (KeepBut.trans z22 hk (.inl rfl)); replace HB := aM (hb); replace HI0 := aM (hi); (try clear hb); (try clear hk); (try clear hi); (try clear dX)))
                repeat (go_quiet (fail); try go_wp2_with (first | (go_at_call 86; (with_reducible refine (spec_l1Cur_pick.calls g s0_0 x1001_1 x1002_1 (x1_1.size : Int) cn fX fW w0 _ ?side1 ?side2 A9.out).mono ?_); (case side1 => exact y44); (case side2 => exact y34); rintro e w36 ⟨rfl, hi, hb, hk⟩; replace HK := aM (KeepBut.trans z22 hk (.inl rfl)); replace HB := aM (hb); replace HI0 := aM (hi); (try clear hb); (try clear hk); (try clear hi); (try clear dX)) | (go_at_call 86; (with_reducible refine (spec_l1Cur_pick.calls g s0_0 fX fW (a2.size : Int) cq eS eR w0 _ ?side1 ?side2 lK.out).mono ?_); (case side1 => exact y44); (case side2 => exact y34); rintro e w37 ⟨rfl, hi, hb, hk⟩; replace HK := aM (KeepBut.trans z22 hk (.inl rfl)); replace HB := aM (hb); replace HI0 := aM (hi); (try clear hb); (try clear hk); (try clear hi); (try clear dX); have p13 : 0 ≤ (cq : Int) := oD z3; have q13 : cq < (a2.size : Int) := oD z3; have hx13 := bt_at a2 cq; replace p13 := eq_true p13; replace q13 := eq_true q13) | ((with_reducible refine aN (N := 31) rfl ?_); (try (refine gate_guard (by rfl) ?_; dsimp only)); refine Kd.R_lit (Kd.int .u8) _ 5 ?hg (N := 31) ?hd (xs := ([bt a2 cq] : List Int)) (inner := [.int .u8 (bt a2 cq)]) (ok := fun _ => True) (okp := fun _ => True) ?hr ?hp (fun _ hk => hk) trivial (Below.refl _ _) (Nat.le_refl _) (by simp) ?_; (case hd => rfl); (case hg => rfl); (case hr => first | (go_simp; done) | (go_simp; rfl)); (case hp => exact (Reps.one (show Kd.M (Kd.int .u8) _ _ _ (bt a2 cq) [.int .u8 (bt a2 cq)] from rfl) (Reps.none _ _))); intro v183 w38 ho39 hb hg_ hnew_; clear hg_ hnew_; (first | rw [← Ny182.out] at ho39 | (simp only [Int.reduceToNat] at ho39; rw [← Ny182.out] at ho39)); have cC := aM (aW ho39 (keep_size (w := w) (g := g) (row := none) z22)); replace HK := aM (KeepBut.trans z22 (KeepBut.of_below hb g none) (.inl rfl)); replace HB := aM (aA z27 hb); replace HI0 := aM (IsS95.below z30 hb); clear hb ho39; have hcv40 := own_string (P := Try.prog) Try.underlying54 Try.underlying5 Try.underlying9 (Kd.own_of_R cC.out)) | (go_at_call 86; (with_reducible refine (spec_l1Cur_pick.calls g s0_0 eS eR 3 fL gL gK w0 _ ?side1 ?side2 g9.out).mono ?_); (case side1 => exact y44); (case side2 => exact y34); rintro e w41 ⟨rfl, hi, hb, hk⟩; replace cC := aM (ah (Kd.R_keep (IsS95.apart (show IsS95 w0 _ g s0_0 eS eR from by (try simp only [Int.add_zero]); repeat (first | (with_reducible first | exact HI0.out | apply IsS95.alloc | apply IsS95.drewN | apply IsS95.drew | apply IsS95.set_1 | apply IsS95.set_2) | exact HI0.out)) (kR_ cC.out) z0) hk (fun _ h => h.2)) (fun _ h => h.1)); replace HK := aM (KeepBut.trans z22 hk (.inl rfl)); replace HB := aM (hb); replace HI0 := aM (hi); (try clear hb); (try clear hk); (try clear hi); (try clear dX))))
                go_roundg kj5
                case measure => have := HK1.out; have := o4.out; omega
                case rel => exact ⟨(((x1_1.extract 0 (cn : Int).toNat) ++ (strOfNums y182)) ++ (x1_1.extract ((gP) : Int).toNat x1_1.size)), (wrap64 (x7_1 - 1)), (gL), (gK), (by first | rfl | (simp; done) | (simp only [← gR] <;> (first | rfl | (simp; done) | (simp; generalize ByteArray.toList _ = u_; cases u_ <;> (first | rfl | (simp; done))))) | (simp [*]; done)), z2, (by first | exact H' | (simp only [gR]; exact H') | (simp only [← gR]; exact H')), ⟨by have := HK1.out; have := o4.out; omega⟩, ⟨y19⟩, ⟨y14⟩, ⟨y13⟩⟩
               ·rw [if_neg lu] at H
                exact absurd H (by simp)
              ·rw [if_neg sp] at H
               exact absurd H (by simp)
             ·rw [if_neg nV] at H
              exact absurd H (by simp)
            ·rw [if_neg pl] at H
             exact absurd H (by simp)
           ·rw [if_neg sq] at H
            exact absurd H (by simp)
          ·rw [if_neg gY] at H
           exact absurd H (by simp)
         ·rw [if_neg nW] at H
          have c28b0 : (fL == 1) = false := qF nW
          have c28b1 : (fL != 1) = true := nT nW
          by_cases nU : 0 ≤ cn
          ·rw [if_pos nU] at H
           have c42b0 := eq_true nU
           have c42b1 : decide (0 ≤ cn) = true := dT nU
           clear nU
           by_cases sn : cn ≤ (x1_1.size : Int)
           ·rw [if_pos sn] at H
            have c43b0 := eq_true sn
            have c43b1 : decide (cn ≤ (x1_1.size : Int)) = true := dT sn
            clear sn
            obtain ⟨gO, gQ⟩ : ∃ j_ : Int, (wrap64 (cn + 1)) = j_ := ⟨_, rfl⟩
            replace H : (if 0 ≤ (gO) then (if (gO) ≤ (x1_1.size : Int) then (if (x1_1.extract 0 (cn : Int).toNat).size + (x1_1.extract ((gO) : Int).toNat x1_1.size).size ≤ 9223372036854775807 then (spec_l1Cur_spoilt.l0 kj5 ((x1_1.extract 0 (cn : Int).toNat) ++ (x1_1.extract ((gO) : Int).toNat x1_1.size)) a2 (wrap64 (x7_1 - 1)) s0_0 gL gK) else (none)) else (none)) else (none)) = some (r1, r2, r3) := by first | (rw [gQ] at H; exact H) | (simp only [gQ] at H ⊢; exact H)
            (try rw [gQ] at A9)
            (try rw [gQ] at lK)
            (try rw [gQ] at g9)
            have hji44w : (IntKind.i64.wrap (cn + 1)) = gO := (i64_w _).trans gQ
            by_cases rg : 0 ≤ (gO)
            ·rw [if_pos rg] at H
             have c45b0 := eq_true rg
             have c45b1 : decide (0 ≤ (gO)) = true := dT rg
             clear rg
             by_cases sl : (gO) ≤ (x1_1.size : Int)
             ·rw [if_pos sl] at H
              have c46b0 := eq_true sl
              have c46b1 : decide ((gO) ≤ (x1_1.size : Int)) = true := dT sl
              clear sl
              by_cases sk : (x1_1.extract 0 (cn : Int).toNat).size + (x1_1.extract ((gO) : Int).toNat x1_1.size).size ≤ 9223372036854775807
              ·rw [if_pos sk] at H
               have c47b0 := eq_true sk
               have c47b1 : decide ((x1_1.extract 0 (cn : Int).toNat).size + (x1_1.extract ((gO) : Int).toNat x1_1.size).size ≤ 9223372036854775807) = true := dT sk
               try have c47b2 : (9223372036854775807 < (x1_1.extract 0 (cn : Int).toNat).size + (x1_1.extract ((gO) : Int).toNat x1_1.size).size) = False := eq_false (Nat.not_lt.2 sk)
               (try (have c47x : (9223372036854775807 < (cn).toNat + (x1_1.size.toNat - (gO).toNat)) = False := eq_false (fun h_ => by have e_ := of_eq_true c47b0; simp only [a7, a6] at e_; have f0_ : x1_1.size ≤ (x1_1.size : Int) := (by first | assumption | exact of_eq_true (by assumption) | exact oD (by assumption)); have f1_ : (cn) ≤ (x1_1.size : Int) := (by first | assumption | exact of_eq_true (by assumption) | exact oD (by assumption)); omega)))
               have H' := aM H
               clear H
               go_wp2_with (first | (go_at_call 86; (with_reducible refine (spec_l1Cur_pick.calls g s0_0 x1001_1 x1002_1 (x1_1.size : Int) cn fX fW w0 _ ?side1 ?side2 A9.out).mono ?_); (case side1 => exact y44); (case side2 => exact y34); rintro e w48 ⟨rfl, hi, hb, hk⟩; replace HK := aM (KeepBut.trans z22 hk (.inl rfl)); replace HB := aM (hb); replace HI0 := aM (hi); (try clear hb); (try clear hk); (try clear hi); (try clear dX)) | (go_at_call 86; (with_reducible refine (spec_l1Cur_pick.calls g s0_0 fX fW (a2.size : Int) cq eS eR w0 _ ?side1 ?side2 lK.out).mono ?_); (case side1 => exact y44); (case side2 => exact y34); rintro e w49 ⟨rfl, hi, hb, hk⟩; replace HK := aM (KeepBut.trans z22 hk (.inl rfl)); replace HB := aM (hb); replace HI0 := aM (hi); (try clear hb); (try clear hk); (try clear hi); (try clear dX); have p13 : 0 ≤ (cq : Int) := oD z3; have q13 : cq < (a2.size : Int) := oD z3; have hx13 := bt_at a2 cq; replace p13 := eq_true p13; replace q13 := eq_true q13) | ((with_reducible refine aN (N := 31) rfl ?_); (try (refine gate_guard (by rfl) ?_; dsimp only)); refine Kd.R_lit (Kd.int .u8) _ 5 ?hg (N := 31) ?hd (xs := ([bt a2 cq] : List Int)) (inner := [.int .u8 (bt a2 cq)]) (ok := fun _ => True) (okp := fun _ => True) ?hr ?hp (fun _ hk => hk) trivial (Below.refl _ _) (Nat.le_refl _) (by simp) ?_; (case hd => rfl); (case hg => rfl); (case hr => first | (go_simp; done) | (go_simp; rfl)); (case hp => exact (Reps.one (show Kd.M (Kd.int .u8) _ _ _ (bt a2 cq) [.int .u8 (bt a2 cq)] from rfl) (Reps.none _ _))); intro v183 w50 ho51 hb hg_ hnew_; clear hg_ hnew_; (first | rw [← Ny182.out] at ho51 | (simp only [Int.reduceToNat] at ho51; rw [← Ny182.out] at ho51)); have cC := aM (aW ho51 (keep_size (w := w) (g := g) (row := none) z22)); replace HK := aM (KeepBut.trans z22 (KeepBut.of_below hb g none) (.inl rfl)); replace HB := aM (aA z27 hb); replace HI0 := aM (IsS95.below z30 hb); clear hb ho51; have hcv52 := own_string (P := Try.prog) Try.underlying54 Try.underlying5 Try.underlying9 (Kd.own_of_R cC.out)) | (go_at_call 86; (with_reducible refine (spec_l1Cur_pick.calls g s0_0 eS eR 3 fL gL gK w0 _ ?side1 ?side2 g9.out).mono ?_); (case side1 => exact y44); (case side2 => exact y34); rintro e w53 ⟨rfl, hi, hb, hk⟩; replace cC := aM (ah (Kd.R_keep (IsS95.apart (show IsS95 w0 _ g s0_0 eS eR from by (try simp only [Int.add_zero]); repeat (first | (with_reducible first | exact HI0.out | apply IsS95.alloc | apply IsS95.drewN | apply IsS95.drew | apply IsS95.set_1 | apply IsS95.set_2) | exact HI0.out)) (kR_ cC.out) z0) hk (fun _ h => h.2)) (fun _ h => h.1)); replace HK := aM (KeepBut.trans z22 hk (.inl rfl)); replace HB := aM (hb); replace HI0 := aM (hi); (try clear hb); (try clear hk); (try clear hi); (try clear dX)))
               repeat (go_quiet (fail); try go_wp2_with (first | (go_at_call 86; (with_reducible refine (spec_l1Cur_pick.calls g s0_0 x1001_1 x1002_1 (x1_1.size : Int) cn fX fW w0 _ ?side1 ?side2 A9.out).mono ?_); (case side1 => exact y44); (case side2 => exact y34); rintro e w48 ⟨rfl, hi, hb, hk⟩; replace HK := aM (KeepBut.trans z22 hk (.inl rfl)); replace HB := aM (hb); replace HI0 := aM (hi); (try clear hb); (try clear hk); (try clear hi); (try clear dX)) | (go_at_call 86; (with_reducible refine (spec_l1Cur_pick.calls g s0_0 fX fW (a2.size : Int) cq eS eR w0 _ ?side1 ?side2 lK.out).mono ?_); (case side1 => exact y44); (case side2 => exact y34); rintro e w49 ⟨rfl, hi, hb, hk⟩; replace HK := aM (KeepBut.trans z22 hk (.inl rfl)); replace HB := aM (hb); replace HI0 := aM (hi); (try clear hb); (try clear hk); (try clear hi); (try clear dX); have p13 : 0 ≤ (cq : Int) := oD z3; have q13 : cq < (a2.size : Int) := oD z3; have hx13 := bt_at a2 cq; replace p13 := eq_true p13; replace q13 := eq_true q13) | ((with_reducible refine aN (N := 31) rfl ?_); (try (refine gate_guard (by rfl) ?_; dsimp only)); refine Kd.R_lit (Kd.int .u8) _ 5 ?hg (N := 31) ?hd (xs := ([bt a2 cq] : List Int)) (inner := [.int .u8 (bt a2 cq)]) (ok := fun _ => True) (okp := fun _ => True) ?hr ?hp (fun _ hk => hk) trivial (Below.refl _ _) (Nat.le_refl _) (by simp) ?_; (case hd => rfl); (case hg => rfl); (case hr => first | (go_simp; done) | (go_simp; rfl)); (case hp => exact (Reps.one (show Kd.M (Kd.int .u8) _ _ _ (bt a2 cq) [.int .u8 (bt a2 cq)] from rfl) (Reps.none _ _))); intro v183 w50 ho51 hb hg_ hnew_; clear hg_ hnew_; (first | rw [← Ny182.out] at ho51 | (simp only [Int.reduceToNat] at ho51; rw [← Ny182.out] at ho51)); have cC := aM (aW ho51 (keep_size (w := w) (g := g) (row := none) z22)); replace HK := aM (KeepBut.trans z22 (KeepBut.of_below hb g none) (.inl rfl)); replace HB := aM (aA z27 hb); replace HI0 := aM (IsS95.below z30 hb); clear hb ho51; have hcv52 := own_string (P := Try.prog) Try.underlying54 Try.underlying5 Try.underlying9 (Kd.own_of_R cC.out)) | (go_at_call 86; (with_reducible refine (spec_l1Cur_pick.calls g s0_0 eS eR 3 fL gL gK w0 _ ?side1 ?side2 g9.out).mono ?_); (case side1 => exact y44); (case side2 => exact y34); rintro e w53 ⟨rfl, hi, hb, hk⟩; replace cC := aM (ah (Kd.R_keep (IsS95.apart (show IsS95 w0 _ g s0_0 eS eR from by (try simp only [Int.add_zero]); repeat (first | (with_reducible first | exact HI0.out | apply IsS95.alloc | apply IsS95.drewN | apply IsS95.drew | apply IsS95.set_1 | apply IsS95.set_2) | exact HI0.out)) (kR_ cC.out) z0) hk (fun _ h => h.2)) (fun _ h => h.1)); replace HK := aM (KeepBut.trans z22 hk (.inl rfl)); replace HB := aM (hb); replace HI0 := aM (hi); (try clear hb); (try clear hk); (try clear hi); (try clear dX))))
               go_roundg kj5
               case measure => have := HK1.out; have := o4.out; omega
               case rel => exact ⟨((x1_1.extract 0 (cn : Int).toNat) ++ (x1_1.extract ((gO) : Int).toNat x1_1.size)), (wrap64 (x7_1 - 1)), (gL), (gK), (by first | rfl | (simp; done) | (simp only [← gQ] <;> (first | rfl | (simp; done) | (simp; generalize ByteArray.toList _ = u_; cases u_ <;> (first | rfl | (simp; done))))) | (simp [*]; done)), z2, (by first | exact H' | (simp only [gQ]; exact H') | (simp only [← gQ]; exact H')), ⟨by have := HK1.out; have := o4.out; omega⟩, ⟨y19⟩, ⟨y14⟩, ⟨y13⟩⟩
              ·rw [if_neg sk] at H
               exact absurd H (by simp)
             ·rw [if_neg sl] at H
              exact absurd H (by simp)
            ·rw [if_neg rg] at H
             exact absurd H (by simp)
           ·rw [if_neg sn] at H
            exact absurd H (by simp)
          ·rw [if_neg nU] at H
           exact absurd H (by simp)
       ·rw [if_neg eZ] at H
        exact absurd H (by simp)
      ·rw [if_neg e9] at H
       exact absurd H (by simp)
     ·replace c8 := Bool.eq_false_iff.mpr c8
      subst c8
      rw [if_neg nF_] at H
      simp only [Option.some.injEq, Prod.mk.injEq] at H
      obtain ⟨rfl, rfl, rfl⟩ := H
      go_wp2
      repeat (go_quiet (fail); try go_wp2)
      go_ret
      exact ⟨y4, y19, y13, y14⟩

/-! ### spec_l1Cur_doc: function 72 -/
def spec_l1Cur_doc.j0 : Nat → ByteArray → List Int → Int → Int → Option (ByteArray × Int × Int)
 | 0, _, _, _, _ => none
 | k + 1, x3, x1000, x1001, x1002 => (spec_l1Cur_one.f x1000 x1001 x1002 12).bind fun lB => (if lB.1 = true then ((spec_l1Cur_spoilt.f k x1000 lB.2.1 lB.2.2 x3 (⟨#[65, 47, 97, 90]⟩ : ByteArray)).bind fun oY => (some (oY.1, oY.2.1, oY.2.2))) else (some (x3, lB.2.1, lB.2.2)))
def spec_l1Cur_doc.f (k : Nat) (s0_0 : List Int) (s0_1 : Int) (s0_2 : Int) : Option (ByteArray × Int × Int) := (spec_l1Cur_pick.f s0_0 s0_1 s0_2 7).bind fun jp => ((spec_l1Cur_inner.f k s0_0 jp.2.1 jp.2.2 jp.1 3).bind fun jo => ((spec_l1Cur_pick.f s0_0 jo.2.1 jo.2.2 30).bind fun eX => (if eX.1 = 0 then ((spec_l1Cur_inner.f k s0_0 eX.2.1 eX.2.2 60 3).bind fun jn => (spec_l1Cur_doc.j0 k jn.1 s0_0 jn.2.1 jn.2.2)) else (if eX.1 = 1 then ((spec_l1Cur_of.f s0_0 eX.2.1 eX.2.2 (([(⟨#[65, 65, 65, 65, 65, 65, 65, 65, 65, 65, 65, 65, 47, 47, 47, 47, 47, 47, 47, 47, 47, 47, 47, 47]⟩ : ByteArray), (⟨#[65, 65, 65, 65, 65, 65, 65, 65, 65, 65, 65, 65, 65, 47, 47, 47, 47, 47, 47, 47, 47, 47, 47, 47, 47, 47]⟩ : ByteArray)] : List ByteArray))).bind fun gn => (spec_l1Cur_doc.j0 k gn.1 s0_0 gn.2.1 gn.2.2)) else (spec_l1Cur_doc.j0 k jo.1 s0_0 eX.2.1 eX.2.2)))))
theorem spec_l1Cur_doc.mono_l : ∀ k, (∀ y0 y1 y2 y3, LeO (spec_l1Cur_doc.j0 k y0 y1 y2 y3) (spec_l1Cur_doc.j0 (k + 1) y0 y1 y2 y3))
 | 0 => fun _ _ _ _ r h => by simp [spec_l1Cur_doc.j0] at h
 | k + 1 => by
  have ih0 := spec_l1Cur_doc.mono_l k
  ·intro y0 y1 y2 y3
   unfold spec_l1Cur_doc.j0
   repeat' first
   | (with_reducible exact ih0 _ _ _ _)
   | (with_reducible exact spec_l1Cur_inner.mono _ _ _ _ _ _)
   | (with_reducible exact spec_l1Cur_spoilt.mono _ _ _ _ _ _)
   | (with_reducible exact LeO.refl _)
   | (with_reducible exact LeO.none _)
   | (with_reducible refine LeO.ite ?_ ?_)
   | (with_reducible refine LeO.bind ?_ (fun _ => ?_))
theorem spec_l1Cur_doc.mono : ∀ a0 a1 a2 k, LeO (spec_l1Cur_doc.f k a0 a1 a2) (spec_l1Cur_doc.f (k + 1) a0 a1 a2) := by
 intro a0 a1 a2 k
 have ih0 := spec_l1Cur_doc.mono_l k
 unfold spec_l1Cur_doc.f
 repeat' first
   | (with_reducible exact ih0 _ _ _ _)
   | (with_reducible exact spec_l1Cur_inner.mono _ _ _ _ _ _)
   | (with_reducible exact spec_l1Cur_spoilt.mono _ _ _ _ _ _)
   | (with_reducible exact LeO.refl _)
   | (with_reducible exact LeO.none _)
   | (with_reducible refine LeO.ite ?_ ?_)
   | (with_reducible refine LeO.bind ?_ (fun _ => ?_))
set_option maxHeartbeats 8000000 in
set_option maxRecDepth 100000 in
theorem spec_l1Cur_doc.calls (k : Nat) (g : Nat) (s0_0 : List Int) (s0_1 : Int) (s0_2 : Int) (r1 : ByteArray) (r2 : Int) (r3 : Int) (w0 w : World) (hI : IsS95 w0 w g s0_0 s0_1 s0_2) (hB : Below w0.heap.size w0 w) (h : spec_l1Cur_doc.f k s0_0 s0_1 s0_2 = some (r1, r2, r3)) :
  Calls Try.prog 72 #[.pointer (some ⟨g, 0, none⟩)] w fun e w' => e = .returned (.string r1) ∧ IsS95 w0 w' g s0_0 r2 r3 ∧ Below w0.heap.size w0 w' ∧ KeepBut w w' g none := by
 have HI0 := aM hI
 have HK := aM (KeepBut.refl w g none)
 have HL := aM hB.size
 clear hI
 have HW0 := aM hB.size
 have HB := aM hB
 clear hB
 have H : ((spec_l1Cur_pick.f s0_0 s0_1 s0_2 7).bind fun jp => ((spec_l1Cur_inner.f k s0_0 jp.2.1 jp.2.2 jp.1 3).bind fun jo => ((spec_l1Cur_pick.f s0_0 jo.2.1 jo.2.2 30).bind fun eX => (if eX.1 = 0 then ((spec_l1Cur_inner.f k s0_0 eX.2.1 eX.2.2 60 3).bind fun jn => (spec_l1Cur_doc.j0 k jn.1 s0_0 jn.2.1 jn.2.2)) else (if eX.1 = 1 then ((spec_l1Cur_of.f s0_0 eX.2.1 eX.2.2 (([(⟨#[65, 65, 65, 65, 65, 65, 65, 65, 65, 65, 65, 65, 47, 47, 47, 47, 47, 47, 47, 47, 47, 47, 47, 47]⟩ : ByteArray), (⟨#[65, 65, 65, 65, 65, 65, 65, 65, 65, 65, 65, 65, 65, 47, 47, 47, 47, 47, 47, 47, 47, 47, 47, 47, 47, 47]⟩ : ByteArray)] : List ByteArray))).bind fun gn => (spec_l1Cur_doc.j0 k gn.1 s0_0 gn.2.1 gn.2.2)) else (spec_l1Cur_doc.j0 k jo.1 s0_0 eX.2.1 eX.2.2)))))) = some (r1, r2, r3) := h
 clear h
 obtain ⟨⟨qU, r4, r0⟩, A2, H⟩ := oA_ H
 try dsimp only at H
 obtain ⟨⟨rZ, rY, rX⟩, A3, H⟩ := oA_ H
 try dsimp only at H
 obtain ⟨⟨iO, nP, nO⟩, A4, H⟩ := oA_ H
 try dsimp only at H
 have g6 := aM H
 clear H
 go_enter Try.func72, Try.ntmps72
 go_upto_block 0 with (first | ((with_reducible refine aK (f := 86) rfl ?_); refine aT (some 6) rfl rfl Try.func86 z1 rfl #[.pointer (some ⟨g, 0, none⟩), .int .i64 7] rfl z21 ?_; (with_reducible refine (spec_l1Cur_pick.calls g s0_0 s0_1 s0_2 7 qU r4 r0 w0 _ ?side1 ?side2 A2.out).mono ?_); (case side1 => exact y44); (case side2 => exact y34); rintro e w6 ⟨rfl, hi, hb, hk⟩; refine ⟨_, rfl, ?_⟩; replace HK := aM (KeepBut.trans z22 hk (.inl rfl)); replace HB := aM (hb); replace HI0 := aM (hi); (try clear hb); (try clear hk); (try clear hi); (try clear dX)) | ((with_reducible refine aK (f := 85) rfl ?_); refine aT (some 7) rfl rfl Try.func85 z1 rfl #[.pointer (some ⟨g, 0, none⟩), .int .i64 qU, .int .i64 3] rfl z21 ?_; (with_reducible refine (spec_l1Cur_inner.calls k g s0_0 r4 r0 qU 3 rZ rY rX w0 _ ?side1 ?side2 A3.out).mono ?_); (case side1 => exact y44); (case side2 => exact y34); rintro e w7 ⟨rfl, hi, hb, hk⟩; refine ⟨_, rfl, ?_⟩; replace HK := aM (KeepBut.trans z22 hk (.inl rfl)); replace HB := aM (hb); replace HI0 := aM (hi); (try clear hb); (try clear hk); (try clear hi); (try clear dX)) | ((with_reducible refine aK (f := 86) rfl ?_); refine aT (some 9) rfl rfl Try.func86 z1 rfl #[.pointer (some ⟨g, 0, none⟩), .int .i64 30] rfl z21 ?_; (with_reducible refine (spec_l1Cur_pick.calls g s0_0 rY rX 30 iO nP nO w0 _ ?side1 ?side2 A4.out).mono ?_); (case side1 => exact y44); (case side2 => exact y34); rintro e w8 ⟨rfl, hi, hb, hk⟩; refine ⟨_, rfl, ?_⟩; replace HK := aM (KeepBut.trans z22 hk (.inl rfl)); replace HB := aM (hb); replace HI0 := aM (hi); (try clear hb); (try clear hk); (try clear hi); (try clear dX)))
 (try simp only [Act.put, sA, sB, sC])
 go_cut [3] (fun v3 wc => ∃ (kq : Nat) (x3_4 : ByteArray) (x1001_4 : Int) (x1002_4 : Int), v3 = .string x3_4 ∧ Aside0 (spec_l1Cur_doc.j0 kq x3_4 s0_0 x1001_4 x1002_4 = some (r1, r2, r3)) ∧ Aside0 (kq ≤ k) ∧ Aside0 (IsS95 w0 wc g s0_0 x1001_4 x1002_4) ∧ Aside0 (KeepBut w wc g none) ∧ Aside0 (Below w0.heap.size w0 wc))
 case first =>
  have H := g6.out
  clear g6
  by_cases c9 : iO = 0
  ·rw [if_pos c9] at H
   have c9b0 : (iO == 0) = true := qT c9
   have c9b1 : (iO != 0) = false := nF c9
   clear c9
   (first | rw [c9b0] | (simp only [i64_w, i32_w]; rw [c9b0]) | skip)
   obtain ⟨⟨rW, pC, rV⟩, lK, H⟩ := oA_ H
   try dsimp only at H
   have H' := aM H
   clear H
   go_wp2_with (first | ((with_reducible refine aK (f := 85) rfl ?_); refine aT (some 13) rfl rfl Try.func85 z1 rfl #[.pointer (some ⟨g, 0, none⟩), .int .i64 60, .int .i64 3] rfl z21 ?_; (with_reducible refine (spec_l1Cur_inner.calls k g s0_0 nP nO 60 3 rW pC rV w0 _ ?side1 ?side2 lK.out).mono ?_); (case side1 => exact y44); (case side2 => exact y34); rintro e w11 ⟨rfl, hi, hb, hk⟩; refine ⟨_, rfl, ?_⟩; replace HK := aM (KeepBut.trans z22 hk (.inl rfl)); replace HB := aM (hb); replace HI0 := aM (hi); (try clear hb); (try clear hk); (try clear hi); (try clear dX)))
   go_meet
   case rel => exact ⟨_, (rW), (pC), (rV), z2, H', ⟨by first | omega | exact Nat.le_refl _⟩, ⟨y19⟩, ⟨y14⟩, ⟨y13⟩⟩
  ·rw [if_neg c9] at H
   have c9b0 : (iO == 0) = false := qF c9
   have c9b1 : (iO != 0) = true := nT c9
   (first | rw [c9b0] | (simp only [i64_w, i32_w]; rw [c9b0]) | skip)
   by_cases eZ : iO = 1
   ·rw [if_pos eZ] at H
    have c12b0 : (iO == 1) = true := qT eZ
    have c12b1 : (iO != 1) = false := nF eZ
    clear eZ
    obtain ⟨y200, hy200⟩ : ∃ y_ : List ByteArray, y_ = (([(⟨#[65, 65, 65, 65, 65, 65, 65, 65, 65, 65, 65, 65, 47, 47, 47, 47, 47, 47, 47, 47, 47, 47, 47, 47]⟩ : ByteArray), (⟨#[65, 65, 65, 65, 65, 65, 65, 65, 65, 65, 65, 65, 65, 47, 47, 47, 47, 47, 47, 47, 47, 47, 47, 47, 47, 47]⟩ : ByteArray)] : List ByteArray)) := ⟨_, rfl⟩
    replace H : ((spec_l1Cur_of.f s0_0 nP nO y200).bind fun gn => (spec_l1Cur_doc.j0 k gn.1 s0_0 gn.2.1 gn.2.2)) = some (r1, r2, r3) := by first | (rw [hy200]; with_reducible exact H) | (have H2_ := (Option.bind_some _ _).symm.trans H; rw [hy200]; with_reducible exact H2_) | (have H2_ := (Option.bind_some _ _).symm.trans H; with_reducible exact H2_) | with_reducible exact H | (rw [hy200]; exact H) | exact H
    have Ny200 := aM hy200
    clear hy200
    obtain ⟨⟨rU, pz, rT⟩, tf, H⟩ := oA_ H
    try dsimp only at H
    have H' := aM H
    clear H
    go_wp2_with (first | ((with_reducible refine aN (N := 17) rfl ?_); refine Kd.R_lit Kd.string _ 9 ?hg (N := 17) ?hd (xs := ([(⟨#[65, 65, 65, 65, 65, 65, 65, 65, 65, 65, 65, 65, 47, 47, 47, 47, 47, 47, 47, 47, 47, 47, 47, 47]⟩ : ByteArray), (⟨#[65, 65, 65, 65, 65, 65, 65, 65, 65, 65, 65, 65, 65, 47, 47, 47, 47, 47, 47, 47, 47, 47, 47, 47, 47, 47]⟩ : ByteArray)] : List ByteArray)) (inner := [.string (⟨#[65, 65, 65, 65, 65, 65, 65, 65, 65, 65, 65, 65, 47, 47, 47, 47, 47, 47, 47, 47, 47, 47, 47, 47]⟩ : ByteArray), .string (⟨#[65, 65, 65, 65, 65, 65, 65, 65, 65, 65, 65, 65, 65, 47, 47, 47, 47, 47, 47, 47, 47, 47, 47, 47, 47, 47]⟩ : ByteArray)]) (ok := fun _ => True) (okp := fun _ => True) ?hr ?hp (fun _ hk => hk) trivial (Below.refl _ _) (Nat.le_refl _) (by simp) ?_; (case hd => rfl); (case hg => rfl); (case hr => first | (go_simp; done) | (go_simp; rfl)); (case hp => exact (Reps.one (show Kd.M Kd.string _ _ _ (⟨#[65, 65, 65, 65, 65, 65, 65, 65, 65, 65, 65, 65, 47, 47, 47, 47, 47, 47, 47, 47, 47, 47, 47, 47]⟩ : ByteArray) [.string (⟨#[65, 65, 65, 65, 65, 65, 65, 65, 65, 65, 65, 65, 47, 47, 47, 47, 47, 47, 47, 47, 47, 47, 47, 47]⟩ : ByteArray)] from rfl) (Reps.one (show Kd.M Kd.string _ _ _ (⟨#[65, 65, 65, 65, 65, 65, 65, 65, 65, 65, 65, 65, 65, 47, 47, 47, 47, 47, 47, 47, 47, 47, 47, 47, 47, 47]⟩ : ByteArray) [.string (⟨#[65, 65, 65, 65, 65, 65, 65, 65, 65, 65, 65, 65, 65, 47, 47, 47, 47, 47, 47, 47, 47, 47, 47, 47, 47, 47]⟩ : ByteArray)] from rfl) (Reps.none _ _)))); intro v201 w14 ho15 hb hg_ hnew_; clear hg_ hnew_; (first | rw [← Ny200.out] at ho15 | (simp only [Int.reduceToNat] at ho15; rw [← Ny200.out] at ho15)); have ju := aM (aW ho15 (keep_size (w := w) (g := g) (row := none) z22)); replace HK := aM (KeepBut.trans z22 (KeepBut.of_below hb g none) (.inl rfl)); replace HB := aM (aA z27 hb); replace HI0 := aM (IsS95.below z30 hb); clear hb ho15; obtain ⟨Ao16, co16, eo16⟩ := Kd.R_slice ju.out; subst eo16) | ((with_reducible refine aK (f := 87) rfl ?_); refine aT (some 18) rfl rfl Try.func87 z1 rfl #[.pointer (some ⟨g, 0, none⟩), .slice Ao16 y200.length co16] rfl z21 ?_; (with_reducible refine (spec_l1Cur_of.calls g s0_0 nP nO _ _ y200 rU pz rT w0 _ ?side1 ?side2 ?side3 ?side4 ?side5 tf.out).mono ?_); (case side1 => exact y44); (case side2 => exact y34); (case side3 => repeat (first | exact (ai ju.out).2.2 | (with_reducible refine aH ?_ _) | (with_reducible refine aI ?_ _) | (with_reducible refine aJ ?_))); (case side4 => exact (ai ju.out).2.1); (case side5 => exact far_slice (IsS95.own_ne HI0.out ju.out z0)); rintro e w17 ⟨rfl, hi, hb, hk⟩; refine ⟨_, rfl, ?_⟩; replace ju := aM (ah (Kd.R_keep (IsS95.apart (show IsS95 w0 _ g s0_0 nP nO from by (try simp only [Int.add_zero]); repeat (first | (with_reducible first | exact HI0.out | apply IsS95.alloc | apply IsS95.drewN | apply IsS95.drew | apply IsS95.set_1 | apply IsS95.set_2) | exact HI0.out)) (kR_ ju.out) z0) hk (fun _ h => h.2)) (fun _ h => h.1)); replace HK := aM (KeepBut.trans z22 hk (.inl rfl)); replace HB := aM (hb); replace HI0 := aM (hi); (try clear hb); (try clear hk); (try clear hi); (try clear dX)))
    go_meet
    case rel => exact ⟨_, (rU), (pz), (rT), z2, H', ⟨by first | omega | exact Nat.le_refl _⟩, ⟨y19⟩, ⟨y14⟩, ⟨y13⟩⟩
   ·rw [if_neg eZ] at H
    have c12b0 : (iO == 1) = false := qF eZ
    have c12b1 : (iO != 1) = true := nT eZ
    have H' := aM H
    clear H
    go_wp2
    go_meet
    case rel => exact ⟨_, (rZ), (nP), (nO), z2, H', ⟨by first | omega | exact Nat.le_refl _⟩, ⟨y19⟩, ⟨y14⟩, ⟨y13⟩⟩
 case rest =>
  clear g6
  obtain ⟨kq, x3_4, x1001_4, x1002_4, rfl, HA, gJ, HI0, HK, HB⟩ := hcut
  cases kq with
  | zero => exact absurd HA.out (by simp [spec_l1Cur_doc.j0])
  | succ kj4 =>
   have H := HA.out
   clear HA
   simp only [spec_l1Cur_doc.j0] at H
   obtain ⟨⟨t206, lO, qS⟩, sT, H⟩ := oA_ H
   try dsimp only at H
   by_cases pm : t206 = true
   ·subst pm
    rw [if_pos rfl] at H
    obtain ⟨⟨t209, px, t211⟩, jC, H⟩ := oA_ H
    try dsimp only at H
    simp only [Option.some.injEq, Prod.mk.injEq] at H
    obtain ⟨rfl, rfl, rfl⟩ := H
    go_wp2_with (first | ((with_reducible refine aK (f := 88) rfl ?_); refine aT (some 20) rfl rfl Try.func88 z1 rfl #[.pointer (some ⟨g, 0, none⟩), .int .i64 12] rfl z21 ?_; (with_reducible refine (spec_l1Cur_one.calls g s0_0 x1001_4 x1002_4 12 true lO qS w0 _ ?side1 ?side2 sT.out).mono ?_); (case side1 => exact y44); (case side2 => exact y34); rintro e w21 ⟨rfl, hi, hb, hk⟩; refine ⟨_, rfl, ?_⟩; replace HK := aM (KeepBut.trans z22 hk (.inl rfl)); replace HB := aM (hb); replace HI0 := aM (hi); (try clear hb); (try clear hk); (try clear hi); (try clear dX)) | ((with_reducible refine aK (f := 89) rfl ?_); refine aT (some 23) rfl rfl Try.func89 z1 rfl #[.pointer (some ⟨g, 0, none⟩), .string x3_4, .string (⟨#[65, 47, 97, 90]⟩ : ByteArray)] rfl z21 ?_; (with_reducible refine (spec_l1Cur_spoilt.calls kj4 g s0_0 lO qS x3_4 (⟨#[65, 47, 97, 90]⟩ : ByteArray) t209 px t211 w0 _ ?side1 ?side2 jC.out).mono ?_); (case side1 => exact y44); (case side2 => exact y34); rintro e w22 ⟨rfl, hi, hb, hk⟩; refine ⟨_, rfl, ?_⟩; replace HK := aM (KeepBut.trans z22 hk (.inl rfl)); replace HB := aM (hb); replace HI0 := aM (hi); (try clear hb); (try clear hk); (try clear hi); (try clear dX)))
    go_ret
    exact ⟨y4, y19, y13, y14⟩
   ·replace pm := Bool.eq_false_iff.mpr pm
    subst pm
    rw [if_neg nF_] at H
    simp only [Option.some.injEq, Prod.mk.injEq] at H
    obtain ⟨rfl, rfl, rfl⟩ := H
    go_wp2_with (first | ((with_reducible refine aK (f := 88) rfl ?_); refine aT (some 20) rfl rfl Try.func88 z1 rfl #[.pointer (some ⟨g, 0, none⟩), .int .i64 12] rfl z21 ?_; (with_reducible refine (spec_l1Cur_one.calls g s0_0 x1001_4 x1002_4 12 false lO qS w0 _ ?side1 ?side2 sT.out).mono ?_); (case side1 => exact y44); (case side2 => exact y34); rintro e w23 ⟨rfl, hi, hb, hk⟩; refine ⟨_, rfl, ?_⟩; replace HK := aM (KeepBut.trans z22 hk (.inl rfl)); replace HB := aM (hb); replace HI0 := aM (hi); (try clear hb); (try clear hk); (try clear hi); (try clear dX)))
    go_ret
    exact ⟨y4, y19, y13, y14⟩

/-! ### spec_DrawRopeOf: function 40 -/
def spec_DrawRopeOf.f (k : Nat) (l0 : List Int) : Option (ByteArray) := (spec_l1Cur_doc.f k l0 0 0).bind fun oX => (some oX.1)
theorem spec_DrawRopeOf.mono : ∀ a0 k, LeO (spec_DrawRopeOf.f k a0) (spec_DrawRopeOf.f (k + 1) a0) := by
 intro a0 k
 unfold spec_DrawRopeOf.f
 repeat' first
   | (with_reducible exact spec_l1Cur_doc.mono _ _ _ _)
   | (with_reducible exact LeO.refl _)
   | (with_reducible exact LeO.none _)
   | (with_reducible refine LeO.ite ?_ ?_)
   | (with_reducible refine LeO.bind ?_ (fun _ => ?_))
set_option maxHeartbeats 8000000 in
set_option maxRecDepth 100000 in
theorem spec_DrawRopeOf.calls (k : Nat) (A0 : Option Addr) (c0 : Nat) (l0 : List Int) (r : ByteArray) (w : World) (hr0 : Kd.C (Kd.int .u8) w A0 l0.length l0) (hc0 : l0.length ≤ c0) (h : spec_DrawRopeOf.f k l0 = some r) :
  Calls Try.prog 40 #[.slice A0 l0.length c0] w fun e w' => e = .returned (.string r) ∧ Below w.heap.size w w' := by
 have hu95 := Try.underlying95
 have em := aM hr0
 have eV := aM hc0
 clear hr0 hc0
 have HB := aM (Below.refl w.heap.size w)
 have H : ((spec_l1Cur_doc.f k l0 0 0).bind fun oX => (some oX.1)) = some r := h
 clear h
 obtain ⟨⟨pv, t214, t215⟩, A2, H⟩ := oA_ H
 try dsimp only at H
 obtain rfl := sI H
 go_enter Try.func40, Try.ntmps40
 go_wp2_with (first | ((with_reducible refine aN (N := 6) rfl ?_); refine aQ ?hg (N := 6) ?hd (cs := #[.slice A0 l0.length c0, .int .i64 0, .int .u64 0]) (t := 95) ?hr ?_; (case hd => rfl); (case hg => rfl); (case hr => first | (go_simp; done) | (go_simp; rfl)); intro ny hg w3 hbox hb; have qo := aM (hbox); have GW212 := aM ((by rw [hg]; exact (aC z20) : w.heap.size ≤ ny)); have GE212 := aM ((by rw [hg]; exact (aC z20) : w.heap.size ≤ ny)); replace HB := aM (aA z20 hb); clear hb hbox hg) | ((with_reducible refine aK (f := 72) rfl ?_); refine aT (some 8) rfl rfl Try.func72 z1 rfl #[.pointer (some ⟨ny, 0, none⟩)] rfl z21 ?_; (with_reducible refine (spec_l1Cur_doc.calls k ny l0 0 0 pv t214 t215 w _ ?side1 ?side2 A2.out).mono ?_); (case side1 => exact ⟨_, _, by (with_reducible repeat (first | refine au ?_ _ | refine ar ?_ | refine av ?_ _)); exact qo.out, GE212.out, em.out⟩); (case side2 => repeat (first | (with_reducible first | exact HB.out | apply bA | apply pD | apply bD | refine az ?_ (IsS95.ge HI212.out)) | exact HB.out)); rintro e w4 ⟨rfl, hi, hb, hk⟩; refine ⟨_, rfl, ?_⟩; replace HB := aM (hb); have HI212 := aM (hi); (try clear hb); (try clear hk); (try clear hi); (try clear qo)))
 go_ret
 exact ⟨y4, by repeat (first | (with_reducible first | exact HB.out | apply bA | apply pD | apply bD | refine az ?_ (IsS95.ge HI212.out)) | exact HB.out)⟩

/-! ### laws_numberOf: function 41 -/
def laws_numberOf.l0 : Nat → Int → List Int → Int → Int → Option (Int)
 | 0, _, _, _, _ => none
 | k + 1, x3, x6, x7, x8 => if x8 < x7 then (if 0 ≤ x8 then (if x8 < (x6.length : Int) then (laws_numberOf.l0 k (Int.tmod (wrap64 ((wrap64 (31 * x3)) + (wrap64 (rd x6 x8)))) 1000003) x6 x7 (wrap64 (x8 + 1))) else (none)) else (none)) else (some x3)
def laws_numberOf.f (k : Nat) (l0 : List Int) : Option (Int) := laws_numberOf.l0 k 0 l0 (l0.length : Int) 0
theorem laws_numberOf.mono_l : ∀ k, (∀ y0 y1 y2 y3, LeO (laws_numberOf.l0 k y0 y1 y2 y3) (laws_numberOf.l0 (k + 1) y0 y1 y2 y3))
 | 0 => fun _ _ _ _ r h => by simp [laws_numberOf.l0] at h
 | k + 1 => by
  have ih0 := laws_numberOf.mono_l k
  ·intro y0 y1 y2 y3
   unfold laws_numberOf.l0
   repeat' first
   | (with_reducible exact ih0 _ _ _ _)
   | (with_reducible exact LeO.refl _)
   | (with_reducible exact LeO.none _)
   | (with_reducible refine LeO.ite ?_ ?_)
   | (with_reducible refine LeO.bind ?_ (fun _ => ?_))
theorem laws_numberOf.mono : ∀ a0 k, LeO (laws_numberOf.f k a0) (laws_numberOf.f (k + 1) a0) := by
 intro a0 k
 have ih0 := laws_numberOf.mono_l k
 unfold laws_numberOf.f
 repeat' first
   | (with_reducible exact ih0 _ _ _ _)
   | (with_reducible exact LeO.refl _)
   | (with_reducible exact LeO.none _)
   | (with_reducible refine LeO.ite ?_ ?_)
   | (with_reducible refine LeO.bind ?_ (fun _ => ?_))
set_option maxHeartbeats 8000000 in
set_option maxRecDepth 100000 in
theorem laws_numberOf.calls (k : Nat) (A0 : Option Addr) (c0 : Nat) (l0 : List Int) (r : Int) (w : World) (hr0 : Kd.C (Kd.int .u8) w A0 l0.length l0) (hc0 : l0.length ≤ c0) (h : laws_numberOf.f k l0 = some r) :
  Calls Try.prog 41 #[.slice A0 l0.length c0] w fun e w' => e = .returned (.int .i64 r) ∧ Drawn0 w w' := by
 have em := aM hr0
 have eV := aM hc0
 clear hr0 hc0
 have H : (laws_numberOf.l0 k 0 l0 (l0.length : Int) 0) = some r := h
 clear h
 have H' := aM H
 clear H
 go_enter Try.func41, Try.ntmps41
 go_wp2
 go_loopg [3, 8] k (fun kq v3 v8 w' => ∃ (x3_1 : Int) (x8_1 : Int), v3 = .int .i64 x3_1 ∧ v8 = .int .i64 x8_1 ∧ Aside0 (laws_numberOf.l0 kq x3_1 l0 (l0.length : Int) x8_1 = some r) ∧ Aside0 (kq ≤ k) ∧ Drawn0 w w')
 case atStart => exact ⟨(0), (0), z2, z2, H', ⟨Nat.le_refl _⟩, y3⟩
 case round =>
  clear H'
  obtain ⟨x3_1, x8_1, rfl, rfl, HA, HK1, ⟨m1, rfl⟩⟩ := hrel
  cases gk with
  | zero => exact absurd HA.out (by simp [laws_numberOf.l0])
  | succ k1 =>
   have H := HA.out
   clear HA
   simp only [laws_numberOf.l0] at H
   by_cases c2 : x8_1 < (l0.length : Int)
   ·rw [if_pos c2] at H
    have c2b0 : decide (x8_1 < (l0.length : Int)) = true := dT c2
    clear c2
    by_cases c3 : 0 ≤ x8_1
    ·rw [if_pos c3] at H
     have c3b0 : decide (0 ≤ x8_1) = true := dT c3
     clear c3
     by_cases c4 : x8_1 < (l0.length : Int)
     ·rw [if_pos c4] at H
      have c4b0 : decide (x8_1 < (l0.length : Int)) = true := dT c4
      clear c4
      have H' := aM H
      clear H
      have p216 : 0 ≤ (x8_1 : Int) := oD z3
      have q216 : x8_1 < (l0.length : Int) := oD z3
      obtain ⟨ad216, e216, hx216_0⟩ := Kd.at_int em.out x8_1 p216 q216
      cases e216
      replace p216 := eq_true p216
      replace q216 := eq_true q216
      go_wp2
      go_roundg k1
      case measure => have := HK1.out; omega
      case rel => exact ⟨(Int.tmod (wrap64 ((wrap64 (31 * x3_1)) + (wrap64 (rd l0 x8_1)))) 1000003), (wrap64 (x8_1 + 1)), z2, z2, H', ⟨y0⟩, y3⟩
     ·rw [if_neg c4] at H
      exact absurd H (by simp)
    ·rw [if_neg c3] at H
     exact absurd H (by simp)
   ·rw [if_neg c2] at H
    have c2b0 : decide (x8_1 < (l0.length : Int)) = false := dF c2
    clear c2
    obtain rfl := sI H
    go_wp2
    go_ret
    exact ⟨y1, y3⟩

/-! ### spec_l12Size: function 51 -/
def spec_l12Size.f (l0 : List (S58)) : Option (Int) := if (l0.length : Int) = 0 then (some 0) else (if 0 ≤ (wrap64 ((l0.length : Int) - 1)) then (if (wrap64 ((l0.length : Int) - 1)) < (l0.length : Int) then (some ((rd_T58 l0 (wrap64 ((l0.length : Int) - 1))).f3)) else (none)) else (none))
set_option maxHeartbeats 8000000 in
set_option maxRecDepth 100000 in
theorem spec_l12Size.calls (A0 : Option Addr) (c0 : Nat) (l0 : List (S58)) (r : Int) (w : World) (hr0 : Kd.C k58 w A0 l0.length l0) (hc0 : l0.length ≤ c0) (h : spec_l12Size.f l0 = some r) :
  Calls Try.prog 51 #[.slice A0 l0.length c0] w fun e w' => e = .returned (.int .i64 r) ∧ Drawn0 w w' := by
 have em := aM hr0
 have eV := aM hc0
 clear hr0 hc0
 have H : (if (l0.length : Int) = 0 then (some 0) else (if 0 ≤ (wrap64 ((l0.length : Int) - 1)) then (if (wrap64 ((l0.length : Int) - 1)) < (l0.length : Int) then (some ((rd_T58 l0 (wrap64 ((l0.length : Int) - 1))).f3)) else (none)) else (none))) = some r := h
 clear h
 by_cases c2 : (l0.length : Int) = 0
 ·rw [if_pos c2] at H
  have c2b0 : ((l0.length : Int) == 0) = true := qT c2
  have c2b1 : ((l0.length : Int) != 0) = false := nF c2
  clear c2
  obtain rfl := sI H
  go_enter Try.func51, Try.ntmps51
  go_wp2
  go_ret
  exact ⟨y1, y3⟩
 ·rw [if_neg c2] at H
  have c2b0 : ((l0.length : Int) == 0) = false := qF c2
  have c2b1 : ((l0.length : Int) != 0) = true := nT c2
  have c2b2 : ¬ (l0 = []) := fun h_ => c2 (by rw [h_]; rfl)
  obtain ⟨ow, pH⟩ : ∃ j_ : Int, (wrap64 ((l0.length : Int) - 1)) = j_ := ⟨_, rfl⟩
  replace H : (if 0 ≤ (ow) then (if (ow) < (l0.length : Int) then (some ((rd_T58 l0 (ow)).f3)) else (none)) else (none)) = some r := by first | (rw [pH] at H; exact H) | (simp only [pH] at H ⊢; exact H)
  have hji3w : (IntKind.i64.wrap ((l0.length : Int) - 1)) = ow := (i64_w _).trans pH
  by_cases c4 : 0 ≤ (ow)
  ·rw [if_pos c4] at H
   have c4b0 : decide (0 ≤ (ow)) = true := dT c4
   clear c4
   by_cases c5 : (ow) < (l0.length : Int)
   ·rw [if_pos c5] at H
    have c5b0 : decide ((ow) < (l0.length : Int)) = true := dT c5
    clear c5
    obtain rfl := sI H
    have p217 : 0 ≤ ((ow) : Int) := oD z3
    have q217 : (ow) < (l0.length : Int) := oD z3
    obtain ⟨ad217, e217, hx217_0, hx217_1, hx217_2, hx217_3, hx217_4⟩ := at_T58 em.out (ow) p217 q217
    cases e217
    replace p217 := eq_true p217
    replace q217 := eq_true q217
    go_enter Try.func51, Try.ntmps51
    go_wp2
    go_ret
    exact ⟨by first | rfl | (simp; done) | (simp only [← pH] <;> (first | rfl | (simp; done) | (simp; generalize ByteArray.toList _ = u_; cases u_ <;> (first | rfl | (simp; done))))) | (simp [*]; done), y3⟩
   ·rw [if_neg c5] at H
    exact absurd H (by simp)
  ·rw [if_neg c4] at H
   exact absurd H (by simp)

/-! ### spec_l12Part: function 84 -/
def spec_l12Part.l0 : Nat → Int → List (S58) → List (S58) → Int → Int → Option ((List (S58)))
 | 0, _, _, _, _, _ => none
 | k + 1, x5, x6, x16, x17, x18 => if x18 < x17 then (if 0 ≤ x18 then (if x18 < (x16.length : Int) then (if ((rd_T58 x16 x18).f0) ≥ 0 then (if x6.length < 2932031007402 then (spec_l12Part.l0 k x5 (x6 ++ [(⟨wrap64 (((rd_T58 x16 x18).f0) - x5), wrap64 (((rd_T58 x16 x18).f1) - x5), (rd_T58 x16 x18).f2, (rd_T58 x16 x18).f3, (rd_T58 x16 x18).f4⟩ : S58)]) x16 x17 (wrap64 (x18 + 1))) else (none)) else (if x6.length < 2932031007402 then (spec_l12Part.l0 k x5 (x6 ++ [(⟨(rd_T58 x16 x18).f0, (rd_T58 x16 x18).f1, (rd_T58 x16 x18).f2, (rd_T58 x16 x18).f3, (rd_T58 x16 x18).f4⟩ : S58)]) x16 x17 (wrap64 (x18 + 1))) else (none))) else (none)) else (none)) else (some x6)
def spec_l12Part.f (k : Nat) (l0 : List (S58)) (a1 : Int) : Option ((List (S58))) := (spec_l12First.f k l0 a1).bind fun dN => (if 0 ≤ dN then (if dN ≤ (wrap64 (a1 + 1)) then (if (wrap64 (a1 + 1)) ≤ (l0.length : Int) then ((some ((l0.take ((wrap64 (a1 + 1)) : Int).toNat).drop (dN : Int).toNat : List (S58))).bind fun y219 => (spec_l12Part.l0 k dN ([] : List (S58)) y219 (y219.length : Int) 0)) else (none)) else (none)) else (none))
theorem spec_l12Part.mono_l : ∀ k, (∀ y0 y1 y2 y3 y4, LeO (spec_l12Part.l0 k y0 y1 y2 y3 y4) (spec_l12Part.l0 (k + 1) y0 y1 y2 y3 y4))
 | 0 => fun _ _ _ _ _ r h => by simp [spec_l12Part.l0] at h
 | k + 1 => by
  have ih0 := spec_l12Part.mono_l k
  ·intro y0 y1 y2 y3 y4
   unfold spec_l12Part.l0
   repeat' first
   | (with_reducible exact ih0 _ _ _ _ _)
   | (with_reducible exact spec_l12First.mono _ _ _)
   | (with_reducible exact LeO.refl _)
   | (with_reducible exact LeO.none _)
   | (with_reducible refine LeO.ite ?_ ?_)
   | (with_reducible refine LeO.bind ?_ (fun _ => ?_))
theorem spec_l12Part.mono : ∀ a0 a1 k, LeO (spec_l12Part.f k a0 a1) (spec_l12Part.f (k + 1) a0 a1) := by
 intro a0 a1 k
 have ih0 := spec_l12Part.mono_l k
 unfold spec_l12Part.f
 repeat' first
   | (with_reducible exact ih0 _ _ _ _ _)
   | (with_reducible exact spec_l12First.mono _ _ _)
   | (with_reducible exact LeO.refl _)
   | (with_reducible exact LeO.none _)
   | (with_reducible refine LeO.ite ?_ ?_)
   | (with_reducible refine LeO.bind ?_ (fun _ => ?_))
set_option maxHeartbeats 8000000 in
set_option maxRecDepth 100000 in
theorem spec_l12Part.calls (k : Nat) (A0 : Option Addr) (c0 : Nat) (l0 : List (S58)) (a1 : Int) (r : List (S58)) (w : World) (hr0 : Kd.C k58 w A0 l0.length l0) (hc0 : l0.length ≤ c0) (h : spec_l12Part.f k l0 a1 = some r) :
  Calls Try.prog 84 #[.slice A0 l0.length c0, .int .i64 a1] w fun e w' => ∃ v0_ : Value, e = .returned (v0_) ∧ Kd.R k58 58 w' w.heap.size (fun _ => True) v0_ r ∧ Below w.heap.size w w' := by
 have hu58 := Try.underlying58
 have em := aM hr0
 have eV := aM hc0
 clear hr0 hc0
 have HB := aM (Below.refl w.heap.size w)
 have H : ((spec_l12First.f k l0 a1).bind fun dN => (if 0 ≤ dN then (if dN ≤ (wrap64 (a1 + 1)) then (if (wrap64 (a1 + 1)) ≤ (l0.length : Int) then ((some ((l0.take ((wrap64 (a1 + 1)) : Int).toNat).drop (dN : Int).toNat : List (S58))).bind fun y219 => (spec_l12Part.l0 k dN ([] : List (S58)) y219 (y219.length : Int) 0)) else (none)) else (none)) else (none))) = some r := h
 clear h
 obtain ⟨dN, A3, H⟩ := oA_ H
 try dsimp only at H
 by_cases c4 : 0 ≤ dN
 ·rw [if_pos c4] at H
  have c4b0 := eq_true c4
  have c4b1 : decide (0 ≤ dN) = true := dT c4
  clear c4
  by_cases c5 : dN ≤ (wrap64 (a1 + 1))
  ·rw [if_pos c5] at H
   have c5b0 := eq_true c5
   have c5b1 : decide (dN ≤ (wrap64 (a1 + 1))) = true := dT c5
   by_cases c6 : (wrap64 (a1 + 1)) ≤ (l0.length : Int)
   ·rw [if_pos c6] at H
    have c6b0 := eq_true c6
    have c6b1 : decide ((wrap64 (a1 + 1)) ≤ (l0.length : Int)) = true := dT c6
    obtain ⟨y219, hy219⟩ : ∃ y_ : List (S58), y_ = ((l0.take ((wrap64 (a1 + 1)) : Int).toNat).drop (dN : Int).toNat) := ⟨_, rfl⟩
    replace H : (spec_l12Part.l0 k dN ([] : List (S58)) y219 (y219.length : Int) 0) = some r := by first | (rw [hy219]; with_reducible exact H) | (have H2_ := (Option.bind_some _ _).symm.trans H; rw [hy219]; with_reducible exact H2_) | (have H2_ := (Option.bind_some _ _).symm.trans H; with_reducible exact H2_) | with_reducible exact H | (rw [hy219]; exact H) | exact H
    have Ny219 := aM hy219
    clear hy219
    have H' := aM H
    clear H
    go_enter Try.func84, Try.ntmps84
    go_wp2_with (first | ((with_reducible refine aK (f := 46) rfl ?_); refine aT (some 11) rfl rfl Try.func46 z1 rfl #[.slice A0 l0.length c0, .int .i64 a1] rfl z21 ?_; (with_reducible refine (spec_l12First.calls k _ _ l0 a1 dN _ ?side1 ?side2 A3.out).mono ?_); (case side1 => exact y33); (case side2 => exact eV.out); rintro e w7 ⟨rfl, hb⟩; refine ⟨_, rfl, ?_⟩; replace HB := aM (aA z20 hb); (try clear hb); have q8 : ((wrap64 (a1 + 1)) : Int) ≤ ((l0.length : Int) : Int) := oD z3; obtain ⟨i08, hi08, _, hsz8, _⟩ := info_parts info58; have hroom8 : l0.length ≤ c0 := eV.out; have hC8 : Kd.C k58 _ A0 l0.length l0 := em.out; have ql8 : (dN : Int) ≤ ((wrap64 (a1 + 1)) : Int) := oD z3; have q08 : (0 : Int) ≤ (dN : Int) := oD z3; have hcut8 := cut_mid (P := Try.prog) 27 58 .i64 .i64 Try.underlying27 hi08 5 hsz8 A0 l0.length c0 dN (wrap64 (a1 + 1)) q08 ql8 q8 hroom8; have hr8 := Kd.C_mid (lo := (dN : Int).toNat) (hi := ((wrap64 (a1 + 1)) : Int).toNat) (c := c0) hC8 (by omega) (by omega) hroom8; obtain ⟨A8, hA8⟩ : ∃ A1, A1 = (if c0 = (dN : Int).toNat then A0 else (A0 : Option Addr).map (·.add ((dN : Int).toNat * 5))) := ⟨_, rfl⟩; obtain ⟨c8, hc8⟩ : ∃ c1, c1 = c0 - (dN : Int).toNat := ⟨_, rfl⟩; have hy8 : y219.length = ((wrap64 (a1 + 1)) : Int).toNat - (dN : Int).toNat := (by rw [Ny219.out, List.length_drop, List.length_take] <;> omega); rw [show ((l0).take ((wrap64 (a1 + 1)) : Int).toNat).drop (dN : Int).toNat = y219 from Ny219.out.symm] at hr8; replace hr8 : Kd.C k58 _ A8 y219.length y219 := (by rw [hA8]; exact hr8); rw [← hy8, ← hA8, ← hc8] at hcut8; have qf := aM hr8; have HC222 := aM (show y219.length ≤ c8 from by rw [hy8, hc8]; exact Nat.sub_le_sub_right (Nat.le_trans (by omega) hroom8) _); clear hr8 hC8 hroom8 hi08 hsz8 hc8; have KY8 := aM hy8; have KA8 := aM hA8; clear hy8 hA8; replace q8 := eq_true q8))
    go_loopg [6, 18] k (fun kq v6 v18 w' => ∃ (x6_1 : List (S58)) (x18_1 : Int), v18 = .int .i64 x18_1 ∧ Aside0 (spec_l12Part.l0 kq dN x6_1 y219 (y219.length : Int) x18_1 = some r) ∧ Aside0 (kq ≤ k) ∧ Aside0 (Kd.R k58 58 w' w.heap.size (fun _ => True) v6 x6_1) ∧ Aside0 (Below w.heap.size w w'))
    case atStart => exact ⟨(([] : List (S58))), (0), z2, H', ⟨Nat.le_refl _⟩, ⟨y12⟩, ⟨y5⟩⟩
    case round =>
     clear H'
     try clear c1
     try clear c4
     try clear c4b0
     try clear c4b1
     try clear c5
     try clear c5b0
     try clear c5b1
     try clear c6
     try clear c6b0
     try clear c6b1
     try clear c8
     try clear q8
     try clear q08
     try clear q8
     obtain ⟨x6_1, x18_1, rfl, HA, HK1, ir, HB⟩ := hrel
     cases gk with
     | zero => exact absurd HA.out (by simp [spec_l12Part.l0])
     | succ k1 =>
      have H := HA.out
      clear HA
      simp only [spec_l12Part.l0] at H
      by_cases c9 : x18_1 < (y219.length : Int)
      ·rw [if_pos c9] at H
       have c9b0 : decide (x18_1 < (y219.length : Int)) = true := dT c9
       clear c9
       by_cases eH : 0 ≤ x18_1
       ·rw [if_pos eH] at H
        have c10b0 : decide (0 ≤ x18_1) = true := dT eH
        clear eH
        by_cases e9 : x18_1 < (y219.length : Int)
        ·rw [if_pos e9] at H
         have c11b0 : decide (x18_1 < (y219.length : Int)) = true := dT e9
         clear e9
         by_cases eZ : ((rd_T58 y219 x18_1).f0) ≥ 0
         ·rw [if_pos eZ] at H
          have c12b0 : decide (0 ≤ ((rd_T58 y219 x18_1).f0)) = true := dT eZ
          clear eZ
          by_cases fj : x6_1.length < 2932031007402
          ·rw [if_pos fj] at H
           have LMc13 := aM fj
           clear fj
           obtain ⟨y225, hy225⟩ : ∃ y_ : List (S58), y_ = (x6_1 ++ [(⟨wrap64 (((rd_T58 y219 x18_1).f0) - dN), wrap64 (((rd_T58 y219 x18_1).f1) - dN), (rd_T58 y219 x18_1).f2, (rd_T58 y219 x18_1).f3, (rd_T58 y219 x18_1).f4⟩ : S58)]) := ⟨_, rfl⟩
           replace H : (spec_l12Part.l0 k1 dN y225 y219 (y219.length : Int) (wrap64 (x18_1 + 1))) = some r := by first | (rw [hy225]; with_reducible exact H) | (have H2_ := (Option.bind_some _ _).symm.trans H; rw [hy225]; with_reducible exact H2_) | (have H2_ := (Option.bind_some _ _).symm.trans H; with_reducible exact H2_) | with_reducible exact H | (rw [hy225]; exact H) | exact H
           have Ny225 := aM hy225
           clear hy225
           have H' := aM H
           clear H
           have p223 : 0 ≤ (x18_1 : Int) := oD z3
           have q223 : x18_1 < (y219.length : Int) := oD z3
           obtain ⟨ad223, e223, hx223_0, hx223_1, hx223_2, hx223_3, hx223_4⟩ := at_T58 qf.out x18_1 p223 q223
           cases e223
           replace hx223_0 := (HB.out.cell (World.block_lt_of_cell? w _ hx223_0)).trans hx223_0
           replace hx223_1 := (HB.out.cell (World.block_lt_of_cell? w _ hx223_1)).trans hx223_1
           replace hx223_2 := (HB.out.cell (World.block_lt_of_cell? w _ hx223_2)).trans hx223_2
           replace hx223_3 := (HB.out.cell (World.block_lt_of_cell? w _ hx223_3)).trans hx223_3
           replace hx223_4 := (HB.out.cell (World.block_lt_of_cell? w _ hx223_4)).trans hx223_4
           replace p223 := eq_true p223
           replace q223 := eq_true q223
           go_upto_region 8 with (((with_reducible refine aN (N := 8) rfl ?_); refine aQ ?hg (N := 8) ?hd (cs := #[.int .i64 0, .int .i64 0, .string ⟨#[]⟩, .int .i64 0, .int .i64 0]) (t := 58) ?hr ?_; (case hd => rfl); (case hg => rfl); (case hr => first | (go_simp; done) | (go_simp; rfl)); intro cN hg w14 hbox hb; replace ir := aM (ag (Kd.R_elderB (kR_ ir.out) cN (Nat.le_of_eq hg.symm)) hb); have dQ := aM (hbox); have GW224 := aM ((by rw [hg]; exact (aC z20) : w.heap.size ≤ cN)); have jy := aM ((by rw [hg]; exact (aC z20) : w.heap.size ≤ cN)); replace HB := aM (aA z20 hb); clear hb hbox hg; obtain ⟨iJ, kY, kX, hcz15_3, hcz15_4, iH, kC, kB, hfz15_3, hfz15_4⟩ := cc5 dQ.out))
           go_cut [] (fun wc_ => Aside0 (wc_.heap[cN]? = some (.cells #[.int .i64 (wrap64 (((rd_T58 y219 x18_1).f0) - dN)), .int .i64 (wrap64 (((rd_T58 y219 x18_1).f1) - dN)), .string ((rd_T58 y219 x18_1).f2), .int .i64 ((rd_T58 y219 x18_1).f3), .int .i64 ((rd_T58 y219 x18_1).f4)] 58 (0, 0))) ∧ Aside0 (∀ (ok_ : Nat → Prop) (v_ : Value) (xs_ : List S58), (∀ k_, ok_ k_ → k_ ≠ cN) → Kd.R k58 58 w14 w.heap.size ok_ v_ xs_ → Kd.R k58 58 wc_ w.heap.size ok_ v_ xs_) ∧ Aside0 (Below w.heap.size w wc_))
           case first =>
            go_wp2_with (fail)
            go_meet
            exact ⟨⟨(by (with_reducible repeat (first | refine au ?_ _ | refine ar ?_ | refine av ?_ _)); refine ax (cs := #[.int .i64 (wrap64 (((rd_T58 y219 x18_1).f0) - dN)), .int .i64 ((rd_T58 y219 x18_1).f1), .string ((rd_T58 y219 x18_1).f2), .int .i64 ((rd_T58 y219 x18_1).f3), .int .i64 ((rd_T58 y219 x18_1).f4)]) ?_ 1 _ rfl; (with_reducible repeat (first | refine au ?_ _ | refine ar ?_ | refine av ?_ _)); refine ax (cs := #[.int .i64 ((rd_T58 y219 x18_1).f0), .int .i64 ((rd_T58 y219 x18_1).f1), .string ((rd_T58 y219 x18_1).f2), .int .i64 ((rd_T58 y219 x18_1).f3), .int .i64 ((rd_T58 y219 x18_1).f4)]) ?_ 0 _ rfl; (with_reducible repeat (first | refine au ?_ _ | refine ar ?_ | refine av ?_ _)); refine ax (cs := #[.int .i64 ((rd_T58 y219 x18_1).f0), .int .i64 ((rd_T58 y219 x18_1).f1), .string ((rd_T58 y219 x18_1).f2), .int .i64 ((rd_T58 y219 x18_1).f3), .int .i64 0]) ?_ 4 _ rfl; (with_reducible repeat (first | refine au ?_ _ | refine ar ?_ | refine av ?_ _)); refine ax (cs := #[.int .i64 ((rd_T58 y219 x18_1).f0), .int .i64 ((rd_T58 y219 x18_1).f1), .string ((rd_T58 y219 x18_1).f2), .int .i64 0, .int .i64 0]) ?_ 3 _ rfl; (with_reducible repeat (first | refine au ?_ _ | refine ar ?_ | refine av ?_ _)); refine ax (cs := #[.int .i64 ((rd_T58 y219 x18_1).f0), .int .i64 ((rd_T58 y219 x18_1).f1), .string ⟨#[]⟩, .int .i64 0, .int .i64 0]) ?_ 2 _ rfl; (with_reducible repeat (first | refine au ?_ _ | refine ar ?_ | refine av ?_ _)); refine ax (cs := #[.int .i64 ((rd_T58 y219 x18_1).f0), .int .i64 0, .string ⟨#[]⟩, .int .i64 0, .int .i64 0]) ?_ 1 _ rfl; (with_reducible repeat (first | refine au ?_ _ | refine ar ?_ | refine av ?_ _)); refine ax (cs := #[.int .i64 0, .int .i64 0, .string ⟨#[]⟩, .int .i64 0, .int .i64 0]) ?_ 0 _ rfl; (with_reducible repeat (first | refine au ?_ _ | refine ar ?_ | refine av ?_ _)); exact dQ.out)⟩, ⟨fun ok_ v_ xs_ hne_ h_ => by (with_reducible repeat (first | apply ae | apply ac | apply aa)); exact ah (ap (p := ⟨cN, 1, none⟩) (ap (p := ⟨cN, 0, none⟩) (ap (p := ⟨cN, 4, none⟩) (ap (p := ⟨cN, 3, none⟩) (ap (p := ⟨cN, 2, none⟩) (ap (p := ⟨cN, 1, none⟩) (ap (p := ⟨cN, 0, none⟩) (ah h_ (fun k_ hk => (⟨hk, hne_ k_ hk⟩ : _ ∧ k_ ≠ cN))) (fun _ hk => hk.2) (.int .i64 ((rd_T58 y219 x18_1).f0))) (fun _ hk => hk.2) (.int .i64 ((rd_T58 y219 x18_1).f1))) (fun _ hk => hk.2) (.string ((rd_T58 y219 x18_1).f2))) (fun _ hk => hk.2) (.int .i64 ((rd_T58 y219 x18_1).f3))) (fun _ hk => hk.2) (.int .i64 ((rd_T58 y219 x18_1).f4))) (fun _ hk => hk.2) (.int .i64 (wrap64 (((rd_T58 y219 x18_1).f0) - dN)))) (fun _ hk => hk.2) (.int .i64 (wrap64 (((rd_T58 y219 x18_1).f1) - dN)))) (fun _ hk => hk.1)⟩, ⟨(by repeat (first | (with_reducible first | exact HB.out | apply bA | apply pD | apply bD | refine az ?_ jy.out) | exact HB.out))⟩⟩
           case rest =>
            obtain ⟨CB_, CM_, CL_⟩ := hcut
            have m0_ := aM (CM_.out _ _ _ (fun k_ hk => hk.2) ir.out)
            clear ir HB dQ CM_; clear iJ kY kX hcz15_3 hcz15_4 hfz15_3 hfz15_4
            have ir := m0_; have HB := CL_; have dQ := CB_; clear CL_ CB_ m0_
            have iJ : wc.cell? ⟨cN, 0, none⟩ = some (.int .i64 (wrap64 (((rd_T58 y219 x18_1).f0) - dN))) := (bC dQ.out 0).trans rfl; have hfz15_0 := bF dQ.out 0
            have kY : wc.cell? ⟨cN, 1, none⟩ = some (.int .i64 (wrap64 (((rd_T58 y219 x18_1).f1) - dN))) := (bC dQ.out 1).trans rfl; have hfz15_1 := bF dQ.out 1
            have kX : wc.cell? ⟨cN, 2, none⟩ = some (.string ((rd_T58 y219 x18_1).f2)) := (bC dQ.out 2).trans rfl; have hfz15_2 := bF dQ.out 2
            have hcz15_3 : wc.cell? ⟨cN, 3, none⟩ = some (.int .i64 ((rd_T58 y219 x18_1).f3)) := (bC dQ.out 3).trans rfl; have hfz15_3 := bF dQ.out 3
            have hcz15_4 : wc.cell? ⟨cN, 4, none⟩ = some (.int .i64 ((rd_T58 y219 x18_1).f4)) := (bC dQ.out 4).trans rfl; have hfz15_4 := bF dQ.out 4
            go_wp2_with (((with_reducible refine gate_builtin (b := .append) (xs := #[.tmp 35, .tmp 37]) rfl ?_); at_builtin; refine Kd.R_append k58 (w0 := w) w.heap.size rfl (.tmp 35) (.tmp 37) 27 58 (.agg #[(.int .i64 0), (.int .i64 0), (.string ⟨#[]⟩), (.int .i64 0), (.int .i64 0)]) 48 rfl Try.underlying27 info58 rfl z0 (by omega) u6 x6_1 (⟨wrap64 (((rd_T58 y219 x18_1).f0) - dN), wrap64 (((rd_T58 y219 x18_1).f1) - dN), (rd_T58 y219 x18_1).f2, (rd_T58 y219 x18_1).f3, (rd_T58 y219 x18_1).f4⟩ : S58) [.int .i64 (wrap64 (((rd_T58 y219 x18_1).f0) - dN)), .int .i64 (wrap64 (((rd_T58 y219 x18_1).f1) - dN)), .string ((rd_T58 y219 x18_1).f2), .int .i64 ((rd_T58 y219 x18_1).f3), .int .i64 ((rd_T58 y219 x18_1).f4)] (fun k_ => k_ ≠ cN) (fun _ => False) rfl (by first | (go_simp; done) | (go_simp; rfl)) ?aP (fun _ hk => hk.elim) ?aF ?aO ?aB ?aS ?aL ?_; (case aP => exact k58_mkM _ _ _ (⟨wrap64 (((rd_T58 y219 x18_1).f0) - dN), wrap64 (((rd_T58 y219 x18_1).f1) - dN), (rd_T58 y219 x18_1).f2, (rd_T58 y219 x18_1).f3, (rd_T58 y219 x18_1).f4⟩ : S58)); (case aB => exact (by repeat (first | (with_reducible first | exact HB.out | apply bA | apply pD | apply bD | refine az ?_ jy.out) | exact HB.out))); (case aF => exact (fun k_ hk => Kd.freshB (g := cN) (o := .cells #[.int .i64 (wrap64 (((rd_T58 y219 x18_1).f0) - dN)), .int .i64 (wrap64 (((rd_T58 y219 x18_1).f1) - dN)), .string ((rd_T58 y219 x18_1).f2), .int .i64 ((rd_T58 y219 x18_1).f3), .int .i64 ((rd_T58 y219 x18_1).f4)] 58 (0, 0)) dQ.out k_ hk)); (case aO => exact (by (with_reducible repeat (first | apply ae | apply ac | apply aa)); exact ah (ah ir.out (fun k_ hk => (⟨hk, hk.2⟩ : _ ∧ k_ ≠ cN))) (fun _ hk => hk.1.2))); (case aS => exact (aC (by repeat (first | (with_reducible first | exact HB.out | apply bA | apply pD | apply bD | refine az ?_ jy.out) | exact HB.out)))); (case aL => have := LMc13.out; omega); intro v226 w16 ho hb hg hat; rw [← Ny225.out] at ho; replace dQ := aM (blk_grown (g := cN) (o := .cells #[.int .i64 (wrap64 (((rd_T58 y219 x18_1).f0) - dN)), .int .i64 (wrap64 (((rd_T58 y219 x18_1).f1) - dN)), .string ((rd_T58 y219 x18_1).f2), .int .i64 ((rd_T58 y219 x18_1).f3), .int .i64 ((rd_T58 y219 x18_1).f4)] 58 (0, 0)) dQ.out hg (Kd.R_away ir.out (fun _ hk => hk.2))); replace HB := aM (hb); have HO227 := aM (ho); clear ir; clear ho hb hg hat))
            go_roundg k1
            case measure => have := HK1.out; omega
            case rel => exact ⟨(y225), (wrap64 (x18_1 + 1)), z2, H', ⟨y0⟩, ⟨kM_ HO227.out (fun _ hk => trivial)⟩, ⟨by repeat (first | (with_reducible first | exact HB.out | apply bA | apply pD | apply bD | refine az ?_ jy.out) | exact HB.out)⟩⟩
          ·rw [if_neg fj] at H
           exact absurd H (by simp)
         ·rw [if_neg eZ] at H
          have c12b0 : decide (0 ≤ ((rd_T58 y219 x18_1).f0)) = false := dF eZ
          clear eZ
          by_cases gE : x6_1.length < 2932031007402
          ·rw [if_pos gE] at H
           have LMc17 := aM gE
           clear gE
           obtain ⟨y228, hy228⟩ : ∃ y_ : List (S58), y_ = (x6_1 ++ [(⟨(rd_T58 y219 x18_1).f0, (rd_T58 y219 x18_1).f1, (rd_T58 y219 x18_1).f2, (rd_T58 y219 x18_1).f3, (rd_T58 y219 x18_1).f4⟩ : S58)]) := ⟨_, rfl⟩
           replace H : (spec_l12Part.l0 k1 dN y228 y219 (y219.length : Int) (wrap64 (x18_1 + 1))) = some r := by first | (rw [hy228]; with_reducible exact H) | (have H2_ := (Option.bind_some _ _).symm.trans H; rw [hy228]; with_reducible exact H2_) | (have H2_ := (Option.bind_some _ _).symm.trans H; with_reducible exact H2_) | with_reducible exact H | (rw [hy228]; exact H) | exact H
           have Ny228 := aM hy228
           clear hy228
           have H' := aM H
           clear H
           have p223 : 0 ≤ (x18_1 : Int) := oD z3
           have q223 : x18_1 < (y219.length : Int) := oD z3
           obtain ⟨ad223, e223, hx223_0, hx223_1, hx223_2, hx223_3, hx223_4⟩ := at_T58 qf.out x18_1 p223 q223
           cases e223
           replace hx223_0 := (HB.out.cell (World.block_lt_of_cell? w _ hx223_0)).trans hx223_0
           replace hx223_1 := (HB.out.cell (World.block_lt_of_cell? w _ hx223_1)).trans hx223_1
           replace hx223_2 := (HB.out.cell (World.block_lt_of_cell? w _ hx223_2)).trans hx223_2
           replace hx223_3 := (HB.out.cell (World.block_lt_of_cell? w _ hx223_3)).trans hx223_3
           replace hx223_4 := (HB.out.cell (World.block_lt_of_cell? w _ hx223_4)).trans hx223_4
           replace p223 := eq_true p223
           replace q223 := eq_true q223
           go_wp2_with (first | ((with_reducible refine aN (N := 8) rfl ?_); refine aQ ?hg (N := 8) ?hd (cs := #[.int .i64 0, .int .i64 0, .string ⟨#[]⟩, .int .i64 0, .int .i64 0]) (t := 58) ?hr ?_; (case hd => rfl); (case hg => rfl); (case hr => first | (go_simp; done) | (go_simp; rfl)); intro cN hg w18 hbox hb; replace ir := aM (ag (Kd.R_elderB (kR_ ir.out) cN (Nat.le_of_eq hg.symm)) hb); have dQ := aM (hbox); have GW224 := aM ((by rw [hg]; exact (aC z20) : w.heap.size ≤ cN)); have jy := aM ((by rw [hg]; exact (aC z20) : w.heap.size ≤ cN)); replace HB := aM (aA z20 hb); clear hb hbox hg; obtain ⟨iI, kW, kV, kU, kT, iG, kz, ky, kx, kw⟩ := cc5 dQ.out) | ((with_reducible refine gate_builtin (b := .append) (xs := #[.tmp 35, .tmp 37]) rfl ?_); at_builtin; refine Kd.R_append k58 (w0 := w) w.heap.size rfl (.tmp 35) (.tmp 37) 27 58 (.agg #[(.int .i64 0), (.int .i64 0), (.string ⟨#[]⟩), (.int .i64 0), (.int .i64 0)]) 48 rfl Try.underlying27 info58 rfl z0 (by omega) u6 x6_1 (⟨(rd_T58 y219 x18_1).f0, (rd_T58 y219 x18_1).f1, (rd_T58 y219 x18_1).f2, (rd_T58 y219 x18_1).f3, (rd_T58 y219 x18_1).f4⟩ : S58) [.int .i64 ((rd_T58 y219 x18_1).f0), .int .i64 ((rd_T58 y219 x18_1).f1), .string ((rd_T58 y219 x18_1).f2), .int .i64 ((rd_T58 y219 x18_1).f3), .int .i64 ((rd_T58 y219 x18_1).f4)] (fun k_ => k_ ≠ cN) (fun _ => False) rfl (by first | (go_simp; done) | (go_simp; rfl)) ?aP (fun _ hk => hk.elim) ?aF ?aO ?aB ?aS ?aL ?_; (case aP => exact k58_mkM _ _ _ (⟨(rd_T58 y219 x18_1).f0, (rd_T58 y219 x18_1).f1, (rd_T58 y219 x18_1).f2, (rd_T58 y219 x18_1).f3, (rd_T58 y219 x18_1).f4⟩ : S58)); (case aB => exact (by repeat (first | (with_reducible first | exact HB.out | apply bA | apply pD | apply bD | refine az ?_ jy.out) | exact HB.out))); (case aF => exact (fun k_ hk => Kd.freshB (g := cN) (o := .cells #[.int .i64 ((rd_T58 y219 x18_1).f0), .int .i64 ((rd_T58 y219 x18_1).f1), .string ((rd_T58 y219 x18_1).f2), .int .i64 ((rd_T58 y219 x18_1).f3), .int .i64 ((rd_T58 y219 x18_1).f4)] 58 (0, 0)) (by (with_reducible repeat (first | refine au ?_ _ | refine ar ?_ | refine av ?_ _)); refine ax (cs := #[.int .i64 ((rd_T58 y219 x18_1).f0), .int .i64 ((rd_T58 y219 x18_1).f1), .string ((rd_T58 y219 x18_1).f2), .int .i64 ((rd_T58 y219 x18_1).f3), .int .i64 0]) ?_ 4 _ rfl; (with_reducible repeat (first | refine au ?_ _ | refine ar ?_ | refine av ?_ _)); refine ax (cs := #[.int .i64 ((rd_T58 y219 x18_1).f0), .int .i64 ((rd_T58 y219 x18_1).f1), .string ((rd_T58 y219 x18_1).f2), .int .i64 0, .int .i64 0]) ?_ 3 _ rfl; (with_reducible repeat (first | refine au ?_ _ | refine ar ?_ | refine av ?_ _)); refine ax (cs := #[.int .i64 ((rd_T58 y219 x18_1).f0), .int .i64 ((rd_T58 y219 x18_1).f1), .string ⟨#[]⟩, .int .i64 0, .int .i64 0]) ?_ 2 _ rfl; (with_reducible repeat (first | refine au ?_ _ | refine ar ?_ | refine av ?_ _)); refine ax (cs := #[.int .i64 ((rd_T58 y219 x18_1).f0), .int .i64 0, .string ⟨#[]⟩, .int .i64 0, .int .i64 0]) ?_ 1 _ rfl; (with_reducible repeat (first | refine au ?_ _ | refine ar ?_ | refine av ?_ _)); refine ax (cs := #[.int .i64 0, .int .i64 0, .string ⟨#[]⟩, .int .i64 0, .int .i64 0]) ?_ 0 _ rfl; (with_reducible repeat (first | refine au ?_ _ | refine ar ?_ | refine av ?_ _)); exact dQ.out) k_ hk)); (case aO => exact (by (with_reducible repeat (first | apply ae | apply ac | apply aa)); exact ah (ap (p := ⟨cN, 4, none⟩) (ap (p := ⟨cN, 3, none⟩) (ap (p := ⟨cN, 2, none⟩) (ap (p := ⟨cN, 1, none⟩) (ap (p := ⟨cN, 0, none⟩) (ah ir.out (fun k_ hk => (⟨hk, hk.2⟩ : _ ∧ k_ ≠ cN))) (fun _ hk => hk.2) (.int .i64 ((rd_T58 y219 x18_1).f0))) (fun _ hk => hk.2) (.int .i64 ((rd_T58 y219 x18_1).f1))) (fun _ hk => hk.2) (.string ((rd_T58 y219 x18_1).f2))) (fun _ hk => hk.2) (.int .i64 ((rd_T58 y219 x18_1).f3))) (fun _ hk => hk.2) (.int .i64 ((rd_T58 y219 x18_1).f4))) (fun _ hk => hk.1.2))); (case aS => exact (aC (by repeat (first | (with_reducible first | exact HB.out | apply bA | apply pD | apply bD | refine az ?_ jy.out) | exact HB.out)))); (case aL => have := LMc17.out; omega); intro v229 w20 ho hb hg hat; rw [← Ny228.out] at ho; replace dQ := aM (blk_grown (g := cN) (o := .cells #[.int .i64 ((rd_T58 y219 x18_1).f0), .int .i64 ((rd_T58 y219 x18_1).f1), .string ((rd_T58 y219 x18_1).f2), .int .i64 ((rd_T58 y219 x18_1).f3), .int .i64 ((rd_T58 y219 x18_1).f4)] 58 (0, 0)) (by (with_reducible repeat (first | refine au ?_ _ | refine ar ?_ | refine av ?_ _)); refine ax (cs := #[.int .i64 ((rd_T58 y219 x18_1).f0), .int .i64 ((rd_T58 y219 x18_1).f1), .string ((rd_T58 y219 x18_1).f2), .int .i64 ((rd_T58 y219 x18_1).f3), .int .i64 0]) ?_ 4 _ rfl; (with_reducible repeat (first | refine au ?_ _ | refine ar ?_ | refine av ?_ _)); refine ax (cs := #[.int .i64 ((rd_T58 y219 x18_1).f0), .int .i64 ((rd_T58 y219 x18_1).f1), .string ((rd_T58 y219 x18_1).f2), .int .i64 0, .int .i64 0]) ?_ 3 _ rfl; (with_reducible repeat (first | refine au ?_ _ | refine ar ?_ | refine av ?_ _)); refine ax (cs := #[.int .i64 ((rd_T58 y219 x18_1).f0), .int .i64 ((rd_T58 y219 x18_1).f1), .string ⟨#[]⟩, .int .i64 0, .int .i64 0]) ?_ 2 _ rfl; (with_reducible repeat (first | refine au ?_ _ | refine ar ?_ | refine av ?_ _)); refine ax (cs := #[.int .i64 ((rd_T58 y219 x18_1).f0), .int .i64 0, .string ⟨#[]⟩, .int .i64 0, .int .i64 0]) ?_ 1 _ rfl; (with_reducible repeat (first | refine au ?_ _ | refine ar ?_ | refine av ?_ _)); refine ax (cs := #[.int .i64 0, .int .i64 0, .string ⟨#[]⟩, .int .i64 0, .int .i64 0]) ?_ 0 _ rfl; (with_reducible repeat (first | refine au ?_ _ | refine ar ?_ | refine av ?_ _)); exact dQ.out) hg (Kd.R_away ir.out (fun _ hk => hk.2))); replace HB := aM (hb); have HO230 := aM (ho); clear ir; clear ho hb hg hat))
           go_roundg k1
           case measure => have := HK1.out; omega
           case rel => exact ⟨(y228), (wrap64 (x18_1 + 1)), z2, H', ⟨y0⟩, ⟨kM_ HO230.out (fun _ hk => trivial)⟩, ⟨by repeat (first | (with_reducible first | exact HB.out | apply bA | apply pD | apply bD | refine az ?_ jy.out) | exact HB.out)⟩⟩
          ·rw [if_neg gE] at H
           exact absurd H (by simp)
        ·rw [if_neg e9] at H
         exact absurd H (by simp)
       ·rw [if_neg eH] at H
        exact absurd H (by simp)
      ·rw [if_neg c9] at H
       have c9b0 : decide (x18_1 < (y219.length : Int)) = false := dF c9
       clear c9
       obtain rfl := sI H
       go_wp2
       go_ret
       exact ⟨_, y4, by (with_reducible repeat (first | apply ae | apply ac | apply aa)); exact ir.out, y5⟩
   ·rw [if_neg c6] at H
    exact absurd H (by simp)
  ·rw [if_neg c5] at H
   exact absurd H (by simp)
 ·rw [if_neg c4] at H
  exact absurd H (by simp)

end Go.Proofs.Ytmkenlejdaphnaa.AFnRopes
