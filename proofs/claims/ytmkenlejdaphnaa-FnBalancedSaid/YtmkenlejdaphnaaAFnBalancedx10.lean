-- this session's own text: written by wip/tools/ownprint.py over the kit's print
import Derived.Test.YtmkenlejdaphnaaAFnBalancedx0
import Derived.Test.YtmkenlejdaphnaaAFnBalancedx2
import Derived.Test.YtmkenlejdaphnaaAFnBalancedx6
import Derived.Test.YtmkenlejdaphnaaAFnBalancedx8
import Derived.Test.YtmkenlejdaphnaaAFnBalancedx9
namespace Go.Proofs.Ytmkenlejdaphnaa.AFnBalanced
open Go.RowKit Go.Proofs.YtmkenlejdaphnaaW.PrintWords Go.Proofs.YtmkenlejdaphnaaW.PrintLast Go.Proofs.YtmkenlejdaphnaaW.PrintMore
attribute [local go_sem] max2_int min2_int max_two min_two max_three min_three max_four min_four   -- for this text's walks alone
set_option linter.unusedVariables false
set_option linter.unusedSimpArgs false

/-! ### spec_l1Cur_spoilt: function 89 -/
mutual
def spec_l1Cur_spoilt.l0 : Nat → ByteArray → ByteArray → Int → List Int → Int → Int → Option (ByteArray × Int × Int)
 | 0, _, _, _, _, _, _ => none
 | k + 1, x1, x2, x7, x1000, x1001, x1002 => if x7 > 0 then (spec_l1Cur_spoilt.j1 k x1 x2 x7 (decide ((x1.size : Int) > 0)) x1000 x1001 x1002) else (spec_l1Cur_spoilt.j1 k x1 x2 x7 false x1000 x1001 x1002)
def spec_l1Cur_spoilt.j1 : Nat → ByteArray → ByteArray → Int → Bool → List Int → Int → Int → Option (ByteArray × Int × Int)
 | 0, _, _, _, _, _, _, _ => none
 | k + 1, x1, x2, x7, x18, x1000, x1001, x1002 => if x18 = true then ((spec_l1Cur_pick.f x1000 x1001 x1002 (x1.size : Int)).bind fun cL => ((spec_l1Cur_pick.f x1000 cL.2.1 cL.2.2 (x2.size : Int)).bind fun jI => (if 0 ≤ jI.1 then (if jI.1 < (x2.size : Int) then ((some (([bt x2 jI.1] : List Int) : List Int)).bind fun y213 => ((spec_l1Cur_pick.f x1000 jI.2.1 jI.2.2 3).bind fun dv => (if dv.1 = 0 then (if 0 ≤ cL.1 then (if cL.1 ≤ (x1.size : Int) then (if (x1.extract 0 (cL.1 : Int).toNat).size + (strOfNums y213).size ≤ 9223372036854775807 then (if ((x1.extract 0 (cL.1 : Int).toNat) ++ (strOfNums y213)).size + (x1.extract (cL.1 : Int).toNat x1.size).size ≤ 9223372036854775807 then (spec_l1Cur_spoilt.l0 k (((x1.extract 0 (cL.1 : Int).toNat) ++ (strOfNums y213)) ++ (x1.extract (cL.1 : Int).toNat x1.size)) x2 (wrap64 (x7 - 1)) x1000 dv.2.1 dv.2.2) else (none)) else (none)) else (none)) else (none)) else (if dv.1 = 1 then (if 0 ≤ cL.1 then (if cL.1 ≤ (x1.size : Int) then (if (x1.extract 0 (cL.1 : Int).toNat).size + (strOfNums y213).size ≤ 9223372036854775807 then (if 0 ≤ (wrap64 (cL.1 + 1)) then (if (wrap64 (cL.1 + 1)) ≤ (x1.size : Int) then (if ((x1.extract 0 (cL.1 : Int).toNat) ++ (strOfNums y213)).size + (x1.extract ((wrap64 (cL.1 + 1)) : Int).toNat x1.size).size ≤ 9223372036854775807 then (spec_l1Cur_spoilt.l0 k (((x1.extract 0 (cL.1 : Int).toNat) ++ (strOfNums y213)) ++ (x1.extract ((wrap64 (cL.1 + 1)) : Int).toNat x1.size)) x2 (wrap64 (x7 - 1)) x1000 dv.2.1 dv.2.2) else (none)) else (none)) else (none)) else (none)) else (none)) else (none)) else (if 0 ≤ cL.1 then (if cL.1 ≤ (x1.size : Int) then (if 0 ≤ (wrap64 (cL.1 + 1)) then (if (wrap64 (cL.1 + 1)) ≤ (x1.size : Int) then (if (x1.extract 0 (cL.1 : Int).toNat).size + (x1.extract ((wrap64 (cL.1 + 1)) : Int).toNat x1.size).size ≤ 9223372036854775807 then (spec_l1Cur_spoilt.l0 k ((x1.extract 0 (cL.1 : Int).toNat) ++ (x1.extract ((wrap64 (cL.1 + 1)) : Int).toNat x1.size)) x2 (wrap64 (x7 - 1)) x1000 dv.2.1 dv.2.2) else (none)) else (none)) else (none)) else (none)) else (none)))))) else (none)) else (none)))) else (some (x1, x1001, x1002))
end
def spec_l1Cur_spoilt.f (k : Nat) (s0_0 : List Int) (s0_1 : Int) (s0_2 : Int) (a1 : ByteArray) (a2 : ByteArray) : Option (ByteArray × Int × Int) := (spec_l1Cur_pick.f s0_0 s0_1 s0_2 3).bind fun hO => (spec_l1Cur_spoilt.l0 k a1 a2 hO.1 s0_0 hO.2.1 hO.2.2)
theorem spec_l1Cur_spoilt.mono_l : ∀ k, (∀ y0 y1 y2 y3 y4 y5, LeO (spec_l1Cur_spoilt.l0 k y0 y1 y2 y3 y4 y5) (spec_l1Cur_spoilt.l0 (k + 1) y0 y1 y2 y3 y4 y5)) ∧ (∀ y0 y1 y2 y3 y4 y5 y6, LeO (spec_l1Cur_spoilt.j1 k y0 y1 y2 y3 y4 y5 y6) (spec_l1Cur_spoilt.j1 (k + 1) y0 y1 y2 y3 y4 y5 y6))
 | 0 => ⟨fun _ _ _ _ _ _ r h => by simp [spec_l1Cur_spoilt.l0] at h, fun _ _ _ _ _ _ _ r h => by simp [spec_l1Cur_spoilt.j1] at h⟩
 | k + 1 => by
  obtain ⟨ih0, ih1⟩ := spec_l1Cur_spoilt.mono_l k
  refine ⟨?_, ?_⟩
  ·intro y0 y1 y2 y3 y4 y5
   unfold spec_l1Cur_spoilt.l0
   repeat' first
   | (with_reducible exact ih0 _ _ _ _ _ _)
   | (with_reducible exact ih1 _ _ _ _ _ _ _)
   | (with_reducible exact LeO.refl _)
   | (with_reducible exact LeO.none _)
   | (with_reducible refine LeO.ite ?_ ?_)
   | (with_reducible refine LeO.bind ?_ (fun _ => ?_))
  ·intro y0 y1 y2 y3 y4 y5 y6
   unfold spec_l1Cur_spoilt.j1
   repeat' first
   | (with_reducible exact ih0 _ _ _ _ _ _)
   | (with_reducible exact ih1 _ _ _ _ _ _ _)
   | (with_reducible exact LeO.refl _)
   | (with_reducible exact LeO.none _)
   | (with_reducible refine LeO.ite ?_ ?_)
   | (with_reducible refine LeO.bind ?_ (fun _ => ?_))
theorem spec_l1Cur_spoilt.mono : ∀ a0 a1 a2 a3 a4 k, LeO (spec_l1Cur_spoilt.f k a0 a1 a2 a3 a4) (spec_l1Cur_spoilt.f (k + 1) a0 a1 a2 a3 a4) := by
 intro a0 a1 a2 a3 a4 k
 obtain ⟨ih0, ih1⟩ := spec_l1Cur_spoilt.mono_l k
 unfold spec_l1Cur_spoilt.f
 repeat' first
   | (with_reducible exact ih0 _ _ _ _ _ _)
   | (with_reducible exact ih1 _ _ _ _ _ _ _)
   | (with_reducible exact LeO.refl _)
   | (with_reducible exact LeO.none _)
   | (with_reducible refine LeO.ite ?_ ?_)
   | (with_reducible refine LeO.bind ?_ (fun _ => ?_))
set_option maxHeartbeats 8000000 in
set_option maxRecDepth 100000 in
theorem spec_l1Cur_spoilt.calls (k : Nat) (g : Nat) (s0_0 : List Int) (s0_1 : Int) (s0_2 : Int) (a1 : ByteArray) (a2 : ByteArray) (r1 : ByteArray) (r2 : Int) (r3 : Int) (w0 w : World) (hI : IsS95 w0 w g s0_0 s0_1 s0_2) (hB : Below w0.heap.size w0 w) (h : spec_l1Cur_spoilt.f k s0_0 s0_1 s0_2 a1 a2 = some (r1, r2, r3)) :
  Calls Try.prog 89 #[.pointer (some ⟨g, 0, none⟩), .string a1, .string a2] w fun e w' => e = .returned (.string r1) ∧ IsS95 w0 w' g s0_0 r2 r3 ∧ Below w0.heap.size w0 w' ∧ KeepBut w w' g none := by
 have HI0 := aM hI
 have HK := aM (KeepBut.refl w g none)
 have HL := aM hB.size
 clear hI
 have HW0 := aM hB.size
 have HB := aM hB
 clear hB
 have H : ((spec_l1Cur_pick.f s0_0 s0_1 s0_2 3).bind fun hO => (spec_l1Cur_spoilt.l0 k a1 a2 hO.1 s0_0 hO.2.1 hO.2.2)) = some (r1, r2, r3) := h
 clear h
 obtain ⟨⟨lJ, ng, nf⟩, A4, H⟩ := oA_ H
 try dsimp only at H
 have H' := aM H
 clear H
 go_enter Try.func89, Try.ntmps89
 go_wp2_with (first | (go_at_call 86; (with_reducible refine (spec_l1Cur_pick.calls g s0_0 s0_1 s0_2 3 lJ ng nf w0 _ ?side1 ?side2 A4.out).mono ?_); (case side1 => exact y39); (case side2 => exact y30); rintro e w5 ⟨rfl, hi, hb, hk⟩; replace HK := aM (KeepBut.trans z18 hk (.inl rfl)); replace HB := aM (hb); replace HI0 := aM (hi); (try clear hb); (try clear hk); (try clear hi); (try clear cI)))
 repeat (go_quiet (fail); try go_wp2_with (first | (go_at_call 86; (with_reducible refine (spec_l1Cur_pick.calls g s0_0 s0_1 s0_2 3 lJ ng nf w0 _ ?side1 ?side2 A4.out).mono ?_); (case side1 => exact y39); (case side2 => exact y30); rintro e w5 ⟨rfl, hi, hb, hk⟩; replace HK := aM (KeepBut.trans z18 hk (.inl rfl)); replace HB := aM (hb); replace HI0 := aM (hi); (try clear hb); (try clear hk); (try clear hi); (try clear cI))))
 go_loopg [1, 7] k (fun kq v1 v7 w' => ∃ (x1_1 : ByteArray) (x7_1 : Int) (x1001_1 : Int) (x1002_1 : Int), v1 = .string x1_1 ∧ v7 = .int .i64 x7_1 ∧ Aside0 (spec_l1Cur_spoilt.l0 kq x1_1 a2 x7_1 s0_0 x1001_1 x1002_1 = some (r1, r2, r3)) ∧ Aside0 (kq ≤ k) ∧ Aside0 (IsS95 w0 w' g s0_0 x1001_1 x1002_1) ∧ Aside0 (KeepBut w w' g none) ∧ Aside0 (Below w0.heap.size w0 w'))
 case atStart => exact ⟨(a1), (lJ), (ng), (nf), z1, z1, H', ⟨Nat.le_refl _⟩, ⟨y17⟩, ⟨y12⟩, ⟨y11⟩⟩
 case round =>
  clear H'
  obtain ⟨x1_1, x7_1, x1001_1, x1002_1, rfl, rfl, HA, HK1, HI0, HK, HB⟩ := hrel
  cases gk with
  | zero => exact absurd HA.out (by simp [spec_l1Cur_spoilt.l0])
  | succ k1 =>
   have H := HA.out
   clear HA
   simp only [spec_l1Cur_spoilt.l0] at H
   have iH := aM H
   clear H
   go_upto_region 2 with (fail)
   repeat (go_quiet (fail); go_upto_region 2 with (fail))
   go_cut [18] (fun v18 wc => ∃ (kq : Nat) (x18_5 : Bool), v18 = .bool x18_5 ∧ Aside0 (spec_l1Cur_spoilt.j1 kq x1_1 a2 x7_1 x18_5 s0_0 x1001_1 x1002_1 = some (r1, r2, r3)) ∧ Aside0 (kq ≤ k1) ∧ Aside0 (IsS95 w0 wc g s0_0 x1001_1 x1002_1) ∧ Aside0 (KeepBut w wc g none) ∧ Aside0 (Below w0.heap.size w0 wc))
   case first =>
    have H := iH.out
    clear iH
    by_cases c7 : x7_1 > 0
    ·rw [if_pos c7] at H
     have c7b0 : decide (0 < x7_1) = true := dT c7
     clear c7
     (first | rw [c7b0] | (simp only [i64_w, i32_w]; rw [c7b0]) | skip)
     have H' := aM H
     clear H
     go_wp2
     repeat (go_quiet (fail); try go_wp2)
     go_meet
     case rel => exact ⟨_, (decide ((x1_1.size : Int) > 0)), z1, H', ⟨y2⟩, ⟨y17⟩, ⟨y12⟩, ⟨y11⟩⟩
    ·rw [if_neg c7] at H
     have c7b0 : decide (0 < x7_1) = false := dF c7
     clear c7
     (first | rw [c7b0] | (simp only [i64_w, i32_w]; rw [c7b0]) | skip)
     have H' := aM H
     clear H
     go_wp2
     repeat (go_quiet (fail); try go_wp2)
     go_meet
     case rel => exact ⟨_, (false), z1, H', ⟨y2⟩, ⟨y17⟩, ⟨y12⟩, ⟨y11⟩⟩
   case rest =>
    clear iH
    try clear p2
    try clear p2
    obtain ⟨kq, x18_5, rfl, HA, mG, HI0, HK, HB⟩ := hcut
    cases kq with
    | zero => exact absurd HA.out (by simp [spec_l1Cur_spoilt.j1])
    | succ kj5 =>
     have H := HA.out
     clear HA
     simp only [spec_l1Cur_spoilt.j1] at H
     by_cases c8 : x18_5 = true
     ·subst c8
      rw [if_pos rfl] at H
      obtain ⟨⟨bO, ev, eu⟩, A9, H⟩ := oA_ H
      try dsimp only at H
      obtain ⟨⟨bS, dm, dl⟩, jP, H⟩ := oA_ H
      try dsimp only at H
      by_cases dk : 0 ≤ bS
      ·rw [if_pos dk] at H
       have c11b0 : decide (0 ≤ bS) = true := dT dk
       clear dk
       by_cases dA : bS < (a2.size : Int)
       ·rw [if_pos dA] at H
        have c12b0 : decide (bS < (a2.size : Int)) = true := dT dA
        clear dA
        obtain ⟨y213, hy213⟩ : ∃ y_ : List Int, y_ = (([bt a2 bS] : List Int)) := ⟨_, rfl⟩
        replace H : ((spec_l1Cur_pick.f s0_0 dm dl 3).bind fun dv => (if dv.1 = 0 then (if 0 ≤ bO then (if bO ≤ (x1_1.size : Int) then (if (x1_1.extract 0 (bO : Int).toNat).size + (strOfNums y213).size ≤ 9223372036854775807 then (if ((x1_1.extract 0 (bO : Int).toNat) ++ (strOfNums y213)).size + (x1_1.extract (bO : Int).toNat x1_1.size).size ≤ 9223372036854775807 then (spec_l1Cur_spoilt.l0 kj5 (((x1_1.extract 0 (bO : Int).toNat) ++ (strOfNums y213)) ++ (x1_1.extract (bO : Int).toNat x1_1.size)) a2 (wrap64 (x7_1 - 1)) s0_0 dv.2.1 dv.2.2) else (none)) else (none)) else (none)) else (none)) else (if dv.1 = 1 then (if 0 ≤ bO then (if bO ≤ (x1_1.size : Int) then (if (x1_1.extract 0 (bO : Int).toNat).size + (strOfNums y213).size ≤ 9223372036854775807 then (if 0 ≤ (wrap64 (bO + 1)) then (if (wrap64 (bO + 1)) ≤ (x1_1.size : Int) then (if ((x1_1.extract 0 (bO : Int).toNat) ++ (strOfNums y213)).size + (x1_1.extract ((wrap64 (bO + 1)) : Int).toNat x1_1.size).size ≤ 9223372036854775807 then (spec_l1Cur_spoilt.l0 kj5 (((x1_1.extract 0 (bO : Int).toNat) ++ (strOfNums y213)) ++ (x1_1.extract ((wrap64 (bO + 1)) : Int).toNat x1_1.size)) a2 (wrap64 (x7_1 - 1)) s0_0 dv.2.1 dv.2.2) else (none)) else (none)) else (none)) else (none)) else (none)) else (none)) else (if 0 ≤ bO then (if bO ≤ (x1_1.size : Int) then (if 0 ≤ (wrap64 (bO + 1)) then (if (wrap64 (bO + 1)) ≤ (x1_1.size : Int) then (if (x1_1.extract 0 (bO : Int).toNat).size + (x1_1.extract ((wrap64 (bO + 1)) : Int).toNat x1_1.size).size ≤ 9223372036854775807 then (spec_l1Cur_spoilt.l0 kj5 ((x1_1.extract 0 (bO : Int).toNat) ++ (x1_1.extract ((wrap64 (bO + 1)) : Int).toNat x1_1.size)) a2 (wrap64 (x7_1 - 1)) s0_0 dv.2.1 dv.2.2) else (none)) else (none)) else (none)) else (none)) else (none))))) = some (r1, r2, r3) := by first | (rw [hy213]; with_reducible exact H) | (have H2_ := (Option.bind_some _ _).symm.trans H; rw [hy213]; with_reducible exact H2_) | (have H2_ := (Option.bind_some _ _).symm.trans H; with_reducible exact H2_) | with_reducible exact H | (rw [hy213]; exact H) | exact H
        have Ny213 := aM hy213
        clear hy213
        obtain ⟨⟨ee, fg, ff⟩, fL, H⟩ := oA_ H
        try dsimp only at H
        by_cases dC : ee = 0
        ·rw [if_pos dC] at H
         have c15b0 : (ee == 0) = true := qT dC
         have c15b1 : (ee != 0) = false := nF dC
         clear dC
         by_cases dM : 0 ≤ bO
         ·rw [if_pos dM] at H
          have c16b0 := eq_true dM
          have c16b1 : decide (0 ≤ bO) = true := dT dM
          clear dM
          by_cases e6 : bO ≤ (x1_1.size : Int)
          ·rw [if_pos e6] at H
           have c17b0 := eq_true e6
           have c17b1 : decide (bO ≤ (x1_1.size : Int)) = true := dT e6
           clear e6
           by_cases jr : (x1_1.extract 0 (bO : Int).toNat).size + (strOfNums y213).size ≤ 9223372036854775807
           ·rw [if_pos jr] at H
            have c18b0 := eq_true jr
            have c18b1 : decide ((x1_1.extract 0 (bO : Int).toNat).size + (strOfNums y213).size ≤ 9223372036854775807) = true := dT jr
            try have c18b2 : (9223372036854775807 < (x1_1.extract 0 (bO : Int).toNat).size + (strOfNums y213).size) = False := eq_false (Nat.not_lt.2 jr)
            (try (have c18x : (9223372036854775807 < (bO).toNat + (strOfNums y213).size) = False := eq_false (fun h_ => by have e_ := of_eq_true c18b0; simp only [a5, aZ] at e_; have f0_ : (bO) ≤ (x1_1.size : Int) := (by first | assumption | exact of_eq_true (by assumption) | exact oD (by assumption)); omega)))
            have c19b0 := eq_true (oD z2 : 0 ≤ bO)
            have c20b0 := eq_true (oD z2 : bO ≤ (x1_1.size : Int))
            by_cases lU : ((x1_1.extract 0 (bO : Int).toNat) ++ (strOfNums y213)).size + (x1_1.extract (bO : Int).toNat x1_1.size).size ≤ 9223372036854775807
            ·rw [if_pos lU] at H
             have c21b0 := eq_true lU
             have c21b1 : decide (((x1_1.extract 0 (bO : Int).toNat) ++ (strOfNums y213)).size + (x1_1.extract (bO : Int).toNat x1_1.size).size ≤ 9223372036854775807) = true := dT lU
             try have c21b2 : (9223372036854775807 < ((x1_1.extract 0 (bO : Int).toNat) ++ (strOfNums y213)).size + (x1_1.extract (bO : Int).toNat x1_1.size).size) = False := eq_false (Nat.not_lt.2 lU)
             (try (have c21x : (9223372036854775807 < ((bO).toNat + (strOfNums y213).size) + (x1_1.size.toNat - (bO).toNat)) = False := eq_false (fun h_ => by have e_ := of_eq_true c21b0; simp only [a5, aZ] at e_; have f0_ : x1_1.size ≤ (x1_1.size : Int) := (by first | assumption | exact of_eq_true (by assumption) | exact oD (by assumption)); have f1_ : (bO) ≤ (x1_1.size : Int) := (by first | assumption | exact of_eq_true (by assumption) | exact oD (by assumption)); omega)))
             (try (have c21b2s := c21b2; simp only [aZ] at c21b2s))
             have H' := aM H
             clear H
             go_wp2_with (first | (go_at_call 86; (with_reducible refine (spec_l1Cur_pick.calls g s0_0 x1001_1 x1002_1 (x1_1.size : Int) bO ev eu w0 _ ?side1 ?side2 A9.out).mono ?_); (case side1 => exact y39); (case side2 => exact y30); rintro e w22 ⟨rfl, hi, hb, hk⟩; replace HK := aM (KeepBut.trans z18 hk (.inl rfl)); replace HB := aM (hb); replace HI0 := aM (hi); (try clear hb); (try clear hk); (try clear hi); (try clear cI)) | (go_at_call 86; (with_reducible refine (spec_l1Cur_pick.calls g s0_0 ev eu (a2.size : Int) bS dm dl w0 _ ?side1 ?side2 jP.out).mono ?_); (case side1 => exact y39); (case side2 => exact y30); rintro e w23 ⟨rfl, hi, hb, hk⟩; replace HK := aM (KeepBut.trans z18 hk (.inl rfl)); replace HB := aM (hb); replace HI0 := aM (hi); (try clear hb); (try clear hk); (try clear hi); (try clear cI); have p13 : 0 ≤ (bS : Int) := oD z2; have q13 : bS < (a2.size : Int) := oD z2; have hx13 := bt_at a2 bS; replace p13 := eq_true p13; replace q13 := eq_true q13) | ((with_reducible refine aK (N := 31) rfl ?_); (try (refine gate_guard (by rfl) ?_; dsimp only)); refine Kd.R_lit (Kd.int .u8) _ 5 ?hg (N := 31) ?hd (xs := ([bt a2 bS] : List Int)) (inner := [.int .u8 (bt a2 bS)]) (ok := fun _ => True) (okp := fun _ => True) ?hr ?hp (fun _ hk => hk) trivial (Below.refl _ _) (Nat.le_refl _) (by simp) ?_; (case hd => rfl); (case hg => rfl); (case hr => first | (go_simp; done) | (go_simp; rfl)); (case hp => exact (Reps.one (show Kd.M (Kd.int .u8) _ _ _ (bt a2 bS) [.int .u8 (bt a2 bS)] from rfl) (Reps.none _ _))); intro v214 w24 ho25 hb hg_ hnew_; clear hg_ hnew_; (first | rw [← Ny213.out] at ho25 | (simp only [Int.reduceToNat] at ho25; rw [← Ny213.out] at ho25)); have b5 := aM (aV ho25 (keep_size (w := w) (g := g) (row := none) z18)); replace HK := aM (KeepBut.trans z18 (KeepBut.of_below hb g none) (.inl rfl)); replace HB := aM (az z23 hb); replace HI0 := aM (IsS95.below z24 hb); clear hb ho25; have hcv26 := own_string (P := Try.prog) Try.underlying54 Try.underlying5 Try.underlying9 (Kd.own_of_R b5.out)) | (go_at_call 86; (with_reducible refine (spec_l1Cur_pick.calls g s0_0 dm dl 3 ee fg ff w0 _ ?side1 ?side2 fL.out).mono ?_); (case side1 => exact y39); (case side2 => exact y30); rintro e w27 ⟨rfl, hi, hb, hk⟩; replace b5 := aM (ah (Kd.R_keep (IsS95.apart (show IsS95 w0 _ g s0_0 dm dl from by (try simp only [Int.add_zero]); repeat (first | (with_reducible first | exact HI0.out | apply IsS95.alloc | apply IsS95.drewN | apply IsS95.drew | apply IsS95.set_1 | apply IsS95.set_2) | exact HI0.out)) (kR_ b5.out) (by decide)) hk (fun _ h => h.2)) (fun _ h => h.1)); replace HK := aM (KeepBut.trans z18 hk (.inl rfl)); replace HB := aM (hb); replace HI0 := aM (hi); (try clear hb); (try clear hk); (try clear hi); (try clear cI)))
             repeat (go_quiet (fail); try go_wp2_with (first | (go_at_call 86; (with_reducible refine (spec_l1Cur_pick.calls g s0_0 x1001_1 x1002_1 (x1_1.size : Int) bO ev eu w0 _ ?side1 ?side2 A9.out).mono ?_); (case side1 => exact y39); (case side2 => exact y30); rintro e w22 ⟨rfl, hi, hb, hk⟩; replace HK := aM (KeepBut.trans z18 hk (.inl rfl)); replace HB := aM (hb); replace HI0 := aM (hi); (try clear hb); (try clear hk); (try clear hi); (try clear cI)) | (go_at_call 86; (with_reducible refine (spec_l1Cur_pick.calls g s0_0 ev eu (a2.size : Int) bS dm dl w0 _ ?side1 ?side2 jP.out).mono ?_); (case side1 => exact y39); (case side2 => exact y30); rintro e w23 ⟨rfl, hi, hb, hk⟩; replace HK := aM (KeepBut.trans z18 hk (.inl rfl)); replace HB := aM (hb); replace HI0 := aM (hi); (try clear hb); (try clear hk); (try clear hi); (try clear cI); have p13 : 0 ≤ (bS : Int) := oD z2; have q13 : bS < (a2.size : Int) := oD z2; have hx13 := bt_at a2 bS; replace p13 := eq_true p13; replace q13 := eq_true q13) | ((with_reducible refine aK (N := 31) rfl ?_); (try (refine gate_guard (by rfl) ?_; dsimp only)); refine Kd.R_lit (Kd.int .u8) _ 5 ?hg (N := 31) ?hd (xs := ([bt a2 bS] : List Int)) (inner := [.int .u8 (bt a2 bS)]) (ok := fun _ => True) (okp := fun _ => True) ?hr ?hp (fun _ hk => hk) trivial (Below.refl _ _) (Nat.le_refl _) (by simp) ?_; (case hd => rfl); (case hg => rfl); (case hr => first | (go_simp; done) | (go_simp; rfl)); (case hp => exact (Reps.one (show Kd.M (Kd.int .u8) _ _ _ (bt a2 bS) [.int .u8 (bt a2 bS)] from rfl) (Reps.none _ _))); intro v214 w24 ho25 hb hg_ hnew_; clear hg_ hnew_; (first | rw [← Ny213.out] at ho25 | (simp only [Int.reduceToNat] at ho25; rw [← Ny213.out] at ho25)); have b5 := aM (aV ho25 (keep_size (w := w) (g := g) (row := none) z18)); replace HK := aM (KeepBut.trans z18 (KeepBut.of_below hb g none) (.inl rfl)); replace HB := aM (az z23 hb); replace HI0 := aM (IsS95.below z24 hb); clear hb ho25; have hcv26 := own_string (P := Try.prog) Try.underlying54 Try.underlying5 Try.underlying9 (Kd.own_of_R b5.out)) | (go_at_call 86; (with_reducible refine (spec_l1Cur_pick.calls g s0_0 dm dl 3 ee fg ff w0 _ ?side1 ?side2 fL.out).mono ?_); (case side1 => exact y39); (case side2 => exact y30); rintro e w27 ⟨rfl, hi, hb, hk⟩; replace b5 := aM (ah (Kd.R_keep (IsS95.apart (show IsS95 w0 _ g s0_0 dm dl from by (try simp only [Int.add_zero]); repeat (first | (with_reducible first | exact HI0.out | apply IsS95.alloc | apply IsS95.drewN | apply IsS95.drew | apply IsS95.set_1 | apply IsS95.set_2) | exact HI0.out)) (kR_ b5.out) (by decide)) hk (fun _ h => h.2)) (fun _ h => h.1)); replace HK := aM (KeepBut.trans z18 hk (.inl rfl)); replace HB := aM (hb); replace HI0 := aM (hi); (try clear hb); (try clear hk); (try clear hi); (try clear cI))))
             go_roundg kj5
             case measure => have := HK1.out; have := mG.out; omega
             case rel => exact ⟨(((x1_1.extract 0 (bO : Int).toNat) ++ (strOfNums y213)) ++ (x1_1.extract (bO : Int).toNat x1_1.size)), (wrap64 (x7_1 - 1)), (fg), (ff), z1, z1, H', ⟨by have := HK1.out; have := mG.out; omega⟩, ⟨y17⟩, ⟨y12⟩, ⟨y11⟩⟩
            ·rw [if_neg lU] at H
             exact absurd H (by simp)
           ·rw [if_neg jr] at H
            exact absurd H (by simp)
          ·rw [if_neg e6] at H
           exact absurd H (by simp)
         ·rw [if_neg dM] at H
          exact absurd H (by simp)
        ·rw [if_neg dC] at H
         have c15b0 : (ee == 0) = false := qF dC
         have c15b1 : (ee != 0) = true := nT dC
         by_cases lN : ee = 1
         ·rw [if_pos lN] at H
          have c28b0 : (ee == 1) = true := qT lN
          have c28b1 : (ee != 1) = false := nF lN
          clear lN
          by_cases eA : 0 ≤ bO
          ·rw [if_pos eA] at H
           have c29b0 := eq_true eA
           have c29b1 : decide (0 ≤ bO) = true := dT eA
           clear eA
           by_cases jq : bO ≤ (x1_1.size : Int)
           ·rw [if_pos jq] at H
            have c30b0 := eq_true jq
            have c30b1 : decide (bO ≤ (x1_1.size : Int)) = true := dT jq
            clear jq
            by_cases j6 : (x1_1.extract 0 (bO : Int).toNat).size + (strOfNums y213).size ≤ 9223372036854775807
            ·rw [if_pos j6] at H
             have c31b0 := eq_true j6
             have c31b1 : decide ((x1_1.extract 0 (bO : Int).toNat).size + (strOfNums y213).size ≤ 9223372036854775807) = true := dT j6
             try have c31b2 : (9223372036854775807 < (x1_1.extract 0 (bO : Int).toNat).size + (strOfNums y213).size) = False := eq_false (Nat.not_lt.2 j6)
             (try (have c31x : (9223372036854775807 < (bO).toNat + (strOfNums y213).size) = False := eq_false (fun h_ => by have e_ := of_eq_true c31b0; simp only [a5, aZ] at e_; have f0_ : (bO) ≤ (x1_1.size : Int) := (by first | assumption | exact of_eq_true (by assumption) | exact oD (by assumption)); omega)))
             obtain ⟨fm, fp⟩ : ∃ j_ : Int, (wrap64 (bO + 1)) = j_ := ⟨_, rfl⟩
             replace H : (if 0 ≤ (fm) then (if (fm) ≤ (x1_1.size : Int) then (if ((x1_1.extract 0 (bO : Int).toNat) ++ (strOfNums y213)).size + (x1_1.extract ((fm) : Int).toNat x1_1.size).size ≤ 9223372036854775807 then (spec_l1Cur_spoilt.l0 kj5 (((x1_1.extract 0 (bO : Int).toNat) ++ (strOfNums y213)) ++ (x1_1.extract ((fm) : Int).toNat x1_1.size)) a2 (wrap64 (x7_1 - 1)) s0_0 fg ff) else (none)) else (none)) else (none)) = some (r1, r2, r3) := by first | (rw [fp] at H; exact H) | (simp only [fp] at H ⊢; exact H)
             (try rw [fp] at A9)
             (try rw [fp] at jP)
             (try rw [fp] at fL)
             have hji32w : (IntKind.i64.wrap (bO + 1)) = fm := (i64_w _).trans fp
             by_cases lM : 0 ≤ (fm)
             ·rw [if_pos lM] at H
              have c33b0 := eq_true lM
              have c33b1 : decide (0 ≤ (fm)) = true := dT lM
              clear lM
              by_cases pZ : (fm) ≤ (x1_1.size : Int)
              ·rw [if_pos pZ] at H
               have c34b0 := eq_true pZ
               have c34b1 : decide ((fm) ≤ (x1_1.size : Int)) = true := dT pZ
               clear pZ
               by_cases mU : ((x1_1.extract 0 (bO : Int).toNat) ++ (strOfNums y213)).size + (x1_1.extract ((fm) : Int).toNat x1_1.size).size ≤ 9223372036854775807
               ·rw [if_pos mU] at H
                have c35b0 := eq_true mU
                have c35b1 : decide (((x1_1.extract 0 (bO : Int).toNat) ++ (strOfNums y213)).size + (x1_1.extract ((fm) : Int).toNat x1_1.size).size ≤ 9223372036854775807) = true := dT mU
                try have c35b2 : (9223372036854775807 < ((x1_1.extract 0 (bO : Int).toNat) ++ (strOfNums y213)).size + (x1_1.extract ((fm) : Int).toNat x1_1.size).size) = False := eq_false (Nat.not_lt.2 mU)
                (try (have c35x : (9223372036854775807 < ((bO).toNat + (strOfNums y213).size) + (x1_1.size.toNat - (fm).toNat)) = False := eq_false (fun h_ => by have e_ := of_eq_true c35b0; simp only [a5, aZ] at e_; have f0_ : x1_1.size ≤ (x1_1.size : Int) := (by first | assumption | exact of_eq_true (by assumption) | exact oD (by assumption)); have f1_ : (bO) ≤ (x1_1.size : Int) := (by first | assumption | exact of_eq_true (by assumption) | exact oD (by assumption)); omega)))
                (try (have c35b2s := c35b2; simp only [aZ] at c35b2s))
                have H' := aM H
                clear H
                go_wp2_with (first | (go_at_call 86; (with_reducible refine (spec_l1Cur_pick.calls g s0_0 x1001_1 x1002_1 (x1_1.size : Int) bO ev eu w0 _ ?side1 ?side2 A9.out).mono ?_); (case side1 => exact y39); (case side2 => exact y30); rintro e w36 ⟨rfl, hi, hb, hk⟩; replace HK := aM (KeepBut.trans z18 hk (.inl rfl)); replace HB := aM (hb); replace HI0 := aM (hi); (try clear hb); (try clear hk); (try clear hi); (try clear cI)) | (go_at_call 86; (with_reducible refine (spec_l1Cur_pick.calls g s0_0 ev eu (a2.size : Int) bS dm dl w0 _ ?side1 ?side2 jP.out).mono ?_); (case side1 => exact y39); (case side2 => exact y30); rintro e w37 ⟨rfl, hi, hb, hk⟩; replace HK := aM (KeepBut.trans z18 hk (.inl rfl)); replace HB := aM (hb); replace HI0 := aM (hi); (try clear hb); (try clear hk); (try clear hi); (try clear cI); have p13 : 0 ≤ (bS : Int) := oD z2; have q13 : bS < (a2.size : Int) := oD z2; have hx13 := bt_at a2 bS; replace p13 := eq_true p13; replace q13 := eq_true q13) | ((with_reducible refine aK (N := 31) rfl ?_); (try (refine gate_guard (by rfl) ?_; dsimp only)); refine Kd.R_lit (Kd.int .u8) _ 5 ?hg (N := 31) ?hd (xs := ([bt a2 bS] : List Int)) (inner := [.int .u8 (bt a2 bS)]) (ok := fun _ => True) (okp := fun _ => True) ?hr ?hp (fun _ hk => hk) trivial (Below.refl _ _) (Nat.le_refl _) (by simp) ?_; (case hd => rfl); (case hg => rfl); (case hr => first | (go_simp; done) | (go_simp; rfl)); (case hp => exact (Reps.one (show Kd.M (Kd.int .u8) _ _ _ (bt a2 bS) [.int .u8 (bt a2 bS)] from rfl) (Reps.none _ _))); intro v214 w38 ho39 hb hg_ hnew_; clear hg_ hnew_; (first | rw [← Ny213.out] at ho39 | (simp only [Int.reduceToNat] at ho39; rw [← Ny213.out] at ho39)); have b5 := aM (aV ho39 (keep_size (w := w) (g := g) (row := none) z18)); replace HK := aM (KeepBut.trans z18 (KeepBut.of_below hb g none) (.inl rfl)); replace HB := aM (az z23 hb); replace HI0 := aM (IsS95.below z24 hb); clear hb ho39; have hcv40 := own_string (P := Try.prog) Try.underlying54 Try.underlying5 Try.underlying9 (Kd.own_of_R b5.out)) | (go_at_call 86; (with_reducible refine (spec_l1Cur_pick.calls g s0_0 dm dl 3 ee fg ff w0 _ ?side1 ?side2 fL.out).mono ?_); (case side1 => exact y39); (case side2 => exact y30); rintro e w41 ⟨rfl, hi, hb, hk⟩; replace b5 := aM (ah (Kd.R_keep (IsS95.apart (show IsS95 w0 _ g s0_0 dm dl from by (try simp only [Int.add_zero]); repeat (first | (with_reducible first | exact HI0.out | apply IsS95.alloc | apply IsS95.drewN | apply IsS95.drew | apply IsS95.set_1 | apply IsS95.set_2) | exact HI0.out)) (kR_ b5.out) (by decide)) hk (fun _ h => h.2)) (fun _ h => h.1)); replace HK := aM (KeepBut.trans z18 hk (.inl rfl)); replace HB := aM (hb); replace HI0 := aM (hi); (try clear hb); (try clear hk); (try clear hi); (try clear cI)))
                repeat (go_quiet (fail); try go_wp2_with (first | (go_at_call 86; (with_reducible refine (spec_l1Cur_pick.calls g s0_0 x1001_1 x1002_1 (x1_1.size : Int) bO ev eu w0 _ ?side1 ?side2 A9.out).mono ?_); (case side1 => exact y39); (case side2 => exact y30); rintro e w36 ⟨rfl, hi, hb, hk⟩; replace HK := aM (KeepBut.trans z18 hk (.inl rfl)); replace HB := aM (hb); replace HI0 := aM (hi); (try clear hb); (try clear hk); (try clear hi); (try clear cI)) | (go_at_call 86; (with_reducible refine (spec_l1Cur_pick.calls g s0_0 ev eu (a2.size : Int) bS dm dl w0 _ ?side1 ?side2 jP.out).mono ?_); (case side1 => exact y39); (case side2 => exact y30); rintro e w37 ⟨rfl, hi, hb, hk⟩; replace HK := aM (KeepBut.trans z18 hk (.inl rfl)); replace HB := aM (hb); replace HI0 := aM (hi); (try clear hb); (try clear hk); (try clear hi); (try clear cI); have p13 : 0 ≤ (bS : Int) := oD z2; have q13 : bS < (a2.size : Int) := oD z2; have hx13 := bt_at a2 bS; replace p13 := eq_true p13; replace q13 := eq_true q13) | ((with_reducible refine aK (N := 31) rfl ?_); (try (refine gate_guard (by rfl) ?_; dsimp only)); refine Kd.R_lit (Kd.int .u8) _ 5 ?hg (N := 31) ?hd (xs := ([bt a2 bS] : List Int)) (inner := [.int .u8 (bt a2 bS)]) (ok := fun _ => True) (okp := fun _ => True) ?hr ?hp (fun _ hk => hk) trivial (Below.refl _ _) (Nat.le_refl _) (by simp) ?_; (case hd => rfl); (case hg => rfl); (case hr => first | (go_simp; done) | (go_simp; rfl)); (case hp => exact (Reps.one (show Kd.M (Kd.int .u8) _ _ _ (bt a2 bS) [.int .u8 (bt a2 bS)] from rfl) (Reps.none _ _))); intro v214 w38 ho39 hb hg_ hnew_; clear hg_ hnew_; (first | rw [← Ny213.out] at ho39 | (simp only [Int.reduceToNat] at ho39; rw [← Ny213.out] at ho39)); have b5 := aM (aV ho39 (keep_size (w := w) (g := g) (row := none) z18)); replace HK := aM (KeepBut.trans z18 (KeepBut.of_below hb g none) (.inl rfl)); replace HB := aM (az z23 hb); replace HI0 := aM (IsS95.below z24 hb); clear hb ho39; have hcv40 := own_string (P := Try.prog) Try.underlying54 Try.underlying5 Try.underlying9 (Kd.own_of_R b5.out)) | (go_at_call 86; (with_reducible refine (spec_l1Cur_pick.calls g s0_0 dm dl 3 ee fg ff w0 _ ?side1 ?side2 fL.out).mono ?_); (case side1 => exact y39); (case side2 => exact y30); rintro e w41 ⟨rfl, hi, hb, hk⟩; replace b5 := aM (ah (Kd.R_keep (IsS95.apart (show IsS95 w0 _ g s0_0 dm dl from by (try simp only [Int.add_zero]); repeat (first | (with_reducible first | exact HI0.out | apply IsS95.alloc | apply IsS95.drewN | apply IsS95.drew | apply IsS95.set_1 | apply IsS95.set_2) | exact HI0.out)) (kR_ b5.out) (by decide)) hk (fun _ h => h.2)) (fun _ h => h.1)); replace HK := aM (KeepBut.trans z18 hk (.inl rfl)); replace HB := aM (hb); replace HI0 := aM (hi); (try clear hb); (try clear hk); (try clear hi); (try clear cI))))
                go_roundg kj5
                case measure => have := HK1.out; have := mG.out; omega
                case rel => exact ⟨(((x1_1.extract 0 (bO : Int).toNat) ++ (strOfNums y213)) ++ (x1_1.extract ((fm) : Int).toNat x1_1.size)), (wrap64 (x7_1 - 1)), (fg), (ff), (by first | rfl | (simp; done) | (simp only [← fp] <;> (first | rfl | (simp; done) | (simp; generalize ByteArray.toList _ = u_; cases u_ <;> (first | rfl | (simp; done))))) | (simp [*]; done)), z1, (by first | exact H' | (simp only [fp]; exact H') | (simp only [← fp]; exact H')), ⟨by have := HK1.out; have := mG.out; omega⟩, ⟨y17⟩, ⟨y12⟩, ⟨y11⟩⟩
               ·rw [if_neg mU] at H
                exact absurd H (by simp)
              ·rw [if_neg pZ] at H
               exact absurd H (by simp)
             ·rw [if_neg lM] at H
              exact absurd H (by simp)
            ·rw [if_neg j6] at H
             exact absurd H (by simp)
           ·rw [if_neg jq] at H
            exact absurd H (by simp)
          ·rw [if_neg eA] at H
           exact absurd H (by simp)
         ·rw [if_neg lN] at H
          have c28b0 : (ee == 1) = false := qF lN
          have c28b1 : (ee != 1) = true := nT lN
          by_cases lL : 0 ≤ bO
          ·rw [if_pos lL] at H
           have c42b0 := eq_true lL
           have c42b1 : decide (0 ≤ bO) = true := dT lL
           clear lL
           by_cases pY : bO ≤ (x1_1.size : Int)
           ·rw [if_pos pY] at H
            have c43b0 := eq_true pY
            have c43b1 : decide (bO ≤ (x1_1.size : Int)) = true := dT pY
            clear pY
            obtain ⟨fl, fo⟩ : ∃ j_ : Int, (wrap64 (bO + 1)) = j_ := ⟨_, rfl⟩
            replace H : (if 0 ≤ (fl) then (if (fl) ≤ (x1_1.size : Int) then (if (x1_1.extract 0 (bO : Int).toNat).size + (x1_1.extract ((fl) : Int).toNat x1_1.size).size ≤ 9223372036854775807 then (spec_l1Cur_spoilt.l0 kj5 ((x1_1.extract 0 (bO : Int).toNat) ++ (x1_1.extract ((fl) : Int).toNat x1_1.size)) a2 (wrap64 (x7_1 - 1)) s0_0 fg ff) else (none)) else (none)) else (none)) = some (r1, r2, r3) := by first | (rw [fo] at H; exact H) | (simp only [fo] at H ⊢; exact H)
            (try rw [fo] at A9)
            (try rw [fo] at jP)
            (try rw [fo] at fL)
            have hji44w : (IntKind.i64.wrap (bO + 1)) = fl := (i64_w _).trans fo
            by_cases pX : 0 ≤ (fl)
            ·rw [if_pos pX] at H
             have c45b0 := eq_true pX
             have c45b1 : decide (0 ≤ (fl)) = true := dT pX
             clear pX
             by_cases pW : (fl) ≤ (x1_1.size : Int)
             ·rw [if_pos pW] at H
              have c46b0 := eq_true pW
              have c46b1 : decide ((fl) ≤ (x1_1.size : Int)) = true := dT pW
              clear pW
              by_cases pV : (x1_1.extract 0 (bO : Int).toNat).size + (x1_1.extract ((fl) : Int).toNat x1_1.size).size ≤ 9223372036854775807
              ·rw [if_pos pV] at H
               have c47b0 := eq_true pV
               have c47b1 : decide ((x1_1.extract 0 (bO : Int).toNat).size + (x1_1.extract ((fl) : Int).toNat x1_1.size).size ≤ 9223372036854775807) = true := dT pV
               try have c47b2 : (9223372036854775807 < (x1_1.extract 0 (bO : Int).toNat).size + (x1_1.extract ((fl) : Int).toNat x1_1.size).size) = False := eq_false (Nat.not_lt.2 pV)
               (try (have c47x : (9223372036854775807 < (bO).toNat + (x1_1.size.toNat - (fl).toNat)) = False := eq_false (fun h_ => by have e_ := of_eq_true c47b0; simp only [a5, aZ] at e_; have f0_ : x1_1.size ≤ (x1_1.size : Int) := (by first | assumption | exact of_eq_true (by assumption) | exact oD (by assumption)); have f1_ : (bO) ≤ (x1_1.size : Int) := (by first | assumption | exact of_eq_true (by assumption) | exact oD (by assumption)); omega)))
               have H' := aM H
               clear H
               go_wp2_with (first | (go_at_call 86; (with_reducible refine (spec_l1Cur_pick.calls g s0_0 x1001_1 x1002_1 (x1_1.size : Int) bO ev eu w0 _ ?side1 ?side2 A9.out).mono ?_); (case side1 => exact y39); (case side2 => exact y30); rintro e w48 ⟨rfl, hi, hb, hk⟩; replace HK := aM (KeepBut.trans z18 hk (.inl rfl)); replace HB := aM (hb); replace HI0 := aM (hi); (try clear hb); (try clear hk); (try clear hi); (try clear cI)) | (go_at_call 86; (with_reducible refine (spec_l1Cur_pick.calls g s0_0 ev eu (a2.size : Int) bS dm dl w0 _ ?side1 ?side2 jP.out).mono ?_); (case side1 => exact y39); (case side2 => exact y30); rintro e w49 ⟨rfl, hi, hb, hk⟩; replace HK := aM (KeepBut.trans z18 hk (.inl rfl)); replace HB := aM (hb); replace HI0 := aM (hi); (try clear hb); (try clear hk); (try clear hi); (try clear cI); have p13 : 0 ≤ (bS : Int) := oD z2; have q13 : bS < (a2.size : Int) := oD z2; have hx13 := bt_at a2 bS; replace p13 := eq_true p13; replace q13 := eq_true q13) | ((with_reducible refine aK (N := 31) rfl ?_); (try (refine gate_guard (by rfl) ?_; dsimp only)); refine Kd.R_lit (Kd.int .u8) _ 5 ?hg (N := 31) ?hd (xs := ([bt a2 bS] : List Int)) (inner := [.int .u8 (bt a2 bS)]) (ok := fun _ => True) (okp := fun _ => True) ?hr ?hp (fun _ hk => hk) trivial (Below.refl _ _) (Nat.le_refl _) (by simp) ?_; (case hd => rfl); (case hg => rfl); (case hr => first | (go_simp; done) | (go_simp; rfl)); (case hp => exact (Reps.one (show Kd.M (Kd.int .u8) _ _ _ (bt a2 bS) [.int .u8 (bt a2 bS)] from rfl) (Reps.none _ _))); intro v214 w50 ho51 hb hg_ hnew_; clear hg_ hnew_; (first | rw [← Ny213.out] at ho51 | (simp only [Int.reduceToNat] at ho51; rw [← Ny213.out] at ho51)); have b5 := aM (aV ho51 (keep_size (w := w) (g := g) (row := none) z18)); replace HK := aM (KeepBut.trans z18 (KeepBut.of_below hb g none) (.inl rfl)); replace HB := aM (az z23 hb); replace HI0 := aM (IsS95.below z24 hb); clear hb ho51; have hcv52 := own_string (P := Try.prog) Try.underlying54 Try.underlying5 Try.underlying9 (Kd.own_of_R b5.out)) | (go_at_call 86; (with_reducible refine (spec_l1Cur_pick.calls g s0_0 dm dl 3 ee fg ff w0 _ ?side1 ?side2 fL.out).mono ?_); (case side1 => exact y39); (case side2 => exact y30); rintro e w53 ⟨rfl, hi, hb, hk⟩; replace b5 := aM (ah (Kd.R_keep (IsS95.apart (show IsS95 w0 _ g s0_0 dm dl from by (try simp only [Int.add_zero]); repeat (first | (with_reducible first | exact HI0.out | apply IsS95.alloc | apply IsS95.drewN | apply IsS95.drew | apply IsS95.set_1 | apply IsS95.set_2) | exact HI0.out)) (kR_ b5.out) (by decide)) hk (fun _ h => h.2)) (fun _ h => h.1)); replace HK := aM (KeepBut.trans z18 hk (.inl rfl)); replace HB := aM (hb); replace HI0 := aM (hi); (try clear hb); (try clear hk); (try clear hi); (try clear cI)))
               repeat (go_quiet (fail); try go_wp2_with (first | (go_at_call 86; (with_reducible refine (spec_l1Cur_pick.calls g s0_0 x1001_1 x1002_1 (x1_1.size : Int) bO ev eu w0 _ ?side1 ?side2 A9.out).mono ?_); (case side1 => exact y39); (case side2 => exact y30); rintro e w48 ⟨rfl, hi, hb, hk⟩; replace HK := aM (KeepBut.trans z18 hk (.inl rfl)); replace HB := aM (hb); replace HI0 := aM (hi); (try clear hb); (try clear hk); (try clear hi); (try clear cI)) | (go_at_call 86; (with_reducible refine (spec_l1Cur_pick.calls g s0_0 ev eu (a2.size : Int) bS dm dl w0 _ ?side1 ?side2 jP.out).mono ?_); (case side1 => exact y39); (case side2 => exact y30); rintro e w49 ⟨rfl, hi, hb, hk⟩; replace HK := aM (KeepBut.trans z18 hk (.inl rfl)); replace HB := aM (hb); replace HI0 := aM (hi); (try clear hb); (try clear hk); (try clear hi); (try clear cI); have p13 : 0 ≤ (bS : Int) := oD z2; have q13 : bS < (a2.size : Int) := oD z2; have hx13 := bt_at a2 bS; replace p13 := eq_true p13; replace q13 := eq_true q13) | ((with_reducible refine aK (N := 31) rfl ?_); (try (refine gate_guard (by rfl) ?_; dsimp only)); refine Kd.R_lit (Kd.int .u8) _ 5 ?hg (N := 31) ?hd (xs := ([bt a2 bS] : List Int)) (inner := [.int .u8 (bt a2 bS)]) (ok := fun _ => True) (okp := fun _ => True) ?hr ?hp (fun _ hk => hk) trivial (Below.refl _ _) (Nat.le_refl _) (by simp) ?_; (case hd => rfl); (case hg => rfl); (case hr => first | (go_simp; done) | (go_simp; rfl)); (case hp => exact (Reps.one (show Kd.M (Kd.int .u8) _ _ _ (bt a2 bS) [.int .u8 (bt a2 bS)] from rfl) (Reps.none _ _))); intro v214 w50 ho51 hb hg_ hnew_; clear hg_ hnew_; (first | rw [← Ny213.out] at ho51 | (simp only [Int.reduceToNat] at ho51; rw [← Ny213.out] at ho51)); have b5 := aM (aV ho51 (keep_size (w := w) (g := g) (row := none) z18)); replace HK := aM (KeepBut.trans z18 (KeepBut.of_below hb g none) (.inl rfl)); replace HB := aM (az z23 hb); replace HI0 := aM (IsS95.below z24 hb); clear hb ho51; have hcv52 := own_string (P := Try.prog) Try.underlying54 Try.underlying5 Try.underlying9 (Kd.own_of_R b5.out)) | (go_at_call 86; (with_reducible refine (spec_l1Cur_pick.calls g s0_0 dm dl 3 ee fg ff w0 _ ?side1 ?side2 fL.out).mono ?_); (case side1 => exact y39); (case side2 => exact y30); rintro e w53 ⟨rfl, hi, hb, hk⟩; replace b5 := aM (ah (Kd.R_keep (IsS95.apart (show IsS95 w0 _ g s0_0 dm dl from by (try simp only [Int.add_zero]); repeat (first | (with_reducible first | exact HI0.out | apply IsS95.alloc | apply IsS95.drewN | apply IsS95.drew | apply IsS95.set_1 | apply IsS95.set_2) | exact HI0.out)) (kR_ b5.out) (by decide)) hk (fun _ h => h.2)) (fun _ h => h.1)); replace HK := aM (KeepBut.trans z18 hk (.inl rfl)); replace HB := aM (hb); replace HI0 := aM (hi); (try clear hb); (try clear hk); (try clear hi); (try clear cI))))
               go_roundg kj5
               case measure => have := HK1.out; have := mG.out; omega
               case rel => exact ⟨((x1_1.extract 0 (bO : Int).toNat) ++ (x1_1.extract ((fl) : Int).toNat x1_1.size)), (wrap64 (x7_1 - 1)), (fg), (ff), (by first | rfl | (simp; done) | (simp only [← fo] <;> (first | rfl | (simp; done) | (simp; generalize ByteArray.toList _ = u_; cases u_ <;> (first | rfl | (simp; done))))) | (simp [*]; done)), z1, (by first | exact H' | (simp only [fo]; exact H') | (simp only [← fo]; exact H')), ⟨by have := HK1.out; have := mG.out; omega⟩, ⟨y17⟩, ⟨y12⟩, ⟨y11⟩⟩
              ·rw [if_neg pV] at H
               exact absurd H (by simp)
             ·rw [if_neg pW] at H
              exact absurd H (by simp)
            ·rw [if_neg pX] at H
             exact absurd H (by simp)
           ·rw [if_neg pY] at H
            exact absurd H (by simp)
          ·rw [if_neg lL] at H
           exact absurd H (by simp)
       ·rw [if_neg dA] at H
        exact absurd H (by simp)
      ·rw [if_neg dk] at H
       exact absurd H (by simp)
     ·replace c8 := Bool.eq_false_iff.mpr c8
      subst c8
      rw [if_neg nF_] at H
      simp only [Option.some.injEq, Prod.mk.injEq] at H
      obtain ⟨rfl, rfl, rfl⟩ := H
      go_wp2
      repeat (go_quiet (fail); try go_wp2)
      go_ret
      exact ⟨y4, y17, y11, y12⟩

/-! ### spec_l1Cur_doc: function 72 -/
def spec_l1Cur_doc.j0 : Nat → ByteArray → List Int → Int → Int → Option (ByteArray × Int × Int)
 | 0, _, _, _, _ => none
 | k + 1, x3, x1000, x1001, x1002 => (spec_l1Cur_one.f x1000 x1001 x1002 12).bind fun jH => (if jH.1 = true then ((spec_l1Cur_spoilt.f k x1000 jH.2.1 jH.2.2 x3 (⟨#[65, 47, 97, 90]⟩ : ByteArray)).bind fun mD => (some (mD.1, mD.2.1, mD.2.2))) else (some (x3, jH.2.1, jH.2.2)))
def spec_l1Cur_doc.f (k : Nat) (s0_0 : List Int) (s0_1 : Int) (s0_2 : Int) : Option (ByteArray × Int × Int) := (spec_l1Cur_pick.f s0_0 s0_1 s0_2 7).bind fun hJ => ((spec_l1Cur_inner.f k s0_0 hJ.2.1 hJ.2.2 hJ.1 3).bind fun hH => ((spec_l1Cur_pick.f s0_0 hH.2.1 hH.2.2 30).bind fun du => (if du.1 = 0 then ((spec_l1Cur_inner.f k s0_0 du.2.1 du.2.2 60 3).bind fun hG => (spec_l1Cur_doc.j0 k hG.1 s0_0 hG.2.1 hG.2.2)) else (if du.1 = 1 then ((spec_l1Cur_of.f s0_0 du.2.1 du.2.2 (([(⟨#[65, 65, 65, 65, 65, 65, 65, 65, 65, 65, 65, 65, 47, 47, 47, 47, 47, 47, 47, 47, 47, 47, 47, 47]⟩ : ByteArray), (⟨#[65, 65, 65, 65, 65, 65, 65, 65, 65, 65, 65, 65, 65, 47, 47, 47, 47, 47, 47, 47, 47, 47, 47, 47, 47, 47]⟩ : ByteArray)] : List ByteArray))).bind fun eD => (spec_l1Cur_doc.j0 k eD.1 s0_0 eD.2.1 eD.2.2)) else (spec_l1Cur_doc.j0 k hH.1 s0_0 du.2.1 du.2.2)))))
theorem spec_l1Cur_doc.mono_l : ∀ k, (∀ y0 y1 y2 y3, LeO (spec_l1Cur_doc.j0 k y0 y1 y2 y3) (spec_l1Cur_doc.j0 (k + 1) y0 y1 y2 y3))
 | 0 => fun _ _ _ _ r h => by simp [spec_l1Cur_doc.j0] at h
 | k + 1 => by
  have ih0 := spec_l1Cur_doc.mono_l k
  ·intro y0 y1 y2 y3
   unfold spec_l1Cur_doc.j0
   repeat' first
   | (with_reducible exact ih0 _ _ _ _)
   | (with_reducible exact spec_l1Cur_inner.mono _ _ _ _ _ _)
   | (with_reducible exact spec_l1Cur_spoilt.mono _ _ _ _ _ _)
   | (with_reducible exact LeO.refl _)
   | (with_reducible exact LeO.none _)
   | (with_reducible refine LeO.ite ?_ ?_)
   | (with_reducible refine LeO.bind ?_ (fun _ => ?_))
theorem spec_l1Cur_doc.mono : ∀ a0 a1 a2 k, LeO (spec_l1Cur_doc.f k a0 a1 a2) (spec_l1Cur_doc.f (k + 1) a0 a1 a2) := by
 intro a0 a1 a2 k
 have ih0 := spec_l1Cur_doc.mono_l k
 unfold spec_l1Cur_doc.f
 repeat' first
   | (with_reducible exact ih0 _ _ _ _)
   | (with_reducible exact spec_l1Cur_inner.mono _ _ _ _ _ _)
   | (with_reducible exact spec_l1Cur_spoilt.mono _ _ _ _ _ _)
   | (with_reducible exact LeO.refl _)
   | (with_reducible exact LeO.none _)
   | (with_reducible refine LeO.ite ?_ ?_)
   | (with_reducible refine LeO.bind ?_ (fun _ => ?_))
set_option maxHeartbeats 8000000 in
set_option maxRecDepth 100000 in
theorem spec_l1Cur_doc.calls (k : Nat) (g : Nat) (s0_0 : List Int) (s0_1 : Int) (s0_2 : Int) (r1 : ByteArray) (r2 : Int) (r3 : Int) (w0 w : World) (hI : IsS95 w0 w g s0_0 s0_1 s0_2) (hB : Below w0.heap.size w0 w) (h : spec_l1Cur_doc.f k s0_0 s0_1 s0_2 = some (r1, r2, r3)) :
  Calls Try.prog 72 #[.pointer (some ⟨g, 0, none⟩)] w fun e w' => e = .returned (.string r1) ∧ IsS95 w0 w' g s0_0 r2 r3 ∧ Below w0.heap.size w0 w' ∧ KeepBut w w' g none := by
 have HI0 := aM hI
 have HK := aM (KeepBut.refl w g none)
 have HL := aM hB.size
 clear hI
 have HW0 := aM hB.size
 have HB := aM hB
 clear hB
 have H : ((spec_l1Cur_pick.f s0_0 s0_1 s0_2 7).bind fun hJ => ((spec_l1Cur_inner.f k s0_0 hJ.2.1 hJ.2.2 hJ.1 3).bind fun hH => ((spec_l1Cur_pick.f s0_0 hH.2.1 hH.2.2 30).bind fun du => (if du.1 = 0 then ((spec_l1Cur_inner.f k s0_0 du.2.1 du.2.2 60 3).bind fun hG => (spec_l1Cur_doc.j0 k hG.1 s0_0 hG.2.1 hG.2.2)) else (if du.1 = 1 then ((spec_l1Cur_of.f s0_0 du.2.1 du.2.2 (([(⟨#[65, 65, 65, 65, 65, 65, 65, 65, 65, 65, 65, 65, 47, 47, 47, 47, 47, 47, 47, 47, 47, 47, 47, 47]⟩ : ByteArray), (⟨#[65, 65, 65, 65, 65, 65, 65, 65, 65, 65, 65, 65, 65, 47, 47, 47, 47, 47, 47, 47, 47, 47, 47, 47, 47, 47]⟩ : ByteArray)] : List ByteArray))).bind fun eD => (spec_l1Cur_doc.j0 k eD.1 s0_0 eD.2.1 eD.2.2)) else (spec_l1Cur_doc.j0 k hH.1 s0_0 du.2.1 du.2.2)))))) = some (r1, r2, r3) := h
 clear h
 obtain ⟨⟨oN, nc, pL⟩, A2, H⟩ := oA_ H
 try dsimp only at H
 obtain ⟨⟨pK, pJ, pI⟩, A3, H⟩ := oA_ H
 try dsimp only at H
 obtain ⟨⟨gF, lI, lH⟩, A4, H⟩ := oA_ H
 try dsimp only at H
 have fH := aM H
 clear H
 go_enter Try.func72, Try.ntmps72
 go_upto_block 0 with (first | ((with_reducible refine aJ (f := 86) rfl ?_); refine aQ (some 6) rfl rfl Try.func86 z0 rfl #[.pointer (some ⟨g, 0, none⟩), .int .i64 7] rfl z17 ?_; (with_reducible refine (spec_l1Cur_pick.calls g s0_0 s0_1 s0_2 7 oN nc pL w0 _ ?side1 ?side2 A2.out).mono ?_); (case side1 => exact y39); (case side2 => exact y30); rintro e w6 ⟨rfl, hi, hb, hk⟩; refine ⟨_, rfl, ?_⟩; replace HK := aM (KeepBut.trans z18 hk (.inl rfl)); replace HB := aM (hb); replace HI0 := aM (hi); (try clear hb); (try clear hk); (try clear hi); (try clear cI)) | ((with_reducible refine aJ (f := 85) rfl ?_); refine aQ (some 7) rfl rfl Try.func85 z0 rfl #[.pointer (some ⟨g, 0, none⟩), .int .i64 oN, .int .i64 3] rfl z17 ?_; (with_reducible refine (spec_l1Cur_inner.calls k g s0_0 nc pL oN 3 pK pJ pI w0 _ ?side1 ?side2 A3.out).mono ?_); (case side1 => exact y39); (case side2 => exact y30); rintro e w7 ⟨rfl, hi, hb, hk⟩; refine ⟨_, rfl, ?_⟩; replace HK := aM (KeepBut.trans z18 hk (.inl rfl)); replace HB := aM (hb); replace HI0 := aM (hi); (try clear hb); (try clear hk); (try clear hi); (try clear cI)) | ((with_reducible refine aJ (f := 86) rfl ?_); refine aQ (some 9) rfl rfl Try.func86 z0 rfl #[.pointer (some ⟨g, 0, none⟩), .int .i64 30] rfl z17 ?_; (with_reducible refine (spec_l1Cur_pick.calls g s0_0 pJ pI 30 gF lI lH w0 _ ?side1 ?side2 A4.out).mono ?_); (case side1 => exact y39); (case side2 => exact y30); rintro e w8 ⟨rfl, hi, hb, hk⟩; refine ⟨_, rfl, ?_⟩; replace HK := aM (KeepBut.trans z18 hk (.inl rfl)); replace HB := aM (hb); replace HI0 := aM (hi); (try clear hb); (try clear hk); (try clear hi); (try clear cI)))
 (try simp only [Act.put, sA, sB, sC])
 go_cut [3] (fun v3 wc => ∃ (kq : Nat) (x3_4 : ByteArray) (x1001_4 : Int) (x1002_4 : Int), v3 = .string x3_4 ∧ Aside0 (spec_l1Cur_doc.j0 kq x3_4 s0_0 x1001_4 x1002_4 = some (r1, r2, r3)) ∧ Aside0 (kq ≤ k) ∧ Aside0 (IsS95 w0 wc g s0_0 x1001_4 x1002_4) ∧ Aside0 (KeepBut w wc g none) ∧ Aside0 (Below w0.heap.size w0 wc))
 case first =>
  have H := fH.out
  clear fH
  by_cases c9 : gF = 0
  ·rw [if_pos c9] at H
   have c9b0 : (gF == 0) = true := qT c9
   have c9b1 : (gF != 0) = false := nF c9
   clear c9
   (first | rw [c9b0] | (simp only [i64_w, i32_w]; rw [c9b0]) | skip)
   obtain ⟨⟨pH, nb, pG⟩, jP, H⟩ := oA_ H
   try dsimp only at H
   have H' := aM H
   clear H
   go_wp2_with (first | ((with_reducible refine aJ (f := 85) rfl ?_); refine aQ (some 13) rfl rfl Try.func85 z0 rfl #[.pointer (some ⟨g, 0, none⟩), .int .i64 60, .int .i64 3] rfl z17 ?_; (with_reducible refine (spec_l1Cur_inner.calls k g s0_0 lI lH 60 3 pH nb pG w0 _ ?side1 ?side2 jP.out).mono ?_); (case side1 => exact y39); (case side2 => exact y30); rintro e w11 ⟨rfl, hi, hb, hk⟩; refine ⟨_, rfl, ?_⟩; replace HK := aM (KeepBut.trans z18 hk (.inl rfl)); replace HB := aM (hb); replace HI0 := aM (hi); (try clear hb); (try clear hk); (try clear hi); (try clear cI)))
   go_meet
   case rel => exact ⟨_, (pH), (nb), (pG), z1, H', ⟨by first | omega | exact Nat.le_refl _⟩, ⟨y17⟩, ⟨y12⟩, ⟨y11⟩⟩
  ·rw [if_neg c9] at H
   have c9b0 : (gF == 0) = false := qF c9
   have c9b1 : (gF != 0) = true := nT c9
   (first | rw [c9b0] | (simp only [i64_w, i32_w]; rw [c9b0]) | skip)
   by_cases dA : gF = 1
   ·rw [if_pos dA] at H
    have c12b0 : (gF == 1) = true := qT dA
    have c12b1 : (gF != 1) = false := nF dA
    clear dA
    obtain ⟨y231, hy231⟩ : ∃ y_ : List ByteArray, y_ = (([(⟨#[65, 65, 65, 65, 65, 65, 65, 65, 65, 65, 65, 65, 47, 47, 47, 47, 47, 47, 47, 47, 47, 47, 47, 47]⟩ : ByteArray), (⟨#[65, 65, 65, 65, 65, 65, 65, 65, 65, 65, 65, 65, 65, 47, 47, 47, 47, 47, 47, 47, 47, 47, 47, 47, 47, 47]⟩ : ByteArray)] : List ByteArray)) := ⟨_, rfl⟩
    replace H : ((spec_l1Cur_of.f s0_0 lI lH y231).bind fun eD => (spec_l1Cur_doc.j0 k eD.1 s0_0 eD.2.1 eD.2.2)) = some (r1, r2, r3) := by first | (rw [hy231]; with_reducible exact H) | (have H2_ := (Option.bind_some _ _).symm.trans H; rw [hy231]; with_reducible exact H2_) | (have H2_ := (Option.bind_some _ _).symm.trans H; with_reducible exact H2_) | with_reducible exact H | (rw [hy231]; exact H) | exact H
    have Ny231 := aM hy231
    clear hy231
    obtain ⟨⟨pF, pE, pC⟩, qM, H⟩ := oA_ H
    try dsimp only at H
    have H' := aM H
    clear H
    go_wp2_with (first | ((with_reducible refine aK (N := 17) rfl ?_); refine Kd.R_lit Kd.string _ 9 ?hg (N := 17) ?hd (xs := ([(⟨#[65, 65, 65, 65, 65, 65, 65, 65, 65, 65, 65, 65, 47, 47, 47, 47, 47, 47, 47, 47, 47, 47, 47, 47]⟩ : ByteArray), (⟨#[65, 65, 65, 65, 65, 65, 65, 65, 65, 65, 65, 65, 65, 47, 47, 47, 47, 47, 47, 47, 47, 47, 47, 47, 47, 47]⟩ : ByteArray)] : List ByteArray)) (inner := [.string (⟨#[65, 65, 65, 65, 65, 65, 65, 65, 65, 65, 65, 65, 47, 47, 47, 47, 47, 47, 47, 47, 47, 47, 47, 47]⟩ : ByteArray), .string (⟨#[65, 65, 65, 65, 65, 65, 65, 65, 65, 65, 65, 65, 65, 47, 47, 47, 47, 47, 47, 47, 47, 47, 47, 47, 47, 47]⟩ : ByteArray)]) (ok := fun _ => True) (okp := fun _ => True) ?hr ?hp (fun _ hk => hk) trivial (Below.refl _ _) (Nat.le_refl _) (by simp) ?_; (case hd => rfl); (case hg => rfl); (case hr => first | (go_simp; done) | (go_simp; rfl)); (case hp => exact (Reps.one (show Kd.M Kd.string _ _ _ (⟨#[65, 65, 65, 65, 65, 65, 65, 65, 65, 65, 65, 65, 47, 47, 47, 47, 47, 47, 47, 47, 47, 47, 47, 47]⟩ : ByteArray) [.string (⟨#[65, 65, 65, 65, 65, 65, 65, 65, 65, 65, 65, 65, 47, 47, 47, 47, 47, 47, 47, 47, 47, 47, 47, 47]⟩ : ByteArray)] from rfl) (Reps.one (show Kd.M Kd.string _ _ _ (⟨#[65, 65, 65, 65, 65, 65, 65, 65, 65, 65, 65, 65, 65, 47, 47, 47, 47, 47, 47, 47, 47, 47, 47, 47, 47, 47]⟩ : ByteArray) [.string (⟨#[65, 65, 65, 65, 65, 65, 65, 65, 65, 65, 65, 65, 65, 47, 47, 47, 47, 47, 47, 47, 47, 47, 47, 47, 47, 47]⟩ : ByteArray)] from rfl) (Reps.none _ _)))); intro v232 w14 ho15 hb hg_ hnew_; clear hg_ hnew_; (first | rw [← Ny231.out] at ho15 | (simp only [Int.reduceToNat] at ho15; rw [← Ny231.out] at ho15)); have ib := aM (aV ho15 (keep_size (w := w) (g := g) (row := none) z18)); replace HK := aM (KeepBut.trans z18 (KeepBut.of_below hb g none) (.inl rfl)); replace HB := aM (az z23 hb); replace HI0 := aM (IsS95.below z24 hb); clear hb ho15; obtain ⟨Ao16, co16, eo16⟩ := Kd.R_slice ib.out; subst eo16) | ((with_reducible refine aJ (f := 87) rfl ?_); refine aQ (some 18) rfl rfl Try.func87 z0 rfl #[.pointer (some ⟨g, 0, none⟩), .slice Ao16 y231.length co16] rfl z17 ?_; (with_reducible refine (spec_l1Cur_of.calls g s0_0 lI lH _ _ y231 pF pE pC w0 _ ?side1 ?side2 ?side3 ?side4 ?side5 qM.out).mono ?_); (case side1 => exact y39); (case side2 => exact y30); (case side3 => repeat (first | exact (ai ib.out).2.2 | (with_reducible refine aG ?_ _) | (with_reducible refine aH ?_ _) | (with_reducible refine aI ?_))); (case side4 => exact (ai ib.out).2.1); (case side5 => exact far_slice (IsS95.own_ne HI0.out ib.out (by decide))); rintro e w17 ⟨rfl, hi, hb, hk⟩; refine ⟨_, rfl, ?_⟩; replace ib := aM (ah (Kd.R_keep (IsS95.apart (show IsS95 w0 _ g s0_0 lI lH from by (try simp only [Int.add_zero]); repeat (first | (with_reducible first | exact HI0.out | apply IsS95.alloc | apply IsS95.drewN | apply IsS95.drew | apply IsS95.set_1 | apply IsS95.set_2) | exact HI0.out)) (kR_ ib.out) (by decide)) hk (fun _ h => h.2)) (fun _ h => h.1)); replace HK := aM (KeepBut.trans z18 hk (.inl rfl)); replace HB := aM (hb); replace HI0 := aM (hi); (try clear hb); (try clear hk); (try clear hi); (try clear cI)))
    go_meet
    case rel => exact ⟨_, (pF), (pE), (pC), z1, H', ⟨by first | omega | exact Nat.le_refl _⟩, ⟨y17⟩, ⟨y12⟩, ⟨y11⟩⟩
   ·rw [if_neg dA] at H
    have c12b0 : (gF == 1) = false := qF dA
    have c12b1 : (gF != 1) = true := nT dA
    have H' := aM H
    clear H
    go_wp2
    go_meet
    case rel => exact ⟨_, (pK), (lI), (lH), z1, H', ⟨by first | omega | exact Nat.le_refl _⟩, ⟨y17⟩, ⟨y12⟩, ⟨y11⟩⟩
 case rest =>
  clear fH
  obtain ⟨kq, x3_4, x1001_4, x1002_4, rfl, HA, fe, HI0, HK, HB⟩ := hcut
  cases kq with
  | zero => exact absurd HA.out (by simp [spec_l1Cur_doc.j0])
  | succ kj4 =>
   have H := HA.out
   clear HA
   simp only [spec_l1Cur_doc.j0] at H
   obtain ⟨⟨t237, oM, oL⟩, qu, H⟩ := oA_ H
   try dsimp only at H
   by_cases mW : t237 = true
   ·subst mW
    rw [if_pos rfl] at H
    obtain ⟨⟨t240, t241, t242⟩, fM, H⟩ := oA_ H
    try dsimp only at H
    simp only [Option.some.injEq, Prod.mk.injEq] at H
    obtain ⟨rfl, rfl, rfl⟩ := H
    go_wp2_with (first | ((with_reducible refine aJ (f := 88) rfl ?_); refine aQ (some 20) rfl rfl Try.func88 z0 rfl #[.pointer (some ⟨g, 0, none⟩), .int .i64 12] rfl z17 ?_; (with_reducible refine (spec_l1Cur_one.calls g s0_0 x1001_4 x1002_4 12 true oM oL w0 _ ?side1 ?side2 qu.out).mono ?_); (case side1 => exact y39); (case side2 => exact y30); rintro e w21 ⟨rfl, hi, hb, hk⟩; refine ⟨_, rfl, ?_⟩; replace HK := aM (KeepBut.trans z18 hk (.inl rfl)); replace HB := aM (hb); replace HI0 := aM (hi); (try clear hb); (try clear hk); (try clear hi); (try clear cI)) | ((with_reducible refine aJ (f := 89) rfl ?_); refine aQ (some 23) rfl rfl Try.func89 z0 rfl #[.pointer (some ⟨g, 0, none⟩), .string x3_4, .string (⟨#[65, 47, 97, 90]⟩ : ByteArray)] rfl z17 ?_; (with_reducible refine (spec_l1Cur_spoilt.calls kj4 g s0_0 oM oL x3_4 (⟨#[65, 47, 97, 90]⟩ : ByteArray) t240 t241 t242 w0 _ ?side1 ?side2 fM.out).mono ?_); (case side1 => exact y39); (case side2 => exact y30); rintro e w22 ⟨rfl, hi, hb, hk⟩; refine ⟨_, rfl, ?_⟩; replace HK := aM (KeepBut.trans z18 hk (.inl rfl)); replace HB := aM (hb); replace HI0 := aM (hi); (try clear hb); (try clear hk); (try clear hi); (try clear cI)))
    go_ret
    exact ⟨y4, y17, y11, y12⟩
   ·replace mW := Bool.eq_false_iff.mpr mW
    subst mW
    rw [if_neg nF_] at H
    simp only [Option.some.injEq, Prod.mk.injEq] at H
    obtain ⟨rfl, rfl, rfl⟩ := H
    go_wp2_with (first | ((with_reducible refine aJ (f := 88) rfl ?_); refine aQ (some 20) rfl rfl Try.func88 z0 rfl #[.pointer (some ⟨g, 0, none⟩), .int .i64 12] rfl z17 ?_; (with_reducible refine (spec_l1Cur_one.calls g s0_0 x1001_4 x1002_4 12 false oM oL w0 _ ?side1 ?side2 qu.out).mono ?_); (case side1 => exact y39); (case side2 => exact y30); rintro e w23 ⟨rfl, hi, hb, hk⟩; refine ⟨_, rfl, ?_⟩; replace HK := aM (KeepBut.trans z18 hk (.inl rfl)); replace HB := aM (hb); replace HI0 := aM (hi); (try clear hb); (try clear hk); (try clear hi); (try clear cI)))
    go_ret
    exact ⟨y4, y17, y11, y12⟩

/-! ### spec_l1Cur_plainText: function 90 -/
def spec_l1Cur_plainText.f (k : Nat) (s0_0 : List Int) (s0_1 : Int) (s0_2 : Int) : Option (ByteArray × Int × Int) := (spec_l1Cur_doc.f k s0_0 s0_1 s0_2).bind fun cE => ((spec_GoodText.f k cE.1).bind fun l7 => (if l7 = true then (if (cE.1.size : Int) > 40 then ((spec_l1Cur_one.f s0_0 cE.2.1 cE.2.2 20).bind fun eC => (if eC.1 = true then (some (cE.1, eC.2.1, eC.2.2)) else (if 0 ≤ 40 then (if 40 ≤ (cE.1.size : Int) then (some (cE.1.extract 0 40, eC.2.1, eC.2.2)) else (none)) else (none)))) else (some (cE.1, cE.2.1, cE.2.2))) else (if 4 > 40 then ((spec_l1Cur_one.f s0_0 cE.2.1 cE.2.2 20).bind fun eB => (if eB.1 = true then (some ((⟨#[116, 101, 120, 116]⟩ : ByteArray), eB.2.1, eB.2.2)) else (if 0 ≤ 40 then (if 40 ≤ 4 then (some ((⟨#[116, 101, 120, 116]⟩ : ByteArray).extract 0 40, eB.2.1, eB.2.2)) else (none)) else (none)))) else (some ((⟨#[116, 101, 120, 116]⟩ : ByteArray), cE.2.1, cE.2.2)))))
theorem spec_l1Cur_plainText.mono : ∀ a0 a1 a2 k, LeO (spec_l1Cur_plainText.f k a0 a1 a2) (spec_l1Cur_plainText.f (k + 1) a0 a1 a2) := by
 intro a0 a1 a2 k
 unfold spec_l1Cur_plainText.f
 repeat' first
   | (with_reducible exact spec_GoodText.mono _ _)
   | (with_reducible exact spec_l1Cur_doc.mono _ _ _ _)
   | (with_reducible exact LeO.refl _)
   | (with_reducible exact LeO.none _)
   | (with_reducible refine LeO.ite ?_ ?_)
   | (with_reducible refine LeO.bind ?_ (fun _ => ?_))
set_option maxHeartbeats 8000000 in
set_option maxRecDepth 100000 in
theorem spec_l1Cur_plainText.calls (k : Nat) (g : Nat) (s0_0 : List Int) (s0_1 : Int) (s0_2 : Int) (r1 : ByteArray) (r2 : Int) (r3 : Int) (w0 w : World) (hI : IsS95 w0 w g s0_0 s0_1 s0_2) (hB : Below w0.heap.size w0 w) (h : spec_l1Cur_plainText.f k s0_0 s0_1 s0_2 = some (r1, r2, r3)) :
  Calls Try.prog 90 #[.pointer (some ⟨g, 0, none⟩)] w fun e w' => e = .returned (.string r1) ∧ IsS95 w0 w' g s0_0 r2 r3 ∧ Below w0.heap.size w0 w' ∧ KeepBut w w' g none := by
 have HI0 := aM hI
 have HK := aM (KeepBut.refl w g none)
 have HL := aM hB.size
 clear hI
 have HW0 := aM hB.size
 have HB := aM hB
 clear hB
 have H : ((spec_l1Cur_doc.f k s0_0 s0_1 s0_2).bind fun cE => ((spec_GoodText.f k cE.1).bind fun l7 => (if l7 = true then (if (cE.1.size : Int) > 40 then ((spec_l1Cur_one.f s0_0 cE.2.1 cE.2.2 20).bind fun eC => (if eC.1 = true then (some (cE.1, eC.2.1, eC.2.2)) else (if 0 ≤ 40 then (if 40 ≤ (cE.1.size : Int) then (some (cE.1.extract 0 40, eC.2.1, eC.2.2)) else (none)) else (none)))) else (some (cE.1, cE.2.1, cE.2.2))) else (if 4 > 40 then ((spec_l1Cur_one.f s0_0 cE.2.1 cE.2.2 20).bind fun eB => (if eB.1 = true then (some ((⟨#[116, 101, 120, 116]⟩ : ByteArray), eB.2.1, eB.2.2)) else (if 0 ≤ 40 then (if 40 ≤ 4 then (some ((⟨#[116, 101, 120, 116]⟩ : ByteArray).extract 0 40, eB.2.1, eB.2.2)) else (none)) else (none)))) else (some ((⟨#[116, 101, 120, 116]⟩ : ByteArray), cE.2.1, cE.2.2)))))) = some (r1, r2, r3) := h
 clear h
 obtain ⟨⟨ed, lG, lF⟩, A2, H⟩ := oA_ H
 try dsimp only at H
 obtain ⟨l7, A3, H⟩ := oA_ H
 try dsimp only at H
 by_cases c4 : l7 = true
 ·subst c4
  rw [if_pos rfl] at H
  by_cases c5 : (ed.size : Int) > 40
  ·rw [if_pos c5] at H
   have c5b0 : decide (40 < (ed.size : Int)) = true := dT c5
   have c5b1 : decide (40 < ed.size) = true := dT (by omega)
   clear c5
   obtain ⟨⟨t247, pz, px⟩, A6, H⟩ := oA_ H
   try dsimp only at H
   by_cases c7 : t247 = true
   ·subst c7
    rw [if_pos rfl] at H
    simp only [Option.some.injEq, Prod.mk.injEq] at H
    obtain ⟨rfl, rfl, rfl⟩ := H
    go_enter Try.func90, Try.ntmps90
    go_wp2_with (first | ((with_reducible refine aJ (f := 72) rfl ?_); refine aQ (some 5) rfl rfl Try.func72 z0 rfl #[.pointer (some ⟨g, 0, none⟩)] rfl z17 ?_; (with_reducible refine (spec_l1Cur_doc.calls k g s0_0 s0_1 s0_2 ed lG lF w0 _ ?side1 ?side2 A2.out).mono ?_); (case side1 => exact y39); (case side2 => exact y30); rintro e w8 ⟨rfl, hi, hb, hk⟩; refine ⟨_, rfl, ?_⟩; replace HK := aM (KeepBut.trans z18 hk (.inl rfl)); replace HB := aM (hb); replace HI0 := aM (hi); (try clear hb); (try clear hk); (try clear hi); (try clear cI)) | ((with_reducible refine aJ (f := 56) rfl ?_); refine aQ (some 7) rfl rfl Try.func56 z0 rfl #[.string ed] rfl z17 ?_; (with_reducible refine (spec_GoodText.calls k ed true _ A3.out).mono ?_); rintro e w' ⟨rfl, ⟨nd, rfl⟩⟩; refine ⟨_, rfl, ?_⟩) | (go_at_call 88; (with_reducible refine (spec_l1Cur_one.calls g s0_0 lG lF 20 true pz px w0 _ ?side1 ?side2 A6.out).mono ?_); (case side1 => exact y39); (case side2 => exact y30); rintro e w9 ⟨rfl, hi, hb, hk⟩; replace HK := aM (KeepBut.trans z18 hk (.inl rfl)); replace HB := aM (hb); replace HI0 := aM (hi); (try clear hb); (try clear hk); (try clear hi); (try clear cI)))
    go_ret
    exact ⟨y4, y17, y11, y12⟩
   ·replace c7 := Bool.eq_false_iff.mpr c7
    subst c7
    rw [if_neg nF_] at H
    by_cases cS : 0 ≤ 40
    ·rw [if_pos cS] at H
     have c10b0 := eq_true cS
     have c10b1 : decide (0 ≤ 40) = true := dT cS
     clear cS
     by_cases dk : 40 ≤ (ed.size : Int)
     ·rw [if_pos dk] at H
      have c11b0 := eq_true dk
      have c11b1 : decide (40 ≤ (ed.size : Int)) = true := dT dk
      clear dk
      simp only [Option.some.injEq, Prod.mk.injEq] at H
      obtain ⟨rfl, rfl, rfl⟩ := H
      go_enter Try.func90, Try.ntmps90
      go_wp2_with (first | ((with_reducible refine aJ (f := 72) rfl ?_); refine aQ (some 5) rfl rfl Try.func72 z0 rfl #[.pointer (some ⟨g, 0, none⟩)] rfl z17 ?_; (with_reducible refine (spec_l1Cur_doc.calls k g s0_0 s0_1 s0_2 ed lG lF w0 _ ?side1 ?side2 A2.out).mono ?_); (case side1 => exact y39); (case side2 => exact y30); rintro e w12 ⟨rfl, hi, hb, hk⟩; refine ⟨_, rfl, ?_⟩; replace HK := aM (KeepBut.trans z18 hk (.inl rfl)); replace HB := aM (hb); replace HI0 := aM (hi); (try clear hb); (try clear hk); (try clear hi); (try clear cI)) | ((with_reducible refine aJ (f := 56) rfl ?_); refine aQ (some 7) rfl rfl Try.func56 z0 rfl #[.string ed] rfl z17 ?_; (with_reducible refine (spec_GoodText.calls k ed true _ A3.out).mono ?_); rintro e w' ⟨rfl, ⟨nd, rfl⟩⟩; refine ⟨_, rfl, ?_⟩) | (go_at_call 88; (with_reducible refine (spec_l1Cur_one.calls g s0_0 lG lF 20 false pz px w0 _ ?side1 ?side2 A6.out).mono ?_); (case side1 => exact y39); (case side2 => exact y30); rintro e w13 ⟨rfl, hi, hb, hk⟩; replace HK := aM (KeepBut.trans z18 hk (.inl rfl)); replace HB := aM (hb); replace HI0 := aM (hi); (try clear hb); (try clear hk); (try clear hi); (try clear cI)))
      go_ret
      exact ⟨y4, y17, y11, y12⟩
     ·rw [if_neg dk] at H
      exact absurd H (by simp)
    ·exact absurd (by decide) cS
  ·rw [if_neg c5] at H
   have c5b0 : decide (40 < (ed.size : Int)) = false := dF c5
   have c5b1 : decide (40 < ed.size) = false := dF (by omega)
   clear c5
   simp only [Option.some.injEq, Prod.mk.injEq] at H
   obtain ⟨rfl, rfl, rfl⟩ := H
   go_enter Try.func90, Try.ntmps90
   go_wp2_with (first | ((with_reducible refine aJ (f := 72) rfl ?_); refine aQ (some 5) rfl rfl Try.func72 z0 rfl #[.pointer (some ⟨g, 0, none⟩)] rfl z17 ?_; (with_reducible refine (spec_l1Cur_doc.calls k g s0_0 s0_1 s0_2 ed lG lF w0 _ ?side1 ?side2 A2.out).mono ?_); (case side1 => exact y39); (case side2 => exact y30); rintro e w14 ⟨rfl, hi, hb, hk⟩; refine ⟨_, rfl, ?_⟩; replace HK := aM (KeepBut.trans z18 hk (.inl rfl)); replace HB := aM (hb); replace HI0 := aM (hi); (try clear hb); (try clear hk); (try clear hi); (try clear cI)) | ((with_reducible refine aJ (f := 56) rfl ?_); refine aQ (some 7) rfl rfl Try.func56 z0 rfl #[.string ed] rfl z17 ?_; (with_reducible refine (spec_GoodText.calls k ed true _ A3.out).mono ?_); rintro e w' ⟨rfl, ⟨nd, rfl⟩⟩; refine ⟨_, rfl, ?_⟩))
   go_ret
   exact ⟨y4, y17, y11, y12⟩
 ·replace c4 := Bool.eq_false_iff.mpr c4
  subst c4
  rw [if_neg nF_] at H
  by_cases dC : 4 > 40
  ·exact absurd dC (by decide)
  ·rw [if_neg dC] at H
   have c15b0 : decide (40 < 4) = false := dF dC
   clear dC
   simp only [Option.some.injEq, Prod.mk.injEq] at H
   obtain ⟨rfl, rfl, rfl⟩ := H
   go_enter Try.func90, Try.ntmps90
   go_wp2_with (first | ((with_reducible refine aJ (f := 72) rfl ?_); refine aQ (some 5) rfl rfl Try.func72 z0 rfl #[.pointer (some ⟨g, 0, none⟩)] rfl z17 ?_; (with_reducible refine (spec_l1Cur_doc.calls k g s0_0 s0_1 s0_2 ed lG lF w0 _ ?side1 ?side2 A2.out).mono ?_); (case side1 => exact y39); (case side2 => exact y30); rintro e w24 ⟨rfl, hi, hb, hk⟩; refine ⟨_, rfl, ?_⟩; replace HK := aM (KeepBut.trans z18 hk (.inl rfl)); replace HB := aM (hb); replace HI0 := aM (hi); (try clear hb); (try clear hk); (try clear hi); (try clear cI)) | ((with_reducible refine aJ (f := 56) rfl ?_); refine aQ (some 7) rfl rfl Try.func56 z0 rfl #[.string ed] rfl z17 ?_; (with_reducible refine (spec_GoodText.calls k ed false _ A3.out).mono ?_); rintro e w' ⟨rfl, ⟨nd, rfl⟩⟩; refine ⟨_, rfl, ?_⟩))
   go_ret
   exact ⟨y4, y17, y11, y12⟩

/-! ### spec_l3Part: function 98 -/
def spec_l3Part.f (k : Nat) (a0_0 : Int) (a0_1 : ByteArray) (a0_2 : ByteArray) : Option (Bool) := if a0_0 = 0 then (if a0_1.toList = ([] : List UInt8) then (if a0_2.toList = ([] : List UInt8) then (some false) else ((spec_GoodText.f k a0_2).bind fun l6 => (some l6))) else (if a0_2.toList = ([] : List UInt8) then ((spec_GoodText.f k a0_1).bind fun l5 => (some l5)) else (some false))) else ((spec_l1In.f a0_0 1 300).bind fun l4 => (if l4 = true then (if a0_1.toList = ([] : List UInt8) then (some (a0_2.toList == ([] : List UInt8))) else (some false)) else (some false)))
theorem spec_l3Part.mono : ∀ a0 a1 a2 k, LeO (spec_l3Part.f k a0 a1 a2) (spec_l3Part.f (k + 1) a0 a1 a2) := by
 intro a0 a1 a2 k
 unfold spec_l3Part.f
 repeat' first
   | (with_reducible exact spec_GoodText.mono _ _)
   | (with_reducible exact LeO.refl _)
   | (with_reducible exact LeO.none _)
   | (with_reducible refine LeO.ite ?_ ?_)
   | (with_reducible refine LeO.bind ?_ (fun _ => ?_))
set_option maxHeartbeats 8000000 in
set_option maxRecDepth 100000 in
theorem spec_l3Part.calls (k : Nat) (a0_0 : Int) (a0_1 : ByteArray) (a0_2 : ByteArray) (r : Bool) (w : World) (h : spec_l3Part.f k a0_0 a0_1 a0_2 = some r) :
  Calls Try.prog 98 #[.agg #[.int .i64 a0_0, .string a0_1, .string a0_2]] w fun e w' => e = .returned (.bool r) ∧ Below w.heap.size w w' := by
 have hu120 := Try.underlying120
 have HB := aM (Below.refl w.heap.size w)
 have H : (if a0_0 = 0 then (if a0_1.toList = ([] : List UInt8) then (if a0_2.toList = ([] : List UInt8) then (some false) else ((spec_GoodText.f k a0_2).bind fun l6 => (some l6))) else (if a0_2.toList = ([] : List UInt8) then ((spec_GoodText.f k a0_1).bind fun l5 => (some l5)) else (some false))) else ((spec_l1In.f a0_0 1 300).bind fun l4 => (if l4 = true then (if a0_1.toList = ([] : List UInt8) then (some (a0_2.toList == ([] : List UInt8))) else (some false)) else (some false)))) = some r := h
 clear h
 by_cases c2 : a0_0 = 0
 ·rw [if_pos c2] at H
  have c2b0 : (a0_0 == 0) = true := qT c2
  have c2b1 : (a0_0 != 0) = false := nF c2
  clear c2
  by_cases c3 : a0_1.toList = ([] : List UInt8)
  ·rw [if_pos c3] at H
   have c3b0 : (a0_1.toList == ([] : List UInt8)) = true := qT c3
   have c3b1 : (a0_1.toList != ([] : List UInt8)) = false := nF c3
   clear c3
   by_cases c4 : a0_2.toList = ([] : List UInt8)
   ·rw [if_pos c4] at H
    have c4b0 : (a0_2.toList == ([] : List UInt8)) = true := qT c4
    have c4b1 : (a0_2.toList != ([] : List UInt8)) = false := nF c4
    clear c4
    obtain rfl := sI H
    go_enter Try.func98, Try.ntmps98
    go_wp2_with (first | ((with_reducible refine aK (N := 1) rfl ?_); refine aN ?hg (N := 1) ?hd (cs := #[.int .i64 a0_0, .string a0_1, .string a0_2]) (t := 120) ?hr ?_; (case hd => rfl); (case hg => rfl); (case hr => first | (go_simp; done) | (go_simp; rfl)); intro b9 hg w5 hbox hb; have bZ := aM (hbox); have iI := aM ((by rw [hg]; exact (aA z16) : w.heap.size ≤ b9)); have iK := aM ((by rw [hg]; exact (aA z16) : w.heap.size ≤ b9)); replace HB := aM (az z16 hb); clear hb hbox hg; obtain ⟨j5, mt, ms, mr, mq, mo⟩ := cc3 bZ.out))
    all_goals (try (exfalso; rename_i h_; rw [c3b0] at h_; cases h_; done))
    all_goals (try (exfalso; rename_i h_; rw [c4b0] at h_; cases h_; done))
    go_ret
    exact ⟨y4, y7⟩
   ·rw [if_neg c4] at H
    have c4b0 : (a0_2.toList == ([] : List UInt8)) = false := qF c4
    have c4b1 : (a0_2.toList != ([] : List UInt8)) = true := nT c4
    obtain ⟨l6, A7, H⟩ := oA_ H
    try dsimp only at H
    obtain rfl := sI H
    go_enter Try.func98, Try.ntmps98
    go_wp2_with (first | ((with_reducible refine aK (N := 1) rfl ?_); refine aN ?hg (N := 1) ?hd (cs := #[.int .i64 a0_0, .string a0_1, .string a0_2]) (t := 120) ?hr ?_; (case hd => rfl); (case hg => rfl); (case hr => first | (go_simp; done) | (go_simp; rfl)); intro b9 hg w8 hbox hb; have bZ := aM (hbox); have iI := aM ((by rw [hg]; exact (aA z16) : w.heap.size ≤ b9)); have iK := aM ((by rw [hg]; exact (aA z16) : w.heap.size ≤ b9)); replace HB := aM (az z16 hb); clear hb hbox hg; obtain ⟨fd, fU, fT, fS, fQ, fP⟩ := cc3 bZ.out) | (go_at_call 56; (with_reducible refine (spec_GoodText.calls k a0_2 l6 _ A7.out).mono ?_); rintro e w' ⟨rfl, ⟨nd, rfl⟩⟩))
    all_goals (try (exfalso; rename_i h_; rw [c3b0] at h_; cases h_; done))
    all_goals (try (exfalso; rename_i h_; rw [c4b0] at h_; cases h_; done))
    go_ret
    exact ⟨y4, y7⟩
  ·rw [if_neg c3] at H
   have c3b0 : (a0_1.toList == ([] : List UInt8)) = false := qF c3
   have c3b1 : (a0_1.toList != ([] : List UInt8)) = true := nT c3
   by_cases cS : a0_2.toList = ([] : List UInt8)
   ·rw [if_pos cS] at H
    have c10b0 : (a0_2.toList == ([] : List UInt8)) = true := qT cS
    have c10b1 : (a0_2.toList != ([] : List UInt8)) = false := nF cS
    clear cS
    obtain ⟨l5, qw, H⟩ := oA_ H
    try dsimp only at H
    obtain rfl := sI H
    go_enter Try.func98, Try.ntmps98
    go_wp2_with (first | ((with_reducible refine aK (N := 1) rfl ?_); refine aN ?hg (N := 1) ?hd (cs := #[.int .i64 a0_0, .string a0_1, .string a0_2]) (t := 120) ?hr ?_; (case hd => rfl); (case hg => rfl); (case hr => first | (go_simp; done) | (go_simp; rfl)); intro b9 hg w12 hbox hb; have bZ := aM (hbox); have iI := aM ((by rw [hg]; exact (aA z16) : w.heap.size ≤ b9)); have iK := aM ((by rw [hg]; exact (aA z16) : w.heap.size ≤ b9)); replace HB := aM (az z16 hb); clear hb hbox hg; obtain ⟨hcz13_0, hcz13_1, hcz13_2, hfz13_0, hfz13_1, hfz13_2⟩ := cc3 bZ.out) | (go_at_call 56; (with_reducible refine (spec_GoodText.calls k a0_1 l5 _ qw.out).mono ?_); rintro e w' ⟨rfl, ⟨nd, rfl⟩⟩))
    all_goals (try (exfalso; rename_i h_; rw [c3b0] at h_; cases h_; done))
    all_goals (try (exfalso; rename_i h_; rw [c10b0] at h_; cases h_; done))
    go_ret
    exact ⟨y4, y7⟩
   ·rw [if_neg cS] at H
    have c10b0 : (a0_2.toList == ([] : List UInt8)) = false := qF cS
    have c10b1 : (a0_2.toList != ([] : List UInt8)) = true := nT cS
    obtain rfl := sI H
    go_enter Try.func98, Try.ntmps98
    go_wp2_with (first | ((with_reducible refine aK (N := 1) rfl ?_); refine aN ?hg (N := 1) ?hd (cs := #[.int .i64 a0_0, .string a0_1, .string a0_2]) (t := 120) ?hr ?_; (case hd => rfl); (case hg => rfl); (case hr => first | (go_simp; done) | (go_simp; rfl)); intro b9 hg w14 hbox hb; have bZ := aM (hbox); have iI := aM ((by rw [hg]; exact (aA z16) : w.heap.size ≤ b9)); have iK := aM ((by rw [hg]; exact (aA z16) : w.heap.size ≤ b9)); replace HB := aM (az z16 hb); clear hb hbox hg; obtain ⟨jg, jf, je, i1, iZ, iY⟩ := cc3 bZ.out))
    all_goals (try (exfalso; rename_i h_; rw [c3b0] at h_; cases h_; done))
    all_goals (try (exfalso; rename_i h_; rw [c10b0] at h_; cases h_; done))
    go_ret
    exact ⟨y4, y7⟩
 ·rw [if_neg c2] at H
  have c2b0 : (a0_0 == 0) = false := qF c2
  have c2b1 : (a0_0 != 0) = true := nT c2
  obtain ⟨l4, qL, H⟩ := oA_ H
  try dsimp only at H
  by_cases e6 : l4 = true
  ·subst e6
   rw [if_pos rfl] at H
   by_cases jr : a0_1.toList = ([] : List UInt8)
   ·rw [if_pos jr] at H
    have c18b0 : (a0_1.toList == ([] : List UInt8)) = true := qT jr
    have c18b1 : (a0_1.toList != ([] : List UInt8)) = false := nF jr
    clear jr
    obtain rfl := sI H
    go_enter Try.func98, Try.ntmps98
    go_wp2_with (first | ((with_reducible refine aK (N := 1) rfl ?_); refine aN ?hg (N := 1) ?hd (cs := #[.int .i64 a0_0, .string a0_1, .string a0_2]) (t := 120) ?hr ?_; (case hd => rfl); (case hg => rfl); (case hr => first | (go_simp; done) | (go_simp; rfl)); intro b9 hg w19 hbox hb; have bZ := aM (hbox); have iI := aM ((by rw [hg]; exact (aA z16) : w.heap.size ≤ b9)); have iK := aM ((by rw [hg]; exact (aA z16) : w.heap.size ≤ b9)); replace HB := aM (az z16 hb); clear hb hbox hg; obtain ⟨gA, jd, jc, gv, iX, iW⟩ := cc3 bZ.out) | ((with_reducible refine aJ (f := 50) rfl ?_); refine aQ (some 9) rfl rfl Try.func50 z0 rfl #[.int .i64 a0_0, .int .i64 1, .int .i64 300] rfl z17 ?_; (with_reducible refine (spec_l1In.calls a0_0 1 300 true _ qL.out).mono ?_); rintro e w' ⟨rfl, ⟨nd, rfl⟩⟩; refine ⟨_, rfl, ?_⟩))
    all_goals (try (exfalso; rename_i h_; rw [c18b0] at h_; cases h_; done))
    go_ret
    exact ⟨y4, y7⟩
   ·rw [if_neg jr] at H
    have c18b0 : (a0_1.toList == ([] : List UInt8)) = false := qF jr
    have c18b1 : (a0_1.toList != ([] : List UInt8)) = true := nT jr
    obtain rfl := sI H
    go_enter Try.func98, Try.ntmps98
    go_wp2_with (first | ((with_reducible refine aK (N := 1) rfl ?_); refine aN ?hg (N := 1) ?hd (cs := #[.int .i64 a0_0, .string a0_1, .string a0_2]) (t := 120) ?hr ?_; (case hd => rfl); (case hg => rfl); (case hr => first | (go_simp; done) | (go_simp; rfl)); intro b9 hg w21 hbox hb; have bZ := aM (hbox); have iI := aM ((by rw [hg]; exact (aA z16) : w.heap.size ≤ b9)); have iK := aM ((by rw [hg]; exact (aA z16) : w.heap.size ≤ b9)); replace HB := aM (az z16 hb); clear hb hbox hg; obtain ⟨ek, eT, eS, eh, eN, eM⟩ := cc3 bZ.out) | ((with_reducible refine aJ (f := 50) rfl ?_); refine aQ (some 9) rfl rfl Try.func50 z0 rfl #[.int .i64 a0_0, .int .i64 1, .int .i64 300] rfl z17 ?_; (with_reducible refine (spec_l1In.calls a0_0 1 300 true _ qL.out).mono ?_); rintro e w' ⟨rfl, ⟨nd, rfl⟩⟩; refine ⟨_, rfl, ?_⟩))
    all_goals (try (exfalso; rename_i h_; rw [c18b0] at h_; cases h_; done))
    go_ret
    exact ⟨y4, y7⟩
  ·replace e6 := Bool.eq_false_iff.mpr e6
   subst e6
   rw [if_neg nF_] at H
   obtain rfl := sI H
   go_enter Try.func98, Try.ntmps98
   go_wp2_with (first | ((with_reducible refine aK (N := 1) rfl ?_); refine aN ?hg (N := 1) ?hd (cs := #[.int .i64 a0_0, .string a0_1, .string a0_2]) (t := 120) ?hr ?_; (case hd => rfl); (case hg => rfl); (case hr => first | (go_simp; done) | (go_simp; rfl)); intro b9 hg w23 hbox hb; have bZ := aM (hbox); have iI := aM ((by rw [hg]; exact (aA z16) : w.heap.size ≤ b9)); have iK := aM ((by rw [hg]; exact (aA z16) : w.heap.size ≤ b9)); replace HB := aM (az z16 hb); clear hb hbox hg; obtain ⟨fw, hcz24_1, hcz24_2, fq, hfz24_1, hfz24_2⟩ := cc3 bZ.out) | ((with_reducible refine aJ (f := 50) rfl ?_); refine aQ (some 9) rfl rfl Try.func50 z0 rfl #[.int .i64 a0_0, .int .i64 1, .int .i64 300] rfl z17 ?_; (with_reducible refine (spec_l1In.calls a0_0 1 300 false _ qL.out).mono ?_); rintro e w' ⟨rfl, ⟨nd, rfl⟩⟩; refine ⟨_, rfl, ?_⟩))
   go_ret
   exact ⟨y4, y7⟩

end Go.Proofs.Ytmkenlejdaphnaa.AFnBalanced
