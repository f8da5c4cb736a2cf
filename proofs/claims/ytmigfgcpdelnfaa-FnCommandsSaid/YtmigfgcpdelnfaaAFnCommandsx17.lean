-- this session's own text: written by wip/tools/ownprint.py over the kit's print
import Derived.Test.YtmigfgcpdelnfaaAFnCommandsx0
import Derived.Test.YtmigfgcpdelnfaaAFnCommandsx15
import Derived.Test.YtmigfgcpdelnfaaAFnCommandsx16
namespace Go.Proofs.Ytmigfgcpdelnfaa.AFnCommands
open Go.RowKit Go.Proofs.YtmigfgcpdelnfaaW.PrintWords Go.Proofs.YtmigfgcpdelnfaaW.PrintLast Go.Proofs.YtmigfgcpdelnfaaW.PrintMore
attribute [local go_sem] max2_int min2_int max_two min_two max_three min_three max_four min_four   -- for this text's walks alone
set_option linter.unusedVariables false
set_option linter.unusedSimpArgs false

/-! ### spec_l1Cur_spoilt: function 63 -/
mutual
def spec_l1Cur_spoilt.l0 : Nat → ByteArray → ByteArray → Int → List Int → Int → Int → Option (ByteArray × Int × Int)
 | 0, _, _, _, _, _, _ => none
 | k + 1, x1, x2, x7, x1000, x1001, x1002 => if x7 > 0 then (spec_l1Cur_spoilt.j1 k x1 x2 x7 (decide ((x1.size : Int) > 0)) x1000 x1001 x1002) else (spec_l1Cur_spoilt.j1 k x1 x2 x7 false x1000 x1001 x1002)
def spec_l1Cur_spoilt.j1 : Nat → ByteArray → ByteArray → Int → Bool → List Int → Int → Int → Option (ByteArray × Int × Int)
 | 0, _, _, _, _, _, _, _ => none
 | k + 1, x1, x2, x7, x18, x1000, x1001, x1002 => if x18 = true then ((spec_l1Cur_pick.f x1000 x1001 x1002 (x1.size : Int)).bind fun cn => ((spec_l1Cur_pick.f x1000 cn.2.1 cn.2.2 (x2.size : Int)).bind fun lO => (if 0 ≤ lO.1 then (if lO.1 < (x2.size : Int) then ((some (([bt x2 lO.1] : List Int) : List Int)).bind fun y469 => ((spec_l1Cur_pick.f x1000 lO.2.1 lO.2.2 3).bind fun dA => (if dA.1 = 0 then (if 0 ≤ cn.1 then (if cn.1 ≤ (x1.size : Int) then (if (x1.extract 0 (cn.1 : Int).toNat).size + (strOfNums y469).size ≤ 9223372036854775807 then (if ((x1.extract 0 (cn.1 : Int).toNat) ++ (strOfNums y469)).size + (x1.extract (cn.1 : Int).toNat x1.size).size ≤ 9223372036854775807 then (spec_l1Cur_spoilt.l0 k (((x1.extract 0 (cn.1 : Int).toNat) ++ (strOfNums y469)) ++ (x1.extract (cn.1 : Int).toNat x1.size)) x2 (wrap64 (x7 - 1)) x1000 dA.2.1 dA.2.2) else (none)) else (none)) else (none)) else (none)) else (if dA.1 = 1 then (if 0 ≤ cn.1 then (if cn.1 ≤ (x1.size : Int) then (if (x1.extract 0 (cn.1 : Int).toNat).size + (strOfNums y469).size ≤ 9223372036854775807 then (if 0 ≤ (wrap64 (cn.1 + 1)) then (if (wrap64 (cn.1 + 1)) ≤ (x1.size : Int) then (if ((x1.extract 0 (cn.1 : Int).toNat) ++ (strOfNums y469)).size + (x1.extract ((wrap64 (cn.1 + 1)) : Int).toNat x1.size).size ≤ 9223372036854775807 then (spec_l1Cur_spoilt.l0 k (((x1.extract 0 (cn.1 : Int).toNat) ++ (strOfNums y469)) ++ (x1.extract ((wrap64 (cn.1 + 1)) : Int).toNat x1.size)) x2 (wrap64 (x7 - 1)) x1000 dA.2.1 dA.2.2) else (none)) else (none)) else (none)) else (none)) else (none)) else (none)) else (if 0 ≤ cn.1 then (if cn.1 ≤ (x1.size : Int) then (if 0 ≤ (wrap64 (cn.1 + 1)) then (if (wrap64 (cn.1 + 1)) ≤ (x1.size : Int) then (if (x1.extract 0 (cn.1 : Int).toNat).size + (x1.extract ((wrap64 (cn.1 + 1)) : Int).toNat x1.size).size ≤ 9223372036854775807 then (spec_l1Cur_spoilt.l0 k ((x1.extract 0 (cn.1 : Int).toNat) ++ (x1.extract ((wrap64 (cn.1 + 1)) : Int).toNat x1.size)) x2 (wrap64 (x7 - 1)) x1000 dA.2.1 dA.2.2) else (none)) else (none)) else (none)) else (none)) else (none)))))) else (none)) else (none)))) else (some (x1, x1001, x1002))
end
def spec_l1Cur_spoilt.f (k : Nat) (s0_0 : List Int) (s0_1 : Int) (s0_2 : Int) (a1 : ByteArray) (a2 : ByteArray) : Option (ByteArray × Int × Int) := (spec_l1Cur_pick.f s0_0 s0_1 s0_2 3).bind fun jd => (spec_l1Cur_spoilt.l0 k a1 a2 jd.1 s0_0 jd.2.1 jd.2.2)
theorem spec_l1Cur_spoilt.mono_l : ∀ k, (∀ y0 y1 y2 y3 y4 y5, LeO (spec_l1Cur_spoilt.l0 k y0 y1 y2 y3 y4 y5) (spec_l1Cur_spoilt.l0 (k + 1) y0 y1 y2 y3 y4 y5)) ∧ (∀ y0 y1 y2 y3 y4 y5 y6, LeO (spec_l1Cur_spoilt.j1 k y0 y1 y2 y3 y4 y5 y6) (spec_l1Cur_spoilt.j1 (k + 1) y0 y1 y2 y3 y4 y5 y6))
 | 0 => ⟨fun _ _ _ _ _ _ r h => by simp [spec_l1Cur_spoilt.l0] at h, fun _ _ _ _ _ _ _ r h => by simp [spec_l1Cur_spoilt.j1] at h⟩
 | k + 1 => by
  obtain ⟨ih0, ih1⟩ := spec_l1Cur_spoilt.mono_l k
  refine ⟨?_, ?_⟩
  ·intro y0 y1 y2 y3 y4 y5
   unfold spec_l1Cur_spoilt.l0
   repeat' first
   | (with_reducible exact ih0 _ _ _ _ _ _)
   | (with_reducible exact ih1 _ _ _ _ _ _ _)
   | (with_reducible exact LeO.refl _)
   | (with_reducible exact LeO.none _)
   | (with_reducible refine LeO.ite ?_ ?_)
   | (with_reducible refine LeO.bind ?_ (fun _ => ?_))
  ·intro y0 y1 y2 y3 y4 y5 y6
   unfold spec_l1Cur_spoilt.j1
   repeat' first
   | (with_reducible exact ih0 _ _ _ _ _ _)
   | (with_reducible exact ih1 _ _ _ _ _ _ _)
   | (with_reducible exact LeO.refl _)
   | (with_reducible exact LeO.none _)
   | (with_reducible refine LeO.ite ?_ ?_)
   | (with_reducible refine LeO.bind ?_ (fun _ => ?_))
theorem spec_l1Cur_spoilt.mono : ∀ a0 a1 a2 a3 a4 k, LeO (spec_l1Cur_spoilt.f k a0 a1 a2 a3 a4) (spec_l1Cur_spoilt.f (k + 1) a0 a1 a2 a3 a4) := by
 intro a0 a1 a2 a3 a4 k
 obtain ⟨ih0, ih1⟩ := spec_l1Cur_spoilt.mono_l k
 unfold spec_l1Cur_spoilt.f
 repeat' first
   | (with_reducible exact ih0 _ _ _ _ _ _)
   | (with_reducible exact ih1 _ _ _ _ _ _ _)
   | (with_reducible exact LeO.refl _)
   | (with_reducible exact LeO.none _)
   | (with_reducible refine LeO.ite ?_ ?_)
   | (with_reducible refine LeO.bind ?_ (fun _ => ?_))
set_option maxHeartbeats 8000000 in
set_option maxRecDepth 100000 in
theorem spec_l1Cur_spoilt.calls (k : Nat) (g : Nat) (s0_0 : List Int) (s0_1 : Int) (s0_2 : Int) (a1 : ByteArray) (a2 : ByteArray) (r1 : ByteArray) (r2 : Int) (r3 : Int) (w0 w : World) (hI : IsS66 w0 w g s0_0 s0_1 s0_2) (hB : Below w0.heap.size w0 w) (h : spec_l1Cur_spoilt.f k s0_0 s0_1 s0_2 a1 a2 = some (r1, r2, r3)) :
  Calls Try.prog 63 #[.pointer (some ⟨g, 0, none⟩), .string a1, .string a2] w fun e w' => e = .returned (.string r1) ∧ IsS66 w0 w' g s0_0 r2 r3 ∧ Below w0.heap.size w0 w' ∧ KeepBut w w' g none := by
 have HI0 := aM hI
 have HK := aM (KeepBut.refl w g none)
 have HL := aM hB.size
 clear hI
 have HW0 := aM hB.size
 have HB := aM hB
 clear hB
 have H : ((spec_l1Cur_pick.f s0_0 s0_1 s0_2 3).bind fun jd => (spec_l1Cur_spoilt.l0 k a1 a2 jd.1 s0_0 jd.2.1 jd.2.2)) = some (r1, r2, r3) := h
 clear h
 obtain ⟨⟨rC, rB, rA⟩, A4, H⟩ := oA_ H
 try dsimp only at H
 have H' := aM H
 clear H
 go_enter Try.func63, Try.ntmps63
 go_wp2_with (first | (go_at_call 60; (with_reducible refine (spec_l1Cur_pick.calls g s0_0 s0_1 s0_2 3 rC rB rA w0 _ ?side1 ?side2 A4.out).mono ?_); (case side1 => exact y54); (case side2 => exact y44); rintro e w5 ⟨rfl, hi, hb, hk⟩; replace HK := aM (KeepBut.trans z16 hk (.inl rfl)); replace HB := aM (hb); replace HI0 := aM (hi); (try clear hb); (try clear hk); (try clear hi); (try clear cG)))
 repeat (go_quiet (fail); try go_wp2)
 go_loopg [1, 7] k (fun kq v1 v7 w' => ∃ (x1_1 : ByteArray) (x7_1 : Int) (x1001_1 : Int) (x1002_1 : Int), v1 = .string x1_1 ∧ v7 = .int .i64 x7_1 ∧ Aside0 (spec_l1Cur_spoilt.l0 kq x1_1 a2 x7_1 s0_0 x1001_1 x1002_1 = some (r1, r2, r3)) ∧ Aside0 (kq ≤ k) ∧ Aside0 (IsS66 w0 w' g s0_0 x1001_1 x1002_1) ∧ Aside0 (KeepBut w w' g none) ∧ Aside0 (Below w0.heap.size w0 w'))
 case atStart => exact ⟨(a1), (rC), (rB), (rA), z1, z1, H', ⟨Nat.le_refl _⟩, ⟨y34⟩, ⟨y30⟩, ⟨y29⟩⟩
 case round =>
  clear H'
  obtain ⟨x1_1, x7_1, x1001_1, x1002_1, rfl, rfl, HA, HK1, HI0, HK, HB⟩ := hrel
  cases gk with
  | zero => exact absurd HA.out (by simp [spec_l1Cur_spoilt.l0])
  | succ k1 =>
   have H := HA.out
   clear HA
   simp only [spec_l1Cur_spoilt.l0] at H
   have jH := aM H
   clear H
   go_upto_region 2 with (fail)
   repeat (go_quiet (fail); go_upto_region 2 with (fail))
   go_cut [18] (fun v18 wc => ∃ (kq : Nat) (x18_5 : Bool), v18 = .bool x18_5 ∧ Aside0 (spec_l1Cur_spoilt.j1 kq x1_1 a2 x7_1 x18_5 s0_0 x1001_1 x1002_1 = some (r1, r2, r3)) ∧ Aside0 (kq ≤ k1) ∧ Aside0 (IsS66 w0 wc g s0_0 x1001_1 x1002_1) ∧ Aside0 (KeepBut w wc g none) ∧ Aside0 (Below w0.heap.size w0 wc))
   case first =>
    have H := jH.out
    clear jH
    by_cases c7 : x7_1 > 0
    ·rw [if_pos c7] at H
     have c7b0 : decide (0 < x7_1) = true := dT c7
     clear c7
     (first | rw [c7b0] | (simp only [i64_w, i32_w]; rw [c7b0]) | skip)
     have H' := aM H
     clear H
     go_wp2
     repeat (go_quiet (fail); try go_wp2)
     go_meet
     case rel => exact ⟨_, (decide ((x1_1.size : Int) > 0)), z1, H', ⟨y2⟩, ⟨y34⟩, ⟨y30⟩, ⟨y29⟩⟩
    ·rw [if_neg c7] at H
     have c7b0 : decide (0 < x7_1) = false := dF c7
     clear c7
     (first | rw [c7b0] | (simp only [i64_w, i32_w]; rw [c7b0]) | skip)
     have H' := aM H
     clear H
     go_wp2
     repeat (go_quiet (fail); try go_wp2)
     go_meet
     case rel => exact ⟨_, (false), z1, H', ⟨y2⟩, ⟨y34⟩, ⟨y30⟩, ⟨y29⟩⟩
   case rest =>
    clear jH
    try clear p2
    try clear p2
    obtain ⟨kq, x18_5, rfl, HA, g8, HI0, HK, HB⟩ := hcut
    cases kq with
    | zero => exact absurd HA.out (by simp [spec_l1Cur_spoilt.j1])
    | succ kj5 =>
     have H := HA.out
     clear HA
     simp only [spec_l1Cur_spoilt.j1] at H
     by_cases c8 : x18_5 = true
     ·subst c8
      rw [if_pos rfl] at H
      obtain ⟨⟨bj, ff, fe⟩, A9, H⟩ := oA_ H
      try dsimp only at H
      obtain ⟨⟨bo, dt, dr⟩, iT, H⟩ := oA_ H
      try dsimp only at H
      by_cases cy : 0 ≤ bo
      ·rw [if_pos cy] at H
       have c11b0 : decide (0 ≤ bo) = true := dT cy
       clear cy
       by_cases b3 : bo < (a2.size : Int)
       ·rw [if_pos b3] at H
        have c12b0 : decide (bo < (a2.size : Int)) = true := dT b3
        clear b3
        obtain ⟨y469, hy469⟩ : ∃ y_ : List Int, y_ = (([bt a2 bo] : List Int)) := ⟨_, rfl⟩
        replace H : ((spec_l1Cur_pick.f s0_0 dt dr 3).bind fun dA => (if dA.1 = 0 then (if 0 ≤ bj then (if bj ≤ (x1_1.size : Int) then (if (x1_1.extract 0 (bj : Int).toNat).size + (strOfNums y469).size ≤ 9223372036854775807 then (if ((x1_1.extract 0 (bj : Int).toNat) ++ (strOfNums y469)).size + (x1_1.extract (bj : Int).toNat x1_1.size).size ≤ 9223372036854775807 then (spec_l1Cur_spoilt.l0 kj5 (((x1_1.extract 0 (bj : Int).toNat) ++ (strOfNums y469)) ++ (x1_1.extract (bj : Int).toNat x1_1.size)) a2 (wrap64 (x7_1 - 1)) s0_0 dA.2.1 dA.2.2) else (none)) else (none)) else (none)) else (none)) else (if dA.1 = 1 then (if 0 ≤ bj then (if bj ≤ (x1_1.size : Int) then (if (x1_1.extract 0 (bj : Int).toNat).size + (strOfNums y469).size ≤ 9223372036854775807 then (if 0 ≤ (wrap64 (bj + 1)) then (if (wrap64 (bj + 1)) ≤ (x1_1.size : Int) then (if ((x1_1.extract 0 (bj : Int).toNat) ++ (strOfNums y469)).size + (x1_1.extract ((wrap64 (bj + 1)) : Int).toNat x1_1.size).size ≤ 9223372036854775807 then (spec_l1Cur_spoilt.l0 kj5 (((x1_1.extract 0 (bj : Int).toNat) ++ (strOfNums y469)) ++ (x1_1.extract ((wrap64 (bj + 1)) : Int).toNat x1_1.size)) a2 (wrap64 (x7_1 - 1)) s0_0 dA.2.1 dA.2.2) else (none)) else (none)) else (none)) else (none)) else (none)) else (none)) else (if 0 ≤ bj then (if bj ≤ (x1_1.size : Int) then (if 0 ≤ (wrap64 (bj + 1)) then (if (wrap64 (bj + 1)) ≤ (x1_1.size : Int) then (if (x1_1.extract 0 (bj : Int).toNat).size + (x1_1.extract ((wrap64 (bj + 1)) : Int).toNat x1_1.size).size ≤ 9223372036854775807 then (spec_l1Cur_spoilt.l0 kj5 ((x1_1.extract 0 (bj : Int).toNat) ++ (x1_1.extract ((wrap64 (bj + 1)) : Int).toNat x1_1.size)) a2 (wrap64 (x7_1 - 1)) s0_0 dA.2.1 dA.2.2) else (none)) else (none)) else (none)) else (none)) else (none))))) = some (r1, r2, r3) := by first | (rw [hy469]; with_reducible exact H) | (have H2_ := (Option.bind_some _ _).symm.trans H; rw [hy469]; with_reducible exact H2_) | (have H2_ := (Option.bind_some _ _).symm.trans H; with_reducible exact H2_) | with_reducible exact H | (rw [hy469]; exact H) | exact H
        have Ny469 := aM hy469
        clear hy469
        obtain ⟨⟨eO, gp, gn⟩, k7, H⟩ := oA_ H
        try dsimp only at H
        by_cases cF : eO = 0
        ·rw [if_pos cF] at H
         have c15b0 : (eO == 0) = true := qT cF
         have c15b1 : (eO != 0) = false := nF cF
         clear cF
         by_cases dG : 0 ≤ bj
         ·rw [if_pos dG] at H
          have c16b0 := eq_true dG
          have c16b1 : decide (0 ≤ bj) = true := dT dG
          clear dG
          by_cases dy : bj ≤ (x1_1.size : Int)
          ·rw [if_pos dy] at H
           have c17b0 := eq_true dy
           have c17b1 : decide (bj ≤ (x1_1.size : Int)) = true := dT dy
           clear dy
           by_cases d8 : (x1_1.extract 0 (bj : Int).toNat).size + (strOfNums y469).size ≤ 9223372036854775807
           ·rw [if_pos d8] at H
            have c18b0 := eq_true d8
            have c18b1 : decide ((x1_1.extract 0 (bj : Int).toNat).size + (strOfNums y469).size ≤ 9223372036854775807) = true := dT d8
            try have c18b2 : (9223372036854775807 < (x1_1.extract 0 (bj : Int).toNat).size + (strOfNums y469).size) = False := eq_false (Nat.not_lt.2 d8)
            (try (have c18x : (9223372036854775807 < (bj).toNat + (strOfNums y469).size) = False := eq_false (fun h_ => by have e_ := of_eq_true c18b0; simp only [aC, aA] at e_; have f0_ : (bj) ≤ (x1_1.size : Int) := z3; omega)))
            have c19b0 := eq_true (oD z2 : 0 ≤ bj)
            have c20b0 := eq_true (oD z2 : bj ≤ (x1_1.size : Int))
            by_cases ea : ((x1_1.extract 0 (bj : Int).toNat) ++ (strOfNums y469)).size + (x1_1.extract (bj : Int).toNat x1_1.size).size ≤ 9223372036854775807
            ·rw [if_pos ea] at H
             have c21b0 := eq_true ea
             have c21b1 : decide (((x1_1.extract 0 (bj : Int).toNat) ++ (strOfNums y469)).size + (x1_1.extract (bj : Int).toNat x1_1.size).size ≤ 9223372036854775807) = true := dT ea
             try have c21b2 : (9223372036854775807 < ((x1_1.extract 0 (bj : Int).toNat) ++ (strOfNums y469)).size + (x1_1.extract (bj : Int).toNat x1_1.size).size) = False := eq_false (Nat.not_lt.2 ea)
             (try (have c21x : (9223372036854775807 < ((bj).toNat + (strOfNums y469).size) + (x1_1.size.toNat - (bj).toNat)) = False := eq_false (fun h_ => by have e_ := of_eq_true c21b0; simp only [aC, aA] at e_; have f0_ : x1_1.size ≤ (x1_1.size : Int) := z3; have f1_ : (bj) ≤ (x1_1.size : Int) := z3; omega)))
             (try (have c21b2s := c21b2; simp only [aA] at c21b2s))
             have H' := aM H
             clear H
             go_wp2_with (first | (go_at_call 60; (with_reducible refine (spec_l1Cur_pick.calls g s0_0 x1001_1 x1002_1 (x1_1.size : Int) bj ff fe w0 _ ?side1 ?side2 A9.out).mono ?_); (case side1 => exact y54); (case side2 => exact y44); rintro e w22 ⟨rfl, hi, hb, hk⟩; replace HK := aM (KeepBut.trans z16 hk (.inl rfl)); replace HB := aM (hb); replace HI0 := aM (hi); (try clear hb); (try clear hk); (try clear hi); (try clear cG)) | (go_at_call 60; (with_reducible refine (spec_l1Cur_pick.calls g s0_0 ff fe (a2.size : Int) bo dt dr w0 _ ?side1 ?side2 iT.out).mono ?_); (case side1 => exact y54); (case side2 => exact y44); rintro e w23 ⟨rfl, hi, hb, hk⟩; replace HK := aM (KeepBut.trans z16 hk (.inl rfl)); replace HB := aM (hb); replace HI0 := aM (hi); (try clear hb); (try clear hk); (try clear hi); (try clear cG); have p13 : 0 ≤ (bo : Int) := oD z2; have q13 : bo < (a2.size : Int) := oD z2; have hx13 := bt_at a2 bo; replace p13 := eq_true p13; replace q13 := eq_true q13) | ((with_reducible refine aw (N := 31) rfl ?_); (try (refine gate_guard (by rfl) ?_; dsimp only)); refine Kd.R_lit (Kd.int .u8) _ 5 ?hg (N := 31) ?hd (xs := ([bt a2 bo] : List Int)) (inner := [.int .u8 (bt a2 bo)]) (ok := fun _ => True) (okp := fun _ => True) ?hr ?hp (fun _ hk => hk) trivial (Below.refl _ _) (Nat.le_refl _) (by simp) ?_; (case hd => rfl); (case hg => rfl); (case hr => first | (go_simp; done) | (go_simp; rfl)); (case hp => exact (Reps.one (show Kd.M (Kd.int .u8) _ _ _ (bt a2 bo) [.int .u8 (bt a2 bo)] from rfl) (Reps.none _ _))); intro v470 w24 ho25 hb hg_ hnew_; clear hg_ hnew_; (first | rw [← Ny469.out] at ho25 | (simp only [Int.reduceToNat] at ho25; rw [← Ny469.out] at ho25)); have bx := aM (az ho25 (keep_size (w := w) (g := g) (row := none) z16)); replace HK := aM (KeepBut.trans z16 (KeepBut.of_below hb g none) (.inl rfl)); replace HB := aM (ao z22 hb); replace HI0 := aM (IsS66.below z23 hb); clear hb ho25; have hcv26 := own_string (P := Try.prog) Try.underlying34 Try.underlying5 Try.underlying9 (Kd.own_of_R bx.out)) | (go_at_call 60; (with_reducible refine (spec_l1Cur_pick.calls g s0_0 dt dr 3 eO gp gn w0 _ ?side1 ?side2 k7.out).mono ?_); (case side1 => exact y54); (case side2 => exact y44); rintro e w27 ⟨rfl, hi, hb, hk⟩; replace bx := aM (ag (Kd.R_keep (IsS66.apart (show IsS66 w0 _ g s0_0 dt dr from by (try simp only [Int.add_zero]); repeat (first | (with_reducible first | exact HI0.out | apply IsS66.alloc | apply IsS66.drewN | apply IsS66.drew | apply IsS66.set_1 | apply IsS66.set_2) | exact HI0.out)) (kR_ bx.out) (by decide)) hk (fun _ h => h.2)) (fun _ h => h.1)); replace HK := aM (KeepBut.trans z16 hk (.inl rfl)); replace HB := aM (hb); replace HI0 := aM (hi); (try clear hb); (try clear hk); (try clear hi); (try clear cG)))
             repeat (go_quiet (fail); try go_wp2)
             go_roundg kj5
             case measure => have := HK1.out; have := g8.out; omega
             case rel => exact ⟨(((x1_1.extract 0 (bj : Int).toNat) ++ (strOfNums y469)) ++ (x1_1.extract (bj : Int).toNat x1_1.size)), (wrap64 (x7_1 - 1)), (gp), (gn), z1, z1, H', ⟨by have := HK1.out; have := g8.out; omega⟩, ⟨y34⟩, ⟨y30⟩, ⟨y29⟩⟩
            ·rw [if_neg ea] at H
             exact absurd H (by simp)
           ·rw [if_neg d8] at H
            exact absurd H (by simp)
          ·rw [if_neg dy] at H
           exact absurd H (by simp)
         ·rw [if_neg dG] at H
          exact absurd H (by simp)
        ·rw [if_neg cF] at H
         have c15b0 : (eO == 0) = false := qF cF
         have c15b1 : (eO != 0) = true := nT cF
         by_cases f5 : eO = 1
         ·rw [if_pos f5] at H
          have c28b0 : (eO == 1) = true := qT f5
          have c28b1 : (eO != 1) = false := nF f5
          clear f5
          by_cases jR : 0 ≤ bj
          ·rw [if_pos jR] at H
           have c29b0 := eq_true jR
           have c29b1 : decide (0 ≤ bj) = true := dT jR
           clear jR
           by_cases gj : bj ≤ (x1_1.size : Int)
           ·rw [if_pos gj] at H
            have c30b0 := eq_true gj
            have c30b1 : decide (bj ≤ (x1_1.size : Int)) = true := dT gj
            clear gj
            by_cases fo : (x1_1.extract 0 (bj : Int).toNat).size + (strOfNums y469).size ≤ 9223372036854775807
            ·rw [if_pos fo] at H
             have c31b0 := eq_true fo
             have c31b1 : decide ((x1_1.extract 0 (bj : Int).toNat).size + (strOfNums y469).size ≤ 9223372036854775807) = true := dT fo
             try have c31b2 : (9223372036854775807 < (x1_1.extract 0 (bj : Int).toNat).size + (strOfNums y469).size) = False := eq_false (Nat.not_lt.2 fo)
             (try (have c31x : (9223372036854775807 < (bj).toNat + (strOfNums y469).size) = False := eq_false (fun h_ => by have e_ := of_eq_true c31b0; simp only [aC, aA] at e_; have f0_ : (bj) ≤ (x1_1.size : Int) := z3; omega)))
             obtain ⟨gv, gw⟩ : ∃ j_ : Int, (wrap64 (bj + 1)) = j_ := ⟨_, rfl⟩
             replace H : (if 0 ≤ (gv) then (if (gv) ≤ (x1_1.size : Int) then (if ((x1_1.extract 0 (bj : Int).toNat) ++ (strOfNums y469)).size + (x1_1.extract ((gv) : Int).toNat x1_1.size).size ≤ 9223372036854775807 then (spec_l1Cur_spoilt.l0 kj5 (((x1_1.extract 0 (bj : Int).toNat) ++ (strOfNums y469)) ++ (x1_1.extract ((gv) : Int).toNat x1_1.size)) a2 (wrap64 (x7_1 - 1)) s0_0 gp gn) else (none)) else (none)) else (none)) = some (r1, r2, r3) := by first | (rw [gw] at H; exact H) | (simp only [gw] at H ⊢; exact H)
             (try rw [gw] at A9)
             (try rw [gw] at iT)
             (try rw [gw] at k7)
             have hji32w : (IntKind.i64.wrap (bj + 1)) = gv := (i64_w _).trans gw
             by_cases jQ : 0 ≤ (gv)
             ·rw [if_pos jQ] at H
              have c33b0 := eq_true jQ
              have c33b1 : decide (0 ≤ (gv)) = true := dT jQ
              clear jQ
              by_cases l8 : (gv) ≤ (x1_1.size : Int)
              ·rw [if_pos l8] at H
               have c34b0 := eq_true l8
               have c34b1 : decide ((gv) ≤ (x1_1.size : Int)) = true := dT l8
               clear l8
               by_cases iR : ((x1_1.extract 0 (bj : Int).toNat) ++ (strOfNums y469)).size + (x1_1.extract ((gv) : Int).toNat x1_1.size).size ≤ 9223372036854775807
               ·rw [if_pos iR] at H
                have c35b0 := eq_true iR
                have c35b1 : decide (((x1_1.extract 0 (bj : Int).toNat) ++ (strOfNums y469)).size + (x1_1.extract ((gv) : Int).toNat x1_1.size).size ≤ 9223372036854775807) = true := dT iR
                try have c35b2 : (9223372036854775807 < ((x1_1.extract 0 (bj : Int).toNat) ++ (strOfNums y469)).size + (x1_1.extract ((gv) : Int).toNat x1_1.size).size) = False := eq_false (Nat.not_lt.2 iR)
                (try (have c35x : (9223372036854775807 < ((bj).toNat + (strOfNums y469).size) + (x1_1.size.toNat - (gv).toNat)) = False := eq_false (fun h_ => by have e_ := of_eq_true c35b0; simp only [aC, aA] at e_; have f0_ : x1_1.size ≤ (x1_1.size : Int) := z3; have f1_ : (bj) ≤ (x1_1.size : Int) := z3; omega)))
                (try (have c35b2s := c35b2; simp only [aA] at c35b2s))
                have H' := aM H
                clear H
                go_wp2_with (first | (go_at_call 60; (with_reducible refine (spec_l1Cur_pick.calls g s0_0 x1001_1 x1002_1 (x1_1.size : Int) bj ff fe w0 _ ?side1 ?side2 A9.out).mono ?_); (case side1 => exact y54); (case side2 => exact y44); rintro e w36 ⟨rfl, hi, hb, hk⟩; replace HK := aM (KeepBut.trans z16 hk (.inl rfl)); replace HB := aM (hb); replace HI0 := aM (hi); (try clear hb); (try clear hk); (try clear hi); (try clear cG)) | (go_at_call 60; (with_reducible refine (spec_l1Cur_pick.calls g s0_0 ff fe (a2.size : Int) bo dt dr w0 _ ?side1 ?side2 iT.out).mono ?_); (case side1 => exact y54); (case side2 => exact y44); rintro e w37 ⟨rfl, hi, hb, hk⟩; replace HK := aM (KeepBut.trans z16 hk (.inl rfl)); replace HB := aM (hb); replace HI0 := aM (hi); (try clear hb); (try clear hk); (try clear hi); (try clear cG); have p13 : 0 ≤ (bo : Int) := oD z2; have q13 : bo < (a2.size : Int) := oD z2; have hx13 := bt_at a2 bo; replace p13 := eq_true p13; replace q13 := eq_true q13) | ((with_reducible refine aw (N := 31) rfl ?_); (try (refine gate_guard (by rfl) ?_; dsimp only)); refine Kd.R_lit (Kd.int .u8) _ 5 ?hg (N := 31) ?hd (xs := ([bt a2 bo] : List Int)) (inner := [.int .u8 (bt a2 bo)]) (ok := fun _ => True) (okp := fun _ => True) ?hr ?hp (fun _ hk => hk) trivial (Below.refl _ _) (Nat.le_refl _) (by simp) ?_; (case hd => rfl); (case hg => rfl); (case hr => first | (go_simp; done) | (go_simp; rfl)); (case hp => exact (Reps.one (show Kd.M (Kd.int .u8) _ _ _ (bt a2 bo) [.int .u8 (bt a2 bo)] from rfl) (Reps.none _ _))); intro v470 w38 ho39 hb hg_ hnew_; clear hg_ hnew_; (first | rw [← Ny469.out] at ho39 | (simp only [Int.reduceToNat] at ho39; rw [← Ny469.out] at ho39)); have bx := aM (az ho39 (keep_size (w := w) (g := g) (row := none) z16)); replace HK := aM (KeepBut.trans z16 (KeepBut.of_below hb g none) (.inl rfl)); replace HB := aM (ao z22 hb); replace HI0 := aM (IsS66.below z23 hb); clear hb ho39; have hcv40 := own_string (P := Try.prog) Try.underlying34 Try.underlying5 Try.underlying9 (Kd.own_of_R bx.out)) | (go_at_call 60; (with_reducible refine (spec_l1Cur_pick.calls g s0_0 dt dr 3 eO gp gn w0 _ ?side1 ?side2 k7.out).mono ?_); (case side1 => exact y54); (case side2 => exact y44); rintro e w41 ⟨rfl, hi, hb, hk⟩; replace bx := aM (ag (Kd.R_keep (IsS66.apart (show IsS66 w0 _ g s0_0 dt dr from by (try simp only [Int.add_zero]); repeat (first | (with_reducible first | exact HI0.out | apply IsS66.alloc | apply IsS66.drewN | apply IsS66.drew | apply IsS66.set_1 | apply IsS66.set_2) | exact HI0.out)) (kR_ bx.out) (by decide)) hk (fun _ h => h.2)) (fun _ h => h.1)); replace HK := aM (KeepBut.trans z16 hk (.inl rfl)); replace HB := aM (hb); replace HI0 := aM (hi); (try clear hb); (try clear hk); (try clear hi); (try clear cG)))
                repeat (go_quiet (fail); try go_wp2)
                go_roundg kj5
                case measure => have := HK1.out; have := g8.out; omega
                case rel => exact ⟨(((x1_1.extract 0 (bj : Int).toNat) ++ (strOfNums y469)) ++ (x1_1.extract ((gv) : Int).toNat x1_1.size)), (wrap64 (x7_1 - 1)), (gp), (gn), (by first | rfl | (simp; done) | (simp only [← gw] <;> (first | rfl | (simp; done) | (simp; generalize ByteArray.toList _ = u_; cases u_ <;> (first | rfl | (simp; done))))) | (simp [*]; done)), z1, (by first | exact H' | (simp only [gw]; exact H') | (simp only [← gw]; exact H')), ⟨by have := HK1.out; have := g8.out; omega⟩, ⟨y34⟩, ⟨y30⟩, ⟨y29⟩⟩
               ·rw [if_neg iR] at H
                exact absurd H (by simp)
              ·rw [if_neg l8] at H
               exact absurd H (by simp)
             ·rw [if_neg jQ] at H
              exact absurd H (by simp)
            ·rw [if_neg fo] at H
             exact absurd H (by simp)
           ·rw [if_neg gj] at H
            exact absurd H (by simp)
          ·rw [if_neg jR] at H
           exact absurd H (by simp)
         ·rw [if_neg f5] at H
          have c28b0 : (eO == 1) = false := qF f5
          have c28b1 : (eO != 1) = true := nT f5
          by_cases ph : 0 ≤ bj
          ·rw [if_pos ph] at H
           have c42b0 := eq_true ph
           have c42b1 : decide (0 ≤ bj) = true := dT ph
           clear ph
           by_cases hF : bj ≤ (x1_1.size : Int)
           ·rw [if_pos hF] at H
            have c43b0 := eq_true hF
            have c43b1 : decide (bj ≤ (x1_1.size : Int)) = true := dT hF
            clear hF
            obtain ⟨bz, es⟩ : ∃ j_ : Int, (wrap64 (bj + 1)) = j_ := ⟨_, rfl⟩
            replace H : (if 0 ≤ (bz) then (if (bz) ≤ (x1_1.size : Int) then (if (x1_1.extract 0 (bj : Int).toNat).size + (x1_1.extract ((bz) : Int).toNat x1_1.size).size ≤ 9223372036854775807 then (spec_l1Cur_spoilt.l0 kj5 ((x1_1.extract 0 (bj : Int).toNat) ++ (x1_1.extract ((bz) : Int).toNat x1_1.size)) a2 (wrap64 (x7_1 - 1)) s0_0 gp gn) else (none)) else (none)) else (none)) = some (r1, r2, r3) := by first | (rw [es] at H; exact H) | (simp only [es] at H ⊢; exact H)
            (try rw [es] at A9)
            (try rw [es] at iT)
            (try rw [es] at k7)
            have hji44w : (IntKind.i64.wrap (bj + 1)) = bz := (i64_w _).trans es
            by_cases i6 : 0 ≤ (bz)
            ·rw [if_pos i6] at H
             have c45b0 := eq_true i6
             have c45b1 : decide (0 ≤ (bz)) = true := dT i6
             clear i6
             by_cases eI : (bz) ≤ (x1_1.size : Int)
             ·rw [if_pos eI] at H
              have c46b0 := eq_true eI
              have c46b1 : decide ((bz) ≤ (x1_1.size : Int)) = true := dT eI
              clear eI
              by_cases i5 : (x1_1.extract 0 (bj : Int).toNat).size + (x1_1.extract ((bz) : Int).toNat x1_1.size).size ≤ 9223372036854775807
              ·rw [if_pos i5] at H
               have c47b0 := eq_true i5
               have c47b1 : decide ((x1_1.extract 0 (bj : Int).toNat).size + (x1_1.extract ((bz) : Int).toNat x1_1.size).size ≤ 9223372036854775807) = true := dT i5
               try have c47b2 : (9223372036854775807 < (x1_1.extract 0 (bj : Int).toNat).size + (x1_1.extract ((bz) : Int).toNat x1_1.size).size) = False := eq_false (Nat.not_lt.2 i5)
               (try (have c47x : (9223372036854775807 < (bj).toNat + (x1_1.size.toNat - (bz).toNat)) = False := eq_false (fun h_ => by have e_ := of_eq_true c47b0; simp only [aC, aA] at e_; have f0_ : x1_1.size ≤ (x1_1.size : Int) := z3; have f1_ : (bj) ≤ (x1_1.size : Int) := z3; omega)))
               have H' := aM H
               clear H
               go_wp2_with (first | (go_at_call 60; (with_reducible refine (spec_l1Cur_pick.calls g s0_0 x1001_1 x1002_1 (x1_1.size : Int) bj ff fe w0 _ ?side1 ?side2 A9.out).mono ?_); (case side1 => exact y54); (case side2 => exact y44); rintro e w48 ⟨rfl, hi, hb, hk⟩; replace HK := aM (KeepBut.trans z16 hk (.inl rfl)); replace HB := aM (hb); replace HI0 := aM (hi); (try clear hb); (try clear hk); (try clear hi); (try clear cG)) | (go_at_call 60; (with_reducible refine (spec_l1Cur_pick.calls g s0_0 ff fe (a2.size : Int) bo dt dr w0 _ ?side1 ?side2 iT.out).mono ?_); (case side1 => exact y54); (case side2 => exact y44); rintro e w49 ⟨rfl, hi, hb, hk⟩; replace HK := aM (KeepBut.trans z16 hk (.inl rfl)); replace HB := aM (hb); replace HI0 := aM (hi); (try clear hb); (try clear hk); (try clear hi); (try clear cG); have p13 : 0 ≤ (bo : Int) := oD z2; have q13 : bo < (a2.size : Int) := oD z2; have hx13 := bt_at a2 bo; replace p13 := eq_true p13; replace q13 := eq_true q13) | ((with_reducible refine aw (N := 31) rfl ?_); (try (refine gate_guard (by rfl) ?_; dsimp only)); refine Kd.R_lit (Kd.int .u8) _ 5 ?hg (N := 31) ?hd (xs := ([bt a2 bo] : List Int)) (inner := [.int .u8 (bt a2 bo)]) (ok := fun _ => True) (okp := fun _ => True) ?hr ?hp (fun _ hk => hk) trivial (Below.refl _ _) (Nat.le_refl _) (by simp) ?_; (case hd => rfl); (case hg => rfl); (case hr => first | (go_simp; done) | (go_simp; rfl)); (case hp => exact (Reps.one (show Kd.M (Kd.int .u8) _ _ _ (bt a2 bo) [.int .u8 (bt a2 bo)] from rfl) (Reps.none _ _))); intro v470 w50 ho51 hb hg_ hnew_; clear hg_ hnew_; (first | rw [← Ny469.out] at ho51 | (simp only [Int.reduceToNat] at ho51; rw [← Ny469.out] at ho51)); have bx := aM (az ho51 (keep_size (w := w) (g := g) (row := none) z16)); replace HK := aM (KeepBut.trans z16 (KeepBut.of_below hb g none) (.inl rfl)); replace HB := aM (ao z22 hb); replace HI0 := aM (IsS66.below z23 hb); clear hb ho51; have hcv52 := own_string (P := Try.prog) Try.underlying34 Try.underlying5 Try.underlying9 (Kd.own_of_R bx.out)) | (go_at_call 60; (with_reducible refine (spec_l1Cur_pick.calls g s0_0 dt dr 3 eO gp gn w0 _ ?side1 ?side2 k7.out).mono ?_); (case side1 => exact y54); (case side2 => exact y44); rintro e w53 ⟨rfl, hi, hb, hk⟩; replace bx := aM (ag (Kd.R_keep (IsS66.apart (show IsS66 w0 _ g s0_0 dt dr from by (try simp only [Int.add_zero]); repeat (first | (with_reducible first | exact HI0.out | apply IsS66.alloc | apply IsS66.drewN | apply IsS66.drew | apply IsS66.set_1 | apply IsS66.set_2) | exact HI0.out)) (kR_ bx.out) (by decide)) hk (fun _ h => h.2)) (fun _ h => h.1)); replace HK := aM (KeepBut.trans z16 hk (.inl rfl)); replace HB := aM (hb); replace HI0 := aM (hi); (try clear hb); (try clear hk); (try clear hi); (try clear cG)))
               repeat (go_quiet (fail); try go_wp2)
               go_roundg kj5
               case measure => have := HK1.out; have := g8.out; omega
               case rel => exact ⟨((x1_1.extract 0 (bj : Int).toNat) ++ (x1_1.extract ((bz) : Int).toNat x1_1.size)), (wrap64 (x7_1 - 1)), (gp), (gn), (by first | rfl | (simp; done) | (simp only [← es] <;> (first | rfl | (simp; done) | (simp; generalize ByteArray.toList _ = u_; cases u_ <;> (first | rfl | (simp; done))))) | (simp [*]; done)), z1, (by first | exact H' | (simp only [es]; exact H') | (simp only [← es]; exact H')), ⟨by have := HK1.out; have := g8.out; omega⟩, ⟨y34⟩, ⟨y30⟩, ⟨y29⟩⟩
              ·rw [if_neg i5] at H
               exact absurd H (by simp)
             ·rw [if_neg eI] at H
              exact absurd H (by simp)
            ·rw [if_neg i6] at H
             exact absurd H (by simp)
           ·rw [if_neg hF] at H
            exact absurd H (by simp)
          ·rw [if_neg ph] at H
           exact absurd H (by simp)
       ·rw [if_neg b3] at H
        exact absurd H (by simp)
      ·rw [if_neg cy] at H
       exact absurd H (by simp)
     ·replace c8 := Bool.eq_false_iff.mpr c8
      subst c8
      rw [if_neg nF_] at H
      simp only [Option.some.injEq, Prod.mk.injEq] at H
      obtain ⟨rfl, rfl, rfl⟩ := H
      go_wp2
      repeat (go_quiet (fail); try go_wp2)
      go_ret
      exact ⟨y4, y34, y29, y30⟩

/-! ### spec_l1Cur_doc: function 42 -/
def spec_l1Cur_doc.j0 : Nat → ByteArray → List Int → Int → Int → Option (ByteArray × Int × Int)
 | 0, _, _, _, _ => none
 | k + 1, x3, x1000, x1001, x1002 => (spec_l1Cur_one.f x1000 x1001 x1002 12).bind fun lN => (if lN.1 = true then ((spec_l1Cur_spoilt.f k x1000 lN.2.1 lN.2.2 x3 (⟨#[65, 47, 97, 90]⟩ : ByteArray)).bind fun qx => (some (qx.1, qx.2.1, qx.2.2))) else (some (x3, lN.2.1, lN.2.2)))
def spec_l1Cur_doc.f (k : Nat) (s0_0 : List Int) (s0_1 : Int) (s0_2 : Int) : Option (ByteArray × Int × Int) := (spec_l1Cur_pick.f s0_0 s0_1 s0_2 7).bind fun jc => ((spec_l1Cur_inner.f k s0_0 jc.2.1 jc.2.2 jc.1 3).bind fun jb => ((spec_l1Cur_pick.f s0_0 jb.2.1 jb.2.2 30).bind fun dz => (if dz.1 = 0 then ((spec_l1Cur_inner.f k s0_0 dz.2.1 dz.2.2 60 3).bind fun ja => (spec_l1Cur_doc.j0 k ja.1 s0_0 ja.2.1 ja.2.2)) else (if dz.1 = 1 then ((spec_l1Cur_of.f s0_0 dz.2.1 dz.2.2 (([(⟨#[65, 65, 65, 65, 65, 65, 65, 65, 65, 65, 65, 65, 47, 47, 47, 47, 47, 47, 47, 47, 47, 47, 47, 47]⟩ : ByteArray), (⟨#[65, 65, 65, 65, 65, 65, 65, 65, 65, 65, 65, 65, 65, 47, 47, 47, 47, 47, 47, 47, 47, 47, 47, 47, 47, 47]⟩ : ByteArray)] : List ByteArray))).bind fun fA => (spec_l1Cur_doc.j0 k fA.1 s0_0 fA.2.1 fA.2.2)) else (spec_l1Cur_doc.j0 k jb.1 s0_0 dz.2.1 dz.2.2)))))
theorem spec_l1Cur_doc.mono_l : ∀ k, (∀ y0 y1 y2 y3, LeO (spec_l1Cur_doc.j0 k y0 y1 y2 y3) (spec_l1Cur_doc.j0 (k + 1) y0 y1 y2 y3))
 | 0 => fun _ _ _ _ r h => by simp [spec_l1Cur_doc.j0] at h
 | k + 1 => by
  have ih0 := spec_l1Cur_doc.mono_l k
  ·intro y0 y1 y2 y3
   unfold spec_l1Cur_doc.j0
   repeat' first
   | (with_reducible exact ih0 _ _ _ _)
   | (with_reducible exact spec_l1Cur_inner.mono _ _ _ _ _ _)
   | (with_reducible exact spec_l1Cur_spoilt.mono _ _ _ _ _ _)
   | (with_reducible exact LeO.refl _)
   | (with_reducible exact LeO.none _)
   | (with_reducible refine LeO.ite ?_ ?_)
   | (with_reducible refine LeO.bind ?_ (fun _ => ?_))
theorem spec_l1Cur_doc.mono : ∀ a0 a1 a2 k, LeO (spec_l1Cur_doc.f k a0 a1 a2) (spec_l1Cur_doc.f (k + 1) a0 a1 a2) := by
 intro a0 a1 a2 k
 have ih0 := spec_l1Cur_doc.mono_l k
 unfold spec_l1Cur_doc.f
 repeat' first
   | (with_reducible exact ih0 _ _ _ _)
   | (with_reducible exact spec_l1Cur_inner.mono _ _ _ _ _ _)
   | (with_reducible exact spec_l1Cur_spoilt.mono _ _ _ _ _ _)
   | (with_reducible exact LeO.refl _)
   | (with_reducible exact LeO.none _)
   | (with_reducible refine LeO.ite ?_ ?_)
   | (with_reducible refine LeO.bind ?_ (fun _ => ?_))
set_option maxHeartbeats 8000000 in
set_option maxRecDepth 100000 in
theorem spec_l1Cur_doc.calls (k : Nat) (g : Nat) (s0_0 : List Int) (s0_1 : Int) (s0_2 : Int) (r1 : ByteArray) (r2 : Int) (r3 : Int) (w0 w : World) (hI : IsS66 w0 w g s0_0 s0_1 s0_2) (hB : Below w0.heap.size w0 w) (h : spec_l1Cur_doc.f k s0_0 s0_1 s0_2 = some (r1, r2, r3)) :
  Calls Try.prog 42 #[.pointer (some ⟨g, 0, none⟩)] w fun e w' => e = .returned (.string r1) ∧ IsS66 w0 w' g s0_0 r2 r3 ∧ Below w0.heap.size w0 w' ∧ KeepBut w w' g none := by
 have HI0 := aM hI
 have HK := aM (KeepBut.refl w g none)
 have HL := aM hB.size
 clear hI
 have HW0 := aM hB.size
 have HB := aM hB
 clear hB
 have H : ((spec_l1Cur_pick.f s0_0 s0_1 s0_2 7).bind fun jc => ((spec_l1Cur_inner.f k s0_0 jc.2.1 jc.2.2 jc.1 3).bind fun jb => ((spec_l1Cur_pick.f s0_0 jb.2.1 jb.2.2 30).bind fun dz => (if dz.1 = 0 then ((spec_l1Cur_inner.f k s0_0 dz.2.1 dz.2.2 60 3).bind fun ja => (spec_l1Cur_doc.j0 k ja.1 s0_0 ja.2.1 ja.2.2)) else (if dz.1 = 1 then ((spec_l1Cur_of.f s0_0 dz.2.1 dz.2.2 (([(⟨#[65, 65, 65, 65, 65, 65, 65, 65, 65, 65, 65, 65, 47, 47, 47, 47, 47, 47, 47, 47, 47, 47, 47, 47]⟩ : ByteArray), (⟨#[65, 65, 65, 65, 65, 65, 65, 65, 65, 65, 65, 65, 65, 47, 47, 47, 47, 47, 47, 47, 47, 47, 47, 47, 47, 47]⟩ : ByteArray)] : List ByteArray))).bind fun fA => (spec_l1Cur_doc.j0 k fA.1 s0_0 fA.2.1 fA.2.2)) else (spec_l1Cur_doc.j0 k jb.1 s0_0 dz.2.1 dz.2.2)))))) = some (r1, r2, r3) := h
 clear h
 obtain ⟨⟨sP, uA, uz⟩, A2, H⟩ := oA_ H
 try dsimp only at H
 obtain ⟨⟨uy, ux, uw⟩, A3, H⟩ := oA_ H
 try dsimp only at H
 obtain ⟨⟨iW, o1, o0⟩, A4, H⟩ := oA_ H
 try dsimp only at H
 have qN := aM H
 clear H
 go_enter Try.func42, Try.ntmps42
 go_upto_block 0 with (first | ((with_reducible refine av (f := 60) rfl ?_); refine ay (some 6) rfl rfl Try.func60 z0 rfl #[.pointer (some ⟨g, 0, none⟩), .int .i64 7] rfl z15 ?_; (with_reducible refine (spec_l1Cur_pick.calls g s0_0 s0_1 s0_2 7 sP uA uz w0 _ ?side1 ?side2 A2.out).mono ?_); (case side1 => exact y54); (case side2 => exact y44); rintro e w6 ⟨rfl, hi, hb, hk⟩; refine ⟨_, rfl, ?_⟩; replace HK := aM (KeepBut.trans z16 hk (.inl rfl)); replace HB := aM (hb); replace HI0 := aM (hi); (try clear hb); (try clear hk); (try clear hi); (try clear cG)) | ((with_reducible refine av (f := 59) rfl ?_); refine ay (some 7) rfl rfl Try.func59 z0 rfl #[.pointer (some ⟨g, 0, none⟩), .int .i64 sP, .int .i64 3] rfl z15 ?_; (with_reducible refine (spec_l1Cur_inner.calls k g s0_0 uA uz sP 3 uy ux uw w0 _ ?side1 ?side2 A3.out).mono ?_); (case side1 => exact y54); (case side2 => exact y44); rintro e w7 ⟨rfl, hi, hb, hk⟩; refine ⟨_, rfl, ?_⟩; replace HK := aM (KeepBut.trans z16 hk (.inl rfl)); replace HB := aM (hb); replace HI0 := aM (hi); (try clear hb); (try clear hk); (try clear hi); (try clear cG)) | ((with_reducible refine av (f := 60) rfl ?_); refine ay (some 9) rfl rfl Try.func60 z0 rfl #[.pointer (some ⟨g, 0, none⟩), .int .i64 30] rfl z15 ?_; (with_reducible refine (spec_l1Cur_pick.calls g s0_0 ux uw 30 iW o1 o0 w0 _ ?side1 ?side2 A4.out).mono ?_); (case side1 => exact y54); (case side2 => exact y44); rintro e w8 ⟨rfl, hi, hb, hk⟩; refine ⟨_, rfl, ?_⟩; replace HK := aM (KeepBut.trans z16 hk (.inl rfl)); replace HB := aM (hb); replace HI0 := aM (hi); (try clear hb); (try clear hk); (try clear hi); (try clear cG)))
 (try simp only [Act.put, sA, sB, sC])
 go_cut [3] (fun v3 wc => ∃ (kq : Nat) (x3_4 : ByteArray) (x1001_4 : Int) (x1002_4 : Int), v3 = .string x3_4 ∧ Aside0 (spec_l1Cur_doc.j0 kq x3_4 s0_0 x1001_4 x1002_4 = some (r1, r2, r3)) ∧ Aside0 (kq ≤ k) ∧ Aside0 (IsS66 w0 wc g s0_0 x1001_4 x1002_4) ∧ Aside0 (KeepBut w wc g none) ∧ Aside0 (Below w0.heap.size w0 wc))
 case first =>
  have H := qN.out
  clear qN
  by_cases c9 : iW = 0
  ·rw [if_pos c9] at H
   have c9b0 : (iW == 0) = true := qT c9
   have c9b1 : (iW != 0) = false := nF c9
   clear c9
   (first | rw [c9b0] | (simp only [i64_w, i32_w]; rw [c9b0]) | skip)
   obtain ⟨⟨uv, uu, ut⟩, iT, H⟩ := oA_ H
   try dsimp only at H
   have H' := aM H
   clear H
   go_wp2_with (first | ((with_reducible refine av (f := 59) rfl ?_); refine ay (some 13) rfl rfl Try.func59 z0 rfl #[.pointer (some ⟨g, 0, none⟩), .int .i64 60, .int .i64 3] rfl z15 ?_; (with_reducible refine (spec_l1Cur_inner.calls k g s0_0 o1 o0 60 3 uv uu ut w0 _ ?side1 ?side2 iT.out).mono ?_); (case side1 => exact y54); (case side2 => exact y44); rintro e w11 ⟨rfl, hi, hb, hk⟩; refine ⟨_, rfl, ?_⟩; replace HK := aM (KeepBut.trans z16 hk (.inl rfl)); replace HB := aM (hb); replace HI0 := aM (hi); (try clear hb); (try clear hk); (try clear hi); (try clear cG)))
   go_meet
   case rel => exact ⟨_, (uv), (uu), (ut), z1, H', ⟨y0⟩, ⟨y34⟩, ⟨y30⟩, ⟨y29⟩⟩
  ·rw [if_neg c9] at H
   have c9b0 : (iW == 0) = false := qF c9
   have c9b1 : (iW != 0) = true := nT c9
   (first | rw [c9b0] | (simp only [i64_w, i32_w]; rw [c9b0]) | skip)
   by_cases b3 : iW = 1
   ·rw [if_pos b3] at H
    have c12b0 : (iW == 1) = true := qT b3
    have c12b1 : (iW != 1) = false := nF b3
    clear b3
    obtain ⟨y487, hy487⟩ : ∃ y_ : List ByteArray, y_ = (([(⟨#[65, 65, 65, 65, 65, 65, 65, 65, 65, 65, 65, 65, 47, 47, 47, 47, 47, 47, 47, 47, 47, 47, 47, 47]⟩ : ByteArray), (⟨#[65, 65, 65, 65, 65, 65, 65, 65, 65, 65, 65, 65, 65, 47, 47, 47, 47, 47, 47, 47, 47, 47, 47, 47, 47, 47]⟩ : ByteArray)] : List ByteArray)) := ⟨_, rfl⟩
    replace H : ((spec_l1Cur_of.f s0_0 o1 o0 y487).bind fun fA => (spec_l1Cur_doc.j0 k fA.1 s0_0 fA.2.1 fA.2.2)) = some (r1, r2, r3) := by first | (rw [hy487]; with_reducible exact H) | (have H2_ := (Option.bind_some _ _).symm.trans H; rw [hy487]; with_reducible exact H2_) | (have H2_ := (Option.bind_some _ _).symm.trans H; with_reducible exact H2_) | with_reducible exact H | (rw [hy487]; exact H) | exact H
    have Ny487 := aM hy487
    clear hy487
    obtain ⟨⟨us, ur, uq⟩, rl, H⟩ := oA_ H
    try dsimp only at H
    have H' := aM H
    clear H
    go_wp2_with (first | ((with_reducible refine aw (N := 17) rfl ?_); refine Kd.R_lit Kd.string _ 9 ?hg (N := 17) ?hd (xs := ([(⟨#[65, 65, 65, 65, 65, 65, 65, 65, 65, 65, 65, 65, 47, 47, 47, 47, 47, 47, 47, 47, 47, 47, 47, 47]⟩ : ByteArray), (⟨#[65, 65, 65, 65, 65, 65, 65, 65, 65, 65, 65, 65, 65, 47, 47, 47, 47, 47, 47, 47, 47, 47, 47, 47, 47, 47]⟩ : ByteArray)] : List ByteArray)) (inner := [.string (⟨#[65, 65, 65, 65, 65, 65, 65, 65, 65, 65, 65, 65, 47, 47, 47, 47, 47, 47, 47, 47, 47, 47, 47, 47]⟩ : ByteArray), .string (⟨#[65, 65, 65, 65, 65, 65, 65, 65, 65, 65, 65, 65, 65, 47, 47, 47, 47, 47, 47, 47, 47, 47, 47, 47, 47, 47]⟩ : ByteArray)]) (ok := fun _ => True) (okp := fun _ => True) ?hr ?hp (fun _ hk => hk) trivial (Below.refl _ _) (Nat.le_refl _) (by simp) ?_; (case hd => rfl); (case hg => rfl); (case hr => first | (go_simp; done) | (go_simp; rfl)); (case hp => exact (Reps.one (show Kd.M Kd.string _ _ _ (⟨#[65, 65, 65, 65, 65, 65, 65, 65, 65, 65, 65, 65, 47, 47, 47, 47, 47, 47, 47, 47, 47, 47, 47, 47]⟩ : ByteArray) [.string (⟨#[65, 65, 65, 65, 65, 65, 65, 65, 65, 65, 65, 65, 47, 47, 47, 47, 47, 47, 47, 47, 47, 47, 47, 47]⟩ : ByteArray)] from rfl) (Reps.one (show Kd.M Kd.string _ _ _ (⟨#[65, 65, 65, 65, 65, 65, 65, 65, 65, 65, 65, 65, 65, 47, 47, 47, 47, 47, 47, 47, 47, 47, 47, 47, 47, 47]⟩ : ByteArray) [.string (⟨#[65, 65, 65, 65, 65, 65, 65, 65, 65, 65, 65, 65, 65, 47, 47, 47, 47, 47, 47, 47, 47, 47, 47, 47, 47, 47]⟩ : ByteArray)] from rfl) (Reps.none _ _)))); intro v488 w14 ho15 hb hg_ hnew_; clear hg_ hnew_; (first | rw [← Ny487.out] at ho15 | (simp only [Int.reduceToNat] at ho15; rw [← Ny487.out] at ho15)); have jA := aM (az ho15 (keep_size (w := w) (g := g) (row := none) z16)); replace HK := aM (KeepBut.trans z16 (KeepBut.of_below hb g none) (.inl rfl)); replace HB := aM (ao z22 hb); replace HI0 := aM (IsS66.below z23 hb); clear hb ho15; obtain ⟨tK, tk, eo16⟩ := Kd.R_slice jA.out; subst eo16) | ((with_reducible refine av (f := 61) rfl ?_); refine ay (some 18) rfl rfl Try.func61 z0 rfl #[.pointer (some ⟨g, 0, none⟩), .slice tK y487.length tk] rfl z15 ?_; (with_reducible refine (spec_l1Cur_of.calls g s0_0 o1 o0 _ _ y487 us ur uq w0 _ ?side1 ?side2 ?side3 ?side4 ?side5 rl.out).mono ?_); (case side1 => exact y54); (case side2 => exact y44); (case side3 => repeat (first | exact (ah jA.out).2.2 | (with_reducible refine aq ?_ _) | (with_reducible refine ar ?_ _) | (with_reducible refine au ?_))); (case side4 => exact (ah jA.out).2.1); (case side5 => exact far_slice (IsS66.own_ne HI0.out jA.out (by decide))); rintro e w17 ⟨rfl, hi, hb, hk⟩; refine ⟨_, rfl, ?_⟩; replace jA := aM (ag (Kd.R_keep (IsS66.apart (show IsS66 w0 _ g s0_0 o1 o0 from by (try simp only [Int.add_zero]); repeat (first | (with_reducible first | exact HI0.out | apply IsS66.alloc | apply IsS66.drewN | apply IsS66.drew | apply IsS66.set_1 | apply IsS66.set_2) | exact HI0.out)) (kR_ jA.out) (by decide)) hk (fun _ h => h.2)) (fun _ h => h.1)); replace HK := aM (KeepBut.trans z16 hk (.inl rfl)); replace HB := aM (hb); replace HI0 := aM (hi); (try clear hb); (try clear hk); (try clear hi); (try clear cG)))
    go_meet
    case rel => exact ⟨_, (us), (ur), (uq), z1, H', ⟨y0⟩, ⟨y34⟩, ⟨y30⟩, ⟨y29⟩⟩
   ·rw [if_neg b3] at H
    have c12b0 : (iW == 1) = false := qF b3
    have c12b1 : (iW != 1) = true := nT b3
    have H' := aM H
    clear H
    go_wp2
    go_meet
    case rel => exact ⟨_, (uy), (o1), (o0), z1, H', ⟨y0⟩, ⟨y34⟩, ⟨y30⟩, ⟨y29⟩⟩
 case rest =>
  clear qN
  obtain ⟨kq, x3_4, x1001_4, x1002_4, rfl, HA, rU, HI0, HK, HB⟩ := hcut
  cases kq with
  | zero => exact absurd HA.out (by simp [spec_l1Cur_doc.j0])
  | succ kj4 =>
   have H := HA.out
   clear HA
   simp only [spec_l1Cur_doc.j0] at H
   obtain ⟨⟨t493, sO, sN⟩, wI, H⟩ := oA_ H
   try dsimp only at H
   by_cases fp : t493 = true
   ·subst fp
    rw [if_pos rfl] at H
    obtain ⟨⟨t496, t497, t498⟩, jS, H⟩ := oA_ H
    try dsimp only at H
    simp only [Option.some.injEq, Prod.mk.injEq] at H
    obtain ⟨rfl, rfl, rfl⟩ := H
    go_wp2_with (first | ((with_reducible refine av (f := 62) rfl ?_); refine ay (some 20) rfl rfl Try.func62 z0 rfl #[.pointer (some ⟨g, 0, none⟩), .int .i64 12] rfl z15 ?_; (with_reducible refine (spec_l1Cur_one.calls g s0_0 x1001_4 x1002_4 12 true sO sN w0 _ ?side1 ?side2 wI.out).mono ?_); (case side1 => exact y54); (case side2 => exact y44); rintro e w21 ⟨rfl, hi, hb, hk⟩; refine ⟨_, rfl, ?_⟩; replace HK := aM (KeepBut.trans z16 hk (.inl rfl)); replace HB := aM (hb); replace HI0 := aM (hi); (try clear hb); (try clear hk); (try clear hi); (try clear cG)) | ((with_reducible refine av (f := 63) rfl ?_); refine ay (some 23) rfl rfl Try.func63 z0 rfl #[.pointer (some ⟨g, 0, none⟩), .string x3_4, .string (⟨#[65, 47, 97, 90]⟩ : ByteArray)] rfl z15 ?_; (with_reducible refine (spec_l1Cur_spoilt.calls kj4 g s0_0 sO sN x3_4 (⟨#[65, 47, 97, 90]⟩ : ByteArray) t496 t497 t498 w0 _ ?side1 ?side2 jS.out).mono ?_); (case side1 => exact y54); (case side2 => exact y44); rintro e w22 ⟨rfl, hi, hb, hk⟩; refine ⟨_, rfl, ?_⟩; replace HK := aM (KeepBut.trans z16 hk (.inl rfl)); replace HB := aM (hb); replace HI0 := aM (hi); (try clear hb); (try clear hk); (try clear hi); (try clear cG)))
    go_ret
    exact ⟨y4, y34, y29, y30⟩
   ·replace fp := Bool.eq_false_iff.mpr fp
    subst fp
    rw [if_neg nF_] at H
    simp only [Option.some.injEq, Prod.mk.injEq] at H
    obtain ⟨rfl, rfl, rfl⟩ := H
    go_wp2_with (first | ((with_reducible refine av (f := 62) rfl ?_); refine ay (some 20) rfl rfl Try.func62 z0 rfl #[.pointer (some ⟨g, 0, none⟩), .int .i64 12] rfl z15 ?_; (with_reducible refine (spec_l1Cur_one.calls g s0_0 x1001_4 x1002_4 12 false sO sN w0 _ ?side1 ?side2 wI.out).mono ?_); (case side1 => exact y54); (case side2 => exact y44); rintro e w23 ⟨rfl, hi, hb, hk⟩; refine ⟨_, rfl, ?_⟩; replace HK := aM (KeepBut.trans z16 hk (.inl rfl)); replace HB := aM (hb); replace HI0 := aM (hi); (try clear hb); (try clear hk); (try clear hi); (try clear cG)))
    go_ret
    exact ⟨y4, y34, y29, y30⟩

end Go.Proofs.Ytmigfgcpdelnfaa.AFnCommands
