-- this session's own text: written by wip/tools/ownprint.py over the kit's print
import Derived.Laws.Externs
import Derived.Lib.Bytealg
import Derived.Deep.RegionLaw
import Derived.Outline
import Derived.Deep.DeepCutAuto
import Derived.Deep.CutBlock
import Derived.BigRegion
import Derived.Test.YtjbllgdehpomiaaAFnMarksx0
import Derived.Test.YtjbllgdehpomiaaAFnMarksx3
namespace Go.Proofs.Ytjbllgdehpomiaa.AFnMarks
open Go.RowKit Go.Proofs.YtjbllgdehpomiaaW.PrintWords Go.Proofs.YtjbllgdehpomiaaW.PrintLast Go.Proofs.YtjbllgdehpomiaaW.PrintMore
attribute [local go_sem] max2_int min2_int max_two min_two max_three min_three max_four min_four   -- for this text's walks alone
set_option linter.unusedVariables false
set_option maxHeartbeats 8000000
set_option maxRecDepth 100000
set_option linter.unusedSimpArgs false
/-! ### spec_l1Cur_spoilt: function 64 -/
mutual
def spec_l1Cur_spoilt.l0 : Nat → ByteArray → ByteArray → Int → List Int → Int → Int → Option (ByteArray × Int × Int)
 | 0, _, _, _, _, _, _ => none
 | k + 1, x1, x2, x7, x1000, x1001, x1002 => if x7 > 0 then (spec_l1Cur_spoilt.j1 k x1 x2 x7 (decide ((x1.size : Int) > 0)) x1000 x1001 x1002) else (spec_l1Cur_spoilt.j1 k x1 x2 x7 false x1000 x1001 x1002)
def spec_l1Cur_spoilt.j1 : Nat → ByteArray → ByteArray → Int → Bool → List Int → Int → Int → Option (ByteArray × Int × Int)
 | 0, _, _, _, _, _, _, _ => none
 | k + 1, x1, x2, x7, x18, x1000, x1001, x1002 => if x18 = true then ((spec_l1Cur_pick.f x1000 x1001 x1002 (x1.size : Int)).bind fun cr => ((spec_l1Cur_pick.f x1000 cr.2.1 cr.2.2 (x2.size : Int)).bind fun lI => (if 0 ≤ lI.1 then (if lI.1 < (x2.size : Int) then ((some (([bt x2 lI.1] : List Int) : List Int)).bind fun y178 => ((spec_l1Cur_pick.f x1000 lI.2.1 lI.2.2 3).bind fun dR => (if dR.1 = 0 then (if 0 ≤ cr.1 then (if cr.1 ≤ (x1.size : Int) then (if (x1.extract 0 (cr.1 : Int).toNat).size + (strOfNums y178).size ≤ 9223372036854775807 then (if ((x1.extract 0 (cr.1 : Int).toNat) ++ (strOfNums y178)).size + (x1.extract (cr.1 : Int).toNat x1.size).size ≤ 9223372036854775807 then (spec_l1Cur_spoilt.l0 k (((x1.extract 0 (cr.1 : Int).toNat) ++ (strOfNums y178)) ++ (x1.extract (cr.1 : Int).toNat x1.size)) x2 (wrap64 (x7 - 1)) x1000 dR.2.1 dR.2.2) else (none)) else (none)) else (none)) else (none)) else (if dR.1 = 1 then (if 0 ≤ cr.1 then (if cr.1 ≤ (x1.size : Int) then (if (x1.extract 0 (cr.1 : Int).toNat).size + (strOfNums y178).size ≤ 9223372036854775807 then (if 0 ≤ (wrap64 (cr.1 + 1)) then (if (wrap64 (cr.1 + 1)) ≤ (x1.size : Int) then (if ((x1.extract 0 (cr.1 : Int).toNat) ++ (strOfNums y178)).size + (x1.extract ((wrap64 (cr.1 + 1)) : Int).toNat x1.size).size ≤ 9223372036854775807 then (spec_l1Cur_spoilt.l0 k (((x1.extract 0 (cr.1 : Int).toNat) ++ (strOfNums y178)) ++ (x1.extract ((wrap64 (cr.1 + 1)) : Int).toNat x1.size)) x2 (wrap64 (x7 - 1)) x1000 dR.2.1 dR.2.2) else (none)) else (none)) else (none)) else (none)) else (none)) else (none)) else (if 0 ≤ cr.1 then (if cr.1 ≤ (x1.size : Int) then (if 0 ≤ (wrap64 (cr.1 + 1)) then (if (wrap64 (cr.1 + 1)) ≤ (x1.size : Int) then (if (x1.extract 0 (cr.1 : Int).toNat).size + (x1.extract ((wrap64 (cr.1 + 1)) : Int).toNat x1.size).size ≤ 9223372036854775807 then (spec_l1Cur_spoilt.l0 k ((x1.extract 0 (cr.1 : Int).toNat) ++ (x1.extract ((wrap64 (cr.1 + 1)) : Int).toNat x1.size)) x2 (wrap64 (x7 - 1)) x1000 dR.2.1 dR.2.2) else (none)) else (none)) else (none)) else (none)) else (none)))))) else (none)) else (none)))) else (some (x1, x1001, x1002))
end
def spec_l1Cur_spoilt.f (k : Nat) (s0_0 : List Int) (s0_1 : Int) (s0_2 : Int) (a1 : ByteArray) (a2 : ByteArray) : Option (ByteArray × Int × Int) := (spec_l1Cur_pick.f s0_0 s0_1 s0_2 3).bind fun jF => (spec_l1Cur_spoilt.l0 k a1 a2 jF.1 s0_0 jF.2.1 jF.2.2)
theorem spec_l1Cur_spoilt.mono_l : ∀ k, (∀ y0 y1 y2 y3 y4 y5, LeO (spec_l1Cur_spoilt.l0 k y0 y1 y2 y3 y4 y5) (spec_l1Cur_spoilt.l0 (k + 1) y0 y1 y2 y3 y4 y5)) ∧ (∀ y0 y1 y2 y3 y4 y5 y6, LeO (spec_l1Cur_spoilt.j1 k y0 y1 y2 y3 y4 y5 y6) (spec_l1Cur_spoilt.j1 (k + 1) y0 y1 y2 y3 y4 y5 y6))
 | 0 => ⟨fun _ _ _ _ _ _ r h => by simp [spec_l1Cur_spoilt.l0] at h, fun _ _ _ _ _ _ _ r h => by simp [spec_l1Cur_spoilt.j1] at h⟩
 | k + 1 => by
  obtain ⟨ih0, ih1⟩ := spec_l1Cur_spoilt.mono_l k
  refine ⟨?_, ?_⟩
  ·intro y0 y1 y2 y3 y4 y5
   unfold spec_l1Cur_spoilt.l0
   with_reducible repeat' first | exact ih0 _ _ _ _ _ _ | exact ih1 _ _ _ _ _ _ _ | exact lR_ _ | exact lN_ _ | refine lI_ ?_ ?_ | refine lB_ ?_ fun _ => ?_
  ·intro y0 y1 y2 y3 y4 y5 y6
   unfold spec_l1Cur_spoilt.j1
   with_reducible repeat' first | exact ih0 _ _ _ _ _ _ | exact ih1 _ _ _ _ _ _ _ | exact lR_ _ | exact lN_ _ | refine lI_ ?_ ?_ | refine lB_ ?_ fun _ => ?_
theorem spec_l1Cur_spoilt.mono : ∀ a0 a1 a2 a3 a4 k, LeO (spec_l1Cur_spoilt.f k a0 a1 a2 a3 a4) (spec_l1Cur_spoilt.f (k + 1) a0 a1 a2 a3 a4) := by
 intro a0 a1 a2 a3 a4 k
 obtain ⟨ih0, ih1⟩ := spec_l1Cur_spoilt.mono_l k
 unfold spec_l1Cur_spoilt.f
 with_reducible repeat' first | exact ih0 _ _ _ _ _ _ | exact ih1 _ _ _ _ _ _ _ | exact lR_ _ | exact lN_ _ | refine lI_ ?_ ?_ | refine lB_ ?_ fun _ => ?_
theorem spec_l1Cur_spoilt.calls (k : Nat) (g : Nat) (s0_0 : List Int) (s0_1 : Int) (s0_2 : Int) (a1 : ByteArray) (a2 : ByteArray) (r1 : ByteArray) (r2 : Int) (r3 : Int) (w0 w : World) (hI : IsS48 w0 w g s0_0 s0_1 s0_2) (hB : Below w0.heap.size w0 w) (h : spec_l1Cur_spoilt.f k s0_0 s0_1 s0_2 a1 a2 = some (r1, r2, r3)) :
  Calls Try.prog 64 #[.pointer (some ⟨g, 0, none⟩), .string a1, .string a2] w fun e w' => e = .returned (.string r1) ∧ IsS48 w0 w' g s0_0 r2 r3 ∧ Below w0.heap.size w0 w' ∧ KeepBut w w' g none := by
 have HI0 := aM hI
 have HK := aM (KeepBut.refl w g none)
 have HL := aM hB.size
 clear hI
 have HW0 := aM hB.size
 have HB := aM hB
 clear hB
 have H : ((spec_l1Cur_pick.f s0_0 s0_1 s0_2 3).bind fun jF => (spec_l1Cur_spoilt.l0 k a1 a2 jF.1 s0_0 jF.2.1 jF.2.2)) = some (r1, r2, r3) := h
 clear h
 obtain ⟨⟨pC, pz, px⟩, A4, H⟩ := oA_ H
 try dsimp only at H
 have H' := aM H
 clear H
 go_enter Try.func64, Try.ntmps64
 go_wp2_with (first | (go_at_call 29; (with_reducible refine (spec_l1Cur_pick.calls g s0_0 s0_1 s0_2 3 pC pz px w0 _ ?side1 ?side2 A4.out).mono ?_); (case side1 => exact y68); (case side2 => exact y54); rintro e w5 ⟨rfl, hi, hb, hk⟩; replace HK := aM (KeepBut.trans z11 hk (.inl rfl)); replace HB := aM hb; replace HI0 := aM hi; (try clear hb hk hi); (try clear cj)))
 repeat (go_quiet (fail); try go_wp2_with (first | (go_at_call 29; (with_reducible refine (spec_l1Cur_pick.calls g s0_0 s0_1 s0_2 3 pC pz px w0 _ ?side1 ?side2 A4.out).mono ?_); (case side1 => exact y68); (case side2 => exact y54); rintro e w5 ⟨rfl, hi, hb, hk⟩; replace HK := aM (KeepBut.trans z11 hk (.inl rfl)); replace HB := aM hb; replace HI0 := aM hi; (try clear hb hk hi); (try clear cj))))
 go_loopg [1, 7] k (fun kq v1 v7 w' => ∃ (x1_1 : ByteArray) (x7_1 : Int) (x1001_1 : Int) (x1002_1 : Int), v1 = .string x1_1 ∧ v7 = .int .i64 x7_1 ∧ Aside0 (spec_l1Cur_spoilt.l0 kq x1_1 a2 x7_1 s0_0 x1001_1 x1002_1 = some (r1, r2, r3)) ∧ Aside0 (kq ≤ k) ∧ Aside0 (IsS48 w0 w' g s0_0 x1001_1 x1002_1) ∧ Aside0 (KeepBut w w' g none) ∧ Aside0 (Below w0.heap.size w0 w'))
 case atStart => exact ⟨(a1), (pC), (pz), (px), z1, z1, H', ⟨Nat.le_refl _⟩, ⟨y37⟩, ⟨y33⟩, ⟨y30⟩⟩
 case round =>
  clear H'
  obtain ⟨x1_1, x7_1, x1001_1, x1002_1, rfl, rfl, HA, HK1, HI0, HK, HB⟩ := hrel
  cases gk with
  | zero => exact absurd HA.out (by simp [spec_l1Cur_spoilt.l0])
  | succ k1 =>
   have H := HA.out
   clear HA
   simp only [spec_l1Cur_spoilt.l0] at H
   have qR := aM H
   clear H
   go_upto_region 2 with (fail)
   repeat (go_quiet (fail); go_upto_region 2 with (fail))
   go_cut [18] (fun v18 wc => ∃ (kq : Nat) (x18_5 : Bool), v18 = .bool x18_5 ∧ Aside0 (spec_l1Cur_spoilt.j1 kq x1_1 a2 x7_1 x18_5 s0_0 x1001_1 x1002_1 = some (r1, r2, r3)) ∧ Aside0 (kq ≤ k1) ∧ Aside0 (IsS48 w0 wc g s0_0 x1001_1 x1002_1) ∧ Aside0 (KeepBut w wc g none) ∧ Aside0 (Below w0.heap.size w0 wc))
   case first =>
    have H := qR.out
    clear qR
    by_cases c7 : x7_1 > 0
    ·rw [if_pos c7] at H
     have c7b0 : decide (0 < x7_1) = true := dT c7
     clear c7
     (first | rw [c7b0] | (simp only [i64_w, i32_w]; rw [c7b0]) | skip)
     have H' := aM H
     clear H
     go_wp2
     repeat (go_quiet (fail); try go_wp2)
     go_meet
     case rel => exact ⟨_, (decide ((x1_1.size : Int) > 0)), z1, H', ⟨y3⟩, ⟨y37⟩, ⟨y33⟩, ⟨y30⟩⟩
    ·rw [if_neg c7] at H
     have c7b0 : decide (0 < x7_1) = false := dF c7
     clear c7
     (first | rw [c7b0] | (simp only [i64_w, i32_w]; rw [c7b0]) | skip)
     have H' := aM H
     clear H
     go_wp2
     repeat (go_quiet (fail); try go_wp2)
     go_meet
     case rel => exact ⟨_, (false), z1, H', ⟨y3⟩, ⟨y37⟩, ⟨y33⟩, ⟨y30⟩⟩
   case rest =>
    clear qR
    try clear p2
    try clear p2
    obtain ⟨kq, x18_5, rfl, HA, kd, HI0, HK, HB⟩ := hcut
    cases kq with
    | zero => exact absurd HA.out (by simp [spec_l1Cur_spoilt.j1])
    | succ kj5 =>
     have H := HA.out
     clear HA
     simp only [spec_l1Cur_spoilt.j1] at H
     by_cases c8 : x18_5 = true
     ·subst c8
      rw [if_pos rfl] at H
      obtain ⟨⟨bs, fJ, fI⟩, A9, H⟩ := oA_ H
      try dsimp only at H
      obtain ⟨⟨bG, dD, dC⟩, iA, H⟩ := oA_ H
      try dsimp only at H
      by_cases b4 : 0 ≤ bG
      ·rw [if_pos b4] at H
       have c11b0 : decide (0 ≤ bG) = true := dT b4
       clear b4
       by_cases bT : bG < (a2.size : Int)
       ·rw [if_pos bT] at H
        have c12b0 : decide (bG < (a2.size : Int)) = true := dT bT
        clear bT
        obtain ⟨y178, hy178⟩ : ∃ y_ : List Int, y_ = (([bt a2 bG] : List Int)) := ⟨_, rfl⟩
        replace H : ((spec_l1Cur_pick.f s0_0 dD dC 3).bind fun dR => (if dR.1 = 0 then (if 0 ≤ bs then (if bs ≤ (x1_1.size : Int) then (if (x1_1.extract 0 (bs : Int).toNat).size + (strOfNums y178).size ≤ 9223372036854775807 then (if ((x1_1.extract 0 (bs : Int).toNat) ++ (strOfNums y178)).size + (x1_1.extract (bs : Int).toNat x1_1.size).size ≤ 9223372036854775807 then (spec_l1Cur_spoilt.l0 kj5 (((x1_1.extract 0 (bs : Int).toNat) ++ (strOfNums y178)) ++ (x1_1.extract (bs : Int).toNat x1_1.size)) a2 (wrap64 (x7_1 - 1)) s0_0 dR.2.1 dR.2.2) else (none)) else (none)) else (none)) else (none)) else (if dR.1 = 1 then (if 0 ≤ bs then (if bs ≤ (x1_1.size : Int) then (if (x1_1.extract 0 (bs : Int).toNat).size + (strOfNums y178).size ≤ 9223372036854775807 then (if 0 ≤ (wrap64 (bs + 1)) then (if (wrap64 (bs + 1)) ≤ (x1_1.size : Int) then (if ((x1_1.extract 0 (bs : Int).toNat) ++ (strOfNums y178)).size + (x1_1.extract ((wrap64 (bs + 1)) : Int).toNat x1_1.size).size ≤ 9223372036854775807 then (spec_l1Cur_spoilt.l0 kj5 (((x1_1.extract 0 (bs : Int).toNat) ++ (strOfNums y178)) ++ (x1_1.extract ((wrap64 (bs + 1)) : Int).toNat x1_1.size)) a2 (wrap64 (x7_1 - 1)) s0_0 dR.2.1 dR.2.2) else (none)) else (none)) else (none)) else (none)) else (none)) else (none)) else (if 0 ≤ bs then (if bs ≤ (x1_1.size : Int) then (if 0 ≤ (wrap64 (bs + 1)) then (if (wrap64 (bs + 1)) ≤ (x1_1.size : Int) then (if (x1_1.extract 0 (bs : Int).toNat).size + (x1_1.extract ((wrap64 (bs + 1)) : Int).toNat x1_1.size).size ≤ 9223372036854775807 then (spec_l1Cur_spoilt.l0 kj5 ((x1_1.extract 0 (bs : Int).toNat) ++ (x1_1.extract ((wrap64 (bs + 1)) : Int).toNat x1_1.size)) a2 (wrap64 (x7_1 - 1)) s0_0 dR.2.1 dR.2.2) else (none)) else (none)) else (none)) else (none)) else (none))))) = some (r1, r2, r3) := zh_ hy178
        have Ny178 := aM hy178
        clear hy178
        obtain ⟨⟨eZ, g1, gZ⟩, j5, H⟩ := oA_ H
        try dsimp only at H
        by_cases ce : eZ = 0
        ·rw [if_pos ce] at H
         have c15b0 : (eZ == 0) = true := qT ce
         have c15b1 : (eZ != 0) = false := nF ce
         clear ce
         by_cases dV : 0 ≤ bs
         ·rw [if_pos dV] at H
          have c16b0 := eq_true dV
          have c16b1 : decide (0 ≤ bs) = true := dT dV
          clear dV
          by_cases cA : bs ≤ (x1_1.size : Int)
          ·rw [if_pos cA] at H
           have c17b0 := eq_true cA
           have c17b1 : decide (bs ≤ (x1_1.size : Int)) = true := dT cA
           clear cA
           by_cases cJ : (x1_1.extract 0 (bs : Int).toNat).size + (strOfNums y178).size ≤ 9223372036854775807
           ·rw [if_pos cJ] at H
            have c18b0 := eq_true cJ
            have c18b1 : decide ((x1_1.extract 0 (bs : Int).toNat).size + (strOfNums y178).size ≤ 9223372036854775807) = true := dT cJ
            try have c18b2 : (9223372036854775807 < (x1_1.extract 0 (bs : Int).toNat).size + (strOfNums y178).size) = False := eq_false (Nat.not_lt.2 cJ)
            (try (have c18x : (9223372036854775807 < (bs).toNat + (strOfNums y178).size) = False := eq_false (fun h_ => by have e_ := of_eq_true c18b0; simp only [ByteArray.size_extract, aG] at e_; have f0_ : (bs) ≤ (x1_1.size : Int) := (by first | assumption | exact of_eq_true (by assumption) | exact oD (by assumption)); omega)))
            have c19b0 := eq_true (oD z2 : 0 ≤ bs)
            have c20b0 := eq_true (oD z2 : bs ≤ (x1_1.size : Int))
            by_cases lX : ((x1_1.extract 0 (bs : Int).toNat) ++ (strOfNums y178)).size + (x1_1.extract (bs : Int).toNat x1_1.size).size ≤ 9223372036854775807
            ·rw [if_pos lX] at H
             have c21b0 := eq_true lX
             have c21b1 : decide (((x1_1.extract 0 (bs : Int).toNat) ++ (strOfNums y178)).size + (x1_1.extract (bs : Int).toNat x1_1.size).size ≤ 9223372036854775807) = true := dT lX
             try have c21b2 : (9223372036854775807 < ((x1_1.extract 0 (bs : Int).toNat) ++ (strOfNums y178)).size + (x1_1.extract (bs : Int).toNat x1_1.size).size) = False := eq_false (Nat.not_lt.2 lX)
             (try (have c21x : (9223372036854775807 < ((bs).toNat + (strOfNums y178).size) + (x1_1.size.toNat - (bs).toNat)) = False := eq_false (fun h_ => by have e_ := of_eq_true c21b0; simp only [ByteArray.size_extract, aG] at e_; have f0_ : x1_1.size ≤ (x1_1.size : Int) := (by first | assumption | exact of_eq_true (by assumption) | exact oD (by assumption)); have f1_ : (bs) ≤ (x1_1.size : Int) := (by first | assumption | exact of_eq_true (by assumption) | exact oD (by assumption)); omega)))
             (try (have c21b2s := c21b2; simp only [aG] at c21b2s))
             have H' := aM H
             clear H
             go_wp2_with (first | (go_at_call 29; (with_reducible refine (spec_l1Cur_pick.calls g s0_0 x1001_1 x1002_1 (x1_1.size : Int) bs fJ fI w0 _ ?side1 ?side2 A9.out).mono ?_); (case side1 => exact y68); (case side2 => exact y54); rintro e w22 ⟨rfl, hi, hb, hk⟩; replace HK := aM (KeepBut.trans z11 hk (.inl rfl)); replace HB := aM hb; replace HI0 := aM hi; (try clear hb hk hi); (try clear cj)) | (go_at_call 29; (with_reducible refine (spec_l1Cur_pick.calls g s0_0 fJ fI (a2.size : Int) bG dD dC w0 _ ?side1 ?side2 iA.out).mono ?_); (case side1 => exact y68); (case side2 => exact y54); rintro e w23 ⟨rfl, hi, hb, hk⟩; replace HK := aM (KeepBut.trans z11 hk (.inl rfl)); replace HB := aM hb; replace HI0 := aM hi; (try clear hb hk hi); (try clear cj); have p13 : 0 ≤ (bG : Int) := oD z2; have q13 : bG < (a2.size : Int) := oD z2; have hx13 := bt_at a2 bG; replace p13 := eq_true p13; replace q13 := eq_true q13) | ((with_reducible refine ay (N := 31) rfl ?_); (try (refine gate_guard (by rfl) ?_; dsimp only)); refine Kd.R_lit (Kd.int .u8) _ 5 ?hg (N := 31) ?hd (xs := ([bt a2 bG] : List Int)) (inner := [.int .u8 (bt a2 bG)]) (ok := fun _ => True) (okp := fun _ => True) ?hr ?hp (fun _ hk => hk) trivial (Below.refl _ _) (Nat.le_refl _) (by simp) ?_; (case hd => rfl); (case hg => rfl); (case hr => first | (go_simp; done) | (go_simp; rfl)); (case hp => exact (Reps.one (show Kd.M (Kd.int .u8) _ _ _ (bt a2 bG) [.int .u8 (bt a2 bG)] from rfl) (Reps.none _ _))); intro v179 w24 ho25 hb hg_ hnew_; clear hg_ hnew_; (first | rw [← Ny178.out] at ho25 | (simp only [Int.reduceToNat] at ho25; rw [← Ny178.out] at ho25)); have bN := aM (aD ho25 (keep_size (w := w) (g := g) (row := none) z11)); replace HK := aM (KeepBut.trans z11 (KeepBut.of_below hb g none) (.inl rfl)); replace HB := aM (ap z16 hb); replace HI0 := aM (IsS48.below z19 hb); clear hb ho25; have hcv26 := own_string (P := Try.prog) Try.underlying22 Try.underlying5 Try.underlying9 (Kd.own_of_R bN.out)) | (go_at_call 29; (with_reducible refine (spec_l1Cur_pick.calls g s0_0 dD dC 3 eZ g1 gZ w0 _ ?side1 ?side2 j5.out).mono ?_); (case side1 => exact y68); (case side2 => exact y54); rintro e w27 ⟨rfl, hi, hb, hk⟩; replace bN := aM (ag (Kd.R_keep (IsS48.apart (show IsS48 w0 _ g s0_0 dD dC from ziHI0_) (kR_ bN.out) (by decide)) hk (fun _ h => h.2)) (fun _ h => h.1)); replace HK := aM (KeepBut.trans z11 hk (.inl rfl)); replace HB := aM hb; replace HI0 := aM hi; (try clear hb hk hi); (try clear cj)))
             repeat (go_quiet (fail); try go_wp2_with (first | (go_at_call 29; (with_reducible refine (spec_l1Cur_pick.calls g s0_0 x1001_1 x1002_1 (x1_1.size : Int) bs fJ fI w0 _ ?side1 ?side2 A9.out).mono ?_); (case side1 => exact y68); (case side2 => exact y54); rintro e w22 ⟨rfl, hi, hb, hk⟩; replace HK := aM (KeepBut.trans z11 hk (.inl rfl)); replace HB := aM hb; replace HI0 := aM hi; (try clear hb hk hi); (try clear cj)) | (go_at_call 29; (with_reducible refine (spec_l1Cur_pick.calls g s0_0 fJ fI (a2.size : Int) bG dD dC w0 _ ?side1 ?side2 iA.out).mono ?_); (case side1 => exact y68); (case side2 => exact y54); rintro e w23 ⟨rfl, hi, hb, hk⟩; replace HK := aM (KeepBut.trans z11 hk (.inl rfl)); replace HB := aM hb; replace HI0 := aM hi; (try clear hb hk hi); (try clear cj); have p13 : 0 ≤ (bG : Int) := oD z2; have q13 : bG < (a2.size : Int) := oD z2; have hx13 := bt_at a2 bG; replace p13 := eq_true p13; replace q13 := eq_true q13) | ((with_reducible refine ay (N := 31) rfl ?_); (try (refine gate_guard (by rfl) ?_; dsimp only)); refine Kd.R_lit (Kd.int .u8) _ 5 ?hg (N := 31) ?hd (xs := ([bt a2 bG] : List Int)) (inner := [.int .u8 (bt a2 bG)]) (ok := fun _ => True) (okp := fun _ => True) ?hr ?hp (fun _ hk => hk) trivial (Below.refl _ _) (Nat.le_refl _) (by simp) ?_; (case hd => rfl); (case hg => rfl); (case hr => first | (go_simp; done) | (go_simp; rfl)); (case hp => exact (Reps.one (show Kd.M (Kd.int .u8) _ _ _ (bt a2 bG) [.int .u8 (bt a2 bG)] from rfl) (Reps.none _ _))); intro v179 w24 ho25 hb hg_ hnew_; clear hg_ hnew_; (first | rw [← Ny178.out] at ho25 | (simp only [Int.reduceToNat] at ho25; rw [← Ny178.out] at ho25)); have bN := aM (aD ho25 (keep_size (w := w) (g := g) (row := none) z11)); replace HK := aM (KeepBut.trans z11 (KeepBut.of_below hb g none) (.inl rfl)); replace HB := aM (ap z16 hb); replace HI0 := aM (IsS48.below z19 hb); clear hb ho25; have hcv26 := own_string (P := Try.prog) Try.underlying22 Try.underlying5 Try.underlying9 (Kd.own_of_R bN.out)) | (go_at_call 29; (with_reducible refine (spec_l1Cur_pick.calls g s0_0 dD dC 3 eZ g1 gZ w0 _ ?side1 ?side2 j5.out).mono ?_); (case side1 => exact y68); (case side2 => exact y54); rintro e w27 ⟨rfl, hi, hb, hk⟩; replace bN := aM (ag (Kd.R_keep (IsS48.apart (show IsS48 w0 _ g s0_0 dD dC from ziHI0_) (kR_ bN.out) (by decide)) hk (fun _ h => h.2)) (fun _ h => h.1)); replace HK := aM (KeepBut.trans z11 hk (.inl rfl)); replace HB := aM hb; replace HI0 := aM hi; (try clear hb hk hi); (try clear cj))))
             go_roundg kj5
             case measure => have := HK1.out; have := kd.out; omega
             case rel => exact ⟨(((x1_1.extract 0 (bs : Int).toNat) ++ (strOfNums y178)) ++ (x1_1.extract (bs : Int).toNat x1_1.size)), (wrap64 (x7_1 - 1)), (g1), (gZ), z1, z1, H', ⟨by have := HK1.out; have := kd.out; omega⟩, ⟨y37⟩, ⟨y33⟩, ⟨y30⟩⟩
            ·rw [if_neg lX] at H
             exact absurd H (by simp)
           ·rw [if_neg cJ] at H
            exact absurd H (by simp)
          ·rw [if_neg cA] at H
           exact absurd H (by simp)
         ·rw [if_neg dV] at H
          exact absurd H (by simp)
        ·rw [if_neg ce] at H
         have c15b0 : (eZ == 0) = false := qF ce
         have c15b1 : (eZ != 0) = true := nT ce
         by_cases gH : eZ = 1
         ·rw [if_pos gH] at H
          have c28b0 : (eZ == 1) = true := qT gH
          have c28b1 : (eZ != 1) = false := nF gH
          clear gH
          by_cases gW : 0 ≤ bs
          ·rw [if_pos gW] at H
           have c29b0 := eq_true gW
           have c29b1 : decide (0 ≤ bs) = true := dT gW
           clear gW
           by_cases nU : bs ≤ (x1_1.size : Int)
           ·rw [if_pos nU] at H
            have c30b0 := eq_true nU
            have c30b1 : decide (bs ≤ (x1_1.size : Int)) = true := dT nU
            clear nU
            by_cases js : (x1_1.extract 0 (bs : Int).toNat).size + (strOfNums y178).size ≤ 9223372036854775807
            ·rw [if_pos js] at H
             have c31b0 := eq_true js
             have c31b1 : decide ((x1_1.extract 0 (bs : Int).toNat).size + (strOfNums y178).size ≤ 9223372036854775807) = true := dT js
             try have c31b2 : (9223372036854775807 < (x1_1.extract 0 (bs : Int).toNat).size + (strOfNums y178).size) = False := eq_false (Nat.not_lt.2 js)
             (try (have c31x : (9223372036854775807 < (bs).toNat + (strOfNums y178).size) = False := eq_false (fun h_ => by have e_ := of_eq_true c31b0; simp only [ByteArray.size_extract, aG] at e_; have f0_ : (bs) ≤ (x1_1.size : Int) := (by first | assumption | exact of_eq_true (by assumption) | exact oD (by assumption)); omega)))
             obtain ⟨g6, g7⟩ : ∃ j_ : Int, (wrap64 (bs + 1)) = j_ := ⟨_, rfl⟩
             replace H : (if 0 ≤ (g6) then (if (g6) ≤ (x1_1.size : Int) then (if ((x1_1.extract 0 (bs : Int).toNat) ++ (strOfNums y178)).size + (x1_1.extract ((g6) : Int).toNat x1_1.size).size ≤ 9223372036854775807 then (spec_l1Cur_spoilt.l0 kj5 (((x1_1.extract 0 (bs : Int).toNat) ++ (strOfNums y178)) ++ (x1_1.extract ((g6) : Int).toNat x1_1.size)) a2 (wrap64 (x7_1 - 1)) s0_0 g1 gZ) else (none)) else (none)) else (none)) = some (r1, r2, r3) := by first | (rw [g7] at H; exact H) | (simp only [g7] at H ⊢; exact H)
             (try rw [g7] at A9)
             (try rw [g7] at iA)
             (try rw [g7] at j5)
             have hji32w : (IntKind.i64.wrap (bs + 1)) = g6 := (i64_w _).trans g7
             by_cases ln : 0 ≤ (g6)
             ·rw [if_pos ln] at H
              have c33b0 := eq_true ln
              have c33b1 : decide (0 ≤ (g6)) = true := dT ln
              clear ln
              by_cases sO : (g6) ≤ (x1_1.size : Int)
              ·rw [if_pos sO] at H
               have c34b0 := eq_true sO
               have c34b1 : decide ((g6) ≤ (x1_1.size : Int)) = true := dT sO
               clear sO
               by_cases nK : ((x1_1.extract 0 (bs : Int).toNat) ++ (strOfNums y178)).size + (x1_1.extract ((g6) : Int).toNat x1_1.size).size ≤ 9223372036854775807
               ·rw [if_pos nK] at H
                have c35b0 := eq_true nK
                have c35b1 : decide (((x1_1.extract 0 (bs : Int).toNat) ++ (strOfNums y178)).size + (x1_1.extract ((g6) : Int).toNat x1_1.size).size ≤ 9223372036854775807) = true := dT nK
                try have c35b2 : (9223372036854775807 < ((x1_1.extract 0 (bs : Int).toNat) ++ (strOfNums y178)).size + (x1_1.extract ((g6) : Int).toNat x1_1.size).size) = False := eq_false (Nat.not_lt.2 nK)
                (try (have c35x : (9223372036854775807 < ((bs).toNat + (strOfNums y178).size) + (x1_1.size.toNat - (g6).toNat)) = False := eq_false (fun h_ => by have e_ := of_eq_true c35b0; simp only [ByteArray.size_extract, aG] at e_; have f0_ : x1_1.size ≤ (x1_1.size : Int) := (by first | assumption | exact of_eq_true (by assumption) | exact oD (by assumption)); have f1_ : (bs) ≤ (x1_1.size : Int) := (by first | assumption | exact of_eq_true (by assumption) | exact oD (by assumption)); omega)))
                (try (have c35b2s := c35b2; simp only [aG] at c35b2s))
                have H' := aM H
                clear H
                go_wp2_with (first | (go_at_call 29; (with_reducible refine (spec_l1Cur_pick.calls g s0_0 x1001_1 x1002_1 (x1_1.size : Int) bs fJ fI w0 _ ?side1 ?side2 A9.out).mono ?_); (case side1 => exact y68); (case side2 => exact y54); rintro e w36 ⟨rfl, hi, hb, hk⟩; replace HK := aM (KeepBut.trans z11 hk (.inl rfl)); replace HB := aM hb; replace HI0 := aM hi; (try clear hb hk hi); (try clear cj)) | (go_at_call 29; (with_reducible refine (spec_l1Cur_pick.calls g s0_0 fJ fI (a2.size : Int) bG dD dC w0 _ ?side1 ?side2 iA.out).mono ?_); (case side1 => exact y68); (case side2 => exact y54); rintro e w37 ⟨rfl, hi, hb, hk⟩; replace HK := aM (KeepBut.trans z11 hk (.inl rfl)); replace HB := aM hb; replace HI0 := aM hi; (try clear hb hk hi); (try clear cj); have p13 : 0 ≤ (bG : Int) := oD z2; have q13 : bG < (a2.size : Int) := oD z2; have hx13 := bt_at a2 bG; replace p13 := eq_true p13; replace q13 := eq_true q13) | ((with_reducible refine ay (N := 31) rfl ?_); (try (refine gate_guard (by rfl) ?_; dsimp only)); refine Kd.R_lit (Kd.int .u8) _ 5 ?hg (N := 31) ?hd (xs := ([bt a2 bG] : List Int)) (inner := [.int .u8 (bt a2 bG)]) (ok := fun _ => True) (okp := fun _ => True) ?hr ?hp (fun _ hk => hk) trivial (Below.refl _ _) (Nat.le_refl _) (by simp) ?_; (case hd => rfl); (case hg => rfl); (case hr => first | (go_simp; done) | (go_simp; rfl)); (case hp => exact (Reps.one (show Kd.M (Kd.int .u8) _ _ _ (bt a2 bG) [.int .u8 (bt a2 bG)] from rfl) (Reps.none _ _))); intro v179 w38 ho39 hb hg_ hnew_; clear hg_ hnew_; (first | rw [← Ny178.out] at ho39 | (simp only [Int.reduceToNat] at ho39; rw [← Ny178.out] at ho39)); have bN := aM (aD ho39 (keep_size (w := w) (g := g) (row := none) z11)); replace HK := aM (KeepBut.trans z11 (KeepBut.of_below hb g none) (.inl rfl)); replace HB := aM (ap z16 hb); replace HI0 := aM (IsS48.below z19 hb); clear hb ho39; have hcv40 := own_string (P := Try.prog) Try.underlying22 Try.underlying5 Try.underlying9 (Kd.own_of_R bN.out)) | (go_at_call 29; (with_reducible refine (spec_l1Cur_pick.calls g s0_0 dD dC 3 eZ g1 gZ w0 _ ?side1 ?side2 j5.out).mono ?_); (case side1 => exact y68); (case side2 => exact y54); rintro e w41 ⟨rfl, hi, hb, hk⟩; replace bN := aM (ag (Kd.R_keep (IsS48.apart (show IsS48 w0 _ g s0_0 dD dC from ziHI0_) (kR_ bN.out) (by decide)) hk (fun _ h => h.2)) (fun _ h => h.1)); replace HK := aM (KeepBut.trans z11 hk (.inl rfl)); replace HB := aM hb; replace HI0 := aM hi; (try clear hb hk hi); (try clear cj)))
                repeat (go_quiet (fail); try go_wp2_with (first | (go_at_call 29; (with_reducible refine (spec_l1Cur_pick.calls g s0_0 x1001_1 x1002_1 (x1_1.size : Int) bs fJ fI w0 _ ?side1 ?side2 A9.out).mono ?_); (case side1 => exact y68); (case side2 => exact y54); rintro e w36 ⟨rfl, hi, hb, hk⟩; replace HK := aM (KeepBut.trans z11 hk (.inl rfl)); replace HB := aM hb; replace HI0 := aM hi; (try clear hb hk hi); (try clear cj)) | (go_at_call 29; (with_reducible refine (spec_l1Cur_pick.calls g s0_0 fJ fI (a2.size : Int) bG dD dC w0 _ ?side1 ?side2 iA.out).mono ?_); (case side1 => exact y68); (case side2 => exact y54); rintro e w37 ⟨rfl, hi, hb, hk⟩; replace HK := aM (KeepBut.trans z11 hk (.inl rfl)); replace HB := aM hb; replace HI0 := aM hi; (try clear hb hk hi); (try clear cj); have p13 : 0 ≤ (bG : Int) := oD z2; have q13 : bG < (a2.size : Int) := oD z2; have hx13 := bt_at a2 bG; replace p13 := eq_true p13; replace q13 := eq_true q13) | ((with_reducible refine ay (N := 31) rfl ?_); (try (refine gate_guard (by rfl) ?_; dsimp only)); refine Kd.R_lit (Kd.int .u8) _ 5 ?hg (N := 31) ?hd (xs := ([bt a2 bG] : List Int)) (inner := [.int .u8 (bt a2 bG)]) (ok := fun _ => True) (okp := fun _ => True) ?hr ?hp (fun _ hk => hk) trivial (Below.refl _ _) (Nat.le_refl _) (by simp) ?_; (case hd => rfl); (case hg => rfl); (case hr => first | (go_simp; done) | (go_simp; rfl)); (case hp => exact (Reps.one (show Kd.M (Kd.int .u8) _ _ _ (bt a2 bG) [.int .u8 (bt a2 bG)] from rfl) (Reps.none _ _))); intro v179 w38 ho39 hb hg_ hnew_; clear hg_ hnew_; (first | rw [← Ny178.out] at ho39 | (simp only [Int.reduceToNat] at ho39; rw [← Ny178.out] at ho39)); have bN := aM (aD ho39 (keep_size (w := w) (g := g) (row := none) z11)); replace HK := aM (KeepBut.trans z11 (KeepBut.of_below hb g none) (.inl rfl)); replace HB := aM (ap z16 hb); replace HI0 := aM (IsS48.below z19 hb); clear hb ho39; have hcv40 := own_string (P := Try.prog) Try.underlying22 Try.underlying5 Try.underlying9 (Kd.own_of_R bN.out)) | (go_at_call 29; (with_reducible refine (spec_l1Cur_pick.calls g s0_0 dD dC 3 eZ g1 gZ w0 _ ?side1 ?side2 j5.out).mono ?_); (case side1 => exact y68); (case side2 => exact y54); rintro e w41 ⟨rfl, hi, hb, hk⟩; replace bN := aM (ag (Kd.R_keep (IsS48.apart (show IsS48 w0 _ g s0_0 dD dC from ziHI0_) (kR_ bN.out) (by decide)) hk (fun _ h => h.2)) (fun _ h => h.1)); replace HK := aM (KeepBut.trans z11 hk (.inl rfl)); replace HB := aM hb; replace HI0 := aM hi; (try clear hb hk hi); (try clear cj))))
                go_roundg kj5
                case measure => have := HK1.out; have := kd.out; omega
                case rel => exact ⟨(((x1_1.extract 0 (bs : Int).toNat) ++ (strOfNums y178)) ++ (x1_1.extract ((g6) : Int).toNat x1_1.size)), (wrap64 (x7_1 - 1)), (g1), (gZ), (by first | rfl | (simp; done) | (simp only [← g7] <;> (first | rfl | (simp; done) | (simp; generalize ByteArray.toList _ = u_; cases u_ <;> (first | rfl | (simp; done))))) | (simp [*]; done)), z1, (by first | exact H' | (simp only [g7]; exact H') | (simp only [← g7]; exact H')), ⟨by have := HK1.out; have := kd.out; omega⟩, ⟨y37⟩, ⟨y33⟩, ⟨y30⟩⟩
               ·rw [if_neg nK] at H
                exact absurd H (by simp)
              ·rw [if_neg sO] at H
               exact absurd H (by simp)
             ·rw [if_neg ln] at H
              exact absurd H (by simp)
            ·rw [if_neg js] at H
             exact absurd H (by simp)
           ·rw [if_neg nU] at H
            exact absurd H (by simp)
          ·rw [if_neg gW] at H
           exact absurd H (by simp)
         ·rw [if_neg gH] at H
          have c28b0 : (eZ == 1) = false := qF gH
          have c28b1 : (eZ != 1) = true := nT gH
          by_cases pn : 0 ≤ bs
          ·rw [if_pos pn] at H
           have c42b0 := eq_true pn
           have c42b1 : decide (0 ≤ bs) = true := dT pn
           clear pn
           by_cases nS : bs ≤ (x1_1.size : Int)
           ·rw [if_pos nS] at H
            have c43b0 := eq_true nS
            have c43b1 : decide (bs ≤ (x1_1.size : Int)) = true := dT nS
            clear nS
            obtain ⟨bO, es⟩ : ∃ j_ : Int, (wrap64 (bs + 1)) = j_ := ⟨_, rfl⟩
            replace H : (if 0 ≤ (bO) then (if (bO) ≤ (x1_1.size : Int) then (if (x1_1.extract 0 (bs : Int).toNat).size + (x1_1.extract ((bO) : Int).toNat x1_1.size).size ≤ 9223372036854775807 then (spec_l1Cur_spoilt.l0 kj5 ((x1_1.extract 0 (bs : Int).toNat) ++ (x1_1.extract ((bO) : Int).toNat x1_1.size)) a2 (wrap64 (x7_1 - 1)) s0_0 g1 gZ) else (none)) else (none)) else (none)) = some (r1, r2, r3) := by first | (rw [es] at H; exact H) | (simp only [es] at H ⊢; exact H)
            (try rw [es] at A9)
            (try rw [es] at iA)
            (try rw [es] at j5)
            have hji44w : (IntKind.i64.wrap (bs + 1)) = bO := (i64_w _).trans es
            by_cases nR : 0 ≤ (bO)
            ·rw [if_pos nR] at H
             have c45b0 := eq_true nR
             have c45b1 : decide (0 ≤ (bO)) = true := dT nR
             clear nR
             by_cases nQ : (bO) ≤ (x1_1.size : Int)
             ·rw [if_pos nQ] at H
              have c46b0 := eq_true nQ
              have c46b1 : decide ((bO) ≤ (x1_1.size : Int)) = true := dT nQ
              clear nQ
              by_cases kh : (x1_1.extract 0 (bs : Int).toNat).size + (x1_1.extract ((bO) : Int).toNat x1_1.size).size ≤ 9223372036854775807
              ·rw [if_pos kh] at H
               have c47b0 := eq_true kh
               have c47b1 : decide ((x1_1.extract 0 (bs : Int).toNat).size + (x1_1.extract ((bO) : Int).toNat x1_1.size).size ≤ 9223372036854775807) = true := dT kh
               try have c47b2 : (9223372036854775807 < (x1_1.extract 0 (bs : Int).toNat).size + (x1_1.extract ((bO) : Int).toNat x1_1.size).size) = False := eq_false (Nat.not_lt.2 kh)
               (try (have c47x : (9223372036854775807 < (bs).toNat + (x1_1.size.toNat - (bO).toNat)) = False := eq_false (fun h_ => by have e_ := of_eq_true c47b0; simp only [ByteArray.size_extract, aG] at e_; have f0_ : x1_1.size ≤ (x1_1.size : Int) := (by first | assumption | exact of_eq_true (by assumption) | exact oD (by assumption)); have f1_ : (bs) ≤ (x1_1.size : Int) := (by first | assumption | exact of_eq_true (by assumption) | exact oD (by assumption)); omega)))
               have H' := aM H
               clear H
               go_wp2_with (first | (go_at_call 29; (with_reducible refine (spec_l1Cur_pick.calls g s0_0 x1001_1 x1002_1 (x1_1.size : Int) bs fJ fI w0 _ ?side1 ?side2 A9.out).mono ?_); (case side1 => exact y68); (case side2 => exact y54); rintro e w48 ⟨rfl, hi, hb, hk⟩; replace HK := aM (KeepBut.trans z11 hk (.inl rfl)); replace HB := aM hb; replace HI0 := aM hi; (try clear hb hk hi); (try clear cj)) | (go_at_call 29; (with_reducible refine (spec_l1Cur_pick.calls g s0_0 fJ fI (a2.size : Int) bG dD dC w0 _ ?side1 ?side2 iA.out).mono ?_); (case side1 => exact y68); (case side2 => exact y54); rintro e w49 ⟨rfl, hi, hb, hk⟩; replace HK := aM (KeepBut.trans z11 hk (.inl rfl)); replace HB := aM hb; replace HI0 := aM hi; (try clear hb hk hi); (try clear cj); have p13 : 0 ≤ (bG : Int) := oD z2; have q13 : bG < (a2.size : Int) := oD z2; have hx13 := bt_at a2 bG; replace p13 := eq_true p13; replace q13 := eq_true q13) | ((with_reducible refine ay (N := 31) rfl ?_); (try (refine gate_guard (by rfl) ?_; dsimp only)); refine Kd.R_lit (Kd.int .u8) _ 5 ?hg (N := 31) ?hd (xs := ([bt a2 bG] : List Int)) (inner := [.int .u8 (bt a2 bG)]) (ok := fun _ => True) (okp := fun _ => True) ?hr ?hp (fun _ hk => hk) trivial (Below.refl _ _) (Nat.le_refl _) (by simp) ?_; (case hd => rfl); (case hg => rfl); (case hr => first | (go_simp; done) | (go_simp; rfl)); (case hp => exact (Reps.one (show Kd.M (Kd.int .u8) _ _ _ (bt a2 bG) [.int .u8 (bt a2 bG)] from rfl) (Reps.none _ _))); intro v179 w50 ho51 hb hg_ hnew_; clear hg_ hnew_; (first | rw [← Ny178.out] at ho51 | (simp only [Int.reduceToNat] at ho51; rw [← Ny178.out] at ho51)); have bN := aM (aD ho51 (keep_size (w := w) (g := g) (row := none) z11)); replace HK := aM (KeepBut.trans z11 (KeepBut.of_below hb g none) (.inl rfl)); replace HB := aM (ap z16 hb); replace HI0 := aM (IsS48.below z19 hb); clear hb ho51; have hcv52 := own_string (P := Try.prog) Try.underlying22 Try.underlying5 Try.underlying9 (Kd.own_of_R bN.out)) | (go_at_call 29; (with_reducible refine (spec_l1Cur_pick.calls g s0_0 dD dC 3 eZ g1 gZ w0 _ ?side1 ?side2 j5.out).mono ?_); (case side1 => exact y68); (case side2 => exact y54); rintro e w53 ⟨rfl, hi, hb, hk⟩; replace bN := aM (ag (Kd.R_keep (IsS48.apart (show IsS48 w0 _ g s0_0 dD dC from ziHI0_) (kR_ bN.out) (by decide)) hk (fun _ h => h.2)) (fun _ h => h.1)); replace HK := aM (KeepBut.trans z11 hk (.inl rfl)); replace HB := aM hb; replace HI0 := aM hi; (try clear hb hk hi); (try clear cj)))
               repeat (go_quiet (fail); try go_wp2_with (first | (go_at_call 29; (with_reducible refine (spec_l1Cur_pick.calls g s0_0 x1001_1 x1002_1 (x1_1.size : Int) bs fJ fI w0 _ ?side1 ?side2 A9.out).mono ?_); (case side1 => exact y68); (case side2 => exact y54); rintro e w48 ⟨rfl, hi, hb, hk⟩; replace HK := aM (KeepBut.trans z11 hk (.inl rfl)); replace HB := aM hb; replace HI0 := aM hi; (try clear hb hk hi); (try clear cj)) | (go_at_call 29; (with_reducible refine (spec_l1Cur_pick.calls g s0_0 fJ fI (a2.size : Int) bG dD dC w0 _ ?side1 ?side2 iA.out).mono ?_); (case side1 => exact y68); (case side2 => exact y54); rintro e w49 ⟨rfl, hi, hb, hk⟩; replace HK := aM (KeepBut.trans z11 hk (.inl rfl)); replace HB := aM hb; replace HI0 := aM hi; (try clear hb hk hi); (try clear cj); have p13 : 0 ≤ (bG : Int) := oD z2; have q13 : bG < (a2.size : Int) := oD z2; have hx13 := bt_at a2 bG; replace p13 := eq_true p13; replace q13 := eq_true q13) | ((with_reducible refine ay (N := 31) rfl ?_); (try (refine gate_guard (by rfl) ?_; dsimp only)); refine Kd.R_lit (Kd.int .u8) _ 5 ?hg (N := 31) ?hd (xs := ([bt a2 bG] : List Int)) (inner := [.int .u8 (bt a2 bG)]) (ok := fun _ => True) (okp := fun _ => True) ?hr ?hp (fun _ hk => hk) trivial (Below.refl _ _) (Nat.le_refl _) (by simp) ?_; (case hd => rfl); (case hg => rfl); (case hr => first | (go_simp; done) | (go_simp; rfl)); (case hp => exact (Reps.one (show Kd.M (Kd.int .u8) _ _ _ (bt a2 bG) [.int .u8 (bt a2 bG)] from rfl) (Reps.none _ _))); intro v179 w50 ho51 hb hg_ hnew_; clear hg_ hnew_; (first | rw [← Ny178.out] at ho51 | (simp only [Int.reduceToNat] at ho51; rw [← Ny178.out] at ho51)); have bN := aM (aD ho51 (keep_size (w := w) (g := g) (row := none) z11)); replace HK := aM (KeepBut.trans z11 (KeepBut.of_below hb g none) (.inl rfl)); replace HB := aM (ap z16 hb); replace HI0 := aM (IsS48.below z19 hb); clear hb ho51; have hcv52 := own_string (P := Try.prog) Try.underlying22 Try.underlying5 Try.underlying9 (Kd.own_of_R bN.out)) | (go_at_call 29; (with_reducible refine (spec_l1Cur_pick.calls g s0_0 dD dC 3 eZ g1 gZ w0 _ ?side1 ?side2 j5.out).mono ?_); (case side1 => exact y68); (case side2 => exact y54); rintro e w53 ⟨rfl, hi, hb, hk⟩; replace bN := aM (ag (Kd.R_keep (IsS48.apart (show IsS48 w0 _ g s0_0 dD dC from ziHI0_) (kR_ bN.out) (by decide)) hk (fun _ h => h.2)) (fun _ h => h.1)); replace HK := aM (KeepBut.trans z11 hk (.inl rfl)); replace HB := aM hb; replace HI0 := aM hi; (try clear hb hk hi); (try clear cj))))
               go_roundg kj5
               case measure => have := HK1.out; have := kd.out; omega
               case rel => exact ⟨((x1_1.extract 0 (bs : Int).toNat) ++ (x1_1.extract ((bO) : Int).toNat x1_1.size)), (wrap64 (x7_1 - 1)), (g1), (gZ), (by first | rfl | (simp; done) | (simp only [← es] <;> (first | rfl | (simp; done) | (simp; generalize ByteArray.toList _ = u_; cases u_ <;> (first | rfl | (simp; done))))) | (simp [*]; done)), z1, (by first | exact H' | (simp only [es]; exact H') | (simp only [← es]; exact H')), ⟨by have := HK1.out; have := kd.out; omega⟩, ⟨y37⟩, ⟨y33⟩, ⟨y30⟩⟩
              ·rw [if_neg kh] at H
               exact absurd H (by simp)
             ·rw [if_neg nQ] at H
              exact absurd H (by simp)
            ·rw [if_neg nR] at H
             exact absurd H (by simp)
           ·rw [if_neg nS] at H
            exact absurd H (by simp)
          ·rw [if_neg pn] at H
           exact absurd H (by simp)
       ·rw [if_neg bT] at H
        exact absurd H (by simp)
      ·rw [if_neg b4] at H
       exact absurd H (by simp)
     ·replace c8 := Bool.eq_false_iff.mpr c8
      subst c8
      rw [if_neg nF_] at H
      simp only [Option.some.injEq, Prod.mk.injEq] at H
      obtain ⟨rfl, rfl, rfl⟩ := H
      go_wp2
      repeat (go_quiet (fail); try go_wp2)
      go_ret
      exact ⟨y5, y37, y30, y33⟩

/-! ### spec_l1Cur_doc: function 51 -/
def spec_l1Cur_doc.j0 : Nat → ByteArray → List Int → Int → Int → Option (ByteArray × Int × Int)
 | 0, _, _, _, _ => none
 | k + 1, x3, x1000, x1001, x1002 => (spec_l1Cur_one.f x1000 x1001 x1002 12).bind fun lH => (if lH.1 = true then ((spec_l1Cur_spoilt.f k x1000 lH.2.1 lH.2.2 x3 (⟨#[65, 47, 97, 90]⟩ : ByteArray)).bind fun oZ => (some (oZ.1, oZ.2.1, oZ.2.2))) else (some (x3, lH.2.1, lH.2.2)))
def spec_l1Cur_doc.f (k : Nat) (s0_0 : List Int) (s0_1 : Int) (s0_2 : Int) : Option (ByteArray × Int × Int) := (spec_l1Cur_pick.f s0_0 s0_1 s0_2 7).bind fun jE => ((spec_l1Cur_inner.f k s0_0 jE.2.1 jE.2.2 jE.1 3).bind fun jD => ((spec_l1Cur_pick.f s0_0 jD.2.1 jD.2.2 30).bind fun dQ => (if dQ.1 = 0 then ((spec_l1Cur_inner.f k s0_0 dQ.2.1 dQ.2.2 60 3).bind fun jC => (spec_l1Cur_doc.j0 k jC.1 s0_0 jC.2.1 jC.2.2)) else (if dQ.1 = 1 then ((spec_l1Cur_of.f s0_0 dQ.2.1 dQ.2.2 (([(⟨#[65, 65, 65, 65, 65, 65, 65, 65, 65, 65, 65, 65, 47, 47, 47, 47, 47, 47, 47, 47, 47, 47, 47, 47]⟩ : ByteArray), (⟨#[65, 65, 65, 65, 65, 65, 65, 65, 65, 65, 65, 65, 65, 47, 47, 47, 47, 47, 47, 47, 47, 47, 47, 47, 47, 47]⟩ : ByteArray)] : List ByteArray))).bind fun fV => (spec_l1Cur_doc.j0 k fV.1 s0_0 fV.2.1 fV.2.2)) else (spec_l1Cur_doc.j0 k jD.1 s0_0 dQ.2.1 dQ.2.2)))))
theorem spec_l1Cur_doc.mono_l : ∀ k, (∀ y0 y1 y2 y3, LeO (spec_l1Cur_doc.j0 k y0 y1 y2 y3) (spec_l1Cur_doc.j0 (k + 1) y0 y1 y2 y3))
 | 0 => fun _ _ _ _ r h => by simp [spec_l1Cur_doc.j0] at h
 | k + 1 => by
  have ih0 := spec_l1Cur_doc.mono_l k
  ·intro y0 y1 y2 y3
   unfold spec_l1Cur_doc.j0
   with_reducible repeat' first | exact ih0 _ _ _ _ | exact spec_l1Cur_inner.mono _ _ _ _ _ _ | exact spec_l1Cur_spoilt.mono _ _ _ _ _ _ | exact lR_ _ | exact lN_ _ | refine lI_ ?_ ?_ | refine lB_ ?_ fun _ => ?_
theorem spec_l1Cur_doc.mono : ∀ a0 a1 a2 k, LeO (spec_l1Cur_doc.f k a0 a1 a2) (spec_l1Cur_doc.f (k + 1) a0 a1 a2) := by
 intro a0 a1 a2 k
 have ih0 := spec_l1Cur_doc.mono_l k
 unfold spec_l1Cur_doc.f
 with_reducible repeat' first | exact ih0 _ _ _ _ | exact spec_l1Cur_inner.mono _ _ _ _ _ _ | exact spec_l1Cur_spoilt.mono _ _ _ _ _ _ | exact lR_ _ | exact lN_ _ | refine lI_ ?_ ?_ | refine lB_ ?_ fun _ => ?_
theorem spec_l1Cur_doc.calls (k : Nat) (g : Nat) (s0_0 : List Int) (s0_1 : Int) (s0_2 : Int) (r1 : ByteArray) (r2 : Int) (r3 : Int) (w0 w : World) (hI : IsS48 w0 w g s0_0 s0_1 s0_2) (hB : Below w0.heap.size w0 w) (h : spec_l1Cur_doc.f k s0_0 s0_1 s0_2 = some (r1, r2, r3)) :
  Calls Try.prog 51 #[.pointer (some ⟨g, 0, none⟩)] w fun e w' => e = .returned (.string r1) ∧ IsS48 w0 w' g s0_0 r2 r3 ∧ Below w0.heap.size w0 w' ∧ KeepBut w w' g none := by
 have HI0 := aM hI
 have HK := aM (KeepBut.refl w g none)
 have HL := aM hB.size
 clear hI
 have HW0 := aM hB.size
 have HB := aM hB
 clear hB
 have H : ((spec_l1Cur_pick.f s0_0 s0_1 s0_2 7).bind fun jE => ((spec_l1Cur_inner.f k s0_0 jE.2.1 jE.2.2 jE.1 3).bind fun jD => ((spec_l1Cur_pick.f s0_0 jD.2.1 jD.2.2 30).bind fun dQ => (if dQ.1 = 0 then ((spec_l1Cur_inner.f k s0_0 dQ.2.1 dQ.2.2 60 3).bind fun jC => (spec_l1Cur_doc.j0 k jC.1 s0_0 jC.2.1 jC.2.2)) else (if dQ.1 = 1 then ((spec_l1Cur_of.f s0_0 dQ.2.1 dQ.2.2 (([(⟨#[65, 65, 65, 65, 65, 65, 65, 65, 65, 65, 65, 65, 47, 47, 47, 47, 47, 47, 47, 47, 47, 47, 47, 47]⟩ : ByteArray), (⟨#[65, 65, 65, 65, 65, 65, 65, 65, 65, 65, 65, 65, 65, 47, 47, 47, 47, 47, 47, 47, 47, 47, 47, 47, 47, 47]⟩ : ByteArray)] : List ByteArray))).bind fun fV => (spec_l1Cur_doc.j0 k fV.1 s0_0 fV.2.1 fV.2.2)) else (spec_l1Cur_doc.j0 k jD.1 s0_0 dQ.2.1 dQ.2.2)))))) = some (r1, r2, r3) := h
 clear h
 obtain ⟨⟨qw, sf, se⟩, A2, H⟩ := oA_ H
 try dsimp only at H
 obtain ⟨⟨sd, sc, sb⟩, A3, H⟩ := oA_ H
 try dsimp only at H
 obtain ⟨⟨jl, nE, nD⟩, A4, H⟩ := oA_ H
 try dsimp only at H
 have mg := aM H
 clear H
 go_enter Try.func51, Try.ntmps51
 go_upto_block 0 with (first | ((with_reducible refine ax (f := 29) rfl ?_); refine aC (some 6) rfl rfl Try.func29 z0 rfl #[.pointer (some ⟨g, 0, none⟩), .int .i64 7] rfl z10 ?_; (with_reducible refine (spec_l1Cur_pick.calls g s0_0 s0_1 s0_2 7 qw sf se w0 _ ?side1 ?side2 A2.out).mono ?_); (case side1 => exact y68); (case side2 => exact y54); rintro e w6 ⟨rfl, hi, hb, hk⟩; refine ⟨_, rfl, ?_⟩; replace HK := aM (KeepBut.trans z11 hk (.inl rfl)); replace HB := aM hb; replace HI0 := aM hi; (try clear hb hk hi); (try clear cj)) | ((with_reducible refine ax (f := 63) rfl ?_); refine aC (some 7) rfl rfl Try.func63 z0 rfl #[.pointer (some ⟨g, 0, none⟩), .int .i64 qw, .int .i64 3] rfl z10 ?_; (with_reducible refine (spec_l1Cur_inner.calls k g s0_0 sf se qw 3 sd sc sb w0 _ ?side1 ?side2 A3.out).mono ?_); (case side1 => exact y68); (case side2 => exact y54); rintro e w7 ⟨rfl, hi, hb, hk⟩; refine ⟨_, rfl, ?_⟩; replace HK := aM (KeepBut.trans z11 hk (.inl rfl)); replace HB := aM hb; replace HI0 := aM hi; (try clear hb hk hi); (try clear cj)) | ((with_reducible refine ax (f := 29) rfl ?_); refine aC (some 9) rfl rfl Try.func29 z0 rfl #[.pointer (some ⟨g, 0, none⟩), .int .i64 30] rfl z10 ?_; (with_reducible refine (spec_l1Cur_pick.calls g s0_0 sc sb 30 jl nE nD w0 _ ?side1 ?side2 A4.out).mono ?_); (case side1 => exact y68); (case side2 => exact y54); rintro e w8 ⟨rfl, hi, hb, hk⟩; refine ⟨_, rfl, ?_⟩; replace HK := aM (KeepBut.trans z11 hk (.inl rfl)); replace HB := aM hb; replace HI0 := aM hi; (try clear hb hk hi); (try clear cj)))
 (try simp only [Act.put, sA, sB, sC])
 go_cut [3] (fun v3 wc => ∃ (kq : Nat) (x3_4 : ByteArray) (x1001_4 : Int) (x1002_4 : Int), v3 = .string x3_4 ∧ Aside0 (spec_l1Cur_doc.j0 kq x3_4 s0_0 x1001_4 x1002_4 = some (r1, r2, r3)) ∧ Aside0 (kq ≤ k) ∧ Aside0 (IsS48 w0 wc g s0_0 x1001_4 x1002_4) ∧ Aside0 (KeepBut w wc g none) ∧ Aside0 (Below w0.heap.size w0 wc))
 case first =>
  have H := mg.out
  clear mg
  by_cases c9 : jl = 0
  ·rw [if_pos c9] at H
   have c9b0 : (jl == 0) = true := qT c9
   have c9b1 : (jl != 0) = false := nF c9
   clear c9
   (first | rw [c9b0] | (simp only [i64_w, i32_w]; rw [c9b0]) | skip)
   obtain ⟨⟨sa, r9, r8⟩, iA, H⟩ := oA_ H
   try dsimp only at H
   have H' := aM H
   clear H
   go_wp2_with (first | ((with_reducible refine ax (f := 63) rfl ?_); refine aC (some 13) rfl rfl Try.func63 z0 rfl #[.pointer (some ⟨g, 0, none⟩), .int .i64 60, .int .i64 3] rfl z10 ?_; (with_reducible refine (spec_l1Cur_inner.calls k g s0_0 nE nD 60 3 sa r9 r8 w0 _ ?side1 ?side2 iA.out).mono ?_); (case side1 => exact y68); (case side2 => exact y54); rintro e w11 ⟨rfl, hi, hb, hk⟩; refine ⟨_, rfl, ?_⟩; replace HK := aM (KeepBut.trans z11 hk (.inl rfl)); replace HB := aM hb; replace HI0 := aM hi; (try clear hb hk hi); (try clear cj)))
   go_meet
   case rel => exact ⟨_, (sa), (r9), (r8), z1, H', ⟨y1⟩, ⟨y37⟩, ⟨y33⟩, ⟨y30⟩⟩
  ·rw [if_neg c9] at H
   have c9b0 : (jl == 0) = false := qF c9
   have c9b1 : (jl != 0) = true := nT c9
   (first | rw [c9b0] | (simp only [i64_w, i32_w]; rw [c9b0]) | skip)
   by_cases bT : jl = 1
   ·rw [if_pos bT] at H
    have c12b0 : (jl == 1) = true := qT bT
    have c12b1 : (jl != 1) = false := nF bT
    clear bT
    obtain ⟨y196, hy196⟩ : ∃ y_ : List ByteArray, y_ = (([(⟨#[65, 65, 65, 65, 65, 65, 65, 65, 65, 65, 65, 65, 47, 47, 47, 47, 47, 47, 47, 47, 47, 47, 47, 47]⟩ : ByteArray), (⟨#[65, 65, 65, 65, 65, 65, 65, 65, 65, 65, 65, 65, 65, 47, 47, 47, 47, 47, 47, 47, 47, 47, 47, 47, 47, 47]⟩ : ByteArray)] : List ByteArray)) := ⟨_, rfl⟩
    replace H : ((spec_l1Cur_of.f s0_0 nE nD y196).bind fun fV => (spec_l1Cur_doc.j0 k fV.1 s0_0 fV.2.1 fV.2.2)) = some (r1, r2, r3) := zh_ hy196
    have Ny196 := aM hy196
    clear hy196
    obtain ⟨⟨r7, r6, r0⟩, rm, H⟩ := oA_ H
    try dsimp only at H
    have H' := aM H
    clear H
    go_wp2_with (first | ((with_reducible refine ay (N := 17) rfl ?_); refine Kd.R_lit Kd.string _ 9 ?hg (N := 17) ?hd (xs := ([(⟨#[65, 65, 65, 65, 65, 65, 65, 65, 65, 65, 65, 65, 47, 47, 47, 47, 47, 47, 47, 47, 47, 47, 47, 47]⟩ : ByteArray), (⟨#[65, 65, 65, 65, 65, 65, 65, 65, 65, 65, 65, 65, 65, 47, 47, 47, 47, 47, 47, 47, 47, 47, 47, 47, 47, 47]⟩ : ByteArray)] : List ByteArray)) (inner := [.string (⟨#[65, 65, 65, 65, 65, 65, 65, 65, 65, 65, 65, 65, 47, 47, 47, 47, 47, 47, 47, 47, 47, 47, 47, 47]⟩ : ByteArray), .string (⟨#[65, 65, 65, 65, 65, 65, 65, 65, 65, 65, 65, 65, 65, 47, 47, 47, 47, 47, 47, 47, 47, 47, 47, 47, 47, 47]⟩ : ByteArray)]) (ok := fun _ => True) (okp := fun _ => True) ?hr ?hp (fun _ hk => hk) trivial (Below.refl _ _) (Nat.le_refl _) (by simp) ?_; (case hd => rfl); (case hg => rfl); (case hr => first | (go_simp; done) | (go_simp; rfl)); (case hp => exact (Reps.one (show Kd.M Kd.string _ _ _ (⟨#[65, 65, 65, 65, 65, 65, 65, 65, 65, 65, 65, 65, 47, 47, 47, 47, 47, 47, 47, 47, 47, 47, 47, 47]⟩ : ByteArray) [.string (⟨#[65, 65, 65, 65, 65, 65, 65, 65, 65, 65, 65, 65, 47, 47, 47, 47, 47, 47, 47, 47, 47, 47, 47, 47]⟩ : ByteArray)] from rfl) (Reps.one (show Kd.M Kd.string _ _ _ (⟨#[65, 65, 65, 65, 65, 65, 65, 65, 65, 65, 65, 65, 65, 47, 47, 47, 47, 47, 47, 47, 47, 47, 47, 47, 47, 47]⟩ : ByteArray) [.string (⟨#[65, 65, 65, 65, 65, 65, 65, 65, 65, 65, 65, 65, 65, 47, 47, 47, 47, 47, 47, 47, 47, 47, 47, 47, 47, 47]⟩ : ByteArray)] from rfl) (Reps.none _ _)))); intro v197 w14 ho15 hb hg_ hnew_; clear hg_ hnew_; (first | rw [← Ny196.out] at ho15 | (simp only [Int.reduceToNat] at ho15; rw [← Ny196.out] at ho15)); have jN := aM (aD ho15 (keep_size (w := w) (g := g) (row := none) z11)); replace HK := aM (KeepBut.trans z11 (KeepBut.of_below hb g none) (.inl rfl)); replace HB := aM (ap z16 hb); replace HI0 := aM (IsS48.below z19 hb); clear hb ho15; obtain ⟨sT, sH, eo16⟩ := Kd.R_slice jN.out; subst eo16) | ((with_reducible refine ax (f := 30) rfl ?_); refine aC (some 18) rfl rfl Try.func30 z0 rfl #[.pointer (some ⟨g, 0, none⟩), .slice sT y196.length sH] rfl z10 ?_; (with_reducible refine (spec_l1Cur_of.calls g s0_0 nE nD _ _ y196 r7 r6 r0 w0 _ ?side1 ?side2 ?side3 ?side4 ?side5 rm.out).mono ?_); (case side1 => exact y68); (case side2 => exact y54); (case side3 => repeat (first | exact (ah jN.out).2.2 | (with_reducible refine au ?_ _) | (with_reducible refine av ?_ _) | (with_reducible refine aw ?_))); (case side4 => exact (ah jN.out).2.1); (case side5 => exact far_slice (IsS48.own_ne HI0.out jN.out (by decide))); rintro e w17 ⟨rfl, hi, hb, hk⟩; refine ⟨_, rfl, ?_⟩; replace jN := aM (ag (Kd.R_keep (IsS48.apart (show IsS48 w0 _ g s0_0 nE nD from ziHI0_) (kR_ jN.out) (by decide)) hk (fun _ h => h.2)) (fun _ h => h.1)); replace HK := aM (KeepBut.trans z11 hk (.inl rfl)); replace HB := aM hb; replace HI0 := aM hi; (try clear hb hk hi); (try clear cj)))
    go_meet
    case rel => exact ⟨_, (r7), (r6), (r0), z1, H', ⟨y1⟩, ⟨y37⟩, ⟨y33⟩, ⟨y30⟩⟩
   ·rw [if_neg bT] at H
    have c12b0 : (jl == 1) = false := qF bT
    have c12b1 : (jl != 1) = true := nT bT
    have H' := aM H
    clear H
    go_wp2
    go_meet
    case rel => exact ⟨_, (sd), (nE), (nD), z1, H', ⟨y1⟩, ⟨y37⟩, ⟨y33⟩, ⟨y30⟩⟩
 case rest =>
  clear mg
  obtain ⟨kq, x3_4, x1001_4, x1002_4, rfl, HA, kn, HI0, HK, HB⟩ := hcut
  cases kq with
  | zero => exact absurd HA.out (by simp [spec_l1Cur_doc.j0])
  | succ kj4 =>
   have H := HA.out
   clear HA
   simp only [spec_l1Cur_doc.j0] at H
   obtain ⟨⟨t202, qv, qu⟩, tN, H⟩ := oA_ H
   try dsimp only at H
   by_cases iN : t202 = true
   ·subst iN
    rw [if_pos rfl] at H
    obtain ⟨⟨t205, t206, t207⟩, f7, H⟩ := oA_ H
    try dsimp only at H
    simp only [Option.some.injEq, Prod.mk.injEq] at H
    obtain ⟨rfl, rfl, rfl⟩ := H
    go_wp2_with (first | ((with_reducible refine ax (f := 36) rfl ?_); refine aC (some 20) rfl rfl Try.func36 z0 rfl #[.pointer (some ⟨g, 0, none⟩), .int .i64 12] rfl z10 ?_; (with_reducible refine (spec_l1Cur_one.calls g s0_0 x1001_4 x1002_4 12 true qv qu w0 _ ?side1 ?side2 tN.out).mono ?_); (case side1 => exact y68); (case side2 => exact y54); rintro e w21 ⟨rfl, hi, hb, hk⟩; refine ⟨_, rfl, ?_⟩; replace HK := aM (KeepBut.trans z11 hk (.inl rfl)); replace HB := aM hb; replace HI0 := aM hi; (try clear hb hk hi); (try clear cj)) | ((with_reducible refine ax (f := 64) rfl ?_); refine aC (some 23) rfl rfl Try.func64 z0 rfl #[.pointer (some ⟨g, 0, none⟩), .string x3_4, .string (⟨#[65, 47, 97, 90]⟩ : ByteArray)] rfl z10 ?_; (with_reducible refine (spec_l1Cur_spoilt.calls kj4 g s0_0 qv qu x3_4 (⟨#[65, 47, 97, 90]⟩ : ByteArray) t205 t206 t207 w0 _ ?side1 ?side2 f7.out).mono ?_); (case side1 => exact y68); (case side2 => exact y54); rintro e w22 ⟨rfl, hi, hb, hk⟩; refine ⟨_, rfl, ?_⟩; replace HK := aM (KeepBut.trans z11 hk (.inl rfl)); replace HB := aM hb; replace HI0 := aM hi; (try clear hb hk hi); (try clear cj)))
    go_ret
    exact ⟨y5, y37, y30, y33⟩
   ·replace iN := Bool.eq_false_iff.mpr iN
    subst iN
    rw [if_neg nF_] at H
    simp only [Option.some.injEq, Prod.mk.injEq] at H
    obtain ⟨rfl, rfl, rfl⟩ := H
    go_wp2_with (first | ((with_reducible refine ax (f := 36) rfl ?_); refine aC (some 20) rfl rfl Try.func36 z0 rfl #[.pointer (some ⟨g, 0, none⟩), .int .i64 12] rfl z10 ?_; (with_reducible refine (spec_l1Cur_one.calls g s0_0 x1001_4 x1002_4 12 false qv qu w0 _ ?side1 ?side2 tN.out).mono ?_); (case side1 => exact y68); (case side2 => exact y54); rintro e w23 ⟨rfl, hi, hb, hk⟩; refine ⟨_, rfl, ?_⟩; replace HK := aM (KeepBut.trans z11 hk (.inl rfl)); replace HB := aM hb; replace HI0 := aM hi; (try clear hb hk hi); (try clear cj)))
    go_ret
    exact ⟨y5, y37, y30, y33⟩

/-! ### spec_l1Open: function 79 -/
def spec_l1Open.f (a0 : Int) : Option (Bool) := if a0 ≥ 65 then (some (decide (a0 ≤ 70))) else (some false)
theorem spec_l1Open.calls (a0 : Int) (r : Bool) (w : World) (h : spec_l1Open.f a0 = some r) :
  Calls Try.prog 79 #[.int .u8 a0] w fun e w' => e = .returned (.bool r) ∧ Drawn0 w w' := by
 have H : (if a0 ≥ 65 then (some (decide (a0 ≤ 70))) else (some false)) = some r := h
 clear h
 by_cases c2 : a0 ≥ 65
 ·rw [if_pos c2] at H
  have c2b0 : decide (65 ≤ a0) = true := dT c2
  clear c2
  obtain rfl := sI H
  go_enter Try.func79, Try.ntmps79
  go_wp2
  go_ret
  exact ⟨y2, y4⟩
 ·rw [if_neg c2] at H
  have c2b0 : decide (65 ≤ a0) = false := dF c2
  clear c2
  obtain rfl := sI H
  go_enter Try.func79, Try.ntmps79
  go_wp2
  go_ret
  exact ⟨y2, y4⟩

/-! ### spec_l1Plain: function 80 -/
def spec_l1Plain.f (a0 : Int) : Option (Bool) := if a0 ≥ 97 then (if a0 ≤ 122 then (some true) else (if a0 ≥ 48 then (if a0 ≤ 57 then (some true) else (if a0 = 32 then (some true) else (if a0 = 46 then (some true) else (some (a0 == 44))))) else (if a0 = 32 then (some true) else (if a0 = 46 then (some true) else (some (a0 == 44)))))) else (if a0 ≥ 48 then (if a0 ≤ 57 then (some true) else (if a0 = 32 then (some true) else (if a0 = 46 then (some true) else (some (a0 == 44))))) else (if a0 = 32 then (some true) else (if a0 = 46 then (some true) else (some (a0 == 44)))))
theorem spec_l1Plain.calls (a0 : Int) (r : Bool) (w : World) (h : spec_l1Plain.f a0 = some r) :
  Calls Try.prog 80 #[.int .u8 a0] w fun e w' => e = .returned (.bool r) ∧ Drawn0 w w' := by
 have H : (if a0 ≥ 97 then (if a0 ≤ 122 then (some true) else (if a0 ≥ 48 then (if a0 ≤ 57 then (some true) else (if a0 = 32 then (some true) else (if a0 = 46 then (some true) else (some (a0 == 44))))) else (if a0 = 32 then (some true) else (if a0 = 46 then (some true) else (some (a0 == 44)))))) else (if a0 ≥ 48 then (if a0 ≤ 57 then (some true) else (if a0 = 32 then (some true) else (if a0 = 46 then (some true) else (some (a0 == 44))))) else (if a0 = 32 then (some true) else (if a0 = 46 then (some true) else (some (a0 == 44)))))) = some r := h
 clear h
 by_cases c2 : a0 ≥ 97
 ·rw [if_pos c2] at H
  have c2b0 : decide (97 ≤ a0) = true := dT c2
  clear c2
  by_cases c3 : a0 ≤ 122
  ·rw [if_pos c3] at H
   have c3b0 : decide (a0 ≤ 122) = true := dT c3
   clear c3
   obtain rfl := sI H
   go_enter Try.func80, Try.ntmps80
   go_wp2
   go_ret
   exact ⟨y2, y4⟩
  ·rw [if_neg c3] at H
   have c3b0 : decide (a0 ≤ 122) = false := dF c3
   clear c3
   by_cases c4 : a0 ≥ 48
   ·rw [if_pos c4] at H
    have c4b0 : decide (48 ≤ a0) = true := dT c4
    clear c4
    by_cases c5 : a0 ≤ 57
    ·rw [if_pos c5] at H
     have c5b0 : decide (a0 ≤ 57) = true := dT c5
     clear c5
     obtain rfl := sI H
     go_enter Try.func80, Try.ntmps80
     go_wp2
     go_ret
     exact ⟨y2, y4⟩
    ·rw [if_neg c5] at H
     have c5b0 : decide (a0 ≤ 57) = false := dF c5
     clear c5
     by_cases c6 : a0 = 32
     ·rw [if_pos c6] at H
      have c6b0 : (a0 == 32) = true := qT c6
      have c6b1 : (a0 != 32) = false := nF c6
      clear c6
      obtain rfl := sI H
      go_enter Try.func80, Try.ntmps80
      go_wp2
      go_ret
      exact ⟨y2, y4⟩
     ·rw [if_neg c6] at H
      have c6b0 : (a0 == 32) = false := qF c6
      have c6b1 : (a0 != 32) = true := nT c6
      by_cases c7 : a0 = 46
      ·rw [if_pos c7] at H
       have c7b0 : (a0 == 46) = true := qT c7
       have c7b1 : (a0 != 46) = false := nF c7
       clear c7
       obtain rfl := sI H
       go_enter Try.func80, Try.ntmps80
       go_wp2
       go_ret
       exact ⟨y2, y4⟩
      ·rw [if_neg c7] at H
       have c7b0 : (a0 == 46) = false := qF c7
       have c7b1 : (a0 != 46) = true := nT c7
       obtain rfl := sI H
       go_enter Try.func80, Try.ntmps80
       go_wp2
       go_ret
       exact ⟨y2, y4⟩
   ·rw [if_neg c4] at H
    have c4b0 : decide (48 ≤ a0) = false := dF c4
    clear c4
    by_cases c8 : a0 = 32
    ·rw [if_pos c8] at H
     have c8b0 : (a0 == 32) = true := qT c8
     have c8b1 : (a0 != 32) = false := nF c8
     clear c8
     obtain rfl := sI H
     go_enter Try.func80, Try.ntmps80
     go_wp2
     go_ret
     exact ⟨y2, y4⟩
    ·rw [if_neg c8] at H
     have c8b0 : (a0 == 32) = false := qF c8
     have c8b1 : (a0 != 32) = true := nT c8
     by_cases c9 : a0 = 46
     ·rw [if_pos c9] at H
      have c9b0 : (a0 == 46) = true := qT c9
      have c9b1 : (a0 != 46) = false := nF c9
      clear c9
      obtain rfl := sI H
      go_enter Try.func80, Try.ntmps80
      go_wp2
      go_ret
      exact ⟨y2, y4⟩
     ·rw [if_neg c9] at H
      have c9b0 : (a0 == 46) = false := qF c9
      have c9b1 : (a0 != 46) = true := nT c9
      obtain rfl := sI H
      go_enter Try.func80, Try.ntmps80
      go_wp2
      go_ret
      exact ⟨y2, y4⟩
 ·rw [if_neg c2] at H
  have c2b0 : decide (97 ≤ a0) = false := dF c2
  clear c2
  by_cases cq : a0 ≥ 48
  ·rw [if_pos cq] at H
   have c10b0 : decide (48 ≤ a0) = true := dT cq
   clear cq
   by_cases b4 : a0 ≤ 57
   ·rw [if_pos b4] at H
    have c11b0 : decide (a0 ≤ 57) = true := dT b4
    clear b4
    obtain rfl := sI H
    go_enter Try.func80, Try.ntmps80
    go_wp2
    go_ret
    exact ⟨y2, y4⟩
   ·rw [if_neg b4] at H
    have c11b0 : decide (a0 ≤ 57) = false := dF b4
    clear b4
    by_cases bT : a0 = 32
    ·rw [if_pos bT] at H
     have c12b0 : (a0 == 32) = true := qT bT
     have c12b1 : (a0 != 32) = false := nF bT
     clear bT
     obtain rfl := sI H
     go_enter Try.func80, Try.ntmps80
     go_wp2
     go_ret
     exact ⟨y2, y4⟩
    ·rw [if_neg bT] at H
     have c12b0 : (a0 == 32) = false := qF bT
     have c12b1 : (a0 != 32) = true := nT bT
     by_cases bU : a0 = 46
     ·rw [if_pos bU] at H
      have c13b0 : (a0 == 46) = true := qT bU
      have c13b1 : (a0 != 46) = false := nF bU
      clear bU
      obtain rfl := sI H
      go_enter Try.func80, Try.ntmps80
      go_wp2
      go_ret
      exact ⟨y2, y4⟩
     ·rw [if_neg bU] at H
      have c13b0 : (a0 == 46) = false := qF bU
      have c13b1 : (a0 != 46) = true := nT bU
      obtain rfl := sI H
      go_enter Try.func80, Try.ntmps80
      go_wp2
      go_ret
      exact ⟨y2, y4⟩
  ·rw [if_neg cq] at H
   have c10b0 : decide (48 ≤ a0) = false := dF cq
   clear cq
   by_cases cO : a0 = 32
   ·rw [if_pos cO] at H
    have c14b0 : (a0 == 32) = true := qT cO
    have c14b1 : (a0 != 32) = false := nF cO
    clear cO
    obtain rfl := sI H
    go_enter Try.func80, Try.ntmps80
    go_wp2
    go_ret
    exact ⟨y2, y4⟩
   ·rw [if_neg cO] at H
    have c14b0 : (a0 == 32) = false := qF cO
    have c14b1 : (a0 != 32) = true := nT cO
    by_cases ce : a0 = 46
    ·rw [if_pos ce] at H
     have c15b0 : (a0 == 46) = true := qT ce
     have c15b1 : (a0 != 46) = false := nF ce
     clear ce
     obtain rfl := sI H
     go_enter Try.func80, Try.ntmps80
     go_wp2
     go_ret
     exact ⟨y2, y4⟩
    ·rw [if_neg ce] at H
     have c15b0 : (a0 == 46) = false := qF ce
     have c15b1 : (a0 != 46) = true := nT ce
     obtain rfl := sI H
     go_enter Try.func80, Try.ntmps80
     go_wp2
     go_ret
     exact ⟨y2, y4⟩

/-! ### spec_l1Text: function 65 -/
def spec_l1Text.l0 : Nat → ByteArray → Int → Option (Bool)
 | 0, _, _ => none
 | k + 1, x0, x3 => if x3 < (x0.size : Int) then (if 0 ≤ x3 then ((spec_l1Open.f (bt x0 x3)).bind fun qt => (if qt = true then (spec_l1Text.l0 k x0 (wrap64 (x3 + 1))) else ((spec_l1Plain.f (bt x0 x3)).bind fun qr => (if qr = true then (spec_l1Text.l0 k x0 (wrap64 (x3 + 1))) else (if (bt x0 x3) = 47 then (spec_l1Text.l0 k x0 (wrap64 (x3 + 1))) else (some false)))))) else (none)) else (some true)
def spec_l1Text.f (k : Nat) (a0 : ByteArray) : Option (Bool) := spec_l1Text.l0 k a0 0
theorem spec_l1Text.mono_l : ∀ k, (∀ y0 y1, LeO (spec_l1Text.l0 k y0 y1) (spec_l1Text.l0 (k + 1) y0 y1))
 | 0 => fun _ _ r h => by simp [spec_l1Text.l0] at h
 | k + 1 => by
  have ih0 := spec_l1Text.mono_l k
  ·intro y0 y1
   unfold spec_l1Text.l0
   with_reducible repeat' first | exact ih0 _ _ | exact lR_ _ | exact lN_ _ | refine lI_ ?_ ?_ | refine lB_ ?_ fun _ => ?_
theorem spec_l1Text.mono : ∀ a0 k, LeO (spec_l1Text.f k a0) (spec_l1Text.f (k + 1) a0) := by
 intro a0 k
 have ih0 := spec_l1Text.mono_l k
 unfold spec_l1Text.f
 with_reducible repeat' first | exact ih0 _ _ | exact lR_ _ | exact lN_ _ | refine lI_ ?_ ?_ | refine lB_ ?_ fun _ => ?_
theorem spec_l1Text.calls (k : Nat) (a0 : ByteArray) (r : Bool) (w : World) (h : spec_l1Text.f k a0 = some r) :
  Calls Try.prog 65 #[.string a0] w fun e w' => e = .returned (.bool r) ∧ Drawn0 w w' := by
 have H : (spec_l1Text.l0 k a0 0) = some r := h
 clear h
 have H' := aM H
 clear H
 go_enter Try.func65, Try.ntmps65
 go_wp2
 go_loopg [3] k (fun kq v3 w' => ∃ (x3_1 : Int), v3 = .int .i64 x3_1 ∧ Aside0 (spec_l1Text.l0 kq a0 x3_1 = some r) ∧ Aside0 (kq ≤ k) ∧ Drawn0 w w')
 case atStart => exact ⟨(0), z1, H', ⟨Nat.le_refl _⟩, y4⟩
 case round =>
  clear H'
  obtain ⟨x3_1, rfl, HA, HK1, ⟨m1, rfl⟩⟩ := hrel
  cases gk with
  | zero => exact absurd HA.out (by simp [spec_l1Text.l0])
  | succ k1 =>
   have H := HA.out
   clear HA
   simp only [spec_l1Text.l0] at H
   by_cases c2 : x3_1 < (a0.size : Int)
   ·rw [if_pos c2] at H
    have c2b0 : decide (x3_1 < (a0.size : Int)) = true := dT c2
    clear c2
    by_cases c3 : 0 ≤ x3_1
    ·rw [if_pos c3] at H
     have c3b0 : decide (0 ≤ x3_1) = true := dT c3
     clear c3
     obtain ⟨qt, A5, H⟩ := oA_ H
     try dsimp only at H
     by_cases c6 : qt = true
     ·subst c6
      rw [if_pos rfl] at H
      have H' := aM H
      clear H
      have p4 : 0 ≤ (x3_1 : Int) := oD z2
      have q4 : x3_1 < (a0.size : Int) := oD z2
      have hx4 := bt_at a0 x3_1
      replace p4 := eq_true p4
      replace q4 := eq_true q4
      go_wp2_with (first | ((with_reducible refine ax (f := 79) rfl ?_); refine aC (some 13) rfl rfl Try.func79 z0 rfl #[.int .u8 (bt a0 x3_1)] rfl z10 ?_; (with_reducible refine (spec_l1Open.calls (bt a0 x3_1) true _ A5.out).mono ?_); rintro e w' ⟨rfl, ⟨nd, rfl⟩⟩; refine ⟨_, rfl, ?_⟩))
      go_roundg k1
      case measure => have := HK1.out; omega
      case rel => exact ⟨(wrap64 (x3_1 + 1)), z1, H', ⟨y0⟩, y4⟩
     ·replace c6 := Bool.eq_false_iff.mpr c6
      subst c6
      rw [if_neg nF_] at H
      obtain ⟨qr, A8, H⟩ := oA_ H
      try dsimp only at H
      by_cases c9 : qr = true
      ·subst c9
       rw [if_pos rfl] at H
       have H' := aM H
       clear H
       have p4 : 0 ≤ (x3_1 : Int) := oD z2
       have q4 : x3_1 < (a0.size : Int) := oD z2
       have hx4 := bt_at a0 x3_1
       replace p4 := eq_true p4
       replace q4 := eq_true q4
       go_wp2_with (first | ((with_reducible refine ax (f := 79) rfl ?_); refine aC (some 13) rfl rfl Try.func79 z0 rfl #[.int .u8 (bt a0 x3_1)] rfl z10 ?_; (with_reducible refine (spec_l1Open.calls (bt a0 x3_1) false _ A5.out).mono ?_); rintro e w' ⟨rfl, ⟨nd, rfl⟩⟩; refine ⟨_, rfl, ?_⟩; have p7 : 0 ≤ (x3_1 : Int) := oD z2; have q7 : x3_1 < (a0.size : Int) := oD z2; have hx7 := bt_at a0 x3_1; replace p7 := eq_true p7; replace q7 := eq_true q7) | (go_at_call 80; (with_reducible refine (spec_l1Plain.calls (bt a0 x3_1) true _ A8.out).mono ?_); rintro e w' ⟨rfl, ⟨nd, rfl⟩⟩))
       go_roundg k1
       case measure => have := HK1.out; omega
       case rel => exact ⟨(wrap64 (x3_1 + 1)), z1, H', ⟨y0⟩, y4⟩
      ·replace c9 := Bool.eq_false_iff.mpr c9
       subst c9
       rw [if_neg nF_] at H
       by_cases b4 : (bt a0 x3_1) = 47
       ·rw [if_pos b4] at H
        have c11b0 : ((bt a0 x3_1) == 47) = true := qT b4
        have c11b1 : ((bt a0 x3_1) != 47) = false := nF b4
        clear b4
        have H' := aM H
        clear H
        have p4 : 0 ≤ (x3_1 : Int) := oD z2
        have q4 : x3_1 < (a0.size : Int) := oD z2
        have hx4 := bt_at a0 x3_1
        replace p4 := eq_true p4
        replace q4 := eq_true q4
        go_wp2_with (first | ((with_reducible refine ax (f := 79) rfl ?_); refine aC (some 13) rfl rfl Try.func79 z0 rfl #[.int .u8 (bt a0 x3_1)] rfl z10 ?_; (with_reducible refine (spec_l1Open.calls (bt a0 x3_1) false _ A5.out).mono ?_); rintro e w' ⟨rfl, ⟨nd, rfl⟩⟩; refine ⟨_, rfl, ?_⟩; have p7 : 0 ≤ (x3_1 : Int) := oD z2; have q7 : x3_1 < (a0.size : Int) := oD z2; have hx7 := bt_at a0 x3_1; replace p7 := eq_true p7; replace q7 := eq_true q7) | (go_at_call 80; (with_reducible refine (spec_l1Plain.calls (bt a0 x3_1) false _ A8.out).mono ?_); rintro e w' ⟨rfl, ⟨nd, rfl⟩⟩; have p10 : 0 ≤ (x3_1 : Int) := oD z2; have q10 : x3_1 < (a0.size : Int) := oD z2; have hx10 := bt_at a0 x3_1; replace p10 := eq_true p10; replace q10 := eq_true q10))
        go_roundg k1
        case measure => have := HK1.out; omega
        case rel => exact ⟨(wrap64 (x3_1 + 1)), z1, H', ⟨y0⟩, y4⟩
       ·rw [if_neg b4] at H
        have c11b0 : ((bt a0 x3_1) == 47) = false := qF b4
        have c11b1 : ((bt a0 x3_1) != 47) = true := nT b4
        obtain rfl := sI H
        have p4 : 0 ≤ (x3_1 : Int) := oD z2
        have q4 : x3_1 < (a0.size : Int) := oD z2
        have hx4 := bt_at a0 x3_1
        replace p4 := eq_true p4
        replace q4 := eq_true q4
        go_wp2_with (first | ((with_reducible refine ax (f := 79) rfl ?_); refine aC (some 13) rfl rfl Try.func79 z0 rfl #[.int .u8 (bt a0 x3_1)] rfl z10 ?_; (with_reducible refine (spec_l1Open.calls (bt a0 x3_1) false _ A5.out).mono ?_); rintro e w' ⟨rfl, ⟨nd, rfl⟩⟩; refine ⟨_, rfl, ?_⟩; have p7 : 0 ≤ (x3_1 : Int) := oD z2; have q7 : x3_1 < (a0.size : Int) := oD z2; have hx7 := bt_at a0 x3_1; replace p7 := eq_true p7; replace q7 := eq_true q7) | (go_at_call 80; (with_reducible refine (spec_l1Plain.calls (bt a0 x3_1) false _ A8.out).mono ?_); rintro e w' ⟨rfl, ⟨nd, rfl⟩⟩; have p10 : 0 ≤ (x3_1 : Int) := oD z2; have q10 : x3_1 < (a0.size : Int) := oD z2; have hx10 := bt_at a0 x3_1; replace p10 := eq_true p10; replace q10 := eq_true q10))
        go_ret
        exact ⟨y2, y4⟩
    ·rw [if_neg c3] at H
     exact absurd H (by simp)
   ·rw [if_neg c2] at H
    have c2b0 : decide (x3_1 < (a0.size : Int)) = false := dF c2
    clear c2
    obtain rfl := sI H
    go_wp2
    go_ret
    exact ⟨y2, y4⟩

/-! ### spec_GoodText: function 52 -/
def spec_GoodText.f (k : Nat) (a0 : ByteArray) : Option (Bool) := (spec_l1Text.f k a0).bind fun oz => (if oz = true then (some (decide ((a0.size : Int) ≤ 300))) else (some false))
theorem spec_GoodText.mono : ∀ a0 k, LeO (spec_GoodText.f k a0) (spec_GoodText.f (k + 1) a0) := by
 intro a0 k
 unfold spec_GoodText.f
 with_reducible repeat' first | exact spec_l1Text.mono _ _ | exact lR_ _ | exact lN_ _ | refine lI_ ?_ ?_ | refine lB_ ?_ fun _ => ?_
theorem spec_GoodText.calls (k : Nat) (a0 : ByteArray) (r : Bool) (w : World) (h : spec_GoodText.f k a0 = some r) :
  Calls Try.prog 52 #[.string a0] w fun e w' => e = .returned (.bool r) ∧ Drawn0 w w' := by
 have H : ((spec_l1Text.f k a0).bind fun oz => (if oz = true then (some (decide ((a0.size : Int) ≤ 300))) else (some false))) = some r := h
 clear h
 obtain ⟨oz, A2, H⟩ := oA_ H
 try dsimp only at H
 by_cases c3 : oz = true
 ·subst c3
  rw [if_pos rfl] at H
  obtain rfl := sI H
  go_enter Try.func52, Try.ntmps52
  go_wp2_with (first | ((with_reducible refine ax (f := 65) rfl ?_); refine aC (some 4) rfl rfl Try.func65 z0 rfl #[.string a0] rfl z10 ?_; (with_reducible refine (spec_l1Text.calls k a0 true _ A2.out).mono ?_); rintro e w' ⟨rfl, ⟨nd, rfl⟩⟩; refine ⟨_, rfl, ?_⟩))
  go_ret
  exact ⟨y2, y4⟩
 ·replace c3 := Bool.eq_false_iff.mpr c3
  subst c3
  rw [if_neg nF_] at H
  obtain rfl := sI H
  go_enter Try.func52, Try.ntmps52
  go_wp2_with (first | ((with_reducible refine ax (f := 65) rfl ?_); refine aC (some 4) rfl rfl Try.func65 z0 rfl #[.string a0] rfl z10 ?_; (with_reducible refine (spec_l1Text.calls k a0 false _ A2.out).mono ?_); rintro e w' ⟨rfl, ⟨nd, rfl⟩⟩; refine ⟨_, rfl, ?_⟩))
  go_ret
  exact ⟨y2, y4⟩

/-! ### spec_l1Cur_plainText: function 35 -/
def spec_l1Cur_plainText.f (k : Nat) (s0_0 : List Int) (s0_1 : Int) (s0_2 : Int) : Option (ByteArray × Int × Int) := (spec_l1Cur_doc.f k s0_0 s0_1 s0_2).bind fun ch => ((spec_GoodText.f k ch.1).bind fun oy => (if oy = true then (if (ch.1.size : Int) > 40 then ((spec_l1Cur_one.f s0_0 ch.2.1 ch.2.2 20).bind fun fU => (if fU.1 = true then (some (ch.1, fU.2.1, fU.2.2)) else (if 0 ≤ 40 then (if 40 ≤ (ch.1.size : Int) then (some (ch.1.extract 0 40, fU.2.1, fU.2.2)) else (none)) else (none)))) else (some (ch.1, ch.2.1, ch.2.2))) else (if 4 > 40 then ((spec_l1Cur_one.f s0_0 ch.2.1 ch.2.2 20).bind fun fT => (if fT.1 = true then (some ((⟨#[116, 101, 120, 116]⟩ : ByteArray), fT.2.1, fT.2.2)) else (if 0 ≤ 40 then (if 40 ≤ 4 then (some ((⟨#[116, 101, 120, 116]⟩ : ByteArray).extract 0 40, fT.2.1, fT.2.2)) else (none)) else (none)))) else (some ((⟨#[116, 101, 120, 116]⟩ : ByteArray), ch.2.1, ch.2.2)))))
theorem spec_l1Cur_plainText.mono : ∀ a0 a1 a2 k, LeO (spec_l1Cur_plainText.f k a0 a1 a2) (spec_l1Cur_plainText.f (k + 1) a0 a1 a2) := by
 intro a0 a1 a2 k
 unfold spec_l1Cur_plainText.f
 with_reducible repeat' first | exact spec_GoodText.mono _ _ | exact spec_l1Cur_doc.mono _ _ _ _ | exact lR_ _ | exact lN_ _ | refine lI_ ?_ ?_ | refine lB_ ?_ fun _ => ?_
theorem spec_l1Cur_plainText.calls (k : Nat) (g : Nat) (s0_0 : List Int) (s0_1 : Int) (s0_2 : Int) (r1 : ByteArray) (r2 : Int) (r3 : Int) (w0 w : World) (hI : IsS48 w0 w g s0_0 s0_1 s0_2) (hB : Below w0.heap.size w0 w) (h : spec_l1Cur_plainText.f k s0_0 s0_1 s0_2 = some (r1, r2, r3)) :
  Calls Try.prog 35 #[.pointer (some ⟨g, 0, none⟩)] w fun e w' => e = .returned (.string r1) ∧ IsS48 w0 w' g s0_0 r2 r3 ∧ Below w0.heap.size w0 w' ∧ KeepBut w w' g none := by
 have HI0 := aM hI
 have HK := aM (KeepBut.refl w g none)
 have HL := aM hB.size
 clear hI
 have HW0 := aM hB.size
 have HB := aM hB
 clear hB
 have H : ((spec_l1Cur_doc.f k s0_0 s0_1 s0_2).bind fun ch => ((spec_GoodText.f k ch.1).bind fun oy => (if oy = true then (if (ch.1.size : Int) > 40 then ((spec_l1Cur_one.f s0_0 ch.2.1 ch.2.2 20).bind fun fU => (if fU.1 = true then (some (ch.1, fU.2.1, fU.2.2)) else (if 0 ≤ 40 then (if 40 ≤ (ch.1.size : Int) then (some (ch.1.extract 0 40, fU.2.1, fU.2.2)) else (none)) else (none)))) else (some (ch.1, ch.2.1, ch.2.2))) else (if 4 > 40 then ((spec_l1Cur_one.f s0_0 ch.2.1 ch.2.2 20).bind fun fT => (if fT.1 = true then (some ((⟨#[116, 101, 120, 116]⟩ : ByteArray), fT.2.1, fT.2.2)) else (if 0 ≤ 40 then (if 40 ≤ 4 then (some ((⟨#[116, 101, 120, 116]⟩ : ByteArray).extract 0 40, fT.2.1, fT.2.2)) else (none)) else (none)))) else (some ((⟨#[116, 101, 120, 116]⟩ : ByteArray), ch.2.1, ch.2.2)))))) = some (r1, r2, r3) := h
 clear h
 obtain ⟨⟨eY, nC, nB⟩, A2, H⟩ := oA_ H
 try dsimp only at H
 obtain ⟨oy, A3, H⟩ := oA_ H
 try dsimp only at H
 by_cases c4 : oy = true
 ·subst c4
  rw [if_pos rfl] at H
  by_cases c5 : (eY.size : Int) > 40
  ·rw [if_pos c5] at H
   have c5b0 : decide (40 < (eY.size : Int)) = true := dT c5
   have c5b1 : decide (40 < eY.size) = true := dT (by omega)
   clear c5
   obtain ⟨⟨t215, rZ, rY⟩, A6, H⟩ := oA_ H
   try dsimp only at H
   by_cases c7 : t215 = true
   ·subst c7
    rw [if_pos rfl] at H
    simp only [Option.some.injEq, Prod.mk.injEq] at H
    obtain ⟨rfl, rfl, rfl⟩ := H
    go_enter Try.func35, Try.ntmps35
    go_wp2_with (first | ((with_reducible refine ax (f := 51) rfl ?_); refine aC (some 5) rfl rfl Try.func51 z0 rfl #[.pointer (some ⟨g, 0, none⟩)] rfl z10 ?_; (with_reducible refine (spec_l1Cur_doc.calls k g s0_0 s0_1 s0_2 eY nC nB w0 _ ?side1 ?side2 A2.out).mono ?_); (case side1 => exact y68); (case side2 => exact y54); rintro e w8 ⟨rfl, hi, hb, hk⟩; refine ⟨_, rfl, ?_⟩; replace HK := aM (KeepBut.trans z11 hk (.inl rfl)); replace HB := aM hb; replace HI0 := aM hi; (try clear hb hk hi); (try clear cj)) | ((with_reducible refine ax (f := 52) rfl ?_); refine aC (some 7) rfl rfl Try.func52 z0 rfl #[.string eY] rfl z10 ?_; (with_reducible refine (spec_GoodText.calls k eY true _ A3.out).mono ?_); rintro e w' ⟨rfl, ⟨nd, rfl⟩⟩; refine ⟨_, rfl, ?_⟩) | (go_at_call 36; (with_reducible refine (spec_l1Cur_one.calls g s0_0 nC nB 20 true rZ rY w0 _ ?side1 ?side2 A6.out).mono ?_); (case side1 => exact y68); (case side2 => exact y54); rintro e w9 ⟨rfl, hi, hb, hk⟩; replace HK := aM (KeepBut.trans z11 hk (.inl rfl)); replace HB := aM hb; replace HI0 := aM hi; (try clear hb hk hi); (try clear cj)))
    go_ret
    exact ⟨y5, y37, y30, y33⟩
   ·replace c7 := Bool.eq_false_iff.mpr c7
    subst c7
    rw [if_neg nF_] at H
    by_cases cq : 0 ≤ 40
    ·rw [if_pos cq] at H
     have c10b0 := eq_true cq
     have c10b1 : decide (0 ≤ 40) = true := dT cq
     clear cq
     by_cases b4 : 40 ≤ (eY.size : Int)
     ·rw [if_pos b4] at H
      have c11b0 := eq_true b4
      have c11b1 : decide (40 ≤ (eY.size : Int)) = true := dT b4
      clear b4
      simp only [Option.some.injEq, Prod.mk.injEq] at H
      obtain ⟨rfl, rfl, rfl⟩ := H
      go_enter Try.func35, Try.ntmps35
      go_wp2_with (first | ((with_reducible refine ax (f := 51) rfl ?_); refine aC (some 5) rfl rfl Try.func51 z0 rfl #[.pointer (some ⟨g, 0, none⟩)] rfl z10 ?_; (with_reducible refine (spec_l1Cur_doc.calls k g s0_0 s0_1 s0_2 eY nC nB w0 _ ?side1 ?side2 A2.out).mono ?_); (case side1 => exact y68); (case side2 => exact y54); rintro e w12 ⟨rfl, hi, hb, hk⟩; refine ⟨_, rfl, ?_⟩; replace HK := aM (KeepBut.trans z11 hk (.inl rfl)); replace HB := aM hb; replace HI0 := aM hi; (try clear hb hk hi); (try clear cj)) | ((with_reducible refine ax (f := 52) rfl ?_); refine aC (some 7) rfl rfl Try.func52 z0 rfl #[.string eY] rfl z10 ?_; (with_reducible refine (spec_GoodText.calls k eY true _ A3.out).mono ?_); rintro e w' ⟨rfl, ⟨nd, rfl⟩⟩; refine ⟨_, rfl, ?_⟩) | (go_at_call 36; (with_reducible refine (spec_l1Cur_one.calls g s0_0 nC nB 20 false rZ rY w0 _ ?side1 ?side2 A6.out).mono ?_); (case side1 => exact y68); (case side2 => exact y54); rintro e w13 ⟨rfl, hi, hb, hk⟩; replace HK := aM (KeepBut.trans z11 hk (.inl rfl)); replace HB := aM hb; replace HI0 := aM hi; (try clear hb hk hi); (try clear cj)))
      go_ret
      exact ⟨y5, y37, y30, y33⟩
     ·rw [if_neg b4] at H
      exact absurd H (by simp)
    ·exact absurd (by decide) cq
  ·rw [if_neg c5] at H
   have c5b0 : decide (40 < (eY.size : Int)) = false := dF c5
   have c5b1 : decide (40 < eY.size) = false := dF (by omega)
   clear c5
   simp only [Option.some.injEq, Prod.mk.injEq] at H
   obtain ⟨rfl, rfl, rfl⟩ := H
   go_enter Try.func35, Try.ntmps35
   go_wp2_with (first | ((with_reducible refine ax (f := 51) rfl ?_); refine aC (some 5) rfl rfl Try.func51 z0 rfl #[.pointer (some ⟨g, 0, none⟩)] rfl z10 ?_; (with_reducible refine (spec_l1Cur_doc.calls k g s0_0 s0_1 s0_2 eY nC nB w0 _ ?side1 ?side2 A2.out).mono ?_); (case side1 => exact y68); (case side2 => exact y54); rintro e w14 ⟨rfl, hi, hb, hk⟩; refine ⟨_, rfl, ?_⟩; replace HK := aM (KeepBut.trans z11 hk (.inl rfl)); replace HB := aM hb; replace HI0 := aM hi; (try clear hb hk hi); (try clear cj)) | ((with_reducible refine ax (f := 52) rfl ?_); refine aC (some 7) rfl rfl Try.func52 z0 rfl #[.string eY] rfl z10 ?_; (with_reducible refine (spec_GoodText.calls k eY true _ A3.out).mono ?_); rintro e w' ⟨rfl, ⟨nd, rfl⟩⟩; refine ⟨_, rfl, ?_⟩))
   go_ret
   exact ⟨y5, y37, y30, y33⟩
 ·replace c4 := Bool.eq_false_iff.mpr c4
  subst c4
  rw [if_neg nF_] at H
  by_cases ce : 4 > 40
  ·exact absurd ce (by decide)
  ·rw [if_neg ce] at H
   have c15b0 : decide (40 < 4) = false := dF ce
   clear ce
   simp only [Option.some.injEq, Prod.mk.injEq] at H
   obtain ⟨rfl, rfl, rfl⟩ := H
   go_enter Try.func35, Try.ntmps35
   go_wp2_with (first | ((with_reducible refine ax (f := 51) rfl ?_); refine aC (some 5) rfl rfl Try.func51 z0 rfl #[.pointer (some ⟨g, 0, none⟩)] rfl z10 ?_; (with_reducible refine (spec_l1Cur_doc.calls k g s0_0 s0_1 s0_2 eY nC nB w0 _ ?side1 ?side2 A2.out).mono ?_); (case side1 => exact y68); (case side2 => exact y54); rintro e w24 ⟨rfl, hi, hb, hk⟩; refine ⟨_, rfl, ?_⟩; replace HK := aM (KeepBut.trans z11 hk (.inl rfl)); replace HB := aM hb; replace HI0 := aM hi; (try clear hb hk hi); (try clear cj)) | ((with_reducible refine ax (f := 52) rfl ?_); refine aC (some 7) rfl rfl Try.func52 z0 rfl #[.string eY] rfl z10 ?_; (with_reducible refine (spec_GoodText.calls k eY false _ A3.out).mono ?_); rintro e w' ⟨rfl, ⟨nd, rfl⟩⟩; refine ⟨_, rfl, ?_⟩))
   go_ret
   exact ⟨y5, y37, y30, y33⟩

/-! ### spec_l1Cur_among: function 37 -/
def spec_l1Cur_among.f (s0_0 : List Int) (s0_1 : Int) (s0_2 : Int) (l1 : List Int) : Option (Int × Int × Int) := (spec_l1Cur_pick.f s0_0 s0_1 s0_2 (l1.length : Int)).bind fun fS => (if 0 ≤ fS.1 then (if fS.1 < (l1.length : Int) then (some (rd l1 fS.1, fS.2.1, fS.2.2)) else (none)) else (none))
theorem spec_l1Cur_among.calls (g : Nat) (s0_0 : List Int) (s0_1 : Int) (s0_2 : Int) (A1 : Option Addr) (c1 : Nat) (l1 : List Int) (r1 : Int) (r2 : Int) (r3 : Int) (w0 w : World) (hI : IsS48 w0 w g s0_0 s0_1 s0_2) (hB : Below w0.heap.size w0 w) (hr1 : Kd.C (Kd.int .i64) w A1 l1.length l1) (hc1 : l1.length ≤ c1) (hf1 : ∀ ad, A1 = some ad → 0 < l1.length → ad.block ≠ g) (h : spec_l1Cur_among.f s0_0 s0_1 s0_2 l1 = some (r1, r2, r3)) :
  Calls Try.prog 37 #[.pointer (some ⟨g, 0, none⟩), .slice A1 l1.length c1] w fun e w' => e = .returned (.int .i64 r1) ∧ IsS48 w0 w' g s0_0 r2 r3 ∧ Below w0.heap.size w0 w' ∧ KeepBut w w' g none := by
 have lp := aM hr1
 have pU := aM hc1
 clear hr1 hc1
 have HI0 := aM hI
 have HK := aM (KeepBut.refl w g none)
 have HL := aM hB.size
 clear hI
 have HW0 := aM hB.size
 have HB := aM hB
 clear hB
 have H : ((spec_l1Cur_pick.f s0_0 s0_1 s0_2 (l1.length : Int)).bind fun fS => (if 0 ≤ fS.1 then (if fS.1 < (l1.length : Int) then (some (rd l1 fS.1, fS.2.1, fS.2.2)) else (none)) else (none))) = some (r1, r2, r3) := h
 clear h
 obtain ⟨⟨lr, t222, t223⟩, A3, H⟩ := oA_ H
 try dsimp only at H
 by_cases c4 : 0 ≤ lr
 ·rw [if_pos c4] at H
  have c4b0 : decide (0 ≤ lr) = true := dT c4
  clear c4
  by_cases c5 : lr < (l1.length : Int)
  ·rw [if_pos c5] at H
   have c5b0 : decide (lr < (l1.length : Int)) = true := dT c5
   clear c5
   simp only [Option.some.injEq, Prod.mk.injEq] at H
   obtain ⟨rfl, rfl, rfl⟩ := H
   go_enter Try.func37, Try.ntmps37
   go_wp2_with (first | ((with_reducible refine ax (f := 29) rfl ?_); refine aC (some 9) rfl rfl Try.func29 z0 rfl #[.pointer (some ⟨g, 0, none⟩), .int .i64 (l1.length : Int)] rfl z10 ?_; (with_reducible refine (spec_l1Cur_pick.calls g s0_0 s0_1 s0_2 (l1.length : Int) lr t222 t223 w0 _ ?side1 ?side2 A3.out).mono ?_); (case side1 => exact y68); (case side2 => exact y54); rintro e w6 ⟨rfl, hi, hb, hk⟩; refine ⟨_, rfl, ?_⟩; replace HK := aM (KeepBut.trans z11 hk (.inl rfl)); replace HB := aM hb; replace HI0 := aM hi; (try clear hb hk hi); (try clear cj); have p224 : 0 ≤ (lr : Int) := oD z2; have q224 : lr < (l1.length : Int) := oD z2; obtain ⟨ad224, e224, hx224_0⟩ := Kd.at_int lp.out lr p224 q224; cases e224; replace hx224_0 := keep_cell HK.out hx224_0 (by first | (rw [add_block]; exact hf1 _ rfl (by omega)) | exact hf1 _ rfl (by omega) | exact hf1 ad224 rfl (by omega)); replace p224 := eq_true p224; replace q224 := eq_true q224))
   go_ret
   exact ⟨y5, y37, y30, y33⟩
  ·rw [if_neg c5] at H
   exact absurd H (by simp)
 ·rw [if_neg c4] at H
  exact absurd H (by simp)

/-! ### spec_l1Cur_op: function 16 -/
def spec_l1Cur_op.j0 : Nat → List (S68) → Bool → List Int → Int → Int → Option ((List (S68)) × Int × Int)
 | 0, _, _, _, _, _ => none
 | k + 1, x3, x14, x1000, x1001, x1002 => if x14 = true then ((spec_l1Cur_pick.f x1000 x1001 x1002 4).bind fun fR => (if fR.1 = 0 then ((spec_l1Cur_pick.f x1000 fR.2.1 fR.2.2 (x3.length : Int)).bind fun jz => ((spec_l1Cur_pick.f x1000 jz.2.1 jz.2.2 5).bind fun oY => (if 0 ≤ jz.1 then (if jz.1 < (x3.length : Int) then (some ((x3.set (jz.1 : Int).toNat (⟨wrap64 (oY.1 - 1), (sp x3 jz.1).f1, (sp x3 jz.1).f2⟩ : S68)), oY.2.1, oY.2.2)) else (none)) else (none)))) else (if fR.1 = 1 then ((spec_l1Cur_pick.f x1000 fR.2.1 fR.2.2 (x3.length : Int)).bind fun jy => (if 0 ≤ jy.1 then (if jy.1 < (x3.length : Int) then (some ((x3.set (jy.1 : Int).toNat (⟨(sp x3 jy.1).f0, (⟨#[90]⟩ : ByteArray), (sp x3 jy.1).f2⟩ : S68)), jy.2.1, jy.2.2)) else (none)) else (none))) else (if fR.1 = 2 then (if x3.length < 3518437208883 then (some ((x3 ++ [(⟨0, (⟨#[]⟩ : ByteArray), (⟨#[]⟩ : ByteArray)⟩ : S68)]), fR.2.1, fR.2.2)) else (none)) else ((spec_l1Cur_among.f x1000 fR.2.1 fR.2.2 (([300, 301] : List Int))).bind fun jx => (if x3.length < 3518437208883 then (some ((x3 ++ [(⟨jx.1, (⟨#[]⟩ : ByteArray), (⟨#[]⟩ : ByteArray)⟩ : S68)]), jx.2.1, jx.2.2)) else (none))))))) else (some (x3, x1001, x1002))
def spec_l1Cur_op.f (k : Nat) (s0_0 : List Int) (s0_1 : Int) (s0_2 : Int) : Option ((List (S68)) × Int × Int) := (spec_l1Cur_plainText.f k s0_0 s0_1 s0_2).bind fun jB => ((spec_l1Cur_opOn.f k s0_0 jB.2.1 jB.2.2 jB.1).bind fun em => (if (em.1.length : Int) > 0 then ((spec_l1Cur_one.f s0_0 em.2.1 em.2.2 12).bind fun jA => (spec_l1Cur_op.j0 k em.1 jA.1 s0_0 jA.2.1 jA.2.2)) else (spec_l1Cur_op.j0 k em.1 false s0_0 em.2.1 em.2.2)))
theorem spec_l1Cur_op.mono_l : ∀ k, (∀ y0 y1 y2 y3 y4, LeO (spec_l1Cur_op.j0 k y0 y1 y2 y3 y4) (spec_l1Cur_op.j0 (k + 1) y0 y1 y2 y3 y4))
 | 0 => fun _ _ _ _ _ r h => by simp [spec_l1Cur_op.j0] at h
 | k + 1 => by
  have ih0 := spec_l1Cur_op.mono_l k
  ·intro y0 y1 y2 y3 y4
   unfold spec_l1Cur_op.j0
   with_reducible repeat' first | exact ih0 _ _ _ _ _ | exact spec_l1Cur_opOn.mono _ _ _ _ _ | exact spec_l1Cur_plainText.mono _ _ _ _ | exact lR_ _ | exact lN_ _ | refine lI_ ?_ ?_ | refine lB_ ?_ fun _ => ?_
theorem spec_l1Cur_op.mono : ∀ a0 a1 a2 k, LeO (spec_l1Cur_op.f k a0 a1 a2) (spec_l1Cur_op.f (k + 1) a0 a1 a2) := by
 intro a0 a1 a2 k
 have ih0 := spec_l1Cur_op.mono_l k
 unfold spec_l1Cur_op.f
 with_reducible repeat' first | exact ih0 _ _ _ _ _ | exact spec_l1Cur_opOn.mono _ _ _ _ _ | exact spec_l1Cur_plainText.mono _ _ _ _ | exact lR_ _ | exact lN_ _ | refine lI_ ?_ ?_ | refine lB_ ?_ fun _ => ?_
theorem spec_l1Cur_op.calls (k : Nat) (g : Nat) (s0_0 : List Int) (s0_1 : Int) (s0_2 : Int) (r1 : List (S68)) (r2 : Int) (r3 : Int) (w0 w : World) (hI : IsS48 w0 w g s0_0 s0_1 s0_2) (hB : Below w0.heap.size w0 w) (h : spec_l1Cur_op.f k s0_0 s0_1 s0_2 = some (r1, r2, r3)) :
  Calls Try.prog 16 #[.pointer (some ⟨g, 0, none⟩)] w fun e w' => ∃ v0_ : Value, e = .returned (v0_) ∧ Kd.R k68 68 w' w.heap.size (fun _ => True) v0_ r1 ∧ IsS48 w0 w' g s0_0 r2 r3 ∧ Below w0.heap.size w0 w' ∧ KeepBut w w' g none := by
 have hu68 := Try.underlying68
 have HI0 := aM hI
 have HK := aM (KeepBut.refl w g none)
 have HL := aM hB.size
 clear hI
 have HW0 := aM hB.size
 have HB := aM hB
 clear hB
 have H : ((spec_l1Cur_plainText.f k s0_0 s0_1 s0_2).bind fun jB => ((spec_l1Cur_opOn.f k s0_0 jB.2.1 jB.2.2 jB.1).bind fun em => (if (em.1.length : Int) > 0 then ((spec_l1Cur_one.f s0_0 em.2.1 em.2.2 12).bind fun jA => (spec_l1Cur_op.j0 k em.1 jA.1 s0_0 jA.2.1 jA.2.2)) else (spec_l1Cur_op.j0 k em.1 false s0_0 em.2.1 em.2.2)))) = some (r1, r2, r3) := h
 clear h
 obtain ⟨⟨qq, rX, rW⟩, A2, H⟩ := oA_ H
 try dsimp only at H
 obtain ⟨⟨bX, pv, pu⟩, A3, H⟩ := oA_ H
 try dsimp only at H
 have iJ := aM H
 clear H
 go_enter Try.func16, Try.ntmps16
 go_upto_region 2 with (first | ((with_reducible refine ax (f := 35) rfl ?_); refine aC (some 6) rfl rfl Try.func35 z0 rfl #[.pointer (some ⟨g, 0, none⟩)] rfl z10 ?_; (with_reducible refine (spec_l1Cur_plainText.calls k g s0_0 s0_1 s0_2 qq rX rW w0 _ ?side1 ?side2 A2.out).mono ?_); (case side1 => exact y68); (case side2 => exact y54); rintro e w5 ⟨rfl, hi, hb, hk⟩; refine ⟨_, rfl, ?_⟩; replace HK := aM (KeepBut.trans z11 hk (.inl rfl)); replace HB := aM hb; replace HI0 := aM hi; (try clear hb hk hi); (try clear cj)) | ((with_reducible refine ax (f := 34) rfl ?_); refine aC (some 7) rfl rfl Try.func34 z0 rfl #[.pointer (some ⟨g, 0, none⟩), .string qq] rfl z10 ?_; (with_reducible refine (spec_l1Cur_opOn.calls k g s0_0 rX rW qq bX pv pu w0 _ ?side1 ?side2 A3.out).mono ?_); (case side1 => exact y68); (case side2 => exact y54); rintro e w6 ⟨v229, rfl, ho0, hi, hb, hk⟩; refine ⟨_, rfl, ?_⟩; have jM := aM (aD ho0 (keep_size (w := w) (g := g) (row := none) z11)); replace HK := aM (KeepBut.trans z11 hk (.inl rfl)); replace HB := aM hb; replace HI0 := aM hi; (try clear hb hk hi); (try clear ho0); (try clear cj)))
 (try simp only [Act.put, sA, sB, sC])
 go_cut [14] (fun v14 wc => ∃ (kq : Nat) (x14_3 : Bool) (x1001_3 : Int) (x1002_3 : Int), v14 = .bool x14_3 ∧ Aside0 (spec_l1Cur_op.j0 kq bX x14_3 s0_0 x1001_3 x1002_3 = some (r1, r2, r3)) ∧ Aside0 (kq ≤ k) ∧ Aside0 (Kd.R k68 68 wc w.heap.size (fun _ => True) v229 bX) ∧ Aside0 (IsS48 w0 wc g s0_0 x1001_3 x1002_3) ∧ Aside0 (KeepBut w wc g none) ∧ Aside0 (Below w0.heap.size w0 wc))
 case first =>
  have H := iJ.out
  clear iJ
  by_cases c7 : (bX.length : Int) > 0
  ·rw [if_pos c7] at H
   have c7b0 : decide (0 < (bX.length : Int)) = true := dT c7
   have c7b1 : decide (0 < bX.length) = true := dT (by omega)
   clear c7
   (first | rw [c7b0] | (simp only [i64_w, i32_w]; rw [c7b0]) | skip)
   obtain ⟨⟨rV, rU, rT⟩, A8, H⟩ := oA_ H
   try dsimp only at H
   have H' := aM H
   clear H
   obtain ⟨q1, qC, eo9⟩ := Kd.R_slice jM.out
   subst eo9
   go_wp2_with (first | (go_at_call 36; (with_reducible refine (spec_l1Cur_one.calls g s0_0 pv pu 12 rV rU rT w0 _ ?side1 ?side2 A8.out).mono ?_); (case side1 => exact y68); (case side2 => exact y54); rintro e w10 ⟨rfl, hi, hb, hk⟩; replace jM := aM (ag (Kd.R_keep (IsS48.apart (show IsS48 w0 _ g s0_0 pv pu from ziHI0_) (kR_ jM.out) (by decide)) hk (fun _ h => h.2)) (fun _ h => h.1)); replace HK := aM (KeepBut.trans z11 hk (.inl rfl)); replace HB := aM hb; replace HI0 := aM hi; (try clear hb hk hi); (try clear cj)))
   go_meet
   case rel => exact ⟨_, (rV), (rU), (rT), z1, H', ⟨y1⟩, ⟨kR_ jM.out⟩, ⟨y37⟩, ⟨y33⟩, ⟨y30⟩⟩
  ·rw [if_neg c7] at H
   have c7b0 : decide (0 < (bX.length : Int)) = false := dF c7
   have c7b1 : decide (0 < bX.length) = false := dF (by omega)
   clear c7
   (first | rw [c7b0] | (simp only [i64_w, i32_w]; rw [c7b0]) | skip)
   have H' := aM H
   clear H
   obtain ⟨Ao11, co11, eo11⟩ := Kd.R_slice jM.out
   subst eo11
   go_wp2
   go_meet
   case rel => exact ⟨_, (false), (pv), (pu), z1, H', ⟨y1⟩, ⟨kR_ jM.out⟩, ⟨y37⟩, ⟨y33⟩, ⟨y30⟩⟩
 case rest =>
  clear iJ
  obtain ⟨kq, x14_3, x1001_3, x1002_3, rfl, HA, jh, bf, HI0, HK, HB⟩ := hcut
  cases kq with
  | zero => exact absurd HA.out (by simp [spec_l1Cur_op.j0])
  | succ kj3 =>
   have H := HA.out
   clear HA
   simp only [spec_l1Cur_op.j0] at H
   by_cases bT : x14_3 = true
   ·subst bT
    rw [if_pos rfl] at H
    obtain ⟨⟨eX, iE, iD⟩, rm, H⟩ := oA_ H
    try dsimp only at H
    by_cases cO : eX = 0
    ·rw [if_pos cO] at H
     have c14b0 : (eX == 0) = true := qT cO
     have c14b1 : (eX != 0) = false := nF cO
     clear cO
     obtain ⟨⟨dq, qp, qo⟩, rl, H⟩ := oA_ H
     try dsimp only at H
     obtain ⟨⟨nA, rS, rR⟩, nP, H⟩ := oA_ H
     try dsimp only at H
     by_cases cA : 0 ≤ dq
     ·rw [if_pos cA] at H
      have c17b0 : decide (0 ≤ dq) = true := dT cA
      clear cA
      by_cases cJ : dq < (bX.length : Int)
      ·rw [if_pos cJ] at H
       have c18b0 : decide (dq < (bX.length : Int)) = true := dT cJ
       clear cJ
       obtain ⟨y245, hy245⟩ : ∃ y_ : List (S68), y_ = (bX.set (dq : Int).toNat (⟨wrap64 (nA - 1), (sp bX dq).f1, (sp bX dq).f2⟩ : S68)) := ⟨_, rfl⟩
       replace H : (some (y245, rS, rR)) = some (r1, r2, r3) := zh_ hy245
       have Ny245 := aM hy245
       clear hy245
       simp only [Option.some.injEq, Prod.mk.injEq] at H
       obtain ⟨rfl, rfl, rfl⟩ := H
       go_wp2_with (first | ((with_reducible refine ax (f := 29) rfl ?_); refine aC (some 16) rfl rfl Try.func29 z0 rfl #[.pointer (some ⟨g, 0, none⟩), .int .i64 4] rfl z10 ?_; (with_reducible refine (spec_l1Cur_pick.calls g s0_0 x1001_3 x1002_3 4 eX iE iD w0 _ ?side1 ?side2 rm.out).mono ?_); (case side1 => exact y68); (case side2 => exact y54); rintro e w20 ⟨rfl, hi, hb, hk⟩; refine ⟨_, rfl, ?_⟩; replace bf := aM (ag (Kd.R_keep (IsS48.apart (show IsS48 w0 _ g s0_0 x1001_3 x1002_3 from ziHI0_) z4 (by decide)) hk (fun _ h => h.2)) (fun _ h => h.1)); replace HK := aM (KeepBut.trans z11 hk (.inl rfl)); replace HB := aM hb; replace HI0 := aM hi; (try clear hb hk hi); (try clear cj); obtain ⟨Ao21, qK, eo21⟩ := Kd.R_slice bf.out; subst eo21) | ((with_reducible refine ax (f := 29) rfl ?_); refine aC (some 30) rfl rfl Try.func29 z0 rfl #[.pointer (some ⟨g, 0, none⟩), .int .i64 (bX.length : Int)] rfl z10 ?_; (with_reducible refine (spec_l1Cur_pick.calls g s0_0 iE iD (bX.length : Int) dq qp qo w0 _ ?side1 ?side2 rl.out).mono ?_); (case side1 => exact y68); (case side2 => exact y54); rintro e w22 ⟨rfl, hi, hb, hk⟩; refine ⟨_, rfl, ?_⟩; replace bf := aM (ag (Kd.R_keep (IsS48.apart (show IsS48 w0 _ g s0_0 iE iD from ziHI0_) z4 (by decide)) hk (fun _ h => h.2)) (fun _ h => h.1)); replace HK := aM (KeepBut.trans z11 hk (.inl rfl)); replace HB := aM hb; replace HI0 := aM hi; (try clear hb hk hi); (try clear cj)) | ((with_reducible refine ax (f := 29) rfl ?_); refine aC (some 32) rfl rfl Try.func29 z0 rfl #[.pointer (some ⟨g, 0, none⟩), .int .i64 5] rfl z10 ?_; (with_reducible refine (spec_l1Cur_pick.calls g s0_0 qp qo 5 nA rS rR w0 _ ?side1 ?side2 nP.out).mono ?_); (case side1 => exact y68); (case side2 => exact y54); rintro e w23 ⟨rfl, hi, hb, hk⟩; refine ⟨_, rfl, ?_⟩; replace bf := aM (ag (Kd.R_keep (IsS48.apart (show IsS48 w0 _ g s0_0 qp qo from ziHI0_) z4 (by decide)) hk (fun _ h => h.2)) (fun _ h => h.1)); replace HK := aM (KeepBut.trans z11 hk (.inl rfl)); replace HB := aM hb; replace HI0 := aM hi; (try clear hb hk hi); (try clear cj); have p19 : 0 ≤ (dq : Int) := oD z2; have q19 : (dq : Int) < ((bX.length : Int) : Int) := oD z2; obtain ⟨go19, co19, eo19, sy, gl19, cl19, HG19⟩ := Kd.R_form bf.out (by omega); (first | cases eo19 | (injection eo19 with ea_ en_ ec_; (first | subst ea_ | (injection ea_ with ea_; subst ea_)); subst ec_; clear en_)); have GB19 := aM sy; have GG19 := aM HG19; clear sy gl19 HG19; obtain ⟨ce19, hcl19, hM19, hcc19, hfr19⟩ := Kd.R_elem bf.out z68 (dq : Int) p19 q19; obtain rfl := k68_openM hM19; have hx19_0 : w23.cell? ⟨go19, (dq : Int).toNat * 3, none⟩ = some (.int .i64 ((sp bX dq).f0)) := hcc19 0 _ rfl; have hx19_1 : w23.cell? ⟨go19, (dq : Int).toNat * 3 + 1, none⟩ = some (.string ((sp bX dq).f1)) := hcc19 1 _ rfl; have hx19_2 : w23.cell? ⟨go19, (dq : Int).toNat * 3 + 2, none⟩ = some (.string ((sp bX dq).f2)) := hcc19 2 _ rfl; have hf19_0 : w23.frozen? ⟨go19, (dq : Int).toNat * 3, none⟩ = false := hfr19 0; have hf19_1 : w23.frozen? ⟨go19, (dq : Int).toNat * 3 + 1, none⟩ = false := hfr19 1; have hf19_2 : w23.frozen? ⟨go19, (dq : Int).toNat * 3 + 2, none⟩ = false := hfr19 2; clear hcl19 hcc19 hfr19; (try clear hM19); replace p19 := eq_true p19; replace q19 := eq_true q19; have HX24 := aM (show Kd.R k68 68 w23 w.heap.size (fun _ => True) (.slice (some ⟨go19, 0, none⟩) bX.length qK) bX from z4); obtain ⟨ce24, hcl24, hM24, hcc24, hfr24⟩ := Kd.R_elem HX24.out z68 (dq : Int) (oD z2) (by have h_ : (dq : Int) < ((bX.length : Int) : Int) := oD z2; first | exact h_ | (have e_ := (ah bf.out).1; omega) | simpa using h_); obtain rfl := k68_openM hM24; have HP24 := Kd.R_seg HX24.out (dq : Int) (oD z2) (by have h_ : (dq : Int) < ((bX.length : Int) : Int) := oD z2; first | exact h_ | (have e_ := (ah bf.out).1; omega) | simpa using h_) (seg := [.int .i64 (wrap64 (nA - 1))]) (j := 0) hcl24 hcc24 (show 1 ≤ 3 from by decide) (x' := (⟨wrap64 (nA - 1), (sp bX dq).f1, (sp bX dq).f2⟩ : S68)) (k68_mkM _ _ _ (⟨wrap64 (nA - 1), (sp bX dq).f1, (sp bX dq).f2⟩ : S68) ) (fun _ hk => hk); have hx24_0 := hcc24 0 _ rfl; (try simp only [show (k68).sz = 3 from rfl, Nat.mul_one, Nat.add_zero] at hx24_0); have hf24_0 := hfr24 0; (try simp only [show (k68).sz = 3 from rfl, Nat.mul_one, Nat.add_zero] at hf24_0); clear hcl24 hcc24 hfr24; (try clear hM24)) | ((with_reducible refine gate_store (t := 3) (p := 35) rfl ?_); refine store_event (t := 3) (p := 35) (v := ?vo_w25) (w1 := (w23.setCell ⟨go19, (dq : Int).toNat * 3, none⟩ (.int .i64 (wrap64 (nA - 1))))) ?hg ?ho ?hn ?hr ?_; (case ho => rfl); (case hg => rfl); (case hn => rfl); (case hr => first | (go_simp; done) | (go_simp; rfl) | ((try simp only [Int.toNat_natCast] at *); go_simp; first | done | rfl)); intro w25 hw; have hg : w23.grownBy w25 (some go19) := (by rw [hw]; exact HP24.2); have hp_ : Kd.R k68 68 w25 w.heap.size (fun _ => True) (.slice (some ⟨go19, 0, none⟩) bX.length qK) y245 := (by rw [hw, Ny245.out]; exact HP24.1); clear HP24; replace HI0 := aM (IsS48.grown z19 hg (IsS48.own_ne HI0.out bf.out (by decide))); replace HB := aM ((by rw [hw]; exact ao (HB.out) (Nat.le_trans HL.out GB19.out) : Below w0.heap.size w0 w25)); replace HK := aM (KeepBut.trans z11 (KeepBut.of_grown hg g) (Kd.R_base2 bf.out)); replace bf := aM (hp_); clear hg hw hp_))
       go_ret
       exact ⟨_, y5, by (with_reducible repeat (first | apply ac | apply ab | apply aa)); exact bf.out, y37, y30, y33⟩
      ·rw [if_neg cJ] at H
       exact absurd H (by simp)
     ·rw [if_neg cA] at H
      exact absurd H (by simp)
    ·rw [if_neg cO] at H
     have c14b0 : (eX == 0) = false := qF cO
     have c14b1 : (eX != 0) = true := nT cO
     by_cases jt : eX = 1
     ·rw [if_pos jt] at H
      have c26b0 : (eX == 1) = true := qT jt
      have c26b1 : (eX != 1) = false := nF jt
      clear jt
      obtain ⟨⟨dp, rQ, rP⟩, A27, H⟩ := oA_ H
      try dsimp only at H
      by_cases gH : 0 ≤ dp
      ·rw [if_pos gH] at H
       have c28b0 : decide (0 ≤ dp) = true := dT gH
       clear gH
       by_cases gW : dp < (bX.length : Int)
       ·rw [if_pos gW] at H
        have c29b0 : decide (dp < (bX.length : Int)) = true := dT gW
        clear gW
        obtain ⟨y249, hy249⟩ : ∃ y_ : List (S68), y_ = (bX.set (dp : Int).toNat (⟨(sp bX dp).f0, (⟨#[90]⟩ : ByteArray), (sp bX dp).f2⟩ : S68)) := ⟨_, rfl⟩
        replace H : (some (y249, rQ, rP)) = some (r1, r2, r3) := zh_ hy249
        have Ny249 := aM hy249
        clear hy249
        simp only [Option.some.injEq, Prod.mk.injEq] at H
        obtain ⟨rfl, rfl, rfl⟩ := H
        go_wp2_with (first | ((with_reducible refine ax (f := 29) rfl ?_); refine aC (some 16) rfl rfl Try.func29 z0 rfl #[.pointer (some ⟨g, 0, none⟩), .int .i64 4] rfl z10 ?_; (with_reducible refine (spec_l1Cur_pick.calls g s0_0 x1001_3 x1002_3 4 eX iE iD w0 _ ?side1 ?side2 rm.out).mono ?_); (case side1 => exact y68); (case side2 => exact y54); rintro e w31 ⟨rfl, hi, hb, hk⟩; refine ⟨_, rfl, ?_⟩; replace bf := aM (ag (Kd.R_keep (IsS48.apart (show IsS48 w0 _ g s0_0 x1001_3 x1002_3 from ziHI0_) z4 (by decide)) hk (fun _ h => h.2)) (fun _ h => h.1)); replace HK := aM (KeepBut.trans z11 hk (.inl rfl)); replace HB := aM hb; replace HI0 := aM hi; (try clear hb hk hi); (try clear cj); obtain ⟨Ao32, sF, eo32⟩ := Kd.R_slice bf.out; subst eo32) | ((with_reducible refine ax (f := 29) rfl ?_); refine aC (some 42) rfl rfl Try.func29 z0 rfl #[.pointer (some ⟨g, 0, none⟩), .int .i64 (bX.length : Int)] rfl z10 ?_; (with_reducible refine (spec_l1Cur_pick.calls g s0_0 iE iD (bX.length : Int) dp rQ rP w0 _ ?side1 ?side2 A27.out).mono ?_); (case side1 => exact y68); (case side2 => exact y54); rintro e w33 ⟨rfl, hi, hb, hk⟩; refine ⟨_, rfl, ?_⟩; replace bf := aM (ag (Kd.R_keep (IsS48.apart (show IsS48 w0 _ g s0_0 iE iD from ziHI0_) z4 (by decide)) hk (fun _ h => h.2)) (fun _ h => h.1)); replace HK := aM (KeepBut.trans z11 hk (.inl rfl)); replace HB := aM hb; replace HI0 := aM hi; (try clear hb hk hi); (try clear cj); have p30 : 0 ≤ (dp : Int) := oD z2; have q30 : (dp : Int) < ((bX.length : Int) : Int) := oD z2; obtain ⟨go30, co30, eo30, sx, gl30, cl30, HG30⟩ := Kd.R_form bf.out (by omega); (first | cases eo30 | (injection eo30 with ea_ en_ ec_; (first | subst ea_ | (injection ea_ with ea_; subst ea_)); subst ec_; clear en_)); have GB30 := aM sx; have GG30 := aM HG30; clear sx gl30 HG30; obtain ⟨ce30, hcl30, hM30, hcc30, hfr30⟩ := Kd.R_elem bf.out z68 (dp : Int) p30 q30; obtain rfl := k68_openM hM30; have hx30_0 : w33.cell? ⟨go30, (dp : Int).toNat * 3, none⟩ = some (.int .i64 ((sp bX dp).f0)) := hcc30 0 _ rfl; have hx30_1 : w33.cell? ⟨go30, (dp : Int).toNat * 3 + 1, none⟩ = some (.string ((sp bX dp).f1)) := hcc30 1 _ rfl; have hx30_2 : w33.cell? ⟨go30, (dp : Int).toNat * 3 + 2, none⟩ = some (.string ((sp bX dp).f2)) := hcc30 2 _ rfl; have hf30_0 : w33.frozen? ⟨go30, (dp : Int).toNat * 3, none⟩ = false := hfr30 0; have hf30_1 : w33.frozen? ⟨go30, (dp : Int).toNat * 3 + 1, none⟩ = false := hfr30 1; have hf30_2 : w33.frozen? ⟨go30, (dp : Int).toNat * 3 + 2, none⟩ = false := hfr30 2; clear hcl30 hcc30 hfr30; (try clear hM30); replace p30 := eq_true p30; replace q30 := eq_true q30; have HX34 := aM (show Kd.R k68 68 w33 w.heap.size (fun _ => True) (.slice (some ⟨go30, 0, none⟩) bX.length sF) bX from z4); obtain ⟨ce34, hcl34, hM34, hcc34, hfr34⟩ := Kd.R_elem HX34.out z68 (dp : Int) (oD z2) (by have h_ : (dp : Int) < ((bX.length : Int) : Int) := oD z2; first | exact h_ | (have e_ := (ah bf.out).1; omega) | simpa using h_); obtain rfl := k68_openM hM34; have HP34 := Kd.R_seg HX34.out (dp : Int) (oD z2) (by have h_ : (dp : Int) < ((bX.length : Int) : Int) := oD z2; first | exact h_ | (have e_ := (ah bf.out).1; omega) | simpa using h_) (seg := [.string (⟨#[90]⟩ : ByteArray)]) (j := 1) hcl34 hcc34 (show 2 ≤ 3 from by decide) (x' := (⟨(sp bX dp).f0, (⟨#[90]⟩ : ByteArray), (sp bX dp).f2⟩ : S68)) (k68_mkM _ _ _ (⟨(sp bX dp).f0, (⟨#[90]⟩ : ByteArray), (sp bX dp).f2⟩ : S68) ) (fun _ hk => hk); have hx34_1 := hcc34 1 _ rfl; (try simp only [show (k68).sz = 3 from rfl, Nat.mul_one, Nat.add_zero] at hx34_1); have hf34_1 := hfr34 1; (try simp only [show (k68).sz = 3 from rfl, Nat.mul_one, Nat.add_zero] at hf34_1); clear hcl34 hcc34 hfr34; (try clear hM34)) | ((with_reducible refine gate_store (t := 9) (p := 44) rfl ?_); refine store_event (t := 9) (p := 44) (v := ?vo_w35) (w1 := (w33.setCell ⟨go30, (dp : Int).toNat * 3 + 1, none⟩ (.string (⟨#[90]⟩ : ByteArray)))) ?hg ?ho ?hn ?hr ?_; (case ho => rfl); (case hg => rfl); (case hn => rfl); (case hr => first | (go_simp; done) | (go_simp; rfl) | ((try simp only [Int.toNat_natCast] at *); go_simp; first | done | rfl)); intro w35 hw; have hg : w33.grownBy w35 (some go30) := (by rw [hw]; exact HP34.2); have hp_ : Kd.R k68 68 w35 w.heap.size (fun _ => True) (.slice (some ⟨go30, 0, none⟩) bX.length sF) y249 := (by rw [hw, Ny249.out]; exact HP34.1); clear HP34; replace HI0 := aM (IsS48.grown z19 hg (IsS48.own_ne HI0.out bf.out (by decide))); replace HB := aM ((by rw [hw]; exact ao (HB.out) (Nat.le_trans HL.out GB30.out) : Below w0.heap.size w0 w35)); replace HK := aM (KeepBut.trans z11 (KeepBut.of_grown hg g) (Kd.R_base2 bf.out)); replace bf := aM (hp_); clear hg hw hp_))
        go_ret
        exact ⟨_, y5, by (with_reducible repeat (first | apply ac | apply ab | apply aa)); exact bf.out, y37, y30, y33⟩
       ·rw [if_neg gW] at H
        exact absurd H (by simp)
      ·rw [if_neg gH] at H
       exact absurd H (by simp)
     ·rw [if_neg jt] at H
      have c26b0 : (eX == 1) = false := qF jt
      have c26b1 : (eX != 1) = true := nT jt
      by_cases iM : eX = 2
      ·rw [if_pos iM] at H
       have c36b0 : (eX == 2) = true := qT iM
       have c36b1 : (eX != 2) = false := nF iM
       clear iM
       by_cases gM : bX.length < 3518437208883
       ·rw [if_pos gM] at H
        have LMc37 := aM gM
        clear gM
        obtain ⟨y250, hy250⟩ : ∃ y_ : List (S68), y_ = (bX ++ [(⟨0, (⟨#[]⟩ : ByteArray), (⟨#[]⟩ : ByteArray)⟩ : S68)]) := ⟨_, rfl⟩
        replace H : (some (y250, iE, iD)) = some (r1, r2, r3) := zh_ hy250
        have Ny250 := aM hy250
        clear hy250
        simp only [Option.some.injEq, Prod.mk.injEq] at H
        obtain ⟨rfl, rfl, rfl⟩ := H
        go_wp2_with (first | ((with_reducible refine ax (f := 29) rfl ?_); refine aC (some 16) rfl rfl Try.func29 z0 rfl #[.pointer (some ⟨g, 0, none⟩), .int .i64 4] rfl z10 ?_; (with_reducible refine (spec_l1Cur_pick.calls g s0_0 x1001_3 x1002_3 4 eX iE iD w0 _ ?side1 ?side2 rm.out).mono ?_); (case side1 => exact y68); (case side2 => exact y54); rintro e w38 ⟨rfl, hi, hb, hk⟩; refine ⟨_, rfl, ?_⟩; replace bf := aM (ag (Kd.R_keep (IsS48.apart (show IsS48 w0 _ g s0_0 x1001_3 x1002_3 from ziHI0_) z4 (by decide)) hk (fun _ h => h.2)) (fun _ h => h.1)); replace HK := aM (KeepBut.trans z11 hk (.inl rfl)); replace HB := aM hb; replace HI0 := aM hi; (try clear hb hk hi); (try clear cj)) | ((with_reducible refine gate_builtin (b := .append) (xs := #[.tmp 47, .tmp 49]) rfl ?_); at_builtin; refine aE k68 w.heap.size rfl (.tmp 47) (.tmp 49) 23 68 (.agg #[(.int .i64 0), (.string ⟨#[]⟩), (.string ⟨#[]⟩)]) 40 rfl Try.underlying23 info68 rfl (by decide) (by omega) v229 bX (⟨0, (⟨#[]⟩ : ByteArray), (⟨#[]⟩ : ByteArray)⟩ : S68) [.int .i64 0, .string ⟨#[]⟩, .string ⟨#[]⟩] (fun _ => True) (fun _ => False) rfl rfl ?aP (fun _ hk => hk.elim) ?aF ?aO (Below.refl _ _) ?aS ?aL ?_; (case aP => exact k68_mkM _ _ _ (⟨0, (⟨#[]⟩ : ByteArray), (⟨#[]⟩ : ByteArray)⟩ : S68)); (case aF => exact (fun _ _ => trivial)); (case aO => exact z4); (case aS => exact (keep_size (w := w) (g := g) (row := none) z11)); (case aL => have := LMc37.out; omega); intro v251 w39 ho hb hg hat; rw [← Ny250.out] at ho; replace HB := aM (below_weaken z16 HL.out hb); replace HI0 := aM (IsS48.grown z19 hg (IsS48.own_ne HI0.out bf.out (by decide))); replace HK := aM (KeepBut.trans z11 (KeepBut.of_grown hg g) (Kd.R_base2 bf.out)); have HO252 := aM (ho); clear bf; clear ho hb hg hat))
        go_ret
        exact ⟨_, y5, by (with_reducible repeat (first | apply ac | apply ab | apply aa)); exact HO252.out, y37, y30, y33⟩
       ·rw [if_neg gM] at H
        exact absurd H (by simp)
      ·rw [if_neg iM] at H
       have c36b0 : (eX == 2) = false := qF iM
       have c36b1 : (eX != 2) = true := nT iM
       obtain ⟨y253, hy253⟩ : ∃ y_ : List Int, y_ = (([300, 301] : List Int)) := ⟨_, rfl⟩
       replace H : ((spec_l1Cur_among.f s0_0 iE iD y253).bind fun jx => (if bX.length < 3518437208883 then (some ((bX ++ [(⟨jx.1, (⟨#[]⟩ : ByteArray), (⟨#[]⟩ : ByteArray)⟩ : S68)]), jx.2.1, jx.2.2)) else (none))) = some (r1, r2, r3) := zh_ hy253
       have Ny253 := aM hy253
       clear hy253
       obtain ⟨⟨ox, rO, rN⟩, gJ, H⟩ := oA_ H
       try dsimp only at H
       by_cases m8 : bX.length < 3518437208883
       ·rw [if_pos m8] at H
        have LMc41 := aM m8
        clear m8
        obtain ⟨y259, hy259⟩ : ∃ y_ : List (S68), y_ = (bX ++ [(⟨ox, (⟨#[]⟩ : ByteArray), (⟨#[]⟩ : ByteArray)⟩ : S68)]) := ⟨_, rfl⟩
        replace H : (some (y259, rO, rN)) = some (r1, r2, r3) := zh_ hy259
        have Ny259 := aM hy259
        clear hy259
        simp only [Option.some.injEq, Prod.mk.injEq] at H
        obtain ⟨rfl, rfl, rfl⟩ := H
        go_wp2_with (first | ((with_reducible refine ax (f := 29) rfl ?_); refine aC (some 16) rfl rfl Try.func29 z0 rfl #[.pointer (some ⟨g, 0, none⟩), .int .i64 4] rfl z10 ?_; (with_reducible refine (spec_l1Cur_pick.calls g s0_0 x1001_3 x1002_3 4 eX iE iD w0 _ ?side1 ?side2 rm.out).mono ?_); (case side1 => exact y68); (case side2 => exact y54); rintro e w42 ⟨rfl, hi, hb, hk⟩; refine ⟨_, rfl, ?_⟩; replace bf := aM (ag (Kd.R_keep (IsS48.apart (show IsS48 w0 _ g s0_0 x1001_3 x1002_3 from ziHI0_) z4 (by decide)) hk (fun _ h => h.2)) (fun _ h => h.1)); replace HK := aM (KeepBut.trans z11 hk (.inl rfl)); replace HB := aM hb; replace HI0 := aM hi; (try clear hb hk hi); (try clear cj)) | ((with_reducible refine ay (N := 19) rfl ?_); refine Kd.R_lit (Kd.int .i64) _ 3 ?hg (N := 19) ?hd (xs := ([300, 301] : List Int)) (inner := [.int .i64 300, .int .i64 301]) (ok := fun _ => True) (okp := fun _ => True) ?hr ?hp (fun _ hk => hk) trivial (Below.refl _ _) (Nat.le_refl _) (by simp) ?_; (case hd => rfl); (case hg => rfl); (case hr => first | (go_simp; done) | (go_simp; rfl)); (case hp => exact (Reps.one (show Kd.M (Kd.int .i64) _ _ _ 300 [.int .i64 300] from rfl) (Reps.one (show Kd.M (Kd.int .i64) _ _ _ 301 [.int .i64 301] from rfl) (Reps.none _ _)))); intro v254 w43 ho44 hb hg_ hnew_; clear hg_ hnew_; (first | rw [← Ny253.out] at ho44 | (simp only [Int.reduceToNat] at ho44; rw [← Ny253.out] at ho44)); replace bf := aM (af z4 hb); have gP := aM (aD ho44 (keep_size (w := w) (g := g) (row := none) z11)); replace HK := aM (KeepBut.trans z11 (KeepBut.of_below hb g none) (.inl rfl)); replace HB := aM (ap z16 hb); replace HI0 := aM (IsS48.below z19 hb); clear hb ho44; obtain ⟨Ao45, co45, eo45⟩ := Kd.R_slice gP.out; subst eo45) | ((with_reducible refine ax (f := 37) rfl ?_); refine aC (some 20) rfl rfl Try.func37 z0 rfl #[.pointer (some ⟨g, 0, none⟩), .slice Ao45 y253.length co45] rfl z10 ?_; (with_reducible refine (spec_l1Cur_among.calls g s0_0 iE iD _ _ y253 ox rO rN w0 _ ?side1 ?side2 ?side3 ?side4 ?side5 gJ.out).mono ?_); (case side1 => exact y68); (case side2 => exact y54); (case side3 => repeat (first | exact (ah gP.out).2.2 | (with_reducible refine au ?_ _) | (with_reducible refine av ?_ _) | (with_reducible refine aw ?_))); (case side4 => exact (ah gP.out).2.1); (case side5 => exact far_slice (IsS48.own_ne HI0.out gP.out (by decide))); rintro e w46 ⟨rfl, hi, hb, hk⟩; refine ⟨_, rfl, ?_⟩; replace bf := aM (ag (Kd.R_keep (IsS48.apart (show IsS48 w0 _ g s0_0 iE iD from ziHI0_) z4 (by decide)) hk (fun _ h => h.2)) (fun _ h => h.1)); replace gP := aM (ag (Kd.R_keep (IsS48.apart (show IsS48 w0 _ g s0_0 iE iD from ziHI0_) (kR_ gP.out) (by decide)) hk (fun _ h => h.2)) (fun _ h => h.1)); replace HK := aM (KeepBut.trans z11 hk (.inl rfl)); replace HB := aM hb; replace HI0 := aM hi; (try clear hb hk hi); (try clear cj)) | ((with_reducible refine gate_builtin (b := .append) (xs := #[.tmp 17, .tmp 22]) rfl ?_); at_builtin; refine aE k68 w.heap.size rfl (.tmp 17) (.tmp 22) 23 68 (.agg #[(.int .i64 0), (.string ⟨#[]⟩), (.string ⟨#[]⟩)]) 40 rfl Try.underlying23 info68 rfl (by decide) (by omega) v229 bX (⟨ox, (⟨#[]⟩ : ByteArray), (⟨#[]⟩ : ByteArray)⟩ : S68) [.int .i64 ox, .string ⟨#[]⟩, .string ⟨#[]⟩] (fun _ => True) (fun _ => False) rfl rfl ?aP (fun _ hk => hk.elim) ?aF ?aO (Below.refl _ _) ?aS ?aL ?_; (case aP => exact k68_mkM _ _ _ (⟨ox, (⟨#[]⟩ : ByteArray), (⟨#[]⟩ : ByteArray)⟩ : S68)); (case aF => exact (fun _ _ => trivial)); (case aO => exact z4); (case aS => exact (keep_size (w := w) (g := g) (row := none) z11)); (case aL => have := LMc41.out; omega); intro v260 w47 ho hb hg hat; rw [← Ny259.out] at ho; replace gP := aM (Kd.R_over' (kR_ gP.out) (Kd.R_typed z4) (by decide) hg); replace HB := aM (below_weaken z16 HL.out hb); replace HI0 := aM (IsS48.grown z19 hg (IsS48.own_ne HI0.out bf.out (by decide))); replace HK := aM (KeepBut.trans z11 (KeepBut.of_grown hg g) (Kd.R_base2 bf.out)); have HO261 := aM (ho); clear bf; clear ho hb hg hat))
        go_ret
        exact ⟨_, y5, by (with_reducible repeat (first | apply ac | apply ab | apply aa)); exact HO261.out, y37, y30, y33⟩
       ·rw [if_neg m8] at H
        exact absurd H (by simp)
   ·replace bT := Bool.eq_false_iff.mpr bT
    subst bT
    rw [if_neg nF_] at H
    simp only [Option.some.injEq, Prod.mk.injEq] at H
    obtain ⟨rfl, rfl, rfl⟩ := H
    go_wp2
    go_ret
    exact ⟨_, y5, by (with_reducible repeat (first | apply ac | apply ab | apply aa)); exact bf.out, y37, y30, y33⟩

/-! ### spec_l3Sizes: function 17 -/
def spec_l3Sizes.l0 : Nat → Int → Int → List (S68) → Int → Int → Option (Int × Int)
 | 0, _, _, _, _, _ => none
 | k + 1, x4, x5, x8, x9, x10 => if x10 < x9 then (if 0 ≤ x10 then (if x10 < (x8.length : Int) then (spec_l3Sizes.l0 k (wrap64 (x4 + (wrap64 (((sp x8 x10).f0) + (((sp x8 x10).f2).size : Int))))) (wrap64 (x5 + (wrap64 (((sp x8 x10).f0) + (((sp x8 x10).f1).size : Int))))) x8 x9 (wrap64 (x10 + 1))) else (none)) else (none)) else (some (x4, x5))
def spec_l3Sizes.f (k : Nat) (l0 : List (S68)) : Option (Int × Int) := spec_l3Sizes.l0 k 0 0 l0 (l0.length : Int) 0
theorem spec_l3Sizes.mono_l : ∀ k, (∀ y0 y1 y2 y3 y4, LeO (spec_l3Sizes.l0 k y0 y1 y2 y3 y4) (spec_l3Sizes.l0 (k + 1) y0 y1 y2 y3 y4))
 | 0 => fun _ _ _ _ _ r h => by simp [spec_l3Sizes.l0] at h
 | k + 1 => by
  have ih0 := spec_l3Sizes.mono_l k
  ·intro y0 y1 y2 y3 y4
   unfold spec_l3Sizes.l0
   with_reducible repeat' first | exact ih0 _ _ _ _ _ | exact lR_ _ | exact lN_ _ | refine lI_ ?_ ?_ | refine lB_ ?_ fun _ => ?_
theorem spec_l3Sizes.mono : ∀ a0 k, LeO (spec_l3Sizes.f k a0) (spec_l3Sizes.f (k + 1) a0) := by
 intro a0 k
 have ih0 := spec_l3Sizes.mono_l k
 unfold spec_l3Sizes.f
 with_reducible repeat' first | exact ih0 _ _ _ _ _ | exact lR_ _ | exact lN_ _ | refine lI_ ?_ ?_ | refine lB_ ?_ fun _ => ?_
theorem spec_l3Sizes.calls (k : Nat) (A0 : Option Addr) (c0 : Nat) (l0 : List (S68)) (r1 : Int) (r2 : Int) (w : World) (hr0 : Kd.C k68 w A0 l0.length l0) (hc0 : l0.length ≤ c0) (h : spec_l3Sizes.f k l0 = some (r1, r2)) :
  Calls Try.prog 17 #[.slice A0 l0.length c0] w fun e w' => e = .returned (.tuple #[.int .i64 r1, .int .i64 r2]) ∧ Below w.heap.size w w' := by
 have hu68 := Try.underlying68
 have bH := aM hr0
 have cH := aM hc0
 clear hr0 hc0
 have HB := aM (Below.refl w.heap.size w)
 have H : (spec_l3Sizes.l0 k 0 0 l0 (l0.length : Int) 0) = some (r1, r2) := h
 clear h
 have H' := aM H
 clear H
 go_enter Try.func17, Try.ntmps17
 go_wp2
 go_loopg [4, 5, 10] k (fun kq v4 v5 v10 w' => ∃ (x4_1 : Int) (x5_1 : Int) (x10_1 : Int), v4 = .int .i64 x4_1 ∧ v5 = .int .i64 x5_1 ∧ v10 = .int .i64 x10_1 ∧ Aside0 (spec_l3Sizes.l0 kq x4_1 x5_1 l0 (l0.length : Int) x10_1 = some (r1, r2)) ∧ Aside0 (kq ≤ k) ∧ Aside0 (Below w.heap.size w w'))
 case atStart => exact ⟨(0), (0), (0), z1, z1, z1, H', ⟨Nat.le_refl _⟩, ⟨y6⟩⟩
 case round =>
  clear H'
  obtain ⟨x4_1, x5_1, x10_1, rfl, rfl, rfl, HA, HK1, HB⟩ := hrel
  cases gk with
  | zero => exact absurd HA.out (by simp [spec_l3Sizes.l0])
  | succ k1 =>
   have H := HA.out
   clear HA
   simp only [spec_l3Sizes.l0] at H
   by_cases c2 : x10_1 < (l0.length : Int)
   ·rw [if_pos c2] at H
    have c2b0 : decide (x10_1 < (l0.length : Int)) = true := dT c2
    clear c2
    by_cases c3 : 0 ≤ x10_1
    ·rw [if_pos c3] at H
     have c3b0 : decide (0 ≤ x10_1) = true := dT c3
     clear c3
     by_cases c4 : x10_1 < (l0.length : Int)
     ·rw [if_pos c4] at H
      have c4b0 : decide (x10_1 < (l0.length : Int)) = true := dT c4
      clear c4
      have H' := aM H
      clear H
      have p262 : 0 ≤ (x10_1 : Int) := oD z2
      have q262 : x10_1 < (l0.length : Int) := oD z2
      obtain ⟨ad262, e262, hx262_0, hx262_1, hx262_2⟩ := at_T68 bH.out x10_1 p262 q262
      cases e262
      replace hx262_0 := hC_ HB.out hx262_0
      replace hx262_1 := hC_ HB.out hx262_1
      replace hx262_2 := hC_ HB.out hx262_2
      replace p262 := eq_true p262
      replace q262 := eq_true q262
      go_wp2_with (first | ((with_reducible refine ay (N := 7) rfl ?_); refine bE_ (N := 7) (cs := #[.int .i64 0, .string ⟨#[]⟩, .string ⟨#[]⟩]) (t := 68) (h := ?_); intro lw hg w5 hbox hb; have kt := aM (hbox); have GW263 := aM ((zg_ : w.heap.size ≤ lw)); have GE263 := aM ((zg_ : w.heap.size ≤ lw)); replace HB := aM (ap z9 hb); clear hb hbox hg; obtain ⟨kW, kV, kU, l8, kF, kE⟩ := cc3 kt.out))
      go_roundg k1
      case measure => have := HK1.out; omega
      case rel => exact ⟨(wrap64 (x4_1 + (wrap64 (((sp l0 x10_1).f0) + (((sp l0 x10_1).f2).size : Int))))), (wrap64 (x5_1 + (wrap64 (((sp l0 x10_1).f0) + (((sp l0 x10_1).f1).size : Int))))), (wrap64 (x10_1 + 1)), z1, z1, z1, H', ⟨y0⟩, ⟨zb_⟩⟩
     ·rw [if_neg c4] at H
      exact absurd H (by simp)
    ·rw [if_neg c3] at H
     exact absurd H (by simp)
   ·rw [if_neg c2] at H
    have c2b0 : decide (x10_1 < (l0.length : Int)) = false := dF c2
    clear c2
    simp only [Option.some.injEq, Prod.mk.injEq] at H
    obtain ⟨rfl, rfl⟩ := H
    go_wp2
    go_ret2
    exact ⟨y5, y6⟩

/-! ### spec_l1In: function 46 -/
def spec_l1In.f (a0 : Int) (a1 : Int) (a2 : Int) : Option (Bool) := if a0 ≥ a1 then (some (decide (a0 ≤ a2))) else (some false)
theorem spec_l1In.calls (a0 : Int) (a1 : Int) (a2 : Int) (r : Bool) (w : World) (h : spec_l1In.f a0 a1 a2 = some r) :
  Calls Try.prog 46 #[.int .i64 a0, .int .i64 a1, .int .i64 a2] w fun e w' => e = .returned (.bool r) ∧ Drawn0 w w' := by
 have H : (if a0 ≥ a1 then (some (decide (a0 ≤ a2))) else (some false)) = some r := h
 clear h
 by_cases c4 : a0 ≥ a1
 ·rw [if_pos c4] at H
  have c4b0 : decide (a1 ≤ a0) = true := dT c4
  clear c4
  obtain rfl := sI H
  go_enter Try.func46, Try.ntmps46
  go_wp2
  go_ret
  exact ⟨y2, y4⟩
 ·rw [if_neg c4] at H
  have c4b0 : decide (a1 ≤ a0) = false := dF c4
  clear c4
  obtain rfl := sI H
  go_enter Try.func46, Try.ntmps46
  go_wp2
  go_ret
  exact ⟨y2, y4⟩

/-! ### spec_l5Style: function 50 -/
def spec_l5Style.l0 : Nat → ByteArray → Int → Option (Bool)
 | 0, _, _ => none
 | k + 1, x0, x3 => if x3 < (x0.size : Int) then (if 0 ≤ x3 then (if (bt x0 x3) < 97 then (some false) else (if (bt x0 x3) > 122 then (some false) else (spec_l5Style.l0 k x0 (wrap64 (x3 + 1))))) else (none)) else ((spec_l1In.f (x0.size : Int) 1 8).bind fun qn => (some qn))
def spec_l5Style.f (k : Nat) (a0 : ByteArray) : Option (Bool) := spec_l5Style.l0 k a0 0
theorem spec_l5Style.mono_l : ∀ k, (∀ y0 y1, LeO (spec_l5Style.l0 k y0 y1) (spec_l5Style.l0 (k + 1) y0 y1))
 | 0 => fun _ _ r h => by simp [spec_l5Style.l0] at h
 | k + 1 => by
  have ih0 := spec_l5Style.mono_l k
  ·intro y0 y1
   unfold spec_l5Style.l0
   with_reducible repeat' first | exact ih0 _ _ | exact lR_ _ | exact lN_ _ | refine lI_ ?_ ?_ | refine lB_ ?_ fun _ => ?_
theorem spec_l5Style.mono : ∀ a0 k, LeO (spec_l5Style.f k a0) (spec_l5Style.f (k + 1) a0) := by
 intro a0 k
 have ih0 := spec_l5Style.mono_l k
 unfold spec_l5Style.f
 with_reducible repeat' first | exact ih0 _ _ | exact lR_ _ | exact lN_ _ | refine lI_ ?_ ?_ | refine lB_ ?_ fun _ => ?_
theorem spec_l5Style.calls (k : Nat) (a0 : ByteArray) (r : Bool) (w : World) (h : spec_l5Style.f k a0 = some r) :
  Calls Try.prog 50 #[.string a0] w fun e w' => e = .returned (.bool r) ∧ Drawn0 w w' := by
 have H : (spec_l5Style.l0 k a0 0) = some r := h
 clear h
 have H' := aM H
 clear H
 go_enter Try.func50, Try.ntmps50
 go_wp2
 go_loopg [3] k (fun kq v3 w' => ∃ (x3_1 : Int), v3 = .int .i64 x3_1 ∧ Aside0 (spec_l5Style.l0 kq a0 x3_1 = some r) ∧ Aside0 (kq ≤ k) ∧ Drawn0 w w')
 case atStart => exact ⟨(0), z1, H', ⟨Nat.le_refl _⟩, y4⟩
 case round =>
  clear H'
  obtain ⟨x3_1, rfl, HA, HK1, ⟨m1, rfl⟩⟩ := hrel
  cases gk with
  | zero => exact absurd HA.out (by simp [spec_l5Style.l0])
  | succ k1 =>
   have H := HA.out
   clear HA
   simp only [spec_l5Style.l0] at H
   by_cases c2 : x3_1 < (a0.size : Int)
   ·rw [if_pos c2] at H
    have c2b0 : decide (x3_1 < (a0.size : Int)) = true := dT c2
    clear c2
    by_cases c3 : 0 ≤ x3_1
    ·rw [if_pos c3] at H
     have c3b0 : decide (0 ≤ x3_1) = true := dT c3
     clear c3
     by_cases c5 : (bt a0 x3_1) < 97
     ·rw [if_pos c5] at H
      have c5b0 : decide ((bt a0 x3_1) < 97) = true := dT c5
      clear c5
      obtain rfl := sI H
      have p4 : 0 ≤ (x3_1 : Int) := oD z2
      have q4 : x3_1 < (a0.size : Int) := oD z2
      have hx4 := bt_at a0 x3_1
      replace p4 := eq_true p4
      replace q4 := eq_true q4
      go_wp2
      go_ret
      exact ⟨y2, y4⟩
     ·rw [if_neg c5] at H
      have c5b0 : decide ((bt a0 x3_1) < 97) = false := dF c5
      clear c5
      by_cases c7 : (bt a0 x3_1) > 122
      ·rw [if_pos c7] at H
       have c7b0 : decide (122 < (bt a0 x3_1)) = true := dT c7
       clear c7
       obtain rfl := sI H
       have p4 : 0 ≤ (x3_1 : Int) := oD z2
       have q4 : x3_1 < (a0.size : Int) := oD z2
       have hx4 := bt_at a0 x3_1
       replace p4 := eq_true p4
       replace q4 := eq_true q4
       have p6 : 0 ≤ (x3_1 : Int) := oD z2
       have q6 : x3_1 < (a0.size : Int) := oD z2
       have hx6 := bt_at a0 x3_1
       replace p6 := eq_true p6
       replace q6 := eq_true q6
       go_wp2
       go_ret
       exact ⟨y2, y4⟩
      ·rw [if_neg c7] at H
       have c7b0 : decide (122 < (bt a0 x3_1)) = false := dF c7
       clear c7
       have H' := aM H
       clear H
       have p4 : 0 ≤ (x3_1 : Int) := oD z2
       have q4 : x3_1 < (a0.size : Int) := oD z2
       have hx4 := bt_at a0 x3_1
       replace p4 := eq_true p4
       replace q4 := eq_true q4
       have p6 : 0 ≤ (x3_1 : Int) := oD z2
       have q6 : x3_1 < (a0.size : Int) := oD z2
       have hx6 := bt_at a0 x3_1
       replace p6 := eq_true p6
       replace q6 := eq_true q6
       go_wp2
       go_roundg k1
       case measure => have := HK1.out; omega
       case rel => exact ⟨(wrap64 (x3_1 + 1)), z1, H', ⟨y0⟩, y4⟩
    ·rw [if_neg c3] at H
     exact absurd H (by simp)
   ·rw [if_neg c2] at H
    have c2b0 : decide (x3_1 < (a0.size : Int)) = false := dF c2
    clear c2
    obtain ⟨qn, A8, H⟩ := oA_ H
    try dsimp only at H
    obtain rfl := sI H
    go_wp2_with (first | ((with_reducible refine ax (f := 46) rfl ?_); refine aC (some 22) rfl rfl Try.func46 z0 rfl #[.int .i64 (a0.size : Int), .int .i64 1, .int .i64 8] rfl z10 ?_; (with_reducible refine (spec_l1In.calls (a0.size : Int) 1 8 qn _ A8.out).mono ?_); rintro e w' ⟨rfl, ⟨nd, rfl⟩⟩; refine ⟨_, rfl, ?_⟩))
    go_ret
    exact ⟨y2, y4⟩

/-! ### spec_l5Mark: function 32 -/
def spec_l5Mark.f (k : Nat) (a0_0 : Int) (a0_1 : Int) (a0_2 : ByteArray) (a1 : Int) : Option (Bool) := (spec_l5Style.f k a0_2).bind fun ow => (if ow = true then (if a0_0 ≥ 0 then (if a0_0 < a0_1 then (some (decide (a0_1 ≤ a1))) else (some false)) else (some false)) else (some false))
theorem spec_l5Mark.mono : ∀ a0 a1 a2 a3 k, LeO (spec_l5Mark.f k a0 a1 a2 a3) (spec_l5Mark.f (k + 1) a0 a1 a2 a3) := by
 intro a0 a1 a2 a3 k
 unfold spec_l5Mark.f
 with_reducible repeat' first | exact spec_l5Style.mono _ _ | exact lR_ _ | exact lN_ _ | refine lI_ ?_ ?_ | refine lB_ ?_ fun _ => ?_
theorem spec_l5Mark.calls (k : Nat) (a0_0 : Int) (a0_1 : Int) (a0_2 : ByteArray) (a1 : Int) (r : Bool) (w : World) (h : spec_l5Mark.f k a0_0 a0_1 a0_2 a1 = some r) :
  Calls Try.prog 32 #[.agg #[.int .i64 a0_0, .int .i64 a0_1, .string a0_2], .int .i64 a1] w fun e w' => e = .returned (.bool r) ∧ Below w.heap.size w w' := by
 have hu34 := Try.underlying34
 have HB := aM (Below.refl w.heap.size w)
 have H : ((spec_l5Style.f k a0_2).bind fun ow => (if ow = true then (if a0_0 ≥ 0 then (if a0_0 < a0_1 then (some (decide (a0_1 ≤ a1))) else (some false)) else (some false)) else (some false))) = some r := h
 clear h
 obtain ⟨ow, A3, H⟩ := oA_ H
 try dsimp only at H
 by_cases c4 : ow = true
 ·subst c4
  rw [if_pos rfl] at H
  by_cases c5 : a0_0 ≥ 0
  ·rw [if_pos c5] at H
   have c5b0 : decide (0 ≤ a0_0) = true := dT c5
   clear c5
   by_cases c6 : a0_0 < a0_1
   ·rw [if_pos c6] at H
    have c6b0 : decide (a0_0 < a0_1) = true := dT c6
    clear c6
    obtain rfl := sI H
    go_enter Try.func32, Try.ntmps32
    go_wp2_with (first | ((with_reducible refine ay (N := 2) rfl ?_); refine bE_ (N := 2) (cs := #[.int .i64 a0_0, .int .i64 a0_1, .string a0_2]) (t := 34) (h := ?_); intro cL hg w7 hbox hb; have cp := aM (hbox); have o9 := aM ((zg_ : w.heap.size ≤ cL)); have jV := aM ((zg_ : w.heap.size ≤ cL)); replace HB := aM (ap z9 hb); clear hb hbox hg; obtain ⟨fi, fh, fg, fO, e3, e1⟩ := cc3 cp.out) | ((with_reducible refine ax (f := 50) rfl ?_); refine aC (some 7) rfl rfl Try.func50 z0 rfl #[.string a0_2] rfl z10 ?_; (with_reducible refine (spec_l5Style.calls k a0_2 true _ A3.out).mono ?_); rintro e w' ⟨rfl, ⟨nd, rfl⟩⟩; refine ⟨_, rfl, ?_⟩))
    go_ret
    exact ⟨y5, zb_⟩
   ·rw [if_neg c6] at H
    have c6b0 : decide (a0_0 < a0_1) = false := dF c6
    clear c6
    obtain rfl := sI H
    go_enter Try.func32, Try.ntmps32
    go_wp2_with (first | ((with_reducible refine ay (N := 2) rfl ?_); refine bE_ (N := 2) (cs := #[.int .i64 a0_0, .int .i64 a0_1, .string a0_2]) (t := 34) (h := ?_); intro cL hg w9 hbox hb; have cp := aM (hbox); have o9 := aM ((zg_ : w.heap.size ≤ cL)); have jV := aM ((zg_ : w.heap.size ≤ cL)); replace HB := aM (ap z9 hb); clear hb hbox hg; obtain ⟨cG, cF, cE, cD, cC, cB⟩ := cc3 cp.out) | ((with_reducible refine ax (f := 50) rfl ?_); refine aC (some 7) rfl rfl Try.func50 z0 rfl #[.string a0_2] rfl z10 ?_; (with_reducible refine (spec_l5Style.calls k a0_2 true _ A3.out).mono ?_); rintro e w' ⟨rfl, ⟨nd, rfl⟩⟩; refine ⟨_, rfl, ?_⟩))
    go_ret
    exact ⟨y5, zb_⟩
  ·rw [if_neg c5] at H
   have c5b0 : decide (0 ≤ a0_0) = false := dF c5
   clear c5
   obtain rfl := sI H
   go_enter Try.func32, Try.ntmps32
   go_wp2_with (first | ((with_reducible refine ay (N := 2) rfl ?_); refine bE_ (N := 2) (cs := #[.int .i64 a0_0, .int .i64 a0_1, .string a0_2]) (t := 34) (h := ?_); intro cL hg w11 hbox hb; have cp := aM (hbox); have o9 := aM ((zg_ : w.heap.size ≤ cL)); have jV := aM ((zg_ : w.heap.size ≤ cL)); replace HB := aM (ap z9 hb); clear hb hbox hg; obtain ⟨gC, gB, gA, gp, gn, gm⟩ := cc3 cp.out) | ((with_reducible refine ax (f := 50) rfl ?_); refine aC (some 7) rfl rfl Try.func50 z0 rfl #[.string a0_2] rfl z10 ?_; (with_reducible refine (spec_l5Style.calls k a0_2 true _ A3.out).mono ?_); rintro e w' ⟨rfl, ⟨nd, rfl⟩⟩; refine ⟨_, rfl, ?_⟩))
   go_ret
   exact ⟨y5, zb_⟩
 ·replace c4 := Bool.eq_false_iff.mpr c4
  subst c4
  rw [if_neg nF_] at H
  obtain rfl := sI H
  go_enter Try.func32, Try.ntmps32
  go_wp2_with (first | ((with_reducible refine ay (N := 2) rfl ?_); refine bE_ (N := 2) (cs := #[.int .i64 a0_0, .int .i64 a0_1, .string a0_2]) (t := 34) (h := ?_); intro cL hg w13 hbox hb; have cp := aM (hbox); have o9 := aM ((zg_ : w.heap.size ≤ cL)); have jV := aM ((zg_ : w.heap.size ≤ cL)); replace HB := aM (ap z9 hb); clear hb hbox hg; obtain ⟨cz, cy, cx, cw, cv, cu⟩ := cc3 cp.out) | ((with_reducible refine ax (f := 50) rfl ?_); refine aC (some 7) rfl rfl Try.func50 z0 rfl #[.string a0_2] rfl z10 ?_; (with_reducible refine (spec_l5Style.calls k a0_2 false _ A3.out).mono ?_); rintro e w' ⟨rfl, ⟨nd, rfl⟩⟩; refine ⟨_, rfl, ?_⟩))
  go_ret
  exact ⟨y5, zb_⟩

end Go.Proofs.Ytjbllgdehpomiaa.AFnMarks
