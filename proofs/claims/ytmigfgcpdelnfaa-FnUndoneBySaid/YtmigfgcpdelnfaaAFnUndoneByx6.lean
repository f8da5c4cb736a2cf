-- this session's own text: written by wip/tools/ownprint.py over the kit's print
import Derived.Test.YtmigfgcpdelnfaaAFnUndoneByx0
import Derived.Test.YtmigfgcpdelnfaaAFnUndoneByx1
import Derived.Test.YtmigfgcpdelnfaaAFnUndoneByx5
namespace Go.Proofs.Ytmigfgcpdelnfaa.AFnUndoneBy
open Go.RowKit Go.Proofs.YtmigfgcpdelnfaaW.PrintWords Go.Proofs.YtmigfgcpdelnfaaW.PrintLast Go.Proofs.YtmigfgcpdelnfaaW.PrintMore
attribute [local go_sem] max2_int min2_int max_two min_two max_three min_three max_four min_four   -- for this text's walks alone
set_option linter.unusedVariables false
set_option linter.unusedSimpArgs false

/-! ### spec_l3Apply: function 54 -/
mutual
def spec_l3Apply.l0 : Nat → ByteArray → ByteArray → List (S61) → Int → Int → Option (ByteArray × Bool)
 | 0, _, _, _, _, _ => none
 | k + 1, x1, x6, x10, x11, x12 => if x12 < x11 then (if 0 ≤ x12 then (if x12 < (x10.length : Int) then (if (wrap64 (((rd_T61 x10 x12).f0) + (((rd_T61 x10 x12).f2).size : Int))) > (x1.size : Int) then (spec_l3Apply.j1 k x1 x6 (wrap64 (((rd_T61 x10 x12).f0) + (((rd_T61 x10 x12).f2).size : Int))) x10 x11 x12 true ((rd_T61 x10 x12).f0) ((rd_T61 x10 x12).f1) ((rd_T61 x10 x12).f2)) else (if ((rd_T61 x10 x12).f2).toList = ([] : List UInt8) then (spec_l3Apply.j1 k x1 x6 (wrap64 (((rd_T61 x10 x12).f0) + (((rd_T61 x10 x12).f2).size : Int))) x10 x11 x12 false ((rd_T61 x10 x12).f0) ((rd_T61 x10 x12).f1) ((rd_T61 x10 x12).f2)) else (if 0 ≤ (wrap64 (((rd_T61 x10 x12).f0) + (((rd_T61 x10 x12).f2).size : Int))) then (if (wrap64 (((rd_T61 x10 x12).f0) + (((rd_T61 x10 x12).f2).size : Int))) ≤ (x1.size : Int) then (spec_l3Apply.j1 k x1 x6 (wrap64 (((rd_T61 x10 x12).f0) + (((rd_T61 x10 x12).f2).size : Int))) x10 x11 x12 ((x1.extract 0 ((wrap64 (((rd_T61 x10 x12).f0) + (((rd_T61 x10 x12).f2).size : Int))) : Int).toNat).toList != ((rd_T61 x10 x12).f2).toList) ((rd_T61 x10 x12).f0) ((rd_T61 x10 x12).f1) ((rd_T61 x10 x12).f2)) else (none)) else (none)))) else (none)) else (none)) else (some (x6, (x1.toList == ([] : List UInt8))))
def spec_l3Apply.j1 : Nat → ByteArray → ByteArray → Int → List (S61) → Int → Int → Bool → Int → ByteArray → ByteArray → Option (ByteArray × Bool)
 | 0, _, _, _, _, _, _, _, _, _, _ => none
 | k + 1, x1, x6, x9, x10, x11, x12, x38, x218000, x218001, x218002 => if x38 = true then (some ((⟨#[]⟩ : ByteArray), false)) else (if x218000 > 0 then (if 0 ≤ x9 then (if x9 ≤ (x1.size : Int) then (if x6.size + (x1.extract 0 (x9 : Int).toNat).size ≤ 9223372036854775807 then (if (x6 ++ (x1.extract 0 (x9 : Int).toNat)).size + x218001.size ≤ 9223372036854775807 then (spec_l3Apply.l0 k (x1.extract (x9 : Int).toNat x1.size) ((x6 ++ (x1.extract 0 (x9 : Int).toNat)) ++ x218001) x10 x11 (wrap64 (x12 + 1))) else (none)) else (none)) else (none)) else (none)) else (if x6.size + x218001.size ≤ 9223372036854775807 then (if 0 ≤ x9 then (if x9 ≤ (x1.size : Int) then (spec_l3Apply.l0 k (x1.extract (x9 : Int).toNat x1.size) (x6 ++ x218001) x10 x11 (wrap64 (x12 + 1))) else (none)) else (none)) else (none)))
end
def spec_l3Apply.f (k : Nat) (l0 : List (S61)) (a1 : ByteArray) : Option (ByteArray × Bool) := spec_l3Apply.l0 k a1 (⟨#[]⟩ : ByteArray) l0 (l0.length : Int) 0
theorem spec_l3Apply.mono_l : ∀ k, (∀ y0 y1 y2 y3 y4, LeO (spec_l3Apply.l0 k y0 y1 y2 y3 y4) (spec_l3Apply.l0 (k + 1) y0 y1 y2 y3 y4)) ∧ (∀ y0 y1 y2 y3 y4 y5 y6 y7 y8 y9, LeO (spec_l3Apply.j1 k y0 y1 y2 y3 y4 y5 y6 y7 y8 y9) (spec_l3Apply.j1 (k + 1) y0 y1 y2 y3 y4 y5 y6 y7 y8 y9))
 | 0 => ⟨fun _ _ _ _ _ r h => by simp [spec_l3Apply.l0] at h, fun _ _ _ _ _ _ _ _ _ _ r h => by simp [spec_l3Apply.j1] at h⟩
 | k + 1 => by
  obtain ⟨ih0, ih1⟩ := spec_l3Apply.mono_l k
  refine ⟨?_, ?_⟩
  ·intro y0 y1 y2 y3 y4
   unfold spec_l3Apply.l0
   repeat' first
   | (with_reducible exact ih0 _ _ _ _ _)
   | (with_reducible exact ih1 _ _ _ _ _ _ _ _ _ _)
   | (with_reducible exact LeO.refl _)
   | (with_reducible exact LeO.none _)
   | (with_reducible refine LeO.ite ?_ ?_)
   | (with_reducible refine LeO.bind ?_ (fun _ => ?_))
  ·intro y0 y1 y2 y3 y4 y5 y6 y7 y8 y9
   unfold spec_l3Apply.j1
   repeat' first
   | (with_reducible exact ih0 _ _ _ _ _)
   | (with_reducible exact ih1 _ _ _ _ _ _ _ _ _ _)
   | (with_reducible exact LeO.refl _)
   | (with_reducible exact LeO.none _)
   | (with_reducible refine LeO.ite ?_ ?_)
   | (with_reducible refine LeO.bind ?_ (fun _ => ?_))
theorem spec_l3Apply.mono : ∀ a0 a1 k, LeO (spec_l3Apply.f k a0 a1) (spec_l3Apply.f (k + 1) a0 a1) := by
 intro a0 a1 k
 obtain ⟨ih0, ih1⟩ := spec_l3Apply.mono_l k
 unfold spec_l3Apply.f
 repeat' first
   | (with_reducible exact ih0 _ _ _ _ _)
   | (with_reducible exact ih1 _ _ _ _ _ _ _ _ _ _)
   | (with_reducible exact LeO.refl _)
   | (with_reducible exact LeO.none _)
   | (with_reducible refine LeO.ite ?_ ?_)
   | (with_reducible refine LeO.bind ?_ (fun _ => ?_))
set_option maxHeartbeats 8000000 in
set_option maxRecDepth 100000 in
theorem spec_l3Apply.calls (k : Nat) (A0 : Option Addr) (c0 : Nat) (l0 : List (S61)) (a1 : ByteArray) (r1 : ByteArray) (r2 : Bool) (w : World) (hr0 : Kd.C k61 w A0 l0.length l0) (hc0 : l0.length ≤ c0) (h : spec_l3Apply.f k l0 a1 = some (r1, r2)) :
  Calls Try.prog 54 #[.slice A0 l0.length c0, .string a1] w fun e w' => e = .returned (.tuple #[.string r1, .bool r2]) ∧ Below w.heap.size w w' := by
 have hu61 := Try.underlying61
 have pX := aM hr0
 have rU := aM hc0
 clear hr0 hc0
 have HB := aM (Below.refl w.heap.size w)
 have H : (spec_l3Apply.l0 k a1 (⟨#[]⟩ : ByteArray) l0 (l0.length : Int) 0) = some (r1, r2) := h
 clear h
 have H' := aM H
 clear H
 go_enter Try.func54, Try.ntmps54
 go_wp2
 repeat (go_quiet (fail); try go_wp2)
 go_loopg [1, 6, 12] k (fun kq v1 v6 v12 w' => ∃ (x1_1 : ByteArray) (x6_1 : ByteArray) (x12_1 : Int), v1 = .string x1_1 ∧ v6 = .string x6_1 ∧ v12 = .int .i64 x12_1 ∧ Aside0 (spec_l3Apply.l0 kq x1_1 x6_1 l0 (l0.length : Int) x12_1 = some (r1, r2)) ∧ Aside0 (kq ≤ k) ∧ Aside0 (Below w.heap.size w w'))
 case atStart => exact ⟨(a1), ((⟨#[]⟩ : ByteArray)), (0), z1, z1, z1, H', ⟨Nat.le_refl _⟩, ⟨y5⟩⟩
 case round =>
  clear H'
  obtain ⟨x1_1, x6_1, x12_1, rfl, rfl, rfl, HA, HK1, HB⟩ := hrel
  cases gk with
  | zero => exact absurd HA.out (by simp [spec_l3Apply.l0])
  | succ k1 =>
   have H := HA.out
   clear HA
   simp only [spec_l3Apply.l0] at H
   by_cases c3 : x12_1 < (l0.length : Int)
   ·rw [if_pos c3] at H
    have c3b0 : decide (x12_1 < (l0.length : Int)) = true := dT c3
    clear c3
    by_cases c4 : 0 ≤ x12_1
    ·rw [if_pos c4] at H
     have c4b0 : decide (0 ≤ x12_1) = true := dT c4
     clear c4
     by_cases c5 : x12_1 < (l0.length : Int)
     ·rw [if_pos c5] at H
      have c5b0 : decide (x12_1 < (l0.length : Int)) = true := dT c5
      clear c5
      have iP := aM H
      clear H
      have p216 : 0 ≤ (x12_1 : Int) := oD z2
      have q216 : x12_1 < (l0.length : Int) := oD z2
      obtain ⟨ad216, e216, hx216_0, hx216_1, hx216_2⟩ := at_T61 pX.out x12_1 p216 q216
      cases e216
      replace hx216_0 := (HB.out.cell (World.block_lt_of_cell? w _ hx216_0)).trans hx216_0
      replace hx216_1 := (HB.out.cell (World.block_lt_of_cell? w _ hx216_1)).trans hx216_1
      replace hx216_2 := (HB.out.cell (World.block_lt_of_cell? w _ hx216_2)).trans hx216_2
      replace p216 := eq_true p216
      replace q216 := eq_true q216
      go_upto_region 6 with (first | ((with_reducible refine aw (N := 8) rfl ?_); refine ax ?hg (N := 8) ?hd (cs := #[.int .i64 0, .string ⟨#[]⟩, .string ⟨#[]⟩]) (t := 61) ?hr ?_; (case hd => rfl); (case hg => rfl); (case hr => first | (go_simp; done) | (go_simp; rfl)); intro bT hg w7 hbox hb; have bz := aM (hbox); have qk := aM ((by rw [hg]; exact (aq z13) : w.heap.size ≤ bT)); have qm := aM ((by rw [hg]; exact (aq z13) : w.heap.size ≤ bT)); replace HB := aM (ap z13 hb); clear hb hbox hg; obtain ⟨cm, ck, cj, cw, ci, ch⟩ := cc3 bz.out))
      repeat (go_quiet (fail); go_upto_region 6 with (first | ((with_reducible refine aw (N := 8) rfl ?_); refine ax ?hg (N := 8) ?hd (cs := #[.int .i64 0, .string ⟨#[]⟩, .string ⟨#[]⟩]) (t := 61) ?hr ?_; (case hd => rfl); (case hg => rfl); (case hr => first | (go_simp; done) | (go_simp; rfl)); intro bT hg w7 hbox hb; have bz := aM (hbox); have qk := aM ((by rw [hg]; exact (aq z13) : w.heap.size ≤ bT)); have qm := aM ((by rw [hg]; exact (aq z13) : w.heap.size ≤ bT)); replace HB := aM (ap z13 hb); clear hb hbox hg; obtain ⟨cm, ck, cj, cw, ci, ch⟩ := cc3 bz.out)))
      (try simp only [Act.put, sA, sB, sC])
      go_cut [38] (fun v38 wc => ∃ (kq : Nat) (x38_5 : Bool), v38 = .bool x38_5 ∧ Aside0 (spec_l3Apply.j1 kq x1_1 x6_1 (wrap64 (((rd_T61 l0 x12_1).f0) + (((rd_T61 l0 x12_1).f2).size : Int))) l0 (l0.length : Int) x12_1 x38_5 ((rd_T61 l0 x12_1).f0) ((rd_T61 l0 x12_1).f1) ((rd_T61 l0 x12_1).f2) = some (r1, r2)) ∧ Aside0 (kq ≤ k1) ∧ Aside0 (wc.heap[bT]? = some (.cells #[.int .i64 ((rd_T61 l0 x12_1).f0), .string ((rd_T61 l0 x12_1).f1), .string ((rd_T61 l0 x12_1).f2)] 61 (0, 0))) ∧ Aside0 (Below w.heap.size w wc))
      case first =>
       have H := iP.out
       clear iP
       by_cases c9 : (wrap64 (((rd_T61 l0 x12_1).f0) + (((rd_T61 l0 x12_1).f2).size : Int))) > (x1_1.size : Int)
       ·rw [if_pos c9] at H
        have c9b0 : decide ((x1_1.size : Int) < (wrap64 (((rd_T61 l0 x12_1).f0) + (((rd_T61 l0 x12_1).f2).size : Int)))) = true := dT c9
        clear c9
        (first | rw [c9b0] | (simp only [i64_w, i32_w]; rw [c9b0]) | skip)
        have H' := aM H
        clear H
        go_wp2
        repeat (go_quiet (fail); try go_wp2)
        go_meet
        case rel => exact ⟨_, (true), z1, H', ⟨y2⟩, ⟨y34⟩, ⟨y18⟩⟩
       ·rw [if_neg c9] at H
        have c9b0 : decide ((x1_1.size : Int) < (wrap64 (((rd_T61 l0 x12_1).f0) + (((rd_T61 l0 x12_1).f2).size : Int)))) = false := dF c9
        clear c9
        (first | rw [c9b0] | (simp only [i64_w, i32_w]; rw [c9b0]) | skip)
        by_cases dk : ((rd_T61 l0 x12_1).f2).toList = ([] : List UInt8)
        ·rw [if_pos dk] at H
         have c10b0 : (((rd_T61 l0 x12_1).f2).toList == ([] : List UInt8)) = true := qT dk
         have c10b1 : (((rd_T61 l0 x12_1).f2).toList != ([] : List UInt8)) = false := nF dk
         clear dk
         have H' := aM H
         clear H
         obtain ⟨hF, hD, g9, gV, gU, gT⟩ := cc3 bz.out
         go_wp2
         all_goals (try (exfalso; rename_i h_; rw [c10b0] at h_; cases h_; done))
         repeat (go_quiet (fail); try go_wp2)
         all_goals (try (exfalso; rename_i h_; rw [c10b0] at h_; cases h_; done))
         go_meet
         case rel => exact ⟨_, (false), z1, H', ⟨y2⟩, ⟨y34⟩, ⟨y18⟩⟩
        ·rw [if_neg dk] at H
         have c10b0 : (((rd_T61 l0 x12_1).f2).toList == ([] : List UInt8)) = false := qF dk
         have c10b1 : (((rd_T61 l0 x12_1).f2).toList != ([] : List UInt8)) = true := nT dk
         obtain ⟨iY, hV⟩ : ∃ j_ : Int, (wrap64 (((rd_T61 l0 x12_1).f0) + (((rd_T61 l0 x12_1).f2).size : Int))) = j_ := ⟨_, rfl⟩
         replace H : (if 0 ≤ (iY) then (if (iY) ≤ (x1_1.size : Int) then (spec_l3Apply.j1 k1 x1_1 x6_1 iY l0 (l0.length : Int) x12_1 ((x1_1.extract 0 ((iY) : Int).toNat).toList != ((rd_T61 l0 x12_1).f2).toList) ((rd_T61 l0 x12_1).f0) ((rd_T61 l0 x12_1).f1) ((rd_T61 l0 x12_1).f2)) else (none)) else (none)) = some (r1, r2) := by first | (rw [hV] at H; exact H) | (simp only [hV] at H ⊢; exact H)
         (try rw [hV] at c9b0)
         have hji12w : (IntKind.i64.wrap (((rd_T61 l0 x12_1).f0) + (((rd_T61 l0 x12_1).f2).size : Int))) = iY := (i64_w _).trans hV
         by_cases ce : 0 ≤ (iY)
         ·rw [if_pos ce] at H
          have c13b0 := eq_true ce
          have c13b1 : decide (0 ≤ (iY)) = true := dT ce
          clear ce
          by_cases cD : (iY) ≤ (x1_1.size : Int)
          ·rw [if_pos cD] at H
           have c14b0 := eq_true cD
           have c14b1 : decide ((iY) ≤ (x1_1.size : Int)) = true := dT cD
           clear cD
           have H' := aM H
           clear H
           obtain ⟨hcz15_0, hcz15_1, hcz15_2, hfz15_0, hfz15_1, hfz15_2⟩ := cc3 bz.out
           go_wp2
           all_goals (try (exfalso; rename_i h_; rw [c10b0] at h_; cases h_; done))
           repeat (go_quiet (fail); try go_wp2)
           all_goals (try (exfalso; rename_i h_; rw [c10b0] at h_; cases h_; done))
           go_meet
           case rel => exact ⟨_, (((x1_1.extract 0 ((iY) : Int).toNat).toList != ((rd_T61 l0 x12_1).f2).toList)), (by first | rfl | (simp; done) | (simp only [← hV] <;> (first | rfl | (simp; done) | (simp; generalize ByteArray.toList _ = u_; cases u_ <;> (first | rfl | (simp; done))))) | (simp [*]; done)), (by first | exact H' | (simp only [hV]; exact H') | (simp only [← hV]; exact H')), ⟨y2⟩, ⟨y34⟩, ⟨y18⟩⟩
          ·rw [if_neg cD] at H
           exact absurd H (by simp)
         ·rw [if_neg ce] at H
          exact absurd H (by simp)
      case rest =>
       clear iP
       try clear p2
       try clear c3
       try clear c3b0
       try clear c4
       try clear c4b0
       try clear c5
       try clear c5b0
       try clear cm
       try clear ck
       try clear cj
       try clear cw
       try clear ci
       try clear ch
       try clear hx216_0
       try clear hx216_1
       try clear hx216_2
       try clear p2
       try clear p216
       try clear q216
       obtain ⟨kq, x38_5, rfl, HA, gw, bz, HB⟩ := hcut
       cases kq with
       | zero => exact absurd HA.out (by simp [spec_l3Apply.j1])
       | succ kj5 =>
        have H := HA.out
        clear HA
        simp only [spec_l3Apply.j1] at H
        by_cases eu : x38_5 = true
        ·subst eu
         rw [if_pos rfl] at H
         simp only [Option.some.injEq, Prod.mk.injEq] at H
         obtain ⟨rfl, rfl⟩ := H
         go_wp2
         repeat (go_quiet (fail); try go_wp2)
         go_ret2
         exact ⟨y4, y18⟩
        ·replace eu := Bool.eq_false_iff.mpr eu
         subst eu
         rw [if_neg nF_] at H
         by_cases e4 : ((rd_T61 l0 x12_1).f0) > 0
         ·rw [if_pos e4] at H
          have c17b0 : decide (0 < ((rd_T61 l0 x12_1).f0)) = true := dT e4
          clear e4
          obtain ⟨dj, hU⟩ : ∃ j_ : Int, (wrap64 (((rd_T61 l0 x12_1).f0) + (((rd_T61 l0 x12_1).f2).size : Int))) = j_ := ⟨_, rfl⟩
          replace H : (if 0 ≤ (dj) then (if (dj) ≤ (x1_1.size : Int) then (if x6_1.size + (x1_1.extract 0 ((dj) : Int).toNat).size ≤ 9223372036854775807 then (if (x6_1 ++ (x1_1.extract 0 ((dj) : Int).toNat)).size + ((rd_T61 l0 x12_1).f1).size ≤ 9223372036854775807 then (spec_l3Apply.l0 kj5 (x1_1.extract ((dj) : Int).toNat x1_1.size) ((x6_1 ++ (x1_1.extract 0 ((dj) : Int).toNat)) ++ ((rd_T61 l0 x12_1).f1)) l0 (l0.length : Int) (wrap64 (x12_1 + 1))) else (none)) else (none)) else (none)) else (none)) = some (r1, r2) := by first | (rw [hU] at H; exact H) | (simp only [hU] at H ⊢; exact H)
          have hji18w : (IntKind.i64.wrap (((rd_T61 l0 x12_1).f0) + (((rd_T61 l0 x12_1).f2).size : Int))) = dj := (i64_w _).trans hU
          by_cases hG : 0 ≤ (dj)
          ·rw [if_pos hG] at H
           have c19b0 := eq_true hG
           have c19b1 : decide (0 ≤ (dj)) = true := dT hG
           clear hG
           by_cases cE : (dj) ≤ (x1_1.size : Int)
           ·rw [if_pos cE] at H
            have c20b0 := eq_true cE
            have c20b1 : decide ((dj) ≤ (x1_1.size : Int)) = true := dT cE
            clear cE
            by_cases dX : x6_1.size + (x1_1.extract 0 ((dj) : Int).toNat).size ≤ 9223372036854775807
            ·rw [if_pos dX] at H
             have c21b0 := eq_true dX
             have c21b1 : decide (x6_1.size + (x1_1.extract 0 ((dj) : Int).toNat).size ≤ 9223372036854775807) = true := dT dX
             (try (have c21b1m := c21b1; simp only [aC, Nat.sub_zero] at c21b1m))
             (try (have c21b0m := c21b0; simp only [aC, Nat.sub_zero] at c21b0m))
             try have c21b2 : (9223372036854775807 < x6_1.size + (x1_1.extract 0 ((dj) : Int).toNat).size) = False := eq_false (Nat.not_lt.2 dX)
             (try (have c21x : (9223372036854775807 < x6_1.size + (dj).toNat) = False := eq_false (fun h_ => by have e_ := of_eq_true c21b0; simp only [aC, aA] at e_; have f0_ : (dj) ≤ (x1_1.size : Int) := (by first | assumption | exact of_eq_true (by assumption) | exact oD (by assumption)); omega)))
             by_cases gG : (x6_1 ++ (x1_1.extract 0 ((dj) : Int).toNat)).size + ((rd_T61 l0 x12_1).f1).size ≤ 9223372036854775807
             ·rw [if_pos gG] at H
              have c22b0 := eq_true gG
              have c22b1 : decide ((x6_1 ++ (x1_1.extract 0 ((dj) : Int).toNat)).size + ((rd_T61 l0 x12_1).f1).size ≤ 9223372036854775807) = true := dT gG
              try have c22b2 : (9223372036854775807 < (x6_1 ++ (x1_1.extract 0 ((dj) : Int).toNat)).size + ((rd_T61 l0 x12_1).f1).size) = False := eq_false (Nat.not_lt.2 gG)
              (try (have c22x : (9223372036854775807 < (x6_1.size + (dj).toNat) + ((rd_T61 l0 x12_1).f1).size) = False := eq_false (fun h_ => by have e_ := of_eq_true c22b0; simp only [aC, aA] at e_; have f0_ : (dj) ≤ (x1_1.size : Int) := (by first | assumption | exact of_eq_true (by assumption) | exact oD (by assumption)); omega)))
              (try (have c22b2s := c22b2; simp only [aA] at c22b2s))
              have c23b0 := eq_true (oD z2 : 0 ≤ (dj))
              have c24b0 := eq_true (oD z2 : (dj) ≤ (x1_1.size : Int))
              have H' := aM H
              clear H
              obtain ⟨eL, eK, eJ, eE, eD, eC⟩ := cc3 bz.out
              go_wp2
              repeat (go_quiet (fail); try go_wp2)
              go_roundg kj5
              case measure => have := HK1.out; have := gw.out; omega
              case rel => exact ⟨(x1_1.extract ((dj) : Int).toNat x1_1.size), ((x6_1 ++ (x1_1.extract 0 ((dj) : Int).toNat)) ++ ((rd_T61 l0 x12_1).f1)), (wrap64 (x12_1 + 1)), (by first | rfl | (simp; done) | (simp only [← hU] <;> (first | rfl | (simp; done) | (simp; generalize ByteArray.toList _ = u_; cases u_ <;> (first | rfl | (simp; done))))) | (simp [*]; done)), (by first | rfl | (simp; done) | (simp only [← hU] <;> (first | rfl | (simp; done) | (simp; generalize ByteArray.toList _ = u_; cases u_ <;> (first | rfl | (simp; done))))) | (simp [*]; done)), z1, (by first | exact H' | (simp only [hU]; exact H') | (simp only [← hU]; exact H')), ⟨by have := HK1.out; have := gw.out; omega⟩, ⟨y18⟩⟩
             ·rw [if_neg gG] at H
              exact absurd H (by simp)
            ·rw [if_neg dX] at H
             exact absurd H (by simp)
           ·rw [if_neg cE] at H
            exact absurd H (by simp)
          ·rw [if_neg hG] at H
           exact absurd H (by simp)
         ·rw [if_neg e4] at H
          have c17b0 : decide (0 < ((rd_T61 l0 x12_1).f0)) = false := dF e4
          clear e4
          by_cases eR : x6_1.size + ((rd_T61 l0 x12_1).f1).size ≤ 9223372036854775807
          ·rw [if_pos eR] at H
           have c26b0 := eq_true eR
           have c26b1 : decide (x6_1.size + ((rd_T61 l0 x12_1).f1).size ≤ 9223372036854775807) = true := dT eR
           try have c26b2 : (9223372036854775807 < x6_1.size + ((rd_T61 l0 x12_1).f1).size) = False := eq_false (Nat.not_lt.2 eR)
           obtain ⟨jn, i4⟩ : ∃ j_ : Int, (wrap64 (((rd_T61 l0 x12_1).f0) + (((rd_T61 l0 x12_1).f2).size : Int))) = j_ := ⟨_, rfl⟩
           replace H : (if 0 ≤ (jn) then (if (jn) ≤ (x1_1.size : Int) then (spec_l3Apply.l0 kj5 (x1_1.extract ((jn) : Int).toNat x1_1.size) (x6_1 ++ ((rd_T61 l0 x12_1).f1)) l0 (l0.length : Int) (wrap64 (x12_1 + 1))) else (none)) else (none)) = some (r1, r2) := by first | (rw [i4] at H; exact H) | (simp only [i4] at H ⊢; exact H)
           have hji27w : (IntKind.i64.wrap (((rd_T61 l0 x12_1).f0) + (((rd_T61 l0 x12_1).f2).size : Int))) = jn := (i64_w _).trans i4
           by_cases ib : 0 ≤ (jn)
           ·rw [if_pos ib] at H
            have c28b0 := eq_true ib
            have c28b1 : decide (0 ≤ (jn)) = true := dT ib
            clear ib
            by_cases iU : (jn) ≤ (x1_1.size : Int)
            ·rw [if_pos iU] at H
             have c29b0 := eq_true iU
             have c29b1 : decide ((jn) ≤ (x1_1.size : Int)) = true := dT iU
             clear iU
             have H' := aM H
             clear H
             obtain ⟨nl, nk, nj, mR, mQ, mP⟩ := cc3 bz.out
             go_wp2
             repeat (go_quiet (fail); try go_wp2)
             go_roundg kj5
             case measure => have := HK1.out; have := gw.out; omega
             case rel => exact ⟨(x1_1.extract ((jn) : Int).toNat x1_1.size), (x6_1 ++ ((rd_T61 l0 x12_1).f1)), (wrap64 (x12_1 + 1)), (by first | rfl | (simp; done) | (simp only [← i4] <;> (first | rfl | (simp; done) | (simp; generalize ByteArray.toList _ = u_; cases u_ <;> (first | rfl | (simp; done))))) | (simp [*]; done)), z1, z1, (by first | exact H' | (simp only [i4]; exact H') | (simp only [← i4]; exact H')), ⟨by have := HK1.out; have := gw.out; omega⟩, ⟨y18⟩⟩
            ·rw [if_neg iU] at H
             exact absurd H (by simp)
           ·rw [if_neg ib] at H
            exact absurd H (by simp)
          ·rw [if_neg eR] at H
           exact absurd H (by simp)
     ·rw [if_neg c5] at H
      exact absurd H (by simp)
    ·rw [if_neg c4] at H
     exact absurd H (by simp)
   ·rw [if_neg c3] at H
    have c3b0 : decide (x12_1 < (l0.length : Int)) = false := dF c3
    clear c3
    simp only [Option.some.injEq, Prod.mk.injEq] at H
    obtain ⟨rfl, rfl⟩ := H
    go_wp2
    repeat (go_quiet (fail); try go_wp2)
    go_ret2
    exact ⟨y4, y5⟩

/-! ### spec_l8Do: function 34 -/
def spec_l8Do.f (k : Nat) (a0 : ByteArray) (a1_0 : Int) (a1_1 : Int) (a1_2 : Int) (a1_3 : ByteArray) : Option ((List (S61)) × ByteArray × Bool) := (spec_l8Op.f k a0 a1_0 a1_1 a1_2 a1_3).bind fun iG => (if iG.2 = true then ((spec_l3Apply.f k iG.1 a0).bind fun kU => ((spec_GoodDoc.f k kU.1).bind fun nU => (some (iG.1, kU.1, nU)))) else (some (([] : List (S61)), (⟨#[]⟩ : ByteArray), false)))
theorem spec_l8Do.mono : ∀ a0 a1 a2 a3 a4 k, LeO (spec_l8Do.f k a0 a1 a2 a3 a4) (spec_l8Do.f (k + 1) a0 a1 a2 a3 a4) := by
 intro a0 a1 a2 a3 a4 k
 unfold spec_l8Do.f
 repeat' first
   | (with_reducible exact spec_GoodDoc.mono _ _)
   | (with_reducible exact spec_l3Apply.mono _ _ _)
   | (with_reducible exact spec_l8Op.mono _ _ _ _ _ _)
   | (with_reducible exact LeO.refl _)
   | (with_reducible exact LeO.none _)
   | (with_reducible refine LeO.ite ?_ ?_)
   | (with_reducible refine LeO.bind ?_ (fun _ => ?_))
set_option maxHeartbeats 8000000 in
set_option maxRecDepth 100000 in
theorem spec_l8Do.calls (k : Nat) (a0 : ByteArray) (a1_0 : Int) (a1_1 : Int) (a1_2 : Int) (a1_3 : ByteArray) (r1 : List (S61)) (r2 : ByteArray) (r3 : Bool) (w : World) (h : spec_l8Do.f k a0 a1_0 a1_1 a1_2 a1_3 = some (r1, r2, r3)) :
  Calls Try.prog 34 #[.string a0, .agg #[.int .i64 a1_0, .int .i64 a1_1, .int .i64 a1_2, .string a1_3]] w fun e w' => ∃ v0_ : Value, e = .returned (.tuple #[v0_, .string r2, .bool r3]) ∧ Kd.R k61 61 w' w.heap.size (fun _ => True) v0_ r1 ∧ Below w.heap.size w w' := by
 have hu29 := Try.underlying29
 have HB := aM (Below.refl w.heap.size w)
 have H : ((spec_l8Op.f k a0 a1_0 a1_1 a1_2 a1_3).bind fun iG => (if iG.2 = true then ((spec_l3Apply.f k iG.1 a0).bind fun kU => ((spec_GoodDoc.f k kU.1).bind fun nU => (some (iG.1, kU.1, nU)))) else (some (([] : List (S61)), (⟨#[]⟩ : ByteArray), false)))) = some (r1, r2, r3) := h
 clear h
 obtain ⟨⟨pE, t222⟩, A3, H⟩ := oA_ H
 try dsimp only at H
 by_cases c4 : t222 = true
 ·subst c4
  rw [if_pos rfl] at H
  obtain ⟨⟨qZ, t224⟩, A5, H⟩ := oA_ H
  try dsimp only at H
  obtain ⟨nU, A6, H⟩ := oA_ H
  try dsimp only at H
  simp only [Option.some.injEq, Prod.mk.injEq] at H
  obtain ⟨rfl, rfl, rfl⟩ := H
  go_enter Try.func34, Try.ntmps34
  go_wp2_with (first | ((with_reducible refine aw (N := 3) rfl ?_); refine ax ?hg (N := 3) ?hd (cs := #[.int .i64 a1_0, .int .i64 a1_1, .int .i64 a1_2, .string a1_3]) (t := 29) ?hr ?_; (case hd => rfl); (case hg => rfl); (case hr => first | (go_simp; done) | (go_simp; rfl)); intro dn hg w7 hbox hb; have b9 := aM (hbox); have GW218 := aM ((by rw [hg]; exact (aq z13) : w.heap.size ≤ dn)); have gE := aM ((by rw [hg]; exact (aq z13) : w.heap.size ≤ dn)); replace HB := aM (ap z13 hb); clear hb hbox hg; obtain ⟨cm, ck, cj, hY, cw, ci, ch, hX⟩ := cc4 b9.out) | ((with_reducible refine av (f := 53) rfl ?_); refine ay (some 14) rfl rfl Try.func53 z0 rfl #[.string a0, .agg #[.int .i64 a1_0, .int .i64 a1_1, .int .i64 a1_2, .string a1_3]] rfl z14 ?_; (with_reducible refine (spec_l8Op.calls k a0 a1_0 a1_1 a1_2 a1_3 pE true _ A3.out).mono ?_); rintro e w9 ⟨v220, rfl, ho0, hb⟩; refine ⟨_, rfl, ?_⟩; have gC := aM (az ho0 (aq (by repeat (first | (with_reducible first | exact HB.out | apply bA | apply pD | apply bD | refine ao ?_ gE.out) | exact HB.out)))); replace b9 := aM (ae (g := dn) (o := .cells #[.int .i64 a1_0, .int .i64 a1_1, .int .i64 a1_2, .string a1_3] 29 (0, 0)) (kB_ b9.out) hb); replace HB := aM (ap (by repeat (first | (with_reducible first | exact HB.out | apply bA | apply pD | apply bD | refine ao ?_ gE.out) | exact HB.out)) hb); (try clear hb); (try clear ho0); obtain ⟨o5, oh, eo10⟩ := Kd.R_slice gC.out; subst eo10) | ((with_reducible refine av (f := 54) rfl ?_); refine ay (some 22) rfl rfl Try.func54 z0 rfl #[.slice o5 pE.length oh, .string a0] rfl z14 ?_; (with_reducible refine (spec_l3Apply.calls k _ _ pE a0 qZ t224 _ ?side1 ?side2 A5.out).mono ?_); (case side1 => repeat (first | exact (ah gC.out).2.2 | (with_reducible refine Kd.C_alloc ?_ _) | (with_reducible refine Kd.C_drewN ?_ _) | (with_reducible refine Kd.C_drew ?_))); (case side2 => exact (ah gC.out).2.1); rintro e w11 ⟨rfl, hb⟩; refine ⟨_, rfl, ?_⟩; replace gC := aM (af (kR_ gC.out) hb); replace b9 := aM (ae (g := dn) (o := .cells #[.int .i64 a1_0, .int .i64 a1_1, .int .i64 a1_2, .string a1_3] 29 (0, 0)) (kB_ b9.out) hb); replace HB := aM (ap (by repeat (first | (with_reducible first | exact HB.out | apply bA | apply pD | apply bD | refine ao ?_ gE.out) | exact HB.out)) hb); (try clear hb)) | ((with_reducible refine av (f := 28) rfl ?_); refine ay (some 28) rfl rfl Try.func28 z0 rfl #[.string qZ] rfl z14 ?_; (with_reducible refine (spec_GoodDoc.calls k qZ nU _ A6.out).mono ?_); rintro e w' ⟨rfl, ⟨nd, rfl⟩⟩; refine ⟨_, rfl, ?_⟩))
  go_ret3
  exact ⟨_, y4, by (with_reducible repeat (first | apply ac | apply ab | apply aa)); exact gC.out, by repeat (first | (with_reducible first | exact HB.out | apply bA | apply pD | apply bD | refine ao ?_ gE.out) | exact HB.out)⟩
 ·replace c4 := Bool.eq_false_iff.mpr c4
  subst c4
  rw [if_neg nF_] at H
  simp only [Option.some.injEq, Prod.mk.injEq] at H
  obtain ⟨rfl, rfl, rfl⟩ := H
  go_enter Try.func34, Try.ntmps34
  go_wp2_with (first | ((with_reducible refine aw (N := 3) rfl ?_); refine ax ?hg (N := 3) ?hd (cs := #[.int .i64 a1_0, .int .i64 a1_1, .int .i64 a1_2, .string a1_3]) (t := 29) ?hr ?_; (case hd => rfl); (case hg => rfl); (case hr => first | (go_simp; done) | (go_simp; rfl)); intro dn hg w12 hbox hb; have b9 := aM (hbox); have GW218 := aM ((by rw [hg]; exact (aq z13) : w.heap.size ≤ dn)); have gE := aM ((by rw [hg]; exact (aq z13) : w.heap.size ≤ dn)); replace HB := aM (ap z13 hb); clear hb hbox hg; obtain ⟨hcz13_0, hcz13_1, hcz13_2, hcz13_3, hfz13_0, hfz13_1, hfz13_2, hfz13_3⟩ := cc4 b9.out) | ((with_reducible refine av (f := 53) rfl ?_); refine ay (some 14) rfl rfl Try.func53 z0 rfl #[.string a0, .agg #[.int .i64 a1_0, .int .i64 a1_1, .int .i64 a1_2, .string a1_3]] rfl z14 ?_; (with_reducible refine (spec_l8Op.calls k a0 a1_0 a1_1 a1_2 a1_3 pE false _ A3.out).mono ?_); rintro e w14 ⟨v220, rfl, ho0, hb⟩; refine ⟨_, rfl, ?_⟩; have gC := aM (az ho0 (aq (by repeat (first | (with_reducible first | exact HB.out | apply bA | apply pD | apply bD | refine ao ?_ gE.out) | exact HB.out)))); replace b9 := aM (ae (g := dn) (o := .cells #[.int .i64 a1_0, .int .i64 a1_1, .int .i64 a1_2, .string a1_3] 29 (0, 0)) (kB_ b9.out) hb); replace HB := aM (ap (by repeat (first | (with_reducible first | exact HB.out | apply bA | apply pD | apply bD | refine ao ?_ gE.out) | exact HB.out)) hb); (try clear hb); (try clear ho0)))
  go_ret3
  exact ⟨_, y4, y20, by repeat (first | (with_reducible first | exact HB.out | apply bA | apply pD | apply bD | refine ao ?_ gE.out) | exact HB.out)⟩

/-! ### spec_DoCommand: function 12 -/
def spec_DoCommand.f (k : Nat) (a0 : ByteArray) (a1_0 : Int) (a1_1 : Int) (a1_2 : Int) (a1_3 : ByteArray) : Option (ByteArray × Bool) := (spec_GoodDoc.f k a0).bind fun nS => (if nS = true then ((spec_l8Do.f k a0 a1_0 a1_1 a1_2 a1_3).bind fun kT => (if kT.2.2 = true then (some (kT.2.1, true)) else (some ((⟨#[]⟩ : ByteArray), false)))) else (some ((⟨#[]⟩ : ByteArray), false)))
theorem spec_DoCommand.mono : ∀ a0 a1 a2 a3 a4 k, LeO (spec_DoCommand.f k a0 a1 a2 a3 a4) (spec_DoCommand.f (k + 1) a0 a1 a2 a3 a4) := by
 intro a0 a1 a2 a3 a4 k
 unfold spec_DoCommand.f
 repeat' first
   | (with_reducible exact spec_GoodDoc.mono _ _)
   | (with_reducible exact spec_l8Do.mono _ _ _ _ _ _)
   | (with_reducible exact LeO.refl _)
   | (with_reducible exact LeO.none _)
   | (with_reducible refine LeO.ite ?_ ?_)
   | (with_reducible refine LeO.bind ?_ (fun _ => ?_))
set_option maxHeartbeats 8000000 in
set_option maxRecDepth 100000 in
theorem spec_DoCommand.calls (k : Nat) (a0 : ByteArray) (a1_0 : Int) (a1_1 : Int) (a1_2 : Int) (a1_3 : ByteArray) (r1 : ByteArray) (r2 : Bool) (w : World) (h : spec_DoCommand.f k a0 a1_0 a1_1 a1_2 a1_3 = some (r1, r2)) :
  Calls Try.prog 12 #[.string a0, .agg #[.int .i64 a1_0, .int .i64 a1_1, .int .i64 a1_2, .string a1_3]] w fun e w' => e = .returned (.tuple #[.string r1, .bool r2]) ∧ Below w.heap.size w w' := by
 have hu29 := Try.underlying29
 have HB := aM (Below.refl w.heap.size w)
 have H : ((spec_GoodDoc.f k a0).bind fun nS => (if nS = true then ((spec_l8Do.f k a0 a1_0 a1_1 a1_2 a1_3).bind fun kT => (if kT.2.2 = true then (some (kT.2.1, true)) else (some ((⟨#[]⟩ : ByteArray), false)))) else (some ((⟨#[]⟩ : ByteArray), false)))) = some (r1, r2) := h
 clear h
 obtain ⟨nS, A3, H⟩ := oA_ H
 try dsimp only at H
 by_cases c4 : nS = true
 ·subst c4
  rw [if_pos rfl] at H
  obtain ⟨⟨sY, sX, t232⟩, A5, H⟩ := oA_ H
  try dsimp only at H
  by_cases c6 : t232 = true
  ·subst c6
   rw [if_pos rfl] at H
   simp only [Option.some.injEq, Prod.mk.injEq] at H
   obtain ⟨rfl, rfl⟩ := H
   go_enter Try.func12, Try.ntmps12
   go_wp2_with (first | ((with_reducible refine aw (N := 3) rfl ?_); refine ax ?hg (N := 3) ?hd (cs := #[.int .i64 a1_0, .int .i64 a1_1, .int .i64 a1_2, .string a1_3]) (t := 29) ?hr ?_; (case hd => rfl); (case hg => rfl); (case hr => first | (go_simp; done) | (go_simp; rfl)); intro cO hg w7 hbox hb; have cd := aM (hbox); have qj := aM ((by rw [hg]; exact (aq z13) : w.heap.size ≤ cO)); have gj := aM ((by rw [hg]; exact (aq z13) : w.heap.size ≤ cO)); replace HB := aM (ap z13 hb); clear hb hbox hg) | ((with_reducible refine av (f := 28) rfl ?_); refine ay (some 10) rfl rfl Try.func28 z0 rfl #[.string a0] rfl z14 ?_; (with_reducible refine (spec_GoodDoc.calls k a0 true _ A3.out).mono ?_); rintro e w' ⟨rfl, ⟨nd, rfl⟩⟩; refine ⟨_, rfl, ?_⟩; obtain ⟨cm, ck, cj, hY, cw, ci, ch, hX⟩ := cc4 cd.out) | ((with_reducible refine av (f := 34) rfl ?_); refine ay (some 15) rfl rfl Try.func34 z0 rfl #[.string a0, .agg #[.int .i64 a1_0, .int .i64 a1_1, .int .i64 a1_2, .string a1_3]] rfl z14 ?_; (with_reducible refine (spec_l8Do.calls k a0 a1_0 a1_1 a1_2 a1_3 sY sX true _ A5.out).mono ?_); rintro e w9 ⟨v229, rfl, ho0, hb⟩; refine ⟨_, rfl, ?_⟩; have HO230 := aM (az ho0 (aq (by repeat (first | (with_reducible first | exact HB.out | apply bA | apply pD | apply bD | refine ao ?_ gj.out) | exact HB.out)))); replace cd := aM (ae (g := cO) (o := .cells #[.int .i64 a1_0, .int .i64 a1_1, .int .i64 a1_2, .string a1_3] 29 (0, 0)) (kB_ cd.out) hb); replace HB := aM (ap (by repeat (first | (with_reducible first | exact HB.out | apply bA | apply pD | apply bD | refine ao ?_ gj.out) | exact HB.out)) hb); (try clear hb); (try clear ho0)))
   go_ret2
   exact ⟨y4, by repeat (first | (with_reducible first | exact HB.out | apply bA | apply pD | apply bD | refine ao ?_ gj.out) | exact HB.out)⟩
  ·replace c6 := Bool.eq_false_iff.mpr c6
   subst c6
   rw [if_neg nF_] at H
   simp only [Option.some.injEq, Prod.mk.injEq] at H
   obtain ⟨rfl, rfl⟩ := H
   go_enter Try.func12, Try.ntmps12
   go_wp2_with (first | ((with_reducible refine aw (N := 3) rfl ?_); refine ax ?hg (N := 3) ?hd (cs := #[.int .i64 a1_0, .int .i64 a1_1, .int .i64 a1_2, .string a1_3]) (t := 29) ?hr ?_; (case hd => rfl); (case hg => rfl); (case hr => first | (go_simp; done) | (go_simp; rfl)); intro cO hg w10 hbox hb; have cd := aM (hbox); have qj := aM ((by rw [hg]; exact (aq z13) : w.heap.size ≤ cO)); have gj := aM ((by rw [hg]; exact (aq z13) : w.heap.size ≤ cO)); replace HB := aM (ap z13 hb); clear hb hbox hg) | ((with_reducible refine av (f := 28) rfl ?_); refine ay (some 10) rfl rfl Try.func28 z0 rfl #[.string a0] rfl z14 ?_; (with_reducible refine (spec_GoodDoc.calls k a0 true _ A3.out).mono ?_); rintro e w' ⟨rfl, ⟨nd, rfl⟩⟩; refine ⟨_, rfl, ?_⟩; obtain ⟨hF, hD, g9, nm, gV, gU, gT, mS⟩ := cc4 cd.out) | ((with_reducible refine av (f := 34) rfl ?_); refine ay (some 15) rfl rfl Try.func34 z0 rfl #[.string a0, .agg #[.int .i64 a1_0, .int .i64 a1_1, .int .i64 a1_2, .string a1_3]] rfl z14 ?_; (with_reducible refine (spec_l8Do.calls k a0 a1_0 a1_1 a1_2 a1_3 sY sX false _ A5.out).mono ?_); rintro e w12 ⟨v229, rfl, ho0, hb⟩; refine ⟨_, rfl, ?_⟩; have HO230 := aM (az ho0 (aq (by repeat (first | (with_reducible first | exact HB.out | apply bA | apply pD | apply bD | refine ao ?_ gj.out) | exact HB.out)))); replace cd := aM (ae (g := cO) (o := .cells #[.int .i64 a1_0, .int .i64 a1_1, .int .i64 a1_2, .string a1_3] 29 (0, 0)) (kB_ cd.out) hb); replace HB := aM (ap (by repeat (first | (with_reducible first | exact HB.out | apply bA | apply pD | apply bD | refine ao ?_ gj.out) | exact HB.out)) hb); (try clear hb); (try clear ho0)))
   go_ret2
   exact ⟨y4, by repeat (first | (with_reducible first | exact HB.out | apply bA | apply pD | apply bD | refine ao ?_ gj.out) | exact HB.out)⟩
 ·replace c4 := Bool.eq_false_iff.mpr c4
  subst c4
  rw [if_neg nF_] at H
  simp only [Option.some.injEq, Prod.mk.injEq] at H
  obtain ⟨rfl, rfl⟩ := H
  go_enter Try.func12, Try.ntmps12
  go_wp2_with (first | ((with_reducible refine aw (N := 3) rfl ?_); refine ax ?hg (N := 3) ?hd (cs := #[.int .i64 a1_0, .int .i64 a1_1, .int .i64 a1_2, .string a1_3]) (t := 29) ?hr ?_; (case hd => rfl); (case hg => rfl); (case hr => first | (go_simp; done) | (go_simp; rfl)); intro cO hg w13 hbox hb; have cd := aM (hbox); have qj := aM ((by rw [hg]; exact (aq z13) : w.heap.size ≤ cO)); have gj := aM ((by rw [hg]; exact (aq z13) : w.heap.size ≤ cO)); replace HB := aM (ap z13 hb); clear hb hbox hg) | ((with_reducible refine av (f := 28) rfl ?_); refine ay (some 10) rfl rfl Try.func28 z0 rfl #[.string a0] rfl z14 ?_; (with_reducible refine (spec_GoodDoc.calls k a0 false _ A3.out).mono ?_); rintro e w' ⟨rfl, ⟨nd, rfl⟩⟩; refine ⟨_, rfl, ?_⟩))
  go_ret2
  exact ⟨y4, by repeat (first | (with_reducible first | exact HB.out | apply bA | apply pD | apply bD | refine ao ?_ gj.out) | exact HB.out)⟩

/-! ### impl_isName: function 50 -/
def impl_isName.f (a0 : Int) : Option (Bool) := if a0 ≥ 65 then (some (decide (a0 ≤ 70))) else (some false)
set_option maxHeartbeats 8000000 in
set_option maxRecDepth 100000 in
theorem impl_isName.calls (a0 : Int) (r : Bool) (w : World) (h : impl_isName.f a0 = some r) :
  Calls Try.prog 50 #[.int .u8 a0] w fun e w' => e = .returned (.bool r) ∧ Drawn0 w w' := by
 have H : (if a0 ≥ 65 then (some (decide (a0 ≤ 70))) else (some false)) = some r := h
 clear h
 by_cases c2 : a0 ≥ 65
 ·rw [if_pos c2] at H
  have c2b0 : decide (65 ≤ a0) = true := dT c2
  clear c2
  obtain rfl := sI H
  go_enter Try.func50, Try.ntmps50
  go_wp2
  go_ret
  exact ⟨y1, y3⟩
 ·rw [if_neg c2] at H
  have c2b0 : decide (65 ≤ a0) = false := dF c2
  clear c2
  obtain rfl := sI H
  go_enter Try.func50, Try.ntmps50
  go_wp2
  go_ret
  exact ⟨y1, y3⟩

/-! ### impl_isPlain: function 51 -/
def impl_isPlain.f (a0 : Int) : Option (Bool) := if a0 ≥ 97 then (if a0 ≤ 122 then (some true) else (if a0 ≥ 48 then (if a0 ≤ 57 then (some true) else (if a0 = 32 then (some true) else (if a0 = 46 then (some true) else (some (a0 == 44))))) else (if a0 = 32 then (some true) else (if a0 = 46 then (some true) else (some (a0 == 44)))))) else (if a0 ≥ 48 then (if a0 ≤ 57 then (some true) else (if a0 = 32 then (some true) else (if a0 = 46 then (some true) else (some (a0 == 44))))) else (if a0 = 32 then (some true) else (if a0 = 46 then (some true) else (some (a0 == 44)))))
set_option maxHeartbeats 8000000 in
set_option maxRecDepth 100000 in
theorem impl_isPlain.calls (a0 : Int) (r : Bool) (w : World) (h : impl_isPlain.f a0 = some r) :
  Calls Try.prog 51 #[.int .u8 a0] w fun e w' => e = .returned (.bool r) ∧ Drawn0 w w' := by
 have H : (if a0 ≥ 97 then (if a0 ≤ 122 then (some true) else (if a0 ≥ 48 then (if a0 ≤ 57 then (some true) else (if a0 = 32 then (some true) else (if a0 = 46 then (some true) else (some (a0 == 44))))) else (if a0 = 32 then (some true) else (if a0 = 46 then (some true) else (some (a0 == 44)))))) else (if a0 ≥ 48 then (if a0 ≤ 57 then (some true) else (if a0 = 32 then (some true) else (if a0 = 46 then (some true) else (some (a0 == 44))))) else (if a0 = 32 then (some true) else (if a0 = 46 then (some true) else (some (a0 == 44)))))) = some r := h
 clear h
 by_cases c2 : a0 ≥ 97
 ·rw [if_pos c2] at H
  have c2b0 : decide (97 ≤ a0) = true := dT c2
  clear c2
  by_cases c3 : a0 ≤ 122
  ·rw [if_pos c3] at H
   have c3b0 : decide (a0 ≤ 122) = true := dT c3
   clear c3
   obtain rfl := sI H
   go_enter Try.func51, Try.ntmps51
   go_wp2
   go_ret
   exact ⟨y1, y3⟩
  ·rw [if_neg c3] at H
   have c3b0 : decide (a0 ≤ 122) = false := dF c3
   clear c3
   by_cases c4 : a0 ≥ 48
   ·rw [if_pos c4] at H
    have c4b0 : decide (48 ≤ a0) = true := dT c4
    clear c4
    by_cases c5 : a0 ≤ 57
    ·rw [if_pos c5] at H
     have c5b0 : decide (a0 ≤ 57) = true := dT c5
     clear c5
     obtain rfl := sI H
     go_enter Try.func51, Try.ntmps51
     go_wp2
     go_ret
     exact ⟨y1, y3⟩
    ·rw [if_neg c5] at H
     have c5b0 : decide (a0 ≤ 57) = false := dF c5
     clear c5
     by_cases c6 : a0 = 32
     ·rw [if_pos c6] at H
      have c6b0 : (a0 == 32) = true := qT c6
      have c6b1 : (a0 != 32) = false := nF c6
      clear c6
      obtain rfl := sI H
      go_enter Try.func51, Try.ntmps51
      go_wp2
      go_ret
      exact ⟨y1, y3⟩
     ·rw [if_neg c6] at H
      have c6b0 : (a0 == 32) = false := qF c6
      have c6b1 : (a0 != 32) = true := nT c6
      by_cases c7 : a0 = 46
      ·rw [if_pos c7] at H
       have c7b0 : (a0 == 46) = true := qT c7
       have c7b1 : (a0 != 46) = false := nF c7
       clear c7
       obtain rfl := sI H
       go_enter Try.func51, Try.ntmps51
       go_wp2
       go_ret
       exact ⟨y1, y3⟩
      ·rw [if_neg c7] at H
       have c7b0 : (a0 == 46) = false := qF c7
       have c7b1 : (a0 != 46) = true := nT c7
       obtain rfl := sI H
       go_enter Try.func51, Try.ntmps51
       go_wp2
       go_ret
       exact ⟨y1, y3⟩
   ·rw [if_neg c4] at H
    have c4b0 : decide (48 ≤ a0) = false := dF c4
    clear c4
    by_cases c8 : a0 = 32
    ·rw [if_pos c8] at H
     have c8b0 : (a0 == 32) = true := qT c8
     have c8b1 : (a0 != 32) = false := nF c8
     clear c8
     obtain rfl := sI H
     go_enter Try.func51, Try.ntmps51
     go_wp2
     go_ret
     exact ⟨y1, y3⟩
    ·rw [if_neg c8] at H
     have c8b0 : (a0 == 32) = false := qF c8
     have c8b1 : (a0 != 32) = true := nT c8
     by_cases c9 : a0 = 46
     ·rw [if_pos c9] at H
      have c9b0 : (a0 == 46) = true := qT c9
      have c9b1 : (a0 != 46) = false := nF c9
      clear c9
      obtain rfl := sI H
      go_enter Try.func51, Try.ntmps51
      go_wp2
      go_ret
      exact ⟨y1, y3⟩
     ·rw [if_neg c9] at H
      have c9b0 : (a0 == 46) = false := qF c9
      have c9b1 : (a0 != 46) = true := nT c9
      obtain rfl := sI H
      go_enter Try.func51, Try.ntmps51
      go_wp2
      go_ret
      exact ⟨y1, y3⟩
 ·rw [if_neg c2] at H
  have c2b0 : decide (97 ≤ a0) = false := dF c2
  clear c2
  by_cases dk : a0 ≥ 48
  ·rw [if_pos dk] at H
   have c10b0 : decide (48 ≤ a0) = true := dT dk
   clear dk
   by_cases cP : a0 ≤ 57
   ·rw [if_pos cP] at H
    have c11b0 : decide (a0 ≤ 57) = true := dT cP
    clear cP
    obtain rfl := sI H
    go_enter Try.func51, Try.ntmps51
    go_wp2
    go_ret
    exact ⟨y1, y3⟩
   ·rw [if_neg cP] at H
    have c11b0 : decide (a0 ≤ 57) = false := dF cP
    clear cP
    by_cases b5 : a0 = 32
    ·rw [if_pos b5] at H
     have c12b0 : (a0 == 32) = true := qT b5
     have c12b1 : (a0 != 32) = false := nF b5
     clear b5
     obtain rfl := sI H
     go_enter Try.func51, Try.ntmps51
     go_wp2
     go_ret
     exact ⟨y1, y3⟩
    ·rw [if_neg b5] at H
     have c12b0 : (a0 == 32) = false := qF b5
     have c12b1 : (a0 != 32) = true := nT b5
     by_cases ce : a0 = 46
     ·rw [if_pos ce] at H
      have c13b0 : (a0 == 46) = true := qT ce
      have c13b1 : (a0 != 46) = false := nF ce
      clear ce
      obtain rfl := sI H
      go_enter Try.func51, Try.ntmps51
      go_wp2
      go_ret
      exact ⟨y1, y3⟩
     ·rw [if_neg ce] at H
      have c13b0 : (a0 == 46) = false := qF ce
      have c13b1 : (a0 != 46) = true := nT ce
      obtain rfl := sI H
      go_enter Try.func51, Try.ntmps51
      go_wp2
      go_ret
      exact ⟨y1, y3⟩
  ·rw [if_neg dk] at H
   have c10b0 : decide (48 ≤ a0) = false := dF dk
   clear dk
   by_cases cD : a0 = 32
   ·rw [if_pos cD] at H
    have c14b0 : (a0 == 32) = true := qT cD
    have c14b1 : (a0 != 32) = false := nF cD
    clear cD
    obtain rfl := sI H
    go_enter Try.func51, Try.ntmps51
    go_wp2
    go_ret
    exact ⟨y1, y3⟩
   ·rw [if_neg cD] at H
    have c14b0 : (a0 == 32) = false := qF cD
    have c14b1 : (a0 != 32) = true := nT cD
    by_cases cF : a0 = 46
    ·rw [if_pos cF] at H
     have c15b0 : (a0 == 46) = true := qT cF
     have c15b1 : (a0 != 46) = false := nF cF
     clear cF
     obtain rfl := sI H
     go_enter Try.func51, Try.ntmps51
     go_wp2
     go_ret
     exact ⟨y1, y3⟩
    ·rw [if_neg cF] at H
     have c15b0 : (a0 == 46) = false := qF cF
     have c15b1 : (a0 != 46) = true := nT cF
     obtain rfl := sI H
     go_enter Try.func51, Try.ntmps51
     go_wp2
     go_ret
     exact ⟨y1, y3⟩

/-! ### impl_GoodText: function 45 -/
def impl_GoodText.l0 : Nat → ByteArray → Int → Int → Option (Bool)
 | 0, _, _, _ => none
 | k + 1, x0, x5, x6 => if x6 < x5 then (if 0 ≤ x6 then (if x6 < (x0.size : Int) then ((impl_isName.f (bt x0 x6)).bind fun qY => (if qY = true then (impl_GoodText.l0 k x0 x5 (wrap64 (x6 + 1))) else ((impl_isPlain.f (bt x0 x6)).bind fun qX => (if qX = true then (impl_GoodText.l0 k x0 x5 (wrap64 (x6 + 1))) else (if (bt x0 x6) = 47 then (impl_GoodText.l0 k x0 x5 (wrap64 (x6 + 1))) else (some false)))))) else (none)) else (none)) else (some (decide ((x0.size : Int) ≤ 300)))
def impl_GoodText.f (k : Nat) (a0 : ByteArray) : Option (Bool) := impl_GoodText.l0 k a0 (a0.size : Int) 0
theorem impl_GoodText.mono_l : ∀ k, (∀ y0 y1 y2, LeO (impl_GoodText.l0 k y0 y1 y2) (impl_GoodText.l0 (k + 1) y0 y1 y2))
 | 0 => fun _ _ _ r h => by simp [impl_GoodText.l0] at h
 | k + 1 => by
  have ih0 := impl_GoodText.mono_l k
  ·intro y0 y1 y2
   unfold impl_GoodText.l0
   repeat' first
   | (with_reducible exact ih0 _ _ _)
   | (with_reducible exact LeO.refl _)
   | (with_reducible exact LeO.none _)
   | (with_reducible refine LeO.ite ?_ ?_)
   | (with_reducible refine LeO.bind ?_ (fun _ => ?_))
theorem impl_GoodText.mono : ∀ a0 k, LeO (impl_GoodText.f k a0) (impl_GoodText.f (k + 1) a0) := by
 intro a0 k
 have ih0 := impl_GoodText.mono_l k
 unfold impl_GoodText.f
 repeat' first
   | (with_reducible exact ih0 _ _ _)
   | (with_reducible exact LeO.refl _)
   | (with_reducible exact LeO.none _)
   | (with_reducible refine LeO.ite ?_ ?_)
   | (with_reducible refine LeO.bind ?_ (fun _ => ?_))
set_option maxHeartbeats 8000000 in
set_option maxRecDepth 100000 in
theorem impl_GoodText.calls (k : Nat) (a0 : ByteArray) (r : Bool) (w : World) (h : impl_GoodText.f k a0 = some r) :
  Calls Try.prog 45 #[.string a0] w fun e w' => e = .returned (.bool r) ∧ Drawn0 w w' := by
 have H : (impl_GoodText.l0 k a0 (a0.size : Int) 0) = some r := h
 clear h
 have H' := aM H
 clear H
 go_enter Try.func45, Try.ntmps45
 go_wp2
 go_loopg [6] k (fun kq v6 w' => ∃ (x6_1 : Int), v6 = .int .i64 x6_1 ∧ Aside0 (impl_GoodText.l0 kq a0 (a0.size : Int) x6_1 = some r) ∧ Aside0 (kq ≤ k) ∧ Drawn0 w w')
 case atStart => exact ⟨(0), z1, H', ⟨Nat.le_refl _⟩, y3⟩
 case round =>
  clear H'
  obtain ⟨x6_1, rfl, HA, HK1, ⟨m1, rfl⟩⟩ := hrel
  cases gk with
  | zero => exact absurd HA.out (by simp [impl_GoodText.l0])
  | succ k1 =>
   have H := HA.out
   clear HA
   simp only [impl_GoodText.l0] at H
   by_cases c2 : x6_1 < (a0.size : Int)
   ·rw [if_pos c2] at H
    have c2b0 : decide (x6_1 < (a0.size : Int)) = true := dT c2
    clear c2
    by_cases c3 : 0 ≤ x6_1
    ·rw [if_pos c3] at H
     have c3b0 : decide (0 ≤ x6_1) = true := dT c3
     clear c3
     by_cases c4 : x6_1 < (a0.size : Int)
     ·rw [if_pos c4] at H
      have c4b0 : decide (x6_1 < (a0.size : Int)) = true := dT c4
      clear c4
      obtain ⟨qY, A6, H⟩ := oA_ H
      try dsimp only at H
      by_cases c7 : qY = true
      ·subst c7
       rw [if_pos rfl] at H
       have H' := aM H
       clear H
       have p5 : 0 ≤ (x6_1 : Int) := oD z2
       have q5 : x6_1 < (a0.size : Int) := oD z2
       have hx5 := bt_at a0 x6_1
       replace p5 := eq_true p5
       replace q5 := eq_true q5
       go_wp2_with (first | ((with_reducible refine av (f := 50) rfl ?_); refine ay (some 12) rfl rfl Try.func50 z0 rfl #[.int .u8 (bt a0 x6_1)] rfl z14 ?_; (with_reducible refine (impl_isName.calls (bt a0 x6_1) true _ A6.out).mono ?_); rintro e w' ⟨rfl, ⟨nd, rfl⟩⟩; refine ⟨_, rfl, ?_⟩))
       go_roundg k1
       case measure => have := HK1.out; omega
       case rel => exact ⟨(wrap64 (x6_1 + 1)), z1, H', ⟨by have := HK1.out; omega⟩, y3⟩
      ·replace c7 := Bool.eq_false_iff.mpr c7
       subst c7
       rw [if_neg nF_] at H
       obtain ⟨qX, A9, H⟩ := oA_ H
       try dsimp only at H
       by_cases dk : qX = true
       ·subst dk
        rw [if_pos rfl] at H
        have H' := aM H
        clear H
        have p5 : 0 ≤ (x6_1 : Int) := oD z2
        have q5 : x6_1 < (a0.size : Int) := oD z2
        have hx5 := bt_at a0 x6_1
        replace p5 := eq_true p5
        replace q5 := eq_true q5
        go_wp2_with (first | ((with_reducible refine av (f := 50) rfl ?_); refine ay (some 12) rfl rfl Try.func50 z0 rfl #[.int .u8 (bt a0 x6_1)] rfl z14 ?_; (with_reducible refine (impl_isName.calls (bt a0 x6_1) false _ A6.out).mono ?_); rintro e w' ⟨rfl, ⟨nd, rfl⟩⟩; refine ⟨_, rfl, ?_⟩; have p8 : 0 ≤ (x6_1 : Int) := oD z2; have q8 : x6_1 < (a0.size : Int) := oD z2; have hx8 := bt_at a0 x6_1; replace p8 := eq_true p8; replace q8 := eq_true q8) | (go_at_call 51; (with_reducible refine (impl_isPlain.calls (bt a0 x6_1) true _ A9.out).mono ?_); rintro e w' ⟨rfl, ⟨nd, rfl⟩⟩))
        go_roundg k1
        case measure => have := HK1.out; omega
        case rel => exact ⟨(wrap64 (x6_1 + 1)), z1, H', ⟨by have := HK1.out; omega⟩, y3⟩
       ·replace dk := Bool.eq_false_iff.mpr dk
        subst dk
        rw [if_neg nF_] at H
        by_cases b5 : (bt a0 x6_1) = 47
        ·rw [if_pos b5] at H
         have c12b0 : ((bt a0 x6_1) == 47) = true := qT b5
         have c12b1 : ((bt a0 x6_1) != 47) = false := nF b5
         clear b5
         have H' := aM H
         clear H
         have p5 : 0 ≤ (x6_1 : Int) := oD z2
         have q5 : x6_1 < (a0.size : Int) := oD z2
         have hx5 := bt_at a0 x6_1
         replace p5 := eq_true p5
         replace q5 := eq_true q5
         go_wp2_with (first | ((with_reducible refine av (f := 50) rfl ?_); refine ay (some 12) rfl rfl Try.func50 z0 rfl #[.int .u8 (bt a0 x6_1)] rfl z14 ?_; (with_reducible refine (impl_isName.calls (bt a0 x6_1) false _ A6.out).mono ?_); rintro e w' ⟨rfl, ⟨nd, rfl⟩⟩; refine ⟨_, rfl, ?_⟩; have p8 : 0 ≤ (x6_1 : Int) := oD z2; have q8 : x6_1 < (a0.size : Int) := oD z2; have hx8 := bt_at a0 x6_1; replace p8 := eq_true p8; replace q8 := eq_true q8) | (go_at_call 51; (with_reducible refine (impl_isPlain.calls (bt a0 x6_1) false _ A9.out).mono ?_); rintro e w' ⟨rfl, ⟨nd, rfl⟩⟩; have p11 : 0 ≤ (x6_1 : Int) := oD z2; have q11 : x6_1 < (a0.size : Int) := oD z2; have hx11 := bt_at a0 x6_1; replace p11 := eq_true p11; replace q11 := eq_true q11))
         go_roundg k1
         case measure => have := HK1.out; omega
         case rel => exact ⟨(wrap64 (x6_1 + 1)), z1, H', ⟨by have := HK1.out; omega⟩, y3⟩
        ·rw [if_neg b5] at H
         have c12b0 : ((bt a0 x6_1) == 47) = false := qF b5
         have c12b1 : ((bt a0 x6_1) != 47) = true := nT b5
         obtain rfl := sI H
         have p5 : 0 ≤ (x6_1 : Int) := oD z2
         have q5 : x6_1 < (a0.size : Int) := oD z2
         have hx5 := bt_at a0 x6_1
         replace p5 := eq_true p5
         replace q5 := eq_true q5
         go_wp2_with (first | ((with_reducible refine av (f := 50) rfl ?_); refine ay (some 12) rfl rfl Try.func50 z0 rfl #[.int .u8 (bt a0 x6_1)] rfl z14 ?_; (with_reducible refine (impl_isName.calls (bt a0 x6_1) false _ A6.out).mono ?_); rintro e w' ⟨rfl, ⟨nd, rfl⟩⟩; refine ⟨_, rfl, ?_⟩; have p8 : 0 ≤ (x6_1 : Int) := oD z2; have q8 : x6_1 < (a0.size : Int) := oD z2; have hx8 := bt_at a0 x6_1; replace p8 := eq_true p8; replace q8 := eq_true q8) | (go_at_call 51; (with_reducible refine (impl_isPlain.calls (bt a0 x6_1) false _ A9.out).mono ?_); rintro e w' ⟨rfl, ⟨nd, rfl⟩⟩; have p11 : 0 ≤ (x6_1 : Int) := oD z2; have q11 : x6_1 < (a0.size : Int) := oD z2; have hx11 := bt_at a0 x6_1; replace p11 := eq_true p11; replace q11 := eq_true q11))
         go_ret
         exact ⟨y1, y3⟩
     ·rw [if_neg c4] at H
      exact absurd H (by simp)
    ·rw [if_neg c3] at H
     exact absurd H (by simp)
   ·rw [if_neg c2] at H
    have c2b0 : decide (x6_1 < (a0.size : Int)) = false := dF c2
    clear c2
    obtain rfl := sI H
    go_wp2
    go_ret
    exact ⟨y1, y3⟩

end Go.Proofs.Ytmigfgcpdelnfaa.AFnUndoneBy
