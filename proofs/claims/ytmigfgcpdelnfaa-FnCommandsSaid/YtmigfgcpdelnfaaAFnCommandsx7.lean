-- this session's own text: written by wip/tools/ownprint.py over the kit's print
import Derived.Test.YtmigfgcpdelnfaaAFnCommandsx0
import Derived.Test.YtmigfgcpdelnfaaAFnCommandsx2
import Derived.Test.YtmigfgcpdelnfaaAFnCommandsx6
namespace Go.Proofs.Ytmigfgcpdelnfaa.AFnCommands
open Go.RowKit Go.Proofs.YtmigfgcpdelnfaaW.PrintWords Go.Proofs.YtmigfgcpdelnfaaW.PrintLast Go.Proofs.YtmigfgcpdelnfaaW.PrintMore
attribute [local go_sem] max2_int min2_int max_two min_two max_three min_three max_four min_four   -- for this text's walks alone
set_option linter.unusedVariables false
set_option linter.unusedSimpArgs false

/-! ### spec_l3Apply: function 54 -/
mutual
def spec_l3Apply.l0 : Nat → ByteArray → ByteArray → List (S61) → Int → Int → Option (ByteArray × Bool)
 | 0, _, _, _, _, _ => none
 | k + 1, x1, x6, x10, x11, x12 => if x12 < x11 then (if 0 ≤ x12 then (if x12 < (x10.length : Int) then (if (wrap64 (((rd_T61 x10 x12).f0) + (((rd_T61 x10 x12).f2).size : Int))) > (x1.size : Int) then (spec_l3Apply.j1 k x1 x6 (wrap64 (((rd_T61 x10 x12).f0) + (((rd_T61 x10 x12).f2).size : Int))) x10 x11 x12 true ((rd_T61 x10 x12).f0) ((rd_T61 x10 x12).f1) ((rd_T61 x10 x12).f2)) else (if ((rd_T61 x10 x12).f2).toList = ([] : List UInt8) then (spec_l3Apply.j1 k x1 x6 (wrap64 (((rd_T61 x10 x12).f0) + (((rd_T61 x10 x12).f2).size : Int))) x10 x11 x12 false ((rd_T61 x10 x12).f0) ((rd_T61 x10 x12).f1) ((rd_T61 x10 x12).f2)) else (if 0 ≤ (wrap64 (((rd_T61 x10 x12).f0) + (((rd_T61 x10 x12).f2).size : Int))) then (if (wrap64 (((rd_T61 x10 x12).f0) + (((rd_T61 x10 x12).f2).size : Int))) ≤ (x1.size : Int) then (spec_l3Apply.j1 k x1 x6 (wrap64 (((rd_T61 x10 x12).f0) + (((rd_T61 x10 x12).f2).size : Int))) x10 x11 x12 ((x1.extract 0 ((wrap64 (((rd_T61 x10 x12).f0) + (((rd_T61 x10 x12).f2).size : Int))) : Int).toNat).toList != ((rd_T61 x10 x12).f2).toList) ((rd_T61 x10 x12).f0) ((rd_T61 x10 x12).f1) ((rd_T61 x10 x12).f2)) else (none)) else (none)))) else (none)) else (none)) else (some (x6, (x1.toList == ([] : List UInt8))))
def spec_l3Apply.j1 : Nat → ByteArray → ByteArray → Int → List (S61) → Int → Int → Bool → Int → ByteArray → ByteArray → Option (ByteArray × Bool)
 | 0, _, _, _, _, _, _, _, _, _, _ => none
 | k + 1, x1, x6, x9, x10, x11, x12, x38, x218000, x218001, x218002 => if x38 = true then (some ((⟨#[]⟩ : ByteArray), false)) else (if x218000 > 0 then (if 0 ≤ x9 then (if x9 ≤ (x1.size : Int) then (if x6.size + (x1.extract 0 (x9 : Int).toNat).size ≤ 9223372036854775807 then (if (x6 ++ (x1.extract 0 (x9 : Int).toNat)).size + x218001.size ≤ 9223372036854775807 then (spec_l3Apply.l0 k (x1.extract (x9 : Int).toNat x1.size) ((x6 ++ (x1.extract 0 (x9 : Int).toNat)) ++ x218001) x10 x11 (wrap64 (x12 + 1))) else (none)) else (none)) else (none)) else (none)) else (if x6.size + x218001.size ≤ 9223372036854775807 then (if 0 ≤ x9 then (if x9 ≤ (x1.size : Int) then (spec_l3Apply.l0 k (x1.extract (x9 : Int).toNat x1.size) (x6 ++ x218001) x10 x11 (wrap64 (x12 + 1))) else (none)) else (none)) else (none)))
end
def spec_l3Apply.f (k : Nat) (l0 : List (S61)) (a1 : ByteArray) : Option (ByteArray × Bool) := spec_l3Apply.l0 k a1 (⟨#[]⟩ : ByteArray) l0 (l0.length : Int) 0
theorem spec_l3Apply.mono_l : ∀ k, (∀ y0 y1 y2 y3 y4, LeO (spec_l3Apply.l0 k y0 y1 y2 y3 y4) (spec_l3Apply.l0 (k + 1) y0 y1 y2 y3 y4)) ∧ (∀ y0 y1 y2 y3 y4 y5 y6 y7 y8 y9, LeO (spec_l3Apply.j1 k y0 y1 y2 y3 y4 y5 y6 y7 y8 y9) (spec_l3Apply.j1 (k + 1) y0 y1 y2 y3 y4 y5 y6 y7 y8 y9))
 | 0 => ⟨fun _ _ _ _ _ r h => by simp [spec_l3Apply.l0] at h, fun _ _ _ _ _ _ _ _ _ _ r h => by simp [spec_l3Apply.j1] at h⟩
 | k + 1 => by
  obtain ⟨ih0, ih1⟩ := spec_l3Apply.mono_l k
  refine ⟨?_, ?_⟩
  ·intro y0 y1 y2 y3 y4
   unfold spec_l3Apply.l0
   repeat' first
   | (with_reducible exact ih0 _ _ _ _ _)
   | (with_reducible exact ih1 _ _ _ _ _ _ _ _ _ _)
   | (with_reducible exact LeO.refl _)
   | (with_reducible exact LeO.none _)
   | (with_reducible refine LeO.ite ?_ ?_)
   | (with_reducible refine LeO.bind ?_ (fun _ => ?_))
  ·intro y0 y1 y2 y3 y4 y5 y6 y7 y8 y9
   unfold spec_l3Apply.j1
   repeat' first
   | (with_reducible exact ih0 _ _ _ _ _)
   | (with_reducible exact ih1 _ _ _ _ _ _ _ _ _ _)
   | (with_reducible exact LeO.refl _)
   | (with_reducible exact LeO.none _)
   | (with_reducible refine LeO.ite ?_ ?_)
   | (with_reducible refine LeO.bind ?_ (fun _ => ?_))
theorem spec_l3Apply.mono : ∀ a0 a1 k, LeO (spec_l3Apply.f k a0 a1) (spec_l3Apply.f (k + 1) a0 a1) := by
 intro a0 a1 k
 obtain ⟨ih0, ih1⟩ := spec_l3Apply.mono_l k
 unfold spec_l3Apply.f
 repeat' first
   | (with_reducible exact ih0 _ _ _ _ _)
   | (with_reducible exact ih1 _ _ _ _ _ _ _ _ _ _)
   | (with_reducible exact LeO.refl _)
   | (with_reducible exact LeO.none _)
   | (with_reducible refine LeO.ite ?_ ?_)
   | (with_reducible refine LeO.bind ?_ (fun _ => ?_))
set_option maxHeartbeats 8000000 in
set_option maxRecDepth 100000 in
theorem spec_l3Apply.calls (k : Nat) (A0 : Option Addr) (c0 : Nat) (l0 : List (S61)) (a1 : ByteArray) (r1 : ByteArray) (r2 : Bool) (w : World) (hr0 : Kd.C k61 w A0 l0.length l0) (hc0 : l0.length ≤ c0) (h : spec_l3Apply.f k l0 a1 = some (r1, r2)) :
  Calls Try.prog 54 #[.slice A0 l0.length c0, .string a1] w fun e w' => e = .returned (.tuple #[.string r1, .bool r2]) ∧ Below w.heap.size w w' := by
 have hu61 := Try.underlying61
 have d9 := aM hr0
 have fq := aM hc0
 clear hr0 hc0
 have HB := aM (Below.refl w.heap.size w)
 have H : (spec_l3Apply.l0 k a1 (⟨#[]⟩ : ByteArray) l0 (l0.length : Int) 0) = some (r1, r2) := h
 clear h
 have H' := aM H
 clear H
 go_enter Try.func54, Try.ntmps54
 go_wp2
 repeat (go_quiet (fail); try go_wp2)
 go_loopg [1, 6, 12] k (fun kq v1 v6 v12 w' => ∃ (x1_1 : ByteArray) (x6_1 : ByteArray) (x12_1 : Int), v1 = .string x1_1 ∧ v6 = .string x6_1 ∧ v12 = .int .i64 x12_1 ∧ Aside0 (spec_l3Apply.l0 kq x1_1 x6_1 l0 (l0.length : Int) x12_1 = some (r1, r2)) ∧ Aside0 (kq ≤ k) ∧ Aside0 (Below w.heap.size w w'))
 case atStart => exact ⟨(a1), ((⟨#[]⟩ : ByteArray)), (0), z1, z1, z1, H', ⟨Nat.le_refl _⟩, ⟨y5⟩⟩
 case round =>
  clear H'
  obtain ⟨x1_1, x6_1, x12_1, rfl, rfl, rfl, HA, HK1, HB⟩ := hrel
  cases gk with
  | zero => exact absurd HA.out (by simp [spec_l3Apply.l0])
  | succ k1 =>
   have H := HA.out
   clear HA
   simp only [spec_l3Apply.l0] at H
   by_cases c3 : x12_1 < (l0.length : Int)
   ·rw [if_pos c3] at H
    have c3b0 : decide (x12_1 < (l0.length : Int)) = true := dT c3
    clear c3
    by_cases c4 : 0 ≤ x12_1
    ·rw [if_pos c4] at H
     have c4b0 : decide (0 ≤ x12_1) = true := dT c4
     clear c4
     by_cases c5 : x12_1 < (l0.length : Int)
     ·rw [if_pos c5] at H
      have c5b0 : decide (x12_1 < (l0.length : Int)) = true := dT c5
      clear c5
      have jH := aM H
      clear H
      have p216 : 0 ≤ (x12_1 : Int) := oD z2
      have q216 : x12_1 < (l0.length : Int) := oD z2
      obtain ⟨ad216, e216, hx216_0, hx216_1, hx216_2⟩ := at_T61 d9.out x12_1 p216 q216
      cases e216
      replace hx216_0 := (HB.out.cell (World.block_lt_of_cell? w _ hx216_0)).trans hx216_0
      replace hx216_1 := (HB.out.cell (World.block_lt_of_cell? w _ hx216_1)).trans hx216_1
      replace hx216_2 := (HB.out.cell (World.block_lt_of_cell? w _ hx216_2)).trans hx216_2
      replace p216 := eq_true p216
      replace q216 := eq_true q216
      go_upto_region 6 with (first | ((with_reducible refine aw (N := 8) rfl ?_); refine ax ?hg (N := 8) ?hd (cs := #[.int .i64 0, .string ⟨#[]⟩, .string ⟨#[]⟩]) (t := 61) ?hr ?_; (case hd => rfl); (case hg => rfl); (case hr => first | (go_simp; done) | (go_simp; rfl)); intro bZ hg w7 hbox hb; have bu := aM (hbox); have se := aM ((by rw [hg]; exact (ap z14) : w.heap.size ≤ bZ)); have sg := aM ((by rw [hg]; exact (ap z14) : w.heap.size ≤ bZ)); replace HB := aM (ao z14 hb); clear hb hbox hg; obtain ⟨ce, cd, cb, cj, b7, b6⟩ := cc3 bu.out))
      repeat (go_quiet (fail); go_upto_region 6 with (first | ((with_reducible refine aw (N := 8) rfl ?_); refine ax ?hg (N := 8) ?hd (cs := #[.int .i64 0, .string ⟨#[]⟩, .string ⟨#[]⟩]) (t := 61) ?hr ?_; (case hd => rfl); (case hg => rfl); (case hr => first | (go_simp; done) | (go_simp; rfl)); intro bZ hg w7 hbox hb; have bu := aM (hbox); have se := aM ((by rw [hg]; exact (ap z14) : w.heap.size ≤ bZ)); have sg := aM ((by rw [hg]; exact (ap z14) : w.heap.size ≤ bZ)); replace HB := aM (ao z14 hb); clear hb hbox hg; obtain ⟨ce, cd, cb, cj, b7, b6⟩ := cc3 bu.out)))
      (try simp only [Act.put, sA, sB, sC])
      go_cut [38] (fun v38 wc => ∃ (kq : Nat) (x38_5 : Bool), v38 = .bool x38_5 ∧ Aside0 (spec_l3Apply.j1 kq x1_1 x6_1 (wrap64 (((rd_T61 l0 x12_1).f0) + (((rd_T61 l0 x12_1).f2).size : Int))) l0 (l0.length : Int) x12_1 x38_5 ((rd_T61 l0 x12_1).f0) ((rd_T61 l0 x12_1).f1) ((rd_T61 l0 x12_1).f2) = some (r1, r2)) ∧ Aside0 (kq ≤ k1) ∧ Aside0 (wc.heap[bZ]? = some (.cells #[.int .i64 ((rd_T61 l0 x12_1).f0), .string ((rd_T61 l0 x12_1).f1), .string ((rd_T61 l0 x12_1).f2)] 61 (0, 0))) ∧ Aside0 (Below w.heap.size w wc))
      case first =>
       have H := jH.out
       clear jH
       by_cases c9 : (wrap64 (((rd_T61 l0 x12_1).f0) + (((rd_T61 l0 x12_1).f2).size : Int))) > (x1_1.size : Int)
       ·rw [if_pos c9] at H
        have c9b0 : decide ((x1_1.size : Int) < (wrap64 (((rd_T61 l0 x12_1).f0) + (((rd_T61 l0 x12_1).f2).size : Int)))) = true := dT c9
        clear c9
        (first | rw [c9b0] | (simp only [i64_w, i32_w]; rw [c9b0]) | skip)
        have H' := aM H
        clear H
        go_wp2
        repeat (go_quiet (fail); try go_wp2)
        go_meet
        case rel => exact ⟨_, (true), z1, H', ⟨y2⟩, ⟨y41⟩, ⟨y26⟩⟩
       ·rw [if_neg c9] at H
        have c9b0 : decide ((x1_1.size : Int) < (wrap64 (((rd_T61 l0 x12_1).f0) + (((rd_T61 l0 x12_1).f2).size : Int)))) = false := dF c9
        clear c9
        (first | rw [c9b0] | (simp only [i64_w, i32_w]; rw [c9b0]) | skip)
        by_cases cv : ((rd_T61 l0 x12_1).f2).toList = ([] : List UInt8)
        ·rw [if_pos cv] at H
         have c10b0 : (((rd_T61 l0 x12_1).f2).toList == ([] : List UInt8)) = true := qT cv
         have c10b1 : (((rd_T61 l0 x12_1).f2).toList != ([] : List UInt8)) = false := nF cv
         clear cv
         have H' := aM H
         clear H
         obtain ⟨oT, oS, oR, n3, n2, n1⟩ := cc3 bu.out
         go_wp2
         all_goals (try (exfalso; rename_i h_; rw [c10b0] at h_; cases h_; done))
         repeat (go_quiet (fail); try go_wp2)
         all_goals (try (exfalso; rename_i h_; rw [c10b0] at h_; cases h_; done))
         go_meet
         case rel => exact ⟨_, (false), z1, H', ⟨y2⟩, ⟨y41⟩, ⟨y26⟩⟩
        ·rw [if_neg cv] at H
         have c10b0 : (((rd_T61 l0 x12_1).f2).toList == ([] : List UInt8)) = false := qF cv
         have c10b1 : (((rd_T61 l0 x12_1).f2).toList != ([] : List UInt8)) = true := nT cv
         obtain ⟨jX, i2⟩ : ∃ j_ : Int, (wrap64 (((rd_T61 l0 x12_1).f0) + (((rd_T61 l0 x12_1).f2).size : Int))) = j_ := ⟨_, rfl⟩
         replace H : (if 0 ≤ (jX) then (if (jX) ≤ (x1_1.size : Int) then (spec_l3Apply.j1 k1 x1_1 x6_1 jX l0 (l0.length : Int) x12_1 ((x1_1.extract 0 ((jX) : Int).toNat).toList != ((rd_T61 l0 x12_1).f2).toList) ((rd_T61 l0 x12_1).f0) ((rd_T61 l0 x12_1).f1) ((rd_T61 l0 x12_1).f2)) else (none)) else (none)) = some (r1, r2) := by first | (rw [i2] at H; exact H) | (simp only [i2] at H ⊢; exact H)
         (try rw [i2] at c9b0)
         have hji12w : (IntKind.i64.wrap (((rd_T61 l0 x12_1).f0) + (((rd_T61 l0 x12_1).f2).size : Int))) = jX := (i64_w _).trans i2
         by_cases cY : 0 ≤ (jX)
         ·rw [if_pos cY] at H
          have c13b0 := eq_true cY
          have c13b1 : decide (0 ≤ (jX)) = true := dT cY
          clear cY
          by_cases cB : (jX) ≤ (x1_1.size : Int)
          ·rw [if_pos cB] at H
           have c14b0 := eq_true cB
           have c14b1 : decide ((jX) ≤ (x1_1.size : Int)) = true := dT cB
           clear cB
           have H' := aM H
           clear H
           obtain ⟨iP, iO, iN, iA, iz, iy⟩ := cc3 bu.out
           go_wp2
           all_goals (try (exfalso; rename_i h_; rw [c10b0] at h_; cases h_; done))
           repeat (go_quiet (fail); try go_wp2)
           all_goals (try (exfalso; rename_i h_; rw [c10b0] at h_; cases h_; done))
           go_meet
           case rel => exact ⟨_, (((x1_1.extract 0 ((jX) : Int).toNat).toList != ((rd_T61 l0 x12_1).f2).toList)), (by first | rfl | (simp; done) | (simp only [← i2] <;> (first | rfl | (simp; done) | (simp; generalize ByteArray.toList _ = u_; cases u_ <;> (first | rfl | (simp; done))))) | (simp [*]; done)), (by first | exact H' | (simp only [i2]; exact H') | (simp only [← i2]; exact H')), ⟨y2⟩, ⟨y41⟩, ⟨y26⟩⟩
          ·rw [if_neg cB] at H
           exact absurd H (by simp)
         ·rw [if_neg cY] at H
          exact absurd H (by simp)
      case rest =>
       clear jH
       try clear p2
       try clear c3
       try clear c3b0
       try clear c4
       try clear c4b0
       try clear c5
       try clear c5b0
       try clear ce
       try clear cd
       try clear cb
       try clear cj
       try clear b7
       try clear b6
       try clear hx216_0
       try clear hx216_1
       try clear hx216_2
       try clear p2
       try clear p216
       try clear q216
       obtain ⟨kq, x38_5, rfl, HA, g8, bu, HB⟩ := hcut
       cases kq with
       | zero => exact absurd HA.out (by simp [spec_l3Apply.j1])
       | succ kj5 =>
        have H := HA.out
        clear HA
        simp only [spec_l3Apply.j1] at H
        by_cases dG : x38_5 = true
        ·subst dG
         rw [if_pos rfl] at H
         simp only [Option.some.injEq, Prod.mk.injEq] at H
         obtain ⟨rfl, rfl⟩ := H
         go_wp2
         repeat (go_quiet (fail); try go_wp2)
         go_ret2
         exact ⟨y4, y26⟩
        ·replace dG := Bool.eq_false_iff.mpr dG
         subst dG
         rw [if_neg nF_] at H
         by_cases dy : ((rd_T61 l0 x12_1).f0) > 0
         ·rw [if_pos dy] at H
          have c17b0 : decide (0 < ((rd_T61 l0 x12_1).f0)) = true := dT dy
          clear dy
          obtain ⟨bY, et⟩ : ∃ j_ : Int, (wrap64 (((rd_T61 l0 x12_1).f0) + (((rd_T61 l0 x12_1).f2).size : Int))) = j_ := ⟨_, rfl⟩
          replace H : (if 0 ≤ (bY) then (if (bY) ≤ (x1_1.size : Int) then (if x6_1.size + (x1_1.extract 0 ((bY) : Int).toNat).size ≤ 9223372036854775807 then (if (x6_1 ++ (x1_1.extract 0 ((bY) : Int).toNat)).size + ((rd_T61 l0 x12_1).f1).size ≤ 9223372036854775807 then (spec_l3Apply.l0 kj5 (x1_1.extract ((bY) : Int).toNat x1_1.size) ((x6_1 ++ (x1_1.extract 0 ((bY) : Int).toNat)) ++ ((rd_T61 l0 x12_1).f1)) l0 (l0.length : Int) (wrap64 (x12_1 + 1))) else (none)) else (none)) else (none)) else (none)) = some (r1, r2) := by first | (rw [et] at H; exact H) | (simp only [et] at H ⊢; exact H)
          have hji18w : (IntKind.i64.wrap (((rd_T61 l0 x12_1).f0) + (((rd_T61 l0 x12_1).f2).size : Int))) = bY := (i64_w _).trans et
          by_cases fp : 0 ≤ (bY)
          ·rw [if_pos fp] at H
           have c19b0 := eq_true fp
           have c19b1 : decide (0 ≤ (bY)) = true := dT fp
           clear fp
           by_cases cx : (bY) ≤ (x1_1.size : Int)
           ·rw [if_pos cx] at H
            have c20b0 := eq_true cx
            have c20b1 : decide ((bY) ≤ (x1_1.size : Int)) = true := dT cx
            clear cx
            by_cases ea : x6_1.size + (x1_1.extract 0 ((bY) : Int).toNat).size ≤ 9223372036854775807
            ·rw [if_pos ea] at H
             have c21b0 := eq_true ea
             have c21b1 : decide (x6_1.size + (x1_1.extract 0 ((bY) : Int).toNat).size ≤ 9223372036854775807) = true := dT ea
             (try (have c21b1m := c21b1; simp only [aC, Nat.sub_zero] at c21b1m))
             (try (have c21b0m := c21b0; simp only [aC, Nat.sub_zero] at c21b0m))
             try have c21b2 : (9223372036854775807 < x6_1.size + (x1_1.extract 0 ((bY) : Int).toNat).size) = False := eq_false (Nat.not_lt.2 ea)
             (try (have c21x : (9223372036854775807 < x6_1.size + (bY).toNat) = False := eq_false (fun h_ => by have e_ := of_eq_true c21b0; simp only [aC, aA] at e_; have f0_ : (bY) ≤ (x1_1.size : Int) := z3; omega)))
             by_cases eD : (x6_1 ++ (x1_1.extract 0 ((bY) : Int).toNat)).size + ((rd_T61 l0 x12_1).f1).size ≤ 9223372036854775807
             ·rw [if_pos eD] at H
              have c22b0 := eq_true eD
              have c22b1 : decide ((x6_1 ++ (x1_1.extract 0 ((bY) : Int).toNat)).size + ((rd_T61 l0 x12_1).f1).size ≤ 9223372036854775807) = true := dT eD
              try have c22b2 : (9223372036854775807 < (x6_1 ++ (x1_1.extract 0 ((bY) : Int).toNat)).size + ((rd_T61 l0 x12_1).f1).size) = False := eq_false (Nat.not_lt.2 eD)
              (try (have c22x : (9223372036854775807 < (x6_1.size + (bY).toNat) + ((rd_T61 l0 x12_1).f1).size) = False := eq_false (fun h_ => by have e_ := of_eq_true c22b0; simp only [aC, aA] at e_; have f0_ : (bY) ≤ (x1_1.size : Int) := z3; omega)))
              (try (have c22b2s := c22b2; simp only [aA] at c22b2s))
              have c23b0 := eq_true (oD z2 : 0 ≤ (bY))
              have c24b0 := eq_true (oD z2 : (bY) ≤ (x1_1.size : Int))
              have H' := aM H
              clear H
              obtain ⟨g4, g3, g1, gM, gL, gK⟩ := cc3 bu.out
              go_wp2
              repeat (go_quiet (fail); try go_wp2)
              go_roundg kj5
              case measure => have := HK1.out; have := g8.out; omega
              case rel => exact ⟨(x1_1.extract ((bY) : Int).toNat x1_1.size), ((x6_1 ++ (x1_1.extract 0 ((bY) : Int).toNat)) ++ ((rd_T61 l0 x12_1).f1)), (wrap64 (x12_1 + 1)), (by first | rfl | (simp; done) | (simp only [← et] <;> (first | rfl | (simp; done) | (simp; generalize ByteArray.toList _ = u_; cases u_ <;> (first | rfl | (simp; done))))) | (simp [*]; done)), (by first | rfl | (simp; done) | (simp only [← et] <;> (first | rfl | (simp; done) | (simp; generalize ByteArray.toList _ = u_; cases u_ <;> (first | rfl | (simp; done))))) | (simp [*]; done)), z1, (by first | exact H' | (simp only [et]; exact H') | (simp only [← et]; exact H')), ⟨by have := HK1.out; have := g8.out; omega⟩, ⟨y26⟩⟩
             ·rw [if_neg eD] at H
              exact absurd H (by simp)
            ·rw [if_neg ea] at H
             exact absurd H (by simp)
           ·rw [if_neg cx] at H
            exact absurd H (by simp)
          ·rw [if_neg fp] at H
           exact absurd H (by simp)
         ·rw [if_neg dy] at H
          have c17b0 : decide (0 < ((rd_T61 l0 x12_1).f0)) = false := dF dy
          clear dy
          by_cases eJ : x6_1.size + ((rd_T61 l0 x12_1).f1).size ≤ 9223372036854775807
          ·rw [if_pos eJ] at H
           have c26b0 := eq_true eJ
           have c26b1 : decide (x6_1.size + ((rd_T61 l0 x12_1).f1).size ≤ 9223372036854775807) = true := dT eJ
           try have c26b2 : (9223372036854775807 < x6_1.size + ((rd_T61 l0 x12_1).f1).size) = False := eq_false (Nat.not_lt.2 eJ)
           obtain ⟨kA, ka⟩ : ∃ j_ : Int, (wrap64 (((rd_T61 l0 x12_1).f0) + (((rd_T61 l0 x12_1).f2).size : Int))) = j_ := ⟨_, rfl⟩
           replace H : (if 0 ≤ (kA) then (if (kA) ≤ (x1_1.size : Int) then (spec_l3Apply.l0 kj5 (x1_1.extract ((kA) : Int).toNat x1_1.size) (x6_1 ++ ((rd_T61 l0 x12_1).f1)) l0 (l0.length : Int) (wrap64 (x12_1 + 1))) else (none)) else (none)) = some (r1, r2) := by first | (rw [ka] at H; exact H) | (simp only [ka] at H ⊢; exact H)
           have hji27w : (IntKind.i64.wrap (((rd_T61 l0 x12_1).f0) + (((rd_T61 l0 x12_1).f2).size : Int))) = kA := (i64_w _).trans ka
           by_cases f5 : 0 ≤ (kA)
           ·rw [if_pos f5] at H
            have c28b0 := eq_true f5
            have c28b1 : decide (0 ≤ (kA)) = true := dT f5
            clear f5
            by_cases jR : (kA) ≤ (x1_1.size : Int)
            ·rw [if_pos jR] at H
             have c29b0 := eq_true jR
             have c29b1 : decide ((kA) ≤ (x1_1.size : Int)) = true := dT jR
             clear jR
             have H' := aM H
             clear H
             obtain ⟨oK, oJ, oI, nU, nS, nR⟩ := cc3 bu.out
             go_wp2
             repeat (go_quiet (fail); try go_wp2)
             go_roundg kj5
             case measure => have := HK1.out; have := g8.out; omega
             case rel => exact ⟨(x1_1.extract ((kA) : Int).toNat x1_1.size), (x6_1 ++ ((rd_T61 l0 x12_1).f1)), (wrap64 (x12_1 + 1)), (by first | rfl | (simp; done) | (simp only [← ka] <;> (first | rfl | (simp; done) | (simp; generalize ByteArray.toList _ = u_; cases u_ <;> (first | rfl | (simp; done))))) | (simp [*]; done)), z1, z1, (by first | exact H' | (simp only [ka]; exact H') | (simp only [← ka]; exact H')), ⟨by have := HK1.out; have := g8.out; omega⟩, ⟨y26⟩⟩
            ·rw [if_neg jR] at H
             exact absurd H (by simp)
           ·rw [if_neg f5] at H
            exact absurd H (by simp)
          ·rw [if_neg eJ] at H
           exact absurd H (by simp)
     ·rw [if_neg c5] at H
      exact absurd H (by simp)
    ·rw [if_neg c4] at H
     exact absurd H (by simp)
   ·rw [if_neg c3] at H
    have c3b0 : decide (x12_1 < (l0.length : Int)) = false := dF c3
    clear c3
    simp only [Option.some.injEq, Prod.mk.injEq] at H
    obtain ⟨rfl, rfl⟩ := H
    go_wp2
    repeat (go_quiet (fail); try go_wp2)
    go_ret2
    exact ⟨y4, y5⟩

/-! ### spec_l8Do: function 34 -/
def spec_l8Do.f (k : Nat) (a0 : ByteArray) (a1_0 : Int) (a1_1 : Int) (a1_2 : Int) (a1_3 : ByteArray) : Option ((List (S61)) × ByteArray × Bool) := (spec_l8Op.f k a0 a1_0 a1_1 a1_2 a1_3).bind fun jy => (if jy.2 = true then ((spec_l3Apply.f k jy.1 a0).bind fun lV => ((spec_GoodDoc.f k lV.1).bind fun pS => (some (jy.1, lV.1, pS)))) else (some (([] : List (S61)), (⟨#[]⟩ : ByteArray), false)))
theorem spec_l8Do.mono : ∀ a0 a1 a2 a3 a4 k, LeO (spec_l8Do.f k a0 a1 a2 a3 a4) (spec_l8Do.f (k + 1) a0 a1 a2 a3 a4) := by
 intro a0 a1 a2 a3 a4 k
 unfold spec_l8Do.f
 repeat' first
   | (with_reducible exact spec_GoodDoc.mono _ _)
   | (with_reducible exact spec_l3Apply.mono _ _ _)
   | (with_reducible exact spec_l8Op.mono _ _ _ _ _ _)
   | (with_reducible exact LeO.refl _)
   | (with_reducible exact LeO.none _)
   | (with_reducible refine LeO.ite ?_ ?_)
   | (with_reducible refine LeO.bind ?_ (fun _ => ?_))
set_option maxHeartbeats 8000000 in
set_option maxRecDepth 100000 in
theorem spec_l8Do.calls (k : Nat) (a0 : ByteArray) (a1_0 : Int) (a1_1 : Int) (a1_2 : Int) (a1_3 : ByteArray) (r1 : List (S61)) (r2 : ByteArray) (r3 : Bool) (w : World) (h : spec_l8Do.f k a0 a1_0 a1_1 a1_2 a1_3 = some (r1, r2, r3)) :
  Calls Try.prog 34 #[.string a0, .agg #[.int .i64 a1_0, .int .i64 a1_1, .int .i64 a1_2, .string a1_3]] w fun e w' => ∃ v0_ : Value, e = .returned (.tuple #[v0_, .string r2, .bool r3]) ∧ Kd.R k61 61 w' w.heap.size (fun _ => True) v0_ r1 ∧ Below w.heap.size w w' := by
 have hu29 := Try.underlying29
 have HB := aM (Below.refl w.heap.size w)
 have H : ((spec_l8Op.f k a0 a1_0 a1_1 a1_2 a1_3).bind fun jy => (if jy.2 = true then ((spec_l3Apply.f k jy.1 a0).bind fun lV => ((spec_GoodDoc.f k lV.1).bind fun pS => (some (jy.1, lV.1, pS)))) else (some (([] : List (S61)), (⟨#[]⟩ : ByteArray), false)))) = some (r1, r2, r3) := h
 clear h
 obtain ⟨⟨rD, t222⟩, A3, H⟩ := oA_ H
 try dsimp only at H
 by_cases c4 : t222 = true
 ·subst c4
  rw [if_pos rfl] at H
  obtain ⟨⟨s7, t224⟩, A5, H⟩ := oA_ H
  try dsimp only at H
  obtain ⟨pS, A6, H⟩ := oA_ H
  try dsimp only at H
  simp only [Option.some.injEq, Prod.mk.injEq] at H
  obtain ⟨rfl, rfl, rfl⟩ := H
  go_enter Try.func34, Try.ntmps34
  go_wp2_with (first | ((with_reducible refine aw (N := 3) rfl ?_); refine ax ?hg (N := 3) ?hd (cs := #[.int .i64 a1_0, .int .i64 a1_1, .int .i64 a1_2, .string a1_3]) (t := 29) ?hr ?_; (case hd => rfl); (case hg => rfl); (case hr => first | (go_simp; done) | (go_simp; rfl)); intro dI hg w7 hbox hb; have cp := aM (hbox); have GW218 := aM ((by rw [hg]; exact (ap z14) : w.heap.size ≤ dI)); have ib := aM ((by rw [hg]; exact (ap z14) : w.heap.size ≤ dI)); replace HB := aM (ao z14 hb); clear hb hbox hg; obtain ⟨ce, cd, cb, en, cj, b7, b6, el⟩ := cc4 cp.out) | ((with_reducible refine av (f := 53) rfl ?_); refine ay (some 14) rfl rfl Try.func53 z0 rfl #[.string a0, .agg #[.int .i64 a1_0, .int .i64 a1_1, .int .i64 a1_2, .string a1_3]] rfl z15 ?_; (with_reducible refine (spec_l8Op.calls k a0 a1_0 a1_1 a1_2 a1_3 rD true _ A3.out).mono ?_); rintro e w9 ⟨v220, rfl, ho0, hb⟩; refine ⟨_, rfl, ?_⟩; have hY := aM (az ho0 (ap (by repeat (first | (with_reducible first | exact HB.out | apply bA | apply pD | apply bD | refine am ?_ ib.out) | exact HB.out)))); replace cp := aM (ae (g := dI) (o := .cells #[.int .i64 a1_0, .int .i64 a1_1, .int .i64 a1_2, .string a1_3] 29 (0, 0)) (kB_ cp.out) hb); replace HB := aM (ao (by repeat (first | (with_reducible first | exact HB.out | apply bA | apply pD | apply bD | refine am ?_ ib.out) | exact HB.out)) hb); (try clear hb); (try clear ho0); obtain ⟨qY, qh, eo10⟩ := Kd.R_slice hY.out; subst eo10) | ((with_reducible refine av (f := 54) rfl ?_); refine ay (some 22) rfl rfl Try.func54 z0 rfl #[.slice qY rD.length qh, .string a0] rfl z15 ?_; (with_reducible refine (spec_l3Apply.calls k _ _ rD a0 s7 t224 _ ?side1 ?side2 A5.out).mono ?_); (case side1 => repeat (first | exact (ah hY.out).2.2 | (with_reducible refine aq ?_ _) | (with_reducible refine ar ?_ _) | (with_reducible refine au ?_))); (case side2 => exact (ah hY.out).2.1); rintro e w11 ⟨rfl, hb⟩; refine ⟨_, rfl, ?_⟩; replace hY := aM (af (kR_ hY.out) hb); replace cp := aM (ae (g := dI) (o := .cells #[.int .i64 a1_0, .int .i64 a1_1, .int .i64 a1_2, .string a1_3] 29 (0, 0)) (kB_ cp.out) hb); replace HB := aM (ao (by repeat (first | (with_reducible first | exact HB.out | apply bA | apply pD | apply bD | refine am ?_ ib.out) | exact HB.out)) hb); (try clear hb)) | ((with_reducible refine av (f := 28) rfl ?_); refine ay (some 28) rfl rfl Try.func28 z0 rfl #[.string s7] rfl z15 ?_; (with_reducible refine (spec_GoodDoc.calls k s7 pS _ A6.out).mono ?_); rintro e w' ⟨rfl, ⟨nd, rfl⟩⟩; refine ⟨_, rfl, ?_⟩))
  go_ret3
  exact ⟨_, y4, by (with_reducible repeat (first | apply ac | apply ab | apply aa)); exact hY.out, by repeat (first | (with_reducible first | exact HB.out | apply bA | apply pD | apply bD | refine am ?_ ib.out) | exact HB.out)⟩
 ·replace c4 := Bool.eq_false_iff.mpr c4
  subst c4
  rw [if_neg nF_] at H
  simp only [Option.some.injEq, Prod.mk.injEq] at H
  obtain ⟨rfl, rfl, rfl⟩ := H
  go_enter Try.func34, Try.ntmps34
  go_wp2_with (first | ((with_reducible refine aw (N := 3) rfl ?_); refine ax ?hg (N := 3) ?hd (cs := #[.int .i64 a1_0, .int .i64 a1_1, .int .i64 a1_2, .string a1_3]) (t := 29) ?hr ?_; (case hd => rfl); (case hg => rfl); (case hr => first | (go_simp; done) | (go_simp; rfl)); intro dI hg w12 hbox hb; have cp := aM (hbox); have GW218 := aM ((by rw [hg]; exact (ap z14) : w.heap.size ≤ dI)); have ib := aM ((by rw [hg]; exact (ap z14) : w.heap.size ≤ dI)); replace HB := aM (ao z14 hb); clear hb hbox hg; obtain ⟨kR, kQ, kP, hcz13_3, kH, kG, kF, hfz13_3⟩ := cc4 cp.out) | ((with_reducible refine av (f := 53) rfl ?_); refine ay (some 14) rfl rfl Try.func53 z0 rfl #[.string a0, .agg #[.int .i64 a1_0, .int .i64 a1_1, .int .i64 a1_2, .string a1_3]] rfl z15 ?_; (with_reducible refine (spec_l8Op.calls k a0 a1_0 a1_1 a1_2 a1_3 rD false _ A3.out).mono ?_); rintro e w14 ⟨v220, rfl, ho0, hb⟩; refine ⟨_, rfl, ?_⟩; have hY := aM (az ho0 (ap (by repeat (first | (with_reducible first | exact HB.out | apply bA | apply pD | apply bD | refine am ?_ ib.out) | exact HB.out)))); replace cp := aM (ae (g := dI) (o := .cells #[.int .i64 a1_0, .int .i64 a1_1, .int .i64 a1_2, .string a1_3] 29 (0, 0)) (kB_ cp.out) hb); replace HB := aM (ao (by repeat (first | (with_reducible first | exact HB.out | apply bA | apply pD | apply bD | refine am ?_ ib.out) | exact HB.out)) hb); (try clear hb); (try clear ho0)))
  go_ret3
  exact ⟨_, y4, y28, by repeat (first | (with_reducible first | exact HB.out | apply bA | apply pD | apply bD | refine am ?_ ib.out) | exact HB.out)⟩

/-! ### spec_DoCommand: function 12 -/
def spec_DoCommand.f (k : Nat) (a0 : ByteArray) (a1_0 : Int) (a1_1 : Int) (a1_2 : Int) (a1_3 : ByteArray) : Option (ByteArray × Bool) := (spec_GoodDoc.f k a0).bind fun pR => (if pR = true then ((spec_l8Do.f k a0 a1_0 a1_1 a1_2 a1_3).bind fun lU => (if lU.2.2 = true then (some (lU.2.1, true)) else (some ((⟨#[]⟩ : ByteArray), false)))) else (some ((⟨#[]⟩ : ByteArray), false)))
theorem spec_DoCommand.mono : ∀ a0 a1 a2 a3 a4 k, LeO (spec_DoCommand.f k a0 a1 a2 a3 a4) (spec_DoCommand.f (k + 1) a0 a1 a2 a3 a4) := by
 intro a0 a1 a2 a3 a4 k
 unfold spec_DoCommand.f
 repeat' first
   | (with_reducible exact spec_GoodDoc.mono _ _)
   | (with_reducible exact spec_l8Do.mono _ _ _ _ _ _)
   | (with_reducible exact LeO.refl _)
   | (with_reducible exact LeO.none _)
   | (with_reducible refine LeO.ite ?_ ?_)
   | (with_reducible refine LeO.bind ?_ (fun _ => ?_))
set_option maxHeartbeats 8000000 in
set_option maxRecDepth 100000 in
theorem spec_DoCommand.calls (k : Nat) (a0 : ByteArray) (a1_0 : Int) (a1_1 : Int) (a1_2 : Int) (a1_3 : ByteArray) (r1 : ByteArray) (r2 : Bool) (w : World) (h : spec_DoCommand.f k a0 a1_0 a1_1 a1_2 a1_3 = some (r1, r2)) :
  Calls Try.prog 12 #[.string a0, .agg #[.int .i64 a1_0, .int .i64 a1_1, .int .i64 a1_2, .string a1_3]] w fun e w' => e = .returned (.tuple #[.string r1, .bool r2]) ∧ Below w.heap.size w w' := by
 have hu29 := Try.underlying29
 have HB := aM (Below.refl w.heap.size w)
 have H : ((spec_GoodDoc.f k a0).bind fun pR => (if pR = true then ((spec_l8Do.f k a0 a1_0 a1_1 a1_2 a1_3).bind fun lU => (if lU.2.2 = true then (some (lU.2.1, true)) else (some ((⟨#[]⟩ : ByteArray), false)))) else (some ((⟨#[]⟩ : ByteArray), false)))) = some (r1, r2) := h
 clear h
 obtain ⟨pR, A3, H⟩ := oA_ H
 try dsimp only at H
 by_cases c4 : pR = true
 ·subst c4
  rw [if_pos rfl] at H
  obtain ⟨⟨uM, uL, t232⟩, A5, H⟩ := oA_ H
  try dsimp only at H
  by_cases c6 : t232 = true
  ·subst c6
   rw [if_pos rfl] at H
   simp only [Option.some.injEq, Prod.mk.injEq] at H
   obtain ⟨rfl, rfl⟩ := H
   go_enter Try.func12, Try.ntmps12
   go_wp2_with (first | ((with_reducible refine aw (N := 3) rfl ?_); refine ax ?hg (N := 3) ?hd (cs := #[.int .i64 a1_0, .int .i64 a1_1, .int .i64 a1_2, .string a1_3]) (t := 29) ?hr ?_; (case hd => rfl); (case hg => rfl); (case hr => first | (go_simp; done) | (go_simp; rfl)); intro dx hg w7 hbox hb; have cw := aM (hbox); have sd := aM ((by rw [hg]; exact (ap z14) : w.heap.size ≤ dx)); have g9 := aM ((by rw [hg]; exact (ap z14) : w.heap.size ≤ dx)); replace HB := aM (ao z14 hb); clear hb hbox hg) | ((with_reducible refine av (f := 28) rfl ?_); refine ay (some 10) rfl rfl Try.func28 z0 rfl #[.string a0] rfl z15 ?_; (with_reducible refine (spec_GoodDoc.calls k a0 true _ A3.out).mono ?_); rintro e w' ⟨rfl, ⟨nd, rfl⟩⟩; refine ⟨_, rfl, ?_⟩; obtain ⟨ce, cd, cb, en, cj, b7, b6, el⟩ := cc4 cw.out) | ((with_reducible refine av (f := 34) rfl ?_); refine ay (some 15) rfl rfl Try.func34 z0 rfl #[.string a0, .agg #[.int .i64 a1_0, .int .i64 a1_1, .int .i64 a1_2, .string a1_3]] rfl z15 ?_; (with_reducible refine (spec_l8Do.calls k a0 a1_0 a1_1 a1_2 a1_3 uM uL true _ A5.out).mono ?_); rintro e w9 ⟨v229, rfl, ho0, hb⟩; refine ⟨_, rfl, ?_⟩; have HO230 := aM (az ho0 (ap (by repeat (first | (with_reducible first | exact HB.out | apply bA | apply pD | apply bD | refine am ?_ g9.out) | exact HB.out)))); replace cw := aM (ae (g := dx) (o := .cells #[.int .i64 a1_0, .int .i64 a1_1, .int .i64 a1_2, .string a1_3] 29 (0, 0)) (kB_ cw.out) hb); replace HB := aM (ao (by repeat (first | (with_reducible first | exact HB.out | apply bA | apply pD | apply bD | refine am ?_ g9.out) | exact HB.out)) hb); (try clear hb); (try clear ho0)))
   go_ret2
   exact ⟨y4, by repeat (first | (with_reducible first | exact HB.out | apply bA | apply pD | apply bD | refine am ?_ g9.out) | exact HB.out)⟩
  ·replace c6 := Bool.eq_false_iff.mpr c6
   subst c6
   rw [if_neg nF_] at H
   simp only [Option.some.injEq, Prod.mk.injEq] at H
   obtain ⟨rfl, rfl⟩ := H
   go_enter Try.func12, Try.ntmps12
   go_wp2_with (first | ((with_reducible refine aw (N := 3) rfl ?_); refine ax ?hg (N := 3) ?hd (cs := #[.int .i64 a1_0, .int .i64 a1_1, .int .i64 a1_2, .string a1_3]) (t := 29) ?hr ?_; (case hd => rfl); (case hg => rfl); (case hr => first | (go_simp; done) | (go_simp; rfl)); intro dx hg w10 hbox hb; have cw := aM (hbox); have sd := aM ((by rw [hg]; exact (ap z14) : w.heap.size ≤ dx)); have g9 := aM ((by rw [hg]; exact (ap z14) : w.heap.size ≤ dx)); replace HB := aM (ao z14 hb); clear hb hbox hg) | ((with_reducible refine av (f := 28) rfl ?_); refine ay (some 10) rfl rfl Try.func28 z0 rfl #[.string a0] rfl z15 ?_; (with_reducible refine (spec_GoodDoc.calls k a0 true _ A3.out).mono ?_); rintro e w' ⟨rfl, ⟨nd, rfl⟩⟩; refine ⟨_, rfl, ?_⟩; obtain ⟨oT, oS, oR, hcz11_3, n3, n2, n1, hfz11_3⟩ := cc4 cw.out) | ((with_reducible refine av (f := 34) rfl ?_); refine ay (some 15) rfl rfl Try.func34 z0 rfl #[.string a0, .agg #[.int .i64 a1_0, .int .i64 a1_1, .int .i64 a1_2, .string a1_3]] rfl z15 ?_; (with_reducible refine (spec_l8Do.calls k a0 a1_0 a1_1 a1_2 a1_3 uM uL false _ A5.out).mono ?_); rintro e w12 ⟨v229, rfl, ho0, hb⟩; refine ⟨_, rfl, ?_⟩; have HO230 := aM (az ho0 (ap (by repeat (first | (with_reducible first | exact HB.out | apply bA | apply pD | apply bD | refine am ?_ g9.out) | exact HB.out)))); replace cw := aM (ae (g := dx) (o := .cells #[.int .i64 a1_0, .int .i64 a1_1, .int .i64 a1_2, .string a1_3] 29 (0, 0)) (kB_ cw.out) hb); replace HB := aM (ao (by repeat (first | (with_reducible first | exact HB.out | apply bA | apply pD | apply bD | refine am ?_ g9.out) | exact HB.out)) hb); (try clear hb); (try clear ho0)))
   go_ret2
   exact ⟨y4, by repeat (first | (with_reducible first | exact HB.out | apply bA | apply pD | apply bD | refine am ?_ g9.out) | exact HB.out)⟩
 ·replace c4 := Bool.eq_false_iff.mpr c4
  subst c4
  rw [if_neg nF_] at H
  simp only [Option.some.injEq, Prod.mk.injEq] at H
  obtain ⟨rfl, rfl⟩ := H
  go_enter Try.func12, Try.ntmps12
  go_wp2_with (first | ((with_reducible refine aw (N := 3) rfl ?_); refine ax ?hg (N := 3) ?hd (cs := #[.int .i64 a1_0, .int .i64 a1_1, .int .i64 a1_2, .string a1_3]) (t := 29) ?hr ?_; (case hd => rfl); (case hg => rfl); (case hr => first | (go_simp; done) | (go_simp; rfl)); intro dx hg w13 hbox hb; have cw := aM (hbox); have sd := aM ((by rw [hg]; exact (ap z14) : w.heap.size ≤ dx)); have g9 := aM ((by rw [hg]; exact (ap z14) : w.heap.size ≤ dx)); replace HB := aM (ao z14 hb); clear hb hbox hg) | ((with_reducible refine av (f := 28) rfl ?_); refine ay (some 10) rfl rfl Try.func28 z0 rfl #[.string a0] rfl z15 ?_; (with_reducible refine (spec_GoodDoc.calls k a0 false _ A3.out).mono ?_); rintro e w' ⟨rfl, ⟨nd, rfl⟩⟩; refine ⟨_, rfl, ?_⟩))
  go_ret2
  exact ⟨y4, by repeat (first | (with_reducible first | exact HB.out | apply bA | apply pD | apply bD | refine am ?_ g9.out) | exact HB.out)⟩

/-! ### impl_isName: function 50 -/
def impl_isName.f (a0 : Int) : Option (Bool) := if a0 ≥ 65 then (some (decide (a0 ≤ 70))) else (some false)
set_option maxHeartbeats 8000000 in
set_option maxRecDepth 100000 in
theorem impl_isName.calls (a0 : Int) (r : Bool) (w : World) (h : impl_isName.f a0 = some r) :
  Calls Try.prog 50 #[.int .u8 a0] w fun e w' => e = .returned (.bool r) ∧ Drawn0 w w' := by
 have H : (if a0 ≥ 65 then (some (decide (a0 ≤ 70))) else (some false)) = some r := h
 clear h
 by_cases c2 : a0 ≥ 65
 ·rw [if_pos c2] at H
  have c2b0 : decide (65 ≤ a0) = true := dT c2
  clear c2
  obtain rfl := sI H
  go_enter Try.func50, Try.ntmps50
  go_wp2
  go_ret
  exact ⟨y1, y3⟩
 ·rw [if_neg c2] at H
  have c2b0 : decide (65 ≤ a0) = false := dF c2
  clear c2
  obtain rfl := sI H
  go_enter Try.func50, Try.ntmps50
  go_wp2
  go_ret
  exact ⟨y1, y3⟩

/-! ### impl_isPlain: function 51 -/
def impl_isPlain.f (a0 : Int) : Option (Bool) := if a0 ≥ 97 then (if a0 ≤ 122 then (some true) else (if a0 ≥ 48 then (if a0 ≤ 57 then (some true) else (if a0 = 32 then (some true) else (if a0 = 46 then (some true) else (some (a0 == 44))))) else (if a0 = 32 then (some true) else (if a0 = 46 then (some true) else (some (a0 == 44)))))) else (if a0 ≥ 48 then (if a0 ≤ 57 then (some true) else (if a0 = 32 then (some true) else (if a0 = 46 then (some true) else (some (a0 == 44))))) else (if a0 = 32 then (some true) else (if a0 = 46 then (some true) else (some (a0 == 44)))))
set_option maxHeartbeats 8000000 in
set_option maxRecDepth 100000 in
theorem impl_isPlain.calls (a0 : Int) (r : Bool) (w : World) (h : impl_isPlain.f a0 = some r) :
  Calls Try.prog 51 #[.int .u8 a0] w fun e w' => e = .returned (.bool r) ∧ Drawn0 w w' := by
 have H : (if a0 ≥ 97 then (if a0 ≤ 122 then (some true) else (if a0 ≥ 48 then (if a0 ≤ 57 then (some true) else (if a0 = 32 then (some true) else (if a0 = 46 then (some true) else (some (a0 == 44))))) else (if a0 = 32 then (some true) else (if a0 = 46 then (some true) else (some (a0 == 44)))))) else (if a0 ≥ 48 then (if a0 ≤ 57 then (some true) else (if a0 = 32 then (some true) else (if a0 = 46 then (some true) else (some (a0 == 44))))) else (if a0 = 32 then (some true) else (if a0 = 46 then (some true) else (some (a0 == 44)))))) = some r := h
 clear h
 by_cases c2 : a0 ≥ 97
 ·rw [if_pos c2] at H
  have c2b0 : decide (97 ≤ a0) = true := dT c2
  clear c2
  by_cases c3 : a0 ≤ 122
  ·rw [if_pos c3] at H
   have c3b0 : decide (a0 ≤ 122) = true := dT c3
   clear c3
   obtain rfl := sI H
   go_enter Try.func51, Try.ntmps51
   go_wp2
   go_ret
   exact ⟨y1, y3⟩
  ·rw [if_neg c3] at H
   have c3b0 : decide (a0 ≤ 122) = false := dF c3
   clear c3
   by_cases c4 : a0 ≥ 48
   ·rw [if_pos c4] at H
    have c4b0 : decide (48 ≤ a0) = true := dT c4
    clear c4
    by_cases c5 : a0 ≤ 57
    ·rw [if_pos c5] at H
     have c5b0 : decide (a0 ≤ 57) = true := dT c5
     clear c5
     obtain rfl := sI H
     go_enter Try.func51, Try.ntmps51
     go_wp2
     go_ret
     exact ⟨y1, y3⟩
    ·rw [if_neg c5] at H
     have c5b0 : decide (a0 ≤ 57) = false := dF c5
     clear c5
     by_cases c6 : a0 = 32
     ·rw [if_pos c6] at H
      have c6b0 : (a0 == 32) = true := qT c6
      have c6b1 : (a0 != 32) = false := nF c6
      clear c6
      obtain rfl := sI H
      go_enter Try.func51, Try.ntmps51
      go_wp2
      go_ret
      exact ⟨y1, y3⟩
     ·rw [if_neg c6] at H
      have c6b0 : (a0 == 32) = false := qF c6
      have c6b1 : (a0 != 32) = true := nT c6
      by_cases c7 : a0 = 46
      ·rw [if_pos c7] at H
       have c7b0 : (a0 == 46) = true := qT c7
       have c7b1 : (a0 != 46) = false := nF c7
       clear c7
       obtain rfl := sI H
       go_enter Try.func51, Try.ntmps51
       go_wp2
       go_ret
       exact ⟨y1, y3⟩
      ·rw [if_neg c7] at H
       have c7b0 : (a0 == 46) = false := qF c7
       have c7b1 : (a0 != 46) = true := nT c7
       obtain rfl := sI H
       go_enter Try.func51, Try.ntmps51
       go_wp2
       go_ret
       exact ⟨y1, y3⟩
   ·rw [if_neg c4] at H
    have c4b0 : decide (48 ≤ a0) = false := dF c4
    clear c4
    by_cases c8 : a0 = 32
    ·rw [if_pos c8] at H
     have c8b0 : (a0 == 32) = true := qT c8
     have c8b1 : (a0 != 32) = false := nF c8
     clear c8
     obtain rfl := sI H
     go_enter Try.func51, Try.ntmps51
     go_wp2
     go_ret
     exact ⟨y1, y3⟩
    ·rw [if_neg c8] at H
     have c8b0 : (a0 == 32) = false := qF c8
     have c8b1 : (a0 != 32) = true := nT c8
     by_cases c9 : a0 = 46
     ·rw [if_pos c9] at H
      have c9b0 : (a0 == 46) = true := qT c9
      have c9b1 : (a0 != 46) = false := nF c9
      clear c9
      obtain rfl := sI H
      go_enter Try.func51, Try.ntmps51
      go_wp2
      go_ret
      exact ⟨y1, y3⟩
     ·rw [if_neg c9] at H
      have c9b0 : (a0 == 46) = false := qF c9
      have c9b1 : (a0 != 46) = true := nT c9
      obtain rfl := sI H
      go_enter Try.func51, Try.ntmps51
      go_wp2
      go_ret
      exact ⟨y1, y3⟩
 ·rw [if_neg c2] at H
  have c2b0 : decide (97 ≤ a0) = false := dF c2
  clear c2
  by_cases cv : a0 ≥ 48
  ·rw [if_pos cv] at H
   have c10b0 : decide (48 ≤ a0) = true := dT cv
   clear cv
   by_cases cy : a0 ≤ 57
   ·rw [if_pos cy] at H
    have c11b0 : decide (a0 ≤ 57) = true := dT cy
    clear cy
    obtain rfl := sI H
    go_enter Try.func51, Try.ntmps51
    go_wp2
    go_ret
    exact ⟨y1, y3⟩
   ·rw [if_neg cy] at H
    have c11b0 : decide (a0 ≤ 57) = false := dF cy
    clear cy
    by_cases b3 : a0 = 32
    ·rw [if_pos b3] at H
     have c12b0 : (a0 == 32) = true := qT b3
     have c12b1 : (a0 != 32) = false := nF b3
     clear b3
     obtain rfl := sI H
     go_enter Try.func51, Try.ntmps51
     go_wp2
     go_ret
     exact ⟨y1, y3⟩
    ·rw [if_neg b3] at H
     have c12b0 : (a0 == 32) = false := qF b3
     have c12b1 : (a0 != 32) = true := nT b3
     by_cases cY : a0 = 46
     ·rw [if_pos cY] at H
      have c13b0 : (a0 == 46) = true := qT cY
      have c13b1 : (a0 != 46) = false := nF cY
      clear cY
      obtain rfl := sI H
      go_enter Try.func51, Try.ntmps51
      go_wp2
      go_ret
      exact ⟨y1, y3⟩
     ·rw [if_neg cY] at H
      have c13b0 : (a0 == 46) = false := qF cY
      have c13b1 : (a0 != 46) = true := nT cY
      obtain rfl := sI H
      go_enter Try.func51, Try.ntmps51
      go_wp2
      go_ret
      exact ⟨y1, y3⟩
  ·rw [if_neg cv] at H
   have c10b0 : decide (48 ≤ a0) = false := dF cv
   clear cv
   by_cases cB : a0 = 32
   ·rw [if_pos cB] at H
    have c14b0 : (a0 == 32) = true := qT cB
    have c14b1 : (a0 != 32) = false := nF cB
    clear cB
    obtain rfl := sI H
    go_enter Try.func51, Try.ntmps51
    go_wp2
    go_ret
    exact ⟨y1, y3⟩
   ·rw [if_neg cB] at H
    have c14b0 : (a0 == 32) = false := qF cB
    have c14b1 : (a0 != 32) = true := nT cB
    by_cases cF : a0 = 46
    ·rw [if_pos cF] at H
     have c15b0 : (a0 == 46) = true := qT cF
     have c15b1 : (a0 != 46) = false := nF cF
     clear cF
     obtain rfl := sI H
     go_enter Try.func51, Try.ntmps51
     go_wp2
     go_ret
     exact ⟨y1, y3⟩
    ·rw [if_neg cF] at H
     have c15b0 : (a0 == 46) = false := qF cF
     have c15b1 : (a0 != 46) = true := nT cF
     obtain rfl := sI H
     go_enter Try.func51, Try.ntmps51
     go_wp2
     go_ret
     exact ⟨y1, y3⟩

/-! ### impl_GoodText: function 45 -/
def impl_GoodText.l0 : Nat → ByteArray → Int → Int → Option (Bool)
 | 0, _, _, _ => none
 | k + 1, x0, x5, x6 => if x6 < x5 then (if 0 ≤ x6 then (if x6 < (x0.size : Int) then ((impl_isName.f (bt x0 x6)).bind fun s6 => (if s6 = true then (impl_GoodText.l0 k x0 x5 (wrap64 (x6 + 1))) else ((impl_isPlain.f (bt x0 x6)).bind fun sZ => (if sZ = true then (impl_GoodText.l0 k x0 x5 (wrap64 (x6 + 1))) else (if (bt x0 x6) = 47 then (impl_GoodText.l0 k x0 x5 (wrap64 (x6 + 1))) else (some false)))))) else (none)) else (none)) else (some (decide ((x0.size : Int) ≤ 300)))
def impl_GoodText.f (k : Nat) (a0 : ByteArray) : Option (Bool) := impl_GoodText.l0 k a0 (a0.size : Int) 0
theorem impl_GoodText.mono_l : ∀ k, (∀ y0 y1 y2, LeO (impl_GoodText.l0 k y0 y1 y2) (impl_GoodText.l0 (k + 1) y0 y1 y2))
 | 0 => fun _ _ _ r h => by simp [impl_GoodText.l0] at h
 | k + 1 => by
  have ih0 := impl_GoodText.mono_l k
  ·intro y0 y1 y2
   unfold impl_GoodText.l0
   repeat' first
   | (with_reducible exact ih0 _ _ _)
   | (with_reducible exact LeO.refl _)
   | (with_reducible exact LeO.none _)
   | (with_reducible refine LeO.ite ?_ ?_)
   | (with_reducible refine LeO.bind ?_ (fun _ => ?_))
theorem impl_GoodText.mono : ∀ a0 k, LeO (impl_GoodText.f k a0) (impl_GoodText.f (k + 1) a0) := by
 intro a0 k
 have ih0 := impl_GoodText.mono_l k
 unfold impl_GoodText.f
 repeat' first
   | (with_reducible exact ih0 _ _ _)
   | (with_reducible exact LeO.refl _)
   | (with_reducible exact LeO.none _)
   | (with_reducible refine LeO.ite ?_ ?_)
   | (with_reducible refine LeO.bind ?_ (fun _ => ?_))
set_option maxHeartbeats 8000000 in
set_option maxRecDepth 100000 in
theorem impl_GoodText.calls (k : Nat) (a0 : ByteArray) (r : Bool) (w : World) (h : impl_GoodText.f k a0 = some r) :
  Calls Try.prog 45 #[.string a0] w fun e w' => e = .returned (.bool r) ∧ Drawn0 w w' := by
 have H : (impl_GoodText.l0 k a0 (a0.size : Int) 0) = some r := h
 clear h
 have H' := aM H
 clear H
 go_enter Try.func45, Try.ntmps45
 go_wp2
 go_loopg [6] k (fun kq v6 w' => ∃ (x6_1 : Int), v6 = .int .i64 x6_1 ∧ Aside0 (impl_GoodText.l0 kq a0 (a0.size : Int) x6_1 = some r) ∧ Aside0 (kq ≤ k) ∧ Drawn0 w w')
 case atStart => exact ⟨(0), z1, H', ⟨Nat.le_refl _⟩, y3⟩
 case round =>
  clear H'
  obtain ⟨x6_1, rfl, HA, HK1, ⟨m1, rfl⟩⟩ := hrel
  cases gk with
  | zero => exact absurd HA.out (by simp [impl_GoodText.l0])
  | succ k1 =>
   have H := HA.out
   clear HA
   simp only [impl_GoodText.l0] at H
   by_cases c2 : x6_1 < (a0.size : Int)
   ·rw [if_pos c2] at H
    have c2b0 : decide (x6_1 < (a0.size : Int)) = true := dT c2
    clear c2
    by_cases c3 : 0 ≤ x6_1
    ·rw [if_pos c3] at H
     have c3b0 : decide (0 ≤ x6_1) = true := dT c3
     clear c3
     by_cases c4 : x6_1 < (a0.size : Int)
     ·rw [if_pos c4] at H
      have c4b0 : decide (x6_1 < (a0.size : Int)) = true := dT c4
      clear c4
      obtain ⟨s6, A6, H⟩ := oA_ H
      try dsimp only at H
      by_cases c7 : s6 = true
      ·subst c7
       rw [if_pos rfl] at H
       have H' := aM H
       clear H
       have p5 : 0 ≤ (x6_1 : Int) := oD z2
       have q5 : x6_1 < (a0.size : Int) := oD z2
       have hx5 := bt_at a0 x6_1
       replace p5 := eq_true p5
       replace q5 := eq_true q5
       go_wp2_with (first | ((with_reducible refine av (f := 50) rfl ?_); refine ay (some 12) rfl rfl Try.func50 z0 rfl #[.int .u8 (bt a0 x6_1)] rfl z15 ?_; (with_reducible refine (impl_isName.calls (bt a0 x6_1) true _ A6.out).mono ?_); rintro e w' ⟨rfl, ⟨nd, rfl⟩⟩; refine ⟨_, rfl, ?_⟩))
       go_roundg k1
       case measure => have := HK1.out; omega
       case rel => exact ⟨(wrap64 (x6_1 + 1)), z1, H', ⟨by have := HK1.out; omega⟩, y3⟩
      ·replace c7 := Bool.eq_false_iff.mpr c7
       subst c7
       rw [if_neg nF_] at H
       obtain ⟨sZ, A9, H⟩ := oA_ H
       try dsimp only at H
       by_cases cv : sZ = true
       ·subst cv
        rw [if_pos rfl] at H
        have H' := aM H
        clear H
        have p5 : 0 ≤ (x6_1 : Int) := oD z2
        have q5 : x6_1 < (a0.size : Int) := oD z2
        have hx5 := bt_at a0 x6_1
        replace p5 := eq_true p5
        replace q5 := eq_true q5
        go_wp2_with (first | ((with_reducible refine av (f := 50) rfl ?_); refine ay (some 12) rfl rfl Try.func50 z0 rfl #[.int .u8 (bt a0 x6_1)] rfl z15 ?_; (with_reducible refine (impl_isName.calls (bt a0 x6_1) false _ A6.out).mono ?_); rintro e w' ⟨rfl, ⟨nd, rfl⟩⟩; refine ⟨_, rfl, ?_⟩; have p8 : 0 ≤ (x6_1 : Int) := oD z2; have q8 : x6_1 < (a0.size : Int) := oD z2; have hx8 := bt_at a0 x6_1; replace p8 := eq_true p8; replace q8 := eq_true q8) | (go_at_call 51; (with_reducible refine (impl_isPlain.calls (bt a0 x6_1) true _ A9.out).mono ?_); rintro e w' ⟨rfl, ⟨nd, rfl⟩⟩))
        go_roundg k1
        case measure => have := HK1.out; omega
        case rel => exact ⟨(wrap64 (x6_1 + 1)), z1, H', ⟨by have := HK1.out; omega⟩, y3⟩
       ·replace cv := Bool.eq_false_iff.mpr cv
        subst cv
        rw [if_neg nF_] at H
        by_cases b3 : (bt a0 x6_1) = 47
        ·rw [if_pos b3] at H
         have c12b0 : ((bt a0 x6_1) == 47) = true := qT b3
         have c12b1 : ((bt a0 x6_1) != 47) = false := nF b3
         clear b3
         have H' := aM H
         clear H
         have p5 : 0 ≤ (x6_1 : Int) := oD z2
         have q5 : x6_1 < (a0.size : Int) := oD z2
         have hx5 := bt_at a0 x6_1
         replace p5 := eq_true p5
         replace q5 := eq_true q5
         go_wp2_with (first | ((with_reducible refine av (f := 50) rfl ?_); refine ay (some 12) rfl rfl Try.func50 z0 rfl #[.int .u8 (bt a0 x6_1)] rfl z15 ?_; (with_reducible refine (impl_isName.calls (bt a0 x6_1) false _ A6.out).mono ?_); rintro e w' ⟨rfl, ⟨nd, rfl⟩⟩; refine ⟨_, rfl, ?_⟩; have p8 : 0 ≤ (x6_1 : Int) := oD z2; have q8 : x6_1 < (a0.size : Int) := oD z2; have hx8 := bt_at a0 x6_1; replace p8 := eq_true p8; replace q8 := eq_true q8) | (go_at_call 51; (with_reducible refine (impl_isPlain.calls (bt a0 x6_1) false _ A9.out).mono ?_); rintro e w' ⟨rfl, ⟨nd, rfl⟩⟩; have p11 : 0 ≤ (x6_1 : Int) := oD z2; have q11 : x6_1 < (a0.size : Int) := oD z2; have hx11 := bt_at a0 x6_1; replace p11 := eq_true p11; replace q11 := eq_true q11))
         go_roundg k1
         case measure => have := HK1.out; omega
         case rel => exact ⟨(wrap64 (x6_1 + 1)), z1, H', ⟨by have := HK1.out; omega⟩, y3⟩
        ·rw [if_neg b3] at H
         have c12b0 : ((bt a0 x6_1) == 47) = false := qF b3
         have c12b1 : ((bt a0 x6_1) != 47) = true := nT b3
         obtain rfl := sI H
         have p5 : 0 ≤ (x6_1 : Int) := oD z2
         have q5 : x6_1 < (a0.size : Int) := oD z2
         have hx5 := bt_at a0 x6_1
         replace p5 := eq_true p5
         replace q5 := eq_true q5
         go_wp2_with (first | ((with_reducible refine av (f := 50) rfl ?_); refine ay (some 12) rfl rfl Try.func50 z0 rfl #[.int .u8 (bt a0 x6_1)] rfl z15 ?_; (with_reducible refine (impl_isName.calls (bt a0 x6_1) false _ A6.out).mono ?_); rintro e w' ⟨rfl, ⟨nd, rfl⟩⟩; refine ⟨_, rfl, ?_⟩; have p8 : 0 ≤ (x6_1 : Int) := oD z2; have q8 : x6_1 < (a0.size : Int) := oD z2; have hx8 := bt_at a0 x6_1; replace p8 := eq_true p8; replace q8 := eq_true q8) | (go_at_call 51; (with_reducible refine (impl_isPlain.calls (bt a0 x6_1) false _ A9.out).mono ?_); rintro e w' ⟨rfl, ⟨nd, rfl⟩⟩; have p11 : 0 ≤ (x6_1 : Int) := oD z2; have q11 : x6_1 < (a0.size : Int) := oD z2; have hx11 := bt_at a0 x6_1; replace p11 := eq_true p11; replace q11 := eq_true q11))
         go_ret
         exact ⟨y1, y3⟩
     ·rw [if_neg c4] at H
      exact absurd H (by simp)
    ·rw [if_neg c3] at H
     exact absurd H (by simp)
   ·rw [if_neg c2] at H
    have c2b0 : decide (x6_1 < (a0.size : Int)) = false := dF c2
    clear c2
    obtain rfl := sI H
    go_wp2
    go_ret
    exact ⟨y1, y3⟩

end Go.Proofs.Ytmigfgcpdelnfaa.AFnCommands
