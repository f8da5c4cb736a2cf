-- this session's own text: written by wip/tools/ownprint.py over the kit's print
import Derived.Test.YtblnnbaeiggmoaaAFnSplitx0
namespace Go.Proofs.Ytblnnbaeiggmoaa.AFnSplit
open Go.RowKit Go.Proofs.YtblnnbaeiggmoaaW.PrintWords Go.Proofs.YtblnnbaeiggmoaaW.PrintLast Go.Proofs.YtblnnbaeiggmoaaW.PrintMore
attribute [local go_sem] max2_int min2_int max_two min_two max_three min_three max_four min_four   -- for this text's walks alone
set_option linter.unusedVariables false
set_option linter.unusedSimpArgs false

/-! ### spec_l3Apply: function 26 -/
mutual
def spec_l3Apply.l0 : Nat → ByteArray → ByteArray → List (S59) → Int → Int → Option (ByteArray × Bool)
 | 0, _, _, _, _, _ => none
 | k + 1, x1, x6, x10, x11, x12 => if x12 < x11 then (if 0 ≤ x12 then (if x12 < (x10.length : Int) then (if (wrap64 (((rd_T59 x10 x12).f0) + (((rd_T59 x10 x12).f2).size : Int))) > (x1.size : Int) then (spec_l3Apply.j1 k x1 x6 (wrap64 (((rd_T59 x10 x12).f0) + (((rd_T59 x10 x12).f2).size : Int))) x10 x11 x12 true ((rd_T59 x10 x12).f0) ((rd_T59 x10 x12).f1) ((rd_T59 x10 x12).f2)) else (if ((rd_T59 x10 x12).f2).toList = ([] : List UInt8) then (spec_l3Apply.j1 k x1 x6 (wrap64 (((rd_T59 x10 x12).f0) + (((rd_T59 x10 x12).f2).size : Int))) x10 x11 x12 false ((rd_T59 x10 x12).f0) ((rd_T59 x10 x12).f1) ((rd_T59 x10 x12).f2)) else (if 0 ≤ (wrap64 (((rd_T59 x10 x12).f0) + (((rd_T59 x10 x12).f2).size : Int))) then (if (wrap64 (((rd_T59 x10 x12).f0) + (((rd_T59 x10 x12).f2).size : Int))) ≤ (x1.size : Int) then (spec_l3Apply.j1 k x1 x6 (wrap64 (((rd_T59 x10 x12).f0) + (((rd_T59 x10 x12).f2).size : Int))) x10 x11 x12 ((x1.extract 0 ((wrap64 (((rd_T59 x10 x12).f0) + (((rd_T59 x10 x12).f2).size : Int))) : Int).toNat).toList != ((rd_T59 x10 x12).f2).toList) ((rd_T59 x10 x12).f0) ((rd_T59 x10 x12).f1) ((rd_T59 x10 x12).f2)) else (none)) else (none)))) else (none)) else (none)) else (some (x6, (x1.toList == ([] : List UInt8))))
def spec_l3Apply.j1 : Nat → ByteArray → ByteArray → Int → List (S59) → Int → Int → Bool → Int → ByteArray → ByteArray → Option (ByteArray × Bool)
 | 0, _, _, _, _, _, _, _, _, _, _ => none
 | k + 1, x1, x6, x9, x10, x11, x12, x38, x134000, x134001, x134002 => if x38 = true then (some ((⟨#[]⟩ : ByteArray), false)) else (if x134000 > 0 then (if 0 ≤ x9 then (if x9 ≤ (x1.size : Int) then (if x6.size + (x1.extract 0 (x9 : Int).toNat).size ≤ 9223372036854775807 then (if (x6 ++ (x1.extract 0 (x9 : Int).toNat)).size + x134001.size ≤ 9223372036854775807 then (spec_l3Apply.l0 k (x1.extract (x9 : Int).toNat x1.size) ((x6 ++ (x1.extract 0 (x9 : Int).toNat)) ++ x134001) x10 x11 (wrap64 (x12 + 1))) else (none)) else (none)) else (none)) else (none)) else (if x6.size + x134001.size ≤ 9223372036854775807 then (if 0 ≤ x9 then (if x9 ≤ (x1.size : Int) then (spec_l3Apply.l0 k (x1.extract (x9 : Int).toNat x1.size) (x6 ++ x134001) x10 x11 (wrap64 (x12 + 1))) else (none)) else (none)) else (none)))
end
def spec_l3Apply.f (k : Nat) (l0 : List (S59)) (a1 : ByteArray) : Option (ByteArray × Bool) := spec_l3Apply.l0 k a1 (⟨#[]⟩ : ByteArray) l0 (l0.length : Int) 0
theorem spec_l3Apply.mono_l : ∀ k, (∀ y0 y1 y2 y3 y4, LeO (spec_l3Apply.l0 k y0 y1 y2 y3 y4) (spec_l3Apply.l0 (k + 1) y0 y1 y2 y3 y4)) ∧ (∀ y0 y1 y2 y3 y4 y5 y6 y7 y8 y9, LeO (spec_l3Apply.j1 k y0 y1 y2 y3 y4 y5 y6 y7 y8 y9) (spec_l3Apply.j1 (k + 1) y0 y1 y2 y3 y4 y5 y6 y7 y8 y9))
 | 0 => ⟨fun _ _ _ _ _ r h => by simp [spec_l3Apply.l0] at h, fun _ _ _ _ _ _ _ _ _ _ r h => by simp [spec_l3Apply.j1] at h⟩
 | k + 1 => by
  obtain ⟨ih0, ih1⟩ := spec_l3Apply.mono_l k
  refine ⟨?_, ?_⟩
  ·intro y0 y1 y2 y3 y4
   unfold spec_l3Apply.l0
   repeat' first
   | (with_reducible exact ih0 _ _ _ _ _)
   | (with_reducible exact ih1 _ _ _ _ _ _ _ _ _ _)
   | (with_reducible exact LeO.refl _)
   | (with_reducible exact LeO.none _)
   | (with_reducible refine LeO.ite ?_ ?_)
   | (with_reducible refine LeO.bind ?_ (fun _ => ?_))
  ·intro y0 y1 y2 y3 y4 y5 y6 y7 y8 y9
   unfold spec_l3Apply.j1
   repeat' first
   | (with_reducible exact ih0 _ _ _ _ _)
   | (with_reducible exact ih1 _ _ _ _ _ _ _ _ _ _)
   | (with_reducible exact LeO.refl _)
   | (with_reducible exact LeO.none _)
   | (with_reducible refine LeO.ite ?_ ?_)
   | (with_reducible refine LeO.bind ?_ (fun _ => ?_))
theorem spec_l3Apply.mono : ∀ a0 a1 k, LeO (spec_l3Apply.f k a0 a1) (spec_l3Apply.f (k + 1) a0 a1) := by
 intro a0 a1 k
 obtain ⟨ih0, ih1⟩ := spec_l3Apply.mono_l k
 unfold spec_l3Apply.f
 repeat' first
   | (with_reducible exact ih0 _ _ _ _ _)
   | (with_reducible exact ih1 _ _ _ _ _ _ _ _ _ _)
   | (with_reducible exact LeO.refl _)
   | (with_reducible exact LeO.none _)
   | (with_reducible refine LeO.ite ?_ ?_)
   | (with_reducible refine LeO.bind ?_ (fun _ => ?_))
set_option maxHeartbeats 8000000 in
set_option maxRecDepth 100000 in
theorem spec_l3Apply.calls (k : Nat) (A0 : Option Addr) (c0 : Nat) (l0 : List (S59)) (a1 : ByteArray) (r1 : ByteArray) (r2 : Bool) (w : World) (hr0 : Kd.C k59 w A0 l0.length l0) (hc0 : l0.length ≤ c0) (h : spec_l3Apply.f k l0 a1 = some (r1, r2)) :
  Calls Try.prog 26 #[.slice A0 l0.length c0, .string a1] w fun e w' => e = .returned (.tuple #[.string r1, .bool r2]) ∧ Below w.heap.size w w' := by
 have hu59 := Try.underlying59
 have dY := aM hr0
 have en := aM hc0
 clear hr0 hc0
 have HB := aM (Below.refl w.heap.size w)
 have H : (spec_l3Apply.l0 k a1 (⟨#[]⟩ : ByteArray) l0 (l0.length : Int) 0) = some (r1, r2) := h
 clear h
 have H' := aM H
 clear H
 go_enter Try.func26, Try.ntmps26
 go_wp2
 repeat (go_quiet (fail); try go_wp2)
 go_loopg [1, 6, 12] k (fun kq v1 v6 v12 w' => ∃ (x1_1 : ByteArray) (x6_1 : ByteArray) (x12_1 : Int), v1 = .string x1_1 ∧ v6 = .string x6_1 ∧ v12 = .int .i64 x12_1 ∧ Aside0 (spec_l3Apply.l0 kq x1_1 x6_1 l0 (l0.length : Int) x12_1 = some (r1, r2)) ∧ Aside0 (kq ≤ k) ∧ Aside0 (Below w.heap.size w w'))
 case atStart => exact ⟨(a1), ((⟨#[]⟩ : ByteArray)), (0), z2, z2, z2, H', ⟨Nat.le_refl _⟩, ⟨y5⟩⟩
 case round =>
  clear H'
  obtain ⟨x1_1, x6_1, x12_1, rfl, rfl, rfl, HA, HK1, HB⟩ := hrel
  cases gk with
  | zero => exact absurd HA.out (by simp [spec_l3Apply.l0])
  | succ k1 =>
   have H := HA.out
   clear HA
   simp only [spec_l3Apply.l0] at H
   by_cases c3 : x12_1 < (l0.length : Int)
   ·rw [if_pos c3] at H
    have c3b0 : decide (x12_1 < (l0.length : Int)) = true := dT c3
    clear c3
    by_cases c4 : 0 ≤ x12_1
    ·rw [if_pos c4] at H
     have c4b0 : decide (0 ≤ x12_1) = true := dT c4
     clear c4
     by_cases c5 : x12_1 < (l0.length : Int)
     ·rw [if_pos c5] at H
      have c5b0 : decide (x12_1 < (l0.length : Int)) = true := dT c5
      clear c5
      have mm := aM H
      clear H
      have p132 : 0 ≤ (x12_1 : Int) := oD z3
      have q132 : x12_1 < (l0.length : Int) := oD z3
      obtain ⟨ad132, e132, hx132_0, hx132_1, hx132_2⟩ := at_T59 dY.out x12_1 p132 q132
      cases e132
      replace hx132_0 := (HB.out.cell (World.block_lt_of_cell? w _ hx132_0)).trans hx132_0
      replace hx132_1 := (HB.out.cell (World.block_lt_of_cell? w _ hx132_1)).trans hx132_1
      replace hx132_2 := (HB.out.cell (World.block_lt_of_cell? w _ hx132_2)).trans hx132_2
      replace p132 := eq_true p132
      replace q132 := eq_true q132
      go_upto_region 6 with (first | ((with_reducible refine aN (N := 8) rfl ?_); refine aQ ?hg (N := 8) ?hd (cs := #[.int .i64 0, .string ⟨#[]⟩, .string ⟨#[]⟩]) (t := 59) ?hr ?_; (case hd => rfl); (case hg => rfl); (case hr => first | (go_simp; done) | (go_simp; rfl)); intro ei hg w7 hbox hb; have dc := aM (hbox); have sG := aM ((by rw [hg]; exact (aC z32) : w.heap.size ≤ ei)); have sK := aM ((by rw [hg]; exact (aC z32) : w.heap.size ≤ ei)); replace HB := aM (aA z32 hb); clear hb hbox hg; obtain ⟨k9, k8, k7, mG, kX, kW⟩ := cc3 dc.out))
      repeat (go_quiet (fail); go_upto_region 6 with (first | ((with_reducible refine aN (N := 8) rfl ?_); refine aQ ?hg (N := 8) ?hd (cs := #[.int .i64 0, .string ⟨#[]⟩, .string ⟨#[]⟩]) (t := 59) ?hr ?_; (case hd => rfl); (case hg => rfl); (case hr => first | (go_simp; done) | (go_simp; rfl)); intro ei hg w7 hbox hb; have dc := aM (hbox); have sG := aM ((by rw [hg]; exact (aC z32) : w.heap.size ≤ ei)); have sK := aM ((by rw [hg]; exact (aC z32) : w.heap.size ≤ ei)); replace HB := aM (aA z32 hb); clear hb hbox hg; obtain ⟨k9, k8, k7, mG, kX, kW⟩ := cc3 dc.out)))
      (try simp only [Act.put, sA, sB, sC])
      go_cut [38] (fun v38 wc => ∃ (kq : Nat) (x38_5 : Bool), v38 = .bool x38_5 ∧ Aside0 (spec_l3Apply.j1 kq x1_1 x6_1 (wrap64 (((rd_T59 l0 x12_1).f0) + (((rd_T59 l0 x12_1).f2).size : Int))) l0 (l0.length : Int) x12_1 x38_5 ((rd_T59 l0 x12_1).f0) ((rd_T59 l0 x12_1).f1) ((rd_T59 l0 x12_1).f2) = some (r1, r2)) ∧ Aside0 (kq ≤ k1) ∧ Aside0 (wc.heap[ei]? = some (.cells #[.int .i64 ((rd_T59 l0 x12_1).f0), .string ((rd_T59 l0 x12_1).f1), .string ((rd_T59 l0 x12_1).f2)] 59 (0, 0))) ∧ Aside0 (Below w.heap.size w wc))
      case first =>
       have H := mm.out
       clear mm
       by_cases c9 : (wrap64 (((rd_T59 l0 x12_1).f0) + (((rd_T59 l0 x12_1).f2).size : Int))) > (x1_1.size : Int)
       ·rw [if_pos c9] at H
        have c9b0 : decide ((x1_1.size : Int) < (wrap64 (((rd_T59 l0 x12_1).f0) + (((rd_T59 l0 x12_1).f2).size : Int)))) = true := dT c9
        clear c9
        (first | rw [c9b0] | (simp only [i64_w, i32_w]; rw [c9b0]) | skip)
        have H' := aM H
        clear H
        go_wp2
        repeat (go_quiet (fail); try go_wp2)
        go_meet
        case rel => exact ⟨_, (true), z2, H', ⟨y2⟩, ⟨y33⟩, ⟨y10⟩⟩
       ·rw [if_neg c9] at H
        have c9b0 : decide ((x1_1.size : Int) < (wrap64 (((rd_T59 l0 x12_1).f0) + (((rd_T59 l0 x12_1).f2).size : Int)))) = false := dF c9
        clear c9
        (first | rw [c9b0] | (simp only [i64_w, i32_w]; rw [c9b0]) | skip)
        by_cases fo : ((rd_T59 l0 x12_1).f2).toList = ([] : List UInt8)
        ·rw [if_pos fo] at H
         have c10b0 : (((rd_T59 l0 x12_1).f2).toList == ([] : List UInt8)) = true := qT fo
         have c10b1 : (((rd_T59 l0 x12_1).f2).toList != ([] : List UInt8)) = false := nF fo
         clear fo
         have H' := aM H
         clear H
         obtain ⟨iV, pM, pL, iS, pd, pb⟩ := cc3 dc.out
         go_wp2
         all_goals (try (exfalso; rename_i h_; rw [c10b0] at h_; cases h_; done))
         repeat (go_quiet (fail); try go_wp2)
         all_goals (try (exfalso; rename_i h_; rw [c10b0] at h_; cases h_; done))
         go_meet
         case rel => exact ⟨_, (false), z2, H', ⟨y2⟩, ⟨y33⟩, ⟨y10⟩⟩
        ·rw [if_neg fo] at H
         have c10b0 : (((rd_T59 l0 x12_1).f2).toList == ([] : List UInt8)) = false := qF fo
         have c10b1 : (((rd_T59 l0 x12_1).f2).toList != ([] : List UInt8)) = true := nT fo
         obtain ⟨ma, kV⟩ : ∃ j_ : Int, (wrap64 (((rd_T59 l0 x12_1).f0) + (((rd_T59 l0 x12_1).f2).size : Int))) = j_ := ⟨_, rfl⟩
         replace H : (if 0 ≤ (ma) then (if (ma) ≤ (x1_1.size : Int) then (spec_l3Apply.j1 k1 x1_1 x6_1 ma l0 (l0.length : Int) x12_1 ((x1_1.extract 0 ((ma) : Int).toNat).toList != ((rd_T59 l0 x12_1).f2).toList) ((rd_T59 l0 x12_1).f0) ((rd_T59 l0 x12_1).f1) ((rd_T59 l0 x12_1).f2)) else (none)) else (none)) = some (r1, r2) := by first | (rw [kV] at H; exact H) | (simp only [kV] at H ⊢; exact H)
         (try rw [kV] at c9b0)
         have hji12w : (IntKind.i64.wrap (((rd_T59 l0 x12_1).f0) + (((rd_T59 l0 x12_1).f2).size : Int))) = ma := (i64_w _).trans kV
         by_cases fZ : 0 ≤ (ma)
         ·rw [if_pos fZ] at H
          have c13b0 := eq_true fZ
          have c13b1 : decide (0 ≤ (ma)) = true := dT fZ
          clear fZ
          by_cases gF : (ma) ≤ (x1_1.size : Int)
          ·rw [if_pos gF] at H
           have c14b0 := eq_true gF
           have c14b1 : decide ((ma) ≤ (x1_1.size : Int)) = true := dT gF
           clear gF
           have H' := aM H
           clear H
           obtain ⟨kG, kF, kE, ku, kt, ks⟩ := cc3 dc.out
           go_wp2
           all_goals (try (exfalso; rename_i h_; rw [c10b0] at h_; cases h_; done))
           repeat (go_quiet (fail); try go_wp2)
           all_goals (try (exfalso; rename_i h_; rw [c10b0] at h_; cases h_; done))
           go_meet
           case rel => exact ⟨_, (((x1_1.extract 0 ((ma) : Int).toNat).toList != ((rd_T59 l0 x12_1).f2).toList)), (by first | rfl | (simp; done) | (simp only [← kV] <;> (first | rfl | (simp; done) | (simp; generalize ByteArray.toList _ = u_; cases u_ <;> (first | rfl | (simp; done))))) | (simp [*]; done)), (by first | exact H' | (simp only [kV]; exact H') | (simp only [← kV]; exact H')), ⟨y2⟩, ⟨y33⟩, ⟨y10⟩⟩
          ·rw [if_neg gF] at H
           exact absurd H (by simp)
         ·rw [if_neg fZ] at H
          exact absurd H (by simp)
      case rest =>
       clear mm
       try clear c2
       try clear p2
       try clear c3
       try clear c3b0
       try clear c4
       try clear c4b0
       try clear c5
       try clear c5b0
       try clear k9
       try clear k8
       try clear k7
       try clear mG
       try clear kX
       try clear kW
       try clear hx132_0
       try clear hx132_1
       try clear hx132_2
       try clear p132
       try clear p2
       try clear q132
       obtain ⟨kq, x38_5, rfl, HA, ri, dc, HB⟩ := hcut
       cases kq with
       | zero => exact absurd HA.out (by simp [spec_l3Apply.j1])
       | succ kj5 =>
        have H := HA.out
        clear HA
        simp only [spec_l3Apply.j1] at H
        by_cases gE : x38_5 = true
        ·subst gE
         rw [if_pos rfl] at H
         simp only [Option.some.injEq, Prod.mk.injEq] at H
         obtain ⟨rfl, rfl⟩ := H
         go_wp2
         repeat (go_quiet (fail); try go_wp2)
         go_ret2
         exact ⟨y4, y10⟩
        ·replace gE := Bool.eq_false_iff.mpr gE
         subst gE
         rw [if_neg nF_] at H
         by_cases gA : ((rd_T59 l0 x12_1).f0) > 0
         ·rw [if_pos gA] at H
          have c17b0 : decide (0 < ((rd_T59 l0 x12_1).f0)) = true := dT gA
          clear gA
          obtain ⟨gC, kU⟩ : ∃ j_ : Int, (wrap64 (((rd_T59 l0 x12_1).f0) + (((rd_T59 l0 x12_1).f2).size : Int))) = j_ := ⟨_, rfl⟩
          replace H : (if 0 ≤ (gC) then (if (gC) ≤ (x1_1.size : Int) then (if x6_1.size + (x1_1.extract 0 ((gC) : Int).toNat).size ≤ 9223372036854775807 then (if (x6_1 ++ (x1_1.extract 0 ((gC) : Int).toNat)).size + ((rd_T59 l0 x12_1).f1).size ≤ 9223372036854775807 then (spec_l3Apply.l0 kj5 (x1_1.extract ((gC) : Int).toNat x1_1.size) ((x6_1 ++ (x1_1.extract 0 ((gC) : Int).toNat)) ++ ((rd_T59 l0 x12_1).f1)) l0 (l0.length : Int) (wrap64 (x12_1 + 1))) else (none)) else (none)) else (none)) else (none)) = some (r1, r2) := by first | (rw [kU] at H; exact H) | (simp only [kU] at H ⊢; exact H)
          have hji18w : (IntKind.i64.wrap (((rd_T59 l0 x12_1).f0) + (((rd_T59 l0 x12_1).f2).size : Int))) = gC := (i64_w _).trans kU
          by_cases nI : 0 ≤ (gC)
          ·rw [if_pos nI] at H
           have c19b0 := eq_true nI
           have c19b1 : decide (0 ≤ (gC)) = true := dT nI
           clear nI
           by_cases np : (gC) ≤ (x1_1.size : Int)
           ·rw [if_pos np] at H
            have c20b0 := eq_true np
            have c20b1 : decide ((gC) ≤ (x1_1.size : Int)) = true := dT np
            clear np
            by_cases lU : x6_1.size + (x1_1.extract 0 ((gC) : Int).toNat).size ≤ 9223372036854775807
            ·rw [if_pos lU] at H
             have c21b0 := eq_true lU
             have c21b1 : decide (x6_1.size + (x1_1.extract 0 ((gC) : Int).toNat).size ≤ 9223372036854775807) = true := dT lU
             (try (have c21b1m := c21b1; simp only [a8, Nat.sub_zero] at c21b1m))
             (try (have c21b0m := c21b0; simp only [a8, Nat.sub_zero] at c21b0m))
             try have c21b2 : (9223372036854775807 < x6_1.size + (x1_1.extract 0 ((gC) : Int).toNat).size) = False := eq_false (Nat.not_lt.2 lU)
             (try (have c21x : (9223372036854775807 < x6_1.size + (gC).toNat) = False := eq_false (fun h_ => by have e_ := of_eq_true c21b0; simp only [a8, a7] at e_; have f0_ : (gC) ≤ (x1_1.size : Int) := (by first | assumption | exact of_eq_true (by assumption) | exact oD (by assumption)); omega)))
             by_cases qf : (x6_1 ++ (x1_1.extract 0 ((gC) : Int).toNat)).size + ((rd_T59 l0 x12_1).f1).size ≤ 9223372036854775807
             ·rw [if_pos qf] at H
              have c22b0 := eq_true qf
              have c22b1 : decide ((x6_1 ++ (x1_1.extract 0 ((gC) : Int).toNat)).size + ((rd_T59 l0 x12_1).f1).size ≤ 9223372036854775807) = true := dT qf
              try have c22b2 : (9223372036854775807 < (x6_1 ++ (x1_1.extract 0 ((gC) : Int).toNat)).size + ((rd_T59 l0 x12_1).f1).size) = False := eq_false (Nat.not_lt.2 qf)
              (try (have c22x : (9223372036854775807 < (x6_1.size + (gC).toNat) + ((rd_T59 l0 x12_1).f1).size) = False := eq_false (fun h_ => by have e_ := of_eq_true c22b0; simp only [a8, a7] at e_; have f0_ : (gC) ≤ (x1_1.size : Int) := (by first | assumption | exact of_eq_true (by assumption) | exact oD (by assumption)); omega)))
              (try (have c22b2s := c22b2; simp only [a7] at c22b2s))
              have c23b0 := eq_true (oD z3 : 0 ≤ (gC))
              have c24b0 := eq_true (oD z3 : (gC) ≤ (x1_1.size : Int))
              have H' := aM H
              clear H
              obtain ⟨hcz25_0, hcz25_1, hcz25_2, hfz25_0, hfz25_1, hfz25_2⟩ := cc3 dc.out
              go_wp2
              repeat (go_quiet (fail); try go_wp2)
              go_roundg kj5
              case measure => have := HK1.out; have := ri.out; omega
              case rel => exact ⟨(x1_1.extract ((gC) : Int).toNat x1_1.size), ((x6_1 ++ (x1_1.extract 0 ((gC) : Int).toNat)) ++ ((rd_T59 l0 x12_1).f1)), (wrap64 (x12_1 + 1)), (by first | rfl | (simp; done) | (simp only [← kU] <;> (first | rfl | (simp; done) | (simp; generalize ByteArray.toList _ = u_; cases u_ <;> (first | rfl | (simp; done))))) | (simp [*]; done)), (by first | rfl | (simp; done) | (simp only [← kU] <;> (first | rfl | (simp; done) | (simp; generalize ByteArray.toList _ = u_; cases u_ <;> (first | rfl | (simp; done))))) | (simp [*]; done)), z2, (by first | exact H' | (simp only [kU]; exact H') | (simp only [← kU]; exact H')), ⟨by have := HK1.out; have := ri.out; omega⟩, ⟨y10⟩⟩
             ·rw [if_neg qf] at H
              exact absurd H (by simp)
            ·rw [if_neg lU] at H
             exact absurd H (by simp)
           ·rw [if_neg np] at H
            exact absurd H (by simp)
          ·rw [if_neg nI] at H
           exact absurd H (by simp)
         ·rw [if_neg gA] at H
          have c17b0 : decide (0 < ((rd_T59 l0 x12_1).f0)) = false := dF gA
          clear gA
          by_cases qe : x6_1.size + ((rd_T59 l0 x12_1).f1).size ≤ 9223372036854775807
          ·rw [if_pos qe] at H
           have c26b0 := eq_true qe
           have c26b1 : decide (x6_1.size + ((rd_T59 l0 x12_1).f1).size ≤ 9223372036854775807) = true := dT qe
           try have c26b2 : (9223372036854775807 < x6_1.size + ((rd_T59 l0 x12_1).f1).size) = False := eq_false (Nat.not_lt.2 qe)
           obtain ⟨mE, me⟩ : ∃ j_ : Int, (wrap64 (((rd_T59 l0 x12_1).f0) + (((rd_T59 l0 x12_1).f2).size : Int))) = j_ := ⟨_, rfl⟩
           replace H : (if 0 ≤ (mE) then (if (mE) ≤ (x1_1.size : Int) then (spec_l3Apply.l0 kj5 (x1_1.extract ((mE) : Int).toNat x1_1.size) (x6_1 ++ ((rd_T59 l0 x12_1).f1)) l0 (l0.length : Int) (wrap64 (x12_1 + 1))) else (none)) else (none)) = some (r1, r2) := by first | (rw [me] at H; exact H) | (simp only [me] at H ⊢; exact H)
           have hji27w : (IntKind.i64.wrap (((rd_T59 l0 x12_1).f0) + (((rd_T59 l0 x12_1).f2).size : Int))) = mE := (i64_w _).trans me
           by_cases nm : 0 ≤ (mE)
           ·rw [if_pos nm] at H
            have c28b0 := eq_true nm
            have c28b1 : decide (0 ≤ (mE)) = true := dT nm
            clear nm
            by_cases jO : (mE) ≤ (x1_1.size : Int)
            ·rw [if_pos jO] at H
             have c29b0 := eq_true jO
             have c29b1 : decide ((mE) ≤ (x1_1.size : Int)) = true := dT jO
             clear jO
             have H' := aM H
             clear H
             obtain ⟨hcz30_0, hcz30_1, hcz30_2, hfz30_0, hfz30_1, hfz30_2⟩ := cc3 dc.out
             go_wp2
             repeat (go_quiet (fail); try go_wp2)
             go_roundg kj5
             case measure => have := HK1.out; have := ri.out; omega
             case rel => exact ⟨(x1_1.extract ((mE) : Int).toNat x1_1.size), (x6_1 ++ ((rd_T59 l0 x12_1).f1)), (wrap64 (x12_1 + 1)), (by first | rfl | (simp; done) | (simp only [← me] <;> (first | rfl | (simp; done) | (simp; generalize ByteArray.toList _ = u_; cases u_ <;> (first | rfl | (simp; done))))) | (simp [*]; done)), z2, z2, (by first | exact H' | (simp only [me]; exact H') | (simp only [← me]; exact H')), ⟨by have := HK1.out; have := ri.out; omega⟩, ⟨y10⟩⟩
            ·rw [if_neg jO] at H
             exact absurd H (by simp)
           ·rw [if_neg nm] at H
            exact absurd H (by simp)
          ·rw [if_neg qe] at H
           exact absurd H (by simp)
     ·rw [if_neg c5] at H
      exact absurd H (by simp)
    ·rw [if_neg c4] at H
     exact absurd H (by simp)
   ·rw [if_neg c3] at H
    have c3b0 : decide (x12_1 < (l0.length : Int)) = false := dF c3
    clear c3
    simp only [Option.some.injEq, Prod.mk.injEq] at H
    obtain ⟨rfl, rfl⟩ := H
    go_wp2
    repeat (go_quiet (fail); try go_wp2)
    go_ret2
    exact ⟨y4, y5⟩

/-! ### spec_l12Pieces: function 32 -/
def spec_l12Pieces.l0 : Nat → List ByteArray → List (S101) → Int → Int → Option (List ByteArray)
 | 0, _, _, _, _ => none
 | k + 1, x3, x6, x7, x8 => if x8 < x7 then (if 0 ≤ x8 then (if x8 < (x6.length : Int) then (if ((rd_T101 x6 x8).f0) < 0 then (if x3.length < 8796093022208 then (spec_l12Pieces.l0 k (x3 ++ [(rd_T101 x6 x8).f2]) x6 x7 (wrap64 (x8 + 1))) else (none)) else (spec_l12Pieces.l0 k x3 x6 x7 (wrap64 (x8 + 1)))) else (none)) else (none)) else (some x3)
def spec_l12Pieces.f (k : Nat) (l0 : List (S101)) : Option (List ByteArray) := spec_l12Pieces.l0 k ([] : List ByteArray) l0 (l0.length : Int) 0
theorem spec_l12Pieces.mono_l : ∀ k, (∀ y0 y1 y2 y3, LeO (spec_l12Pieces.l0 k y0 y1 y2 y3) (spec_l12Pieces.l0 (k + 1) y0 y1 y2 y3))
 | 0 => fun _ _ _ _ r h => by simp [spec_l12Pieces.l0] at h
 | k + 1 => by
  have ih0 := spec_l12Pieces.mono_l k
  ·intro y0 y1 y2 y3
   unfold spec_l12Pieces.l0
   repeat' first
   | (with_reducible exact ih0 _ _ _ _)
   | (with_reducible exact LeO.refl _)
   | (with_reducible exact LeO.none _)
   | (with_reducible refine LeO.ite ?_ ?_)
   | (with_reducible refine LeO.bind ?_ (fun _ => ?_))
theorem spec_l12Pieces.mono : ∀ a0 k, LeO (spec_l12Pieces.f k a0) (spec_l12Pieces.f (k + 1) a0) := by
 intro a0 k
 have ih0 := spec_l12Pieces.mono_l k
 unfold spec_l12Pieces.f
 repeat' first
   | (with_reducible exact ih0 _ _ _ _)
   | (with_reducible exact LeO.refl _)
   | (with_reducible exact LeO.none _)
   | (with_reducible refine LeO.ite ?_ ?_)
   | (with_reducible refine LeO.bind ?_ (fun _ => ?_))
set_option maxHeartbeats 8000000 in
set_option maxRecDepth 100000 in
theorem spec_l12Pieces.calls (k : Nat) (A0 : Option Addr) (c0 : Nat) (l0 : List (S101)) (r : List ByteArray) (w : World) (hr0 : Kd.C k101 w A0 l0.length l0) (hc0 : l0.length ≤ c0) (h : spec_l12Pieces.f k l0 = some r) :
  Calls Try.prog 32 #[.slice A0 l0.length c0] w fun e w' => ∃ v0_ : Value, e = .returned (v0_) ∧ Kd.R Kd.string 9 w' w.heap.size (fun _ => True) v0_ r ∧ Below w.heap.size w w' := by
 have hu101 := Try.underlying101
 have dY := aM hr0
 have en := aM hc0
 clear hr0 hc0
 have HB := aM (Below.refl w.heap.size w)
 have H : (spec_l12Pieces.l0 k ([] : List ByteArray) l0 (l0.length : Int) 0) = some r := h
 clear h
 have H' := aM H
 clear H
 go_enter Try.func32, Try.ntmps32
 go_wp2
 go_loopg [3, 8] k (fun kq v3 v8 w' => ∃ (x3_1 : List ByteArray) (x8_1 : Int), v8 = .int .i64 x8_1 ∧ Aside0 (spec_l12Pieces.l0 kq x3_1 l0 (l0.length : Int) x8_1 = some r) ∧ Aside0 (kq ≤ k) ∧ Aside0 (Kd.R Kd.string 9 w' w.heap.size (fun _ => True) v3 x3_1) ∧ Aside0 (Below w.heap.size w w'))
 case atStart => exact ⟨(([] : List ByteArray)), (0), z2, H', ⟨Nat.le_refl _⟩, ⟨y12⟩, ⟨y5⟩⟩
 case round =>
  clear H'
  obtain ⟨x3_1, x8_1, rfl, HA, HK1, du, HB⟩ := hrel
  cases gk with
  | zero => exact absurd HA.out (by simp [spec_l12Pieces.l0])
  | succ k1 =>
   have H := HA.out
   clear HA
   simp only [spec_l12Pieces.l0] at H
   by_cases c2 : x8_1 < (l0.length : Int)
   ·rw [if_pos c2] at H
    have c2b0 : decide (x8_1 < (l0.length : Int)) = true := dT c2
    clear c2
    by_cases c3 : 0 ≤ x8_1
    ·rw [if_pos c3] at H
     have c3b0 : decide (0 ≤ x8_1) = true := dT c3
     clear c3
     by_cases c4 : x8_1 < (l0.length : Int)
     ·rw [if_pos c4] at H
      have c4b0 : decide (x8_1 < (l0.length : Int)) = true := dT c4
      clear c4
      by_cases c5 : ((rd_T101 l0 x8_1).f0) < 0
      ·rw [if_pos c5] at H
       have c5b0 : decide (((rd_T101 l0 x8_1).f0) < 0) = true := dT c5
       clear c5
       by_cases c6 : x3_1.length < 8796093022208
       ·rw [if_pos c6] at H
        have LMc6 := aM c6
        clear c6
        obtain ⟨y136, hy136⟩ : ∃ y_ : List ByteArray, y_ = (x3_1 ++ [(rd_T101 l0 x8_1).f2]) := ⟨_, rfl⟩
        replace H : (spec_l12Pieces.l0 k1 y136 l0 (l0.length : Int) (wrap64 (x8_1 + 1))) = some r := by first | (rw [hy136]; with_reducible exact H) | (have H2_ := (Option.bind_some _ _).symm.trans H; rw [hy136]; with_reducible exact H2_) | (have H2_ := (Option.bind_some _ _).symm.trans H; with_reducible exact H2_) | with_reducible exact H | (rw [hy136]; exact H) | exact H
        have Ny136 := aM hy136
        clear hy136
        have H' := aM H
        clear H
        have p134 : 0 ≤ (x8_1 : Int) := oD z3
        have q134 : x8_1 < (l0.length : Int) := oD z3
        obtain ⟨ad134, e134, hx134_0, hx134_1, hx134_2, hx134_3, hx134_4⟩ := at_T101 dY.out x8_1 p134 q134
        cases e134
        replace hx134_0 := (HB.out.cell (World.block_lt_of_cell? w _ hx134_0)).trans hx134_0
        replace hx134_1 := (HB.out.cell (World.block_lt_of_cell? w _ hx134_1)).trans hx134_1
        replace hx134_2 := (HB.out.cell (World.block_lt_of_cell? w _ hx134_2)).trans hx134_2
        replace hx134_3 := (HB.out.cell (World.block_lt_of_cell? w _ hx134_3)).trans hx134_3
        replace hx134_4 := (HB.out.cell (World.block_lt_of_cell? w _ hx134_4)).trans hx134_4
        replace p134 := eq_true p134
        replace q134 := eq_true q134
        go_wp2_with (first | ((with_reducible refine aN (N := 5) rfl ?_); refine aQ ?hg (N := 5) ?hd (cs := #[.int .i64 0, .int .i64 0, .string ⟨#[]⟩, .int .i64 0, .int .i64 0]) (t := 101) ?hr ?_; (case hd => rfl); (case hg => rfl); (case hr => first | (go_simp; done) | (go_simp; rfl)); intro fp hg w7 hbox hb; replace du := aM (ag z4 hb); have fl := aM (hbox); have GW135 := aM ((by rw [hg]; exact (aC z32) : w.heap.size ≤ fp)); have od := aM ((by rw [hg]; exact (aC z32) : w.heap.size ≤ fp)); replace HB := aM (aA z32 hb); clear hb hbox hg; obtain ⟨k9, k8, k7, hcz8_3, hcz8_4, mG, kX, kW, hfz8_3, hfz8_4⟩ := cc5 fl.out) | ((with_reducible refine gate_builtin (b := .append) (xs := #[.tmp 15, .tmp 18]) rfl ?_); at_builtin; refine aX Kd.string (w0 := w) w.heap.size rfl (.tmp 15) (.tmp 18) 60 9 (.string ⟨#[]⟩) 16 rfl Try.underlying60 info9 rfl z0 (by omega) u3 x3_1 ((rd_T101 l0 x8_1).f2) [.string ((rd_T101 l0 x8_1).f2)] (fun _ => True) (fun _ => False) rfl (by first | (go_simp; done) | (go_simp; rfl)) ?aP (fun _ hk => hk.elim) ?aF ?aO ?aB ?aS ?aL ?_; (case aP => exact rfl); (case aB => exact (by repeat (first | (with_reducible first | exact HB.out | apply bA | apply pD | apply bD | refine az ?_ od.out) | exact HB.out))); (case aF => exact (fun _ _ => trivial)); (case aO => exact (by (with_reducible repeat (first | apply ae | apply ac | apply aa)); exact ah (ap (p := ⟨fp, 4, none⟩) (ap (p := ⟨fp, 3, none⟩) (ap (p := ⟨fp, 2, none⟩) (ap (p := ⟨fp, 1, none⟩) (ap (p := ⟨fp, 0, none⟩) (aq du.out fl.out z0) (fun _ hk => hk.2) (.int .i64 ((rd_T101 l0 x8_1).f0))) (fun _ hk => hk.2) (.int .i64 ((rd_T101 l0 x8_1).f1))) (fun _ hk => hk.2) (.string ((rd_T101 l0 x8_1).f2))) (fun _ hk => hk.2) (.int .i64 ((rd_T101 l0 x8_1).f3))) (fun _ hk => hk.2) (.int .i64 ((rd_T101 l0 x8_1).f4))) (fun _ hk => trivial))); (case aS => exact (aC (by repeat (first | (with_reducible first | exact HB.out | apply bA | apply pD | apply bD | refine az ?_ od.out) | exact HB.out)))); (case aL => have := LMc6.out; omega); intro v137 w9 ho hb hg hat; rw [← Ny136.out] at ho; replace fl := aM (blk_grown (g := fp) (o := .cells #[.int .i64 ((rd_T101 l0 x8_1).f0), .int .i64 ((rd_T101 l0 x8_1).f1), .string ((rd_T101 l0 x8_1).f2), .int .i64 ((rd_T101 l0 x8_1).f3), .int .i64 ((rd_T101 l0 x8_1).f4)] 101 (0, 0)) (by (with_reducible repeat (first | refine au ?_ _ | refine ar ?_ | refine av ?_ _)); refine ax (cs := #[.int .i64 ((rd_T101 l0 x8_1).f0), .int .i64 ((rd_T101 l0 x8_1).f1), .string ((rd_T101 l0 x8_1).f2), .int .i64 ((rd_T101 l0 x8_1).f3), .int .i64 0]) ?_ 4 _ rfl; (with_reducible repeat (first | refine au ?_ _ | refine ar ?_ | refine av ?_ _)); refine ax (cs := #[.int .i64 ((rd_T101 l0 x8_1).f0), .int .i64 ((rd_T101 l0 x8_1).f1), .string ((rd_T101 l0 x8_1).f2), .int .i64 0, .int .i64 0]) ?_ 3 _ rfl; (with_reducible repeat (first | refine au ?_ _ | refine ar ?_ | refine av ?_ _)); refine ax (cs := #[.int .i64 ((rd_T101 l0 x8_1).f0), .int .i64 ((rd_T101 l0 x8_1).f1), .string ⟨#[]⟩, .int .i64 0, .int .i64 0]) ?_ 2 _ rfl; (with_reducible repeat (first | refine au ?_ _ | refine ar ?_ | refine av ?_ _)); refine ax (cs := #[.int .i64 ((rd_T101 l0 x8_1).f0), .int .i64 0, .string ⟨#[]⟩, .int .i64 0, .int .i64 0]) ?_ 1 _ rfl; (with_reducible repeat (first | refine au ?_ _ | refine ar ?_ | refine av ?_ _)); refine ax (cs := #[.int .i64 0, .int .i64 0, .string ⟨#[]⟩, .int .i64 0, .int .i64 0]) ?_ 0 _ rfl; (with_reducible repeat (first | refine au ?_ _ | refine ar ?_ | refine av ?_ _)); exact fl.out) hg (Kd.R_ne du.out fl.out z0)); replace HB := aM (hb); have HO138 := aM (ho); clear du; clear ho hb hg hat))
        go_roundg k1
        case measure => have := HK1.out; omega
        case rel => exact ⟨(y136), (wrap64 (x8_1 + 1)), z2, H', ⟨y0⟩, ⟨kR_ HO138.out⟩, ⟨by repeat (first | (with_reducible first | exact HB.out | apply bA | apply pD | apply bD | refine az ?_ od.out) | exact HB.out)⟩⟩
       ·rw [if_neg c6] at H
        exact absurd H (by simp)
      ·rw [if_neg c5] at H
       have c5b0 : decide (((rd_T101 l0 x8_1).f0) < 0) = false := dF c5
       clear c5
       have H' := aM H
       clear H
       have p134 : 0 ≤ (x8_1 : Int) := oD z3
       have q134 : x8_1 < (l0.length : Int) := oD z3
       obtain ⟨ad134, e134, hx134_0, hx134_1, hx134_2, hx134_3, hx134_4⟩ := at_T101 dY.out x8_1 p134 q134
       cases e134
       replace hx134_0 := (HB.out.cell (World.block_lt_of_cell? w _ hx134_0)).trans hx134_0
       replace hx134_1 := (HB.out.cell (World.block_lt_of_cell? w _ hx134_1)).trans hx134_1
       replace hx134_2 := (HB.out.cell (World.block_lt_of_cell? w _ hx134_2)).trans hx134_2
       replace hx134_3 := (HB.out.cell (World.block_lt_of_cell? w _ hx134_3)).trans hx134_3
       replace hx134_4 := (HB.out.cell (World.block_lt_of_cell? w _ hx134_4)).trans hx134_4
       replace p134 := eq_true p134
       replace q134 := eq_true q134
       go_wp2_with (first | ((with_reducible refine aN (N := 5) rfl ?_); refine aQ ?hg (N := 5) ?hd (cs := #[.int .i64 0, .int .i64 0, .string ⟨#[]⟩, .int .i64 0, .int .i64 0]) (t := 101) ?hr ?_; (case hd => rfl); (case hg => rfl); (case hr => first | (go_simp; done) | (go_simp; rfl)); intro fp hg w10 hbox hb; replace du := aM (ag z4 hb); have fl := aM (hbox); have GW135 := aM ((by rw [hg]; exact (aC z32) : w.heap.size ≤ fp)); have od := aM ((by rw [hg]; exact (aC z32) : w.heap.size ≤ fp)); replace HB := aM (aA z32 hb); clear hb hbox hg; obtain ⟨iV, pM, pL, hcz11_3, hcz11_4, iS, pd, pb, hfz11_3, hfz11_4⟩ := cc5 fl.out))
       go_roundg k1
       case measure => have := HK1.out; omega
       case rel => exact ⟨(x3_1), (wrap64 (x8_1 + 1)), z2, H', ⟨y0⟩, ⟨by (with_reducible repeat (first | apply ae | apply ac | apply aa)); exact ah (ap (p := ⟨fp, 4, none⟩) (ap (p := ⟨fp, 3, none⟩) (ap (p := ⟨fp, 2, none⟩) (ap (p := ⟨fp, 1, none⟩) (ap (p := ⟨fp, 0, none⟩) (aq du.out fl.out z0) (fun _ hk => hk.2) (.int .i64 ((rd_T101 l0 x8_1).f0))) (fun _ hk => hk.2) (.int .i64 ((rd_T101 l0 x8_1).f1))) (fun _ hk => hk.2) (.string ((rd_T101 l0 x8_1).f2))) (fun _ hk => hk.2) (.int .i64 ((rd_T101 l0 x8_1).f3))) (fun _ hk => hk.2) (.int .i64 ((rd_T101 l0 x8_1).f4))) (fun _ hk => trivial)⟩, ⟨by repeat (first | (with_reducible first | exact HB.out | apply bA | apply pD | apply bD | refine az ?_ od.out) | exact HB.out)⟩⟩
     ·rw [if_neg c4] at H
      exact absurd H (by simp)
    ·rw [if_neg c3] at H
     exact absurd H (by simp)
   ·rw [if_neg c2] at H
    have c2b0 : decide (x8_1 < (l0.length : Int)) = false := dF c2
    clear c2
    obtain rfl := sI H
    go_wp2
    go_ret
    exact ⟨_, y4, y6, y5⟩

/-! ### spec_l12Text: function 27 -/
def spec_l12Text.l0 : Nat → ByteArray → List ByteArray → Int → Int → Option (ByteArray)
 | 0, _, _, _, _ => none
 | k + 1, x3, x7, x8, x9 => if x9 < x8 then (if 0 ≤ x9 then (if x9 < (x7.length : Int) then (if x3.size + (rdOf ByteArray.empty x7 x9).size ≤ 9223372036854775807 then (spec_l12Text.l0 k (x3 ++ (rdOf ByteArray.empty x7 x9)) x7 x8 (wrap64 (x9 + 1))) else (none)) else (none)) else (none)) else (some x3)
def spec_l12Text.f (k : Nat) (l0 : List (S101)) : Option (ByteArray) := (spec_l12Pieces.f k l0).bind fun g7 => (spec_l12Text.l0 k (⟨#[]⟩ : ByteArray) g7 (g7.length : Int) 0)
theorem spec_l12Text.mono_l : ∀ k, (∀ y0 y1 y2 y3, LeO (spec_l12Text.l0 k y0 y1 y2 y3) (spec_l12Text.l0 (k + 1) y0 y1 y2 y3))
 | 0 => fun _ _ _ _ r h => by simp [spec_l12Text.l0] at h
 | k + 1 => by
  have ih0 := spec_l12Text.mono_l k
  ·intro y0 y1 y2 y3
   unfold spec_l12Text.l0
   repeat' first
   | (with_reducible exact ih0 _ _ _ _)
   | (with_reducible exact spec_l12Pieces.mono _ _)
   | (with_reducible exact LeO.refl _)
   | (with_reducible exact LeO.none _)
   | (with_reducible refine LeO.ite ?_ ?_)
   | (with_reducible refine LeO.bind ?_ (fun _ => ?_))
theorem spec_l12Text.mono : ∀ a0 k, LeO (spec_l12Text.f k a0) (spec_l12Text.f (k + 1) a0) := by
 intro a0 k
 have ih0 := spec_l12Text.mono_l k
 unfold spec_l12Text.f
 repeat' first
   | (with_reducible exact ih0 _ _ _ _)
   | (with_reducible exact spec_l12Pieces.mono _ _)
   | (with_reducible exact LeO.refl _)
   | (with_reducible exact LeO.none _)
   | (with_reducible refine LeO.ite ?_ ?_)
   | (with_reducible refine LeO.bind ?_ (fun _ => ?_))
set_option maxHeartbeats 8000000 in
set_option maxRecDepth 100000 in
theorem spec_l12Text.calls (k : Nat) (A0 : Option Addr) (c0 : Nat) (l0 : List (S101)) (r : ByteArray) (w : World) (hr0 : Kd.C k101 w A0 l0.length l0) (hc0 : l0.length ≤ c0) (h : spec_l12Text.f k l0 = some r) :
  Calls Try.prog 27 #[.slice A0 l0.length c0] w fun e w' => e = .returned (.string r) ∧ Below w.heap.size w w' := by
 have dY := aM hr0
 have en := aM hc0
 clear hr0 hc0
 have HB := aM (Below.refl w.heap.size w)
 have H : ((spec_l12Pieces.f k l0).bind fun g7 => (spec_l12Text.l0 k (⟨#[]⟩ : ByteArray) g7 (g7.length : Int) 0)) = some r := h
 clear h
 obtain ⟨g7, A2, H⟩ := oA_ H
 try dsimp only at H
 have H' := aM H
 clear H
 go_enter Try.func27, Try.ntmps27
 go_wp2_with (first | ((with_reducible refine aK (f := 32) rfl ?_); refine aT (some 7) rfl rfl Try.func32 z1 rfl #[.slice A0 l0.length c0] rfl z33 ?_; (with_reducible refine (spec_l12Pieces.calls k _ _ l0 g7 _ ?side1 ?side2 A2.out).mono ?_); (case side1 => exact y34); (case side2 => exact en.out); rintro e w3 ⟨v140, rfl, ho0, hb⟩; refine ⟨_, rfl, ?_⟩; have sE := aM (aW ho0 (aC z32)); replace HB := aM (aA z32 hb); (try clear hb); (try clear ho0); obtain ⟨Ao4, co4, eo4⟩ := Kd.R_slice sE.out; subst eo4))
 go_loopg [3, 9] k (fun kq v3 v9 w' => ∃ (x3_1 : ByteArray) (x9_1 : Int), v3 = .string x3_1 ∧ v9 = .int .i64 x9_1 ∧ Aside0 (spec_l12Text.l0 kq x3_1 g7 (g7.length : Int) x9_1 = some r) ∧ Aside0 (kq ≤ k) ∧ Aside0 (Kd.R Kd.string 9 w' w.heap.size (fun _ => True) (.slice Ao4 g7.length co4) g7) ∧ Aside0 (Below w.heap.size w w'))
 case atStart => exact ⟨((⟨#[]⟩ : ByteArray)), (0), z2, z2, H', ⟨Nat.le_refl _⟩, ⟨kR_ sE.out⟩, ⟨y5⟩⟩
 case round =>
  clear H'
  obtain ⟨x3_1, x9_1, rfl, rfl, HA, HK1, vx, HB⟩ := hrel
  cases gk with
  | zero => exact absurd HA.out (by simp [spec_l12Text.l0])
  | succ k1 =>
   have H := HA.out
   clear HA
   simp only [spec_l12Text.l0] at H
   by_cases c5 : x9_1 < (g7.length : Int)
   ·rw [if_pos c5] at H
    have c5b0 : decide (x9_1 < (g7.length : Int)) = true := dT c5
    clear c5
    by_cases c6 : 0 ≤ x9_1
    ·rw [if_pos c6] at H
     have c6b0 : decide (0 ≤ x9_1) = true := dT c6
     clear c6
     by_cases c7 : x9_1 < (g7.length : Int)
     ·rw [if_pos c7] at H
      have c7b0 : decide (x9_1 < (g7.length : Int)) = true := dT c7
      clear c7
      by_cases c8 : x3_1.size + (rdOf ByteArray.empty g7 x9_1).size ≤ 9223372036854775807
      ·rw [if_pos c8] at H
       have c8b0 := eq_true c8
       have c8b1 : decide (x3_1.size + (rdOf ByteArray.empty g7 x9_1).size ≤ 9223372036854775807) = true := dT c8
       try have c8b2 : (9223372036854775807 < x3_1.size + (rdOf ByteArray.empty g7 x9_1).size) = False := eq_false (Nat.not_lt.2 c8)
       have H' := aM H
       clear H
       have p142 : 0 ≤ (x9_1 : Int) := oD z3
       have q142 : x9_1 < (g7.length : Int) := oD z3
       obtain ⟨ad142, e142, hx142_0⟩ := Kd.at_string (ai vx.out).2.2 x9_1 p142 q142
       cases e142
       replace p142 := eq_true p142
       replace q142 := eq_true q142
       go_wp2
       go_roundg k1
       case measure => have := HK1.out; omega
       case rel => exact ⟨(x3_1 ++ (rdOf ByteArray.empty g7 x9_1)), (wrap64 (x9_1 + 1)), z2, z2, H', ⟨y0⟩, ⟨kR_ vx.out⟩, ⟨y5⟩⟩
      ·rw [if_neg c8] at H
       exact absurd H (by simp)
     ·rw [if_neg c7] at H
      exact absurd H (by simp)
    ·rw [if_neg c6] at H
     exact absurd H (by simp)
   ·rw [if_neg c5] at H
    have c5b0 : decide (x9_1 < (g7.length : Int)) = false := dF c5
    clear c5
    obtain rfl := sI H
    go_wp2
    go_ret
    exact ⟨y4, y5⟩

/-! ### spec_l12Cut: function 28 -/
def spec_l12Cut.l0 : Nat → ByteArray → List ByteArray → Option (List ByteArray)
 | 0, _, _ => none
 | k + 1, x0, x3 => if (x0.size : Int) > 8 then (if 0 ≤ 8 then (if 8 ≤ (x0.size : Int) then (if x3.length < 8796093022208 then (spec_l12Cut.l0 k (x0.extract 8 x0.size) (x3 ++ [x0.extract 0 8])) else (none)) else (none)) else (none)) else (if x0.toList = ([] : List UInt8) then (some x3) else (if x3.length < 8796093022208 then (some (x3 ++ [x0])) else (none)))
def spec_l12Cut.f (k : Nat) (a0 : ByteArray) : Option (List ByteArray) := spec_l12Cut.l0 k a0 ([] : List ByteArray)
theorem spec_l12Cut.mono_l : ∀ k, (∀ y0 y1, LeO (spec_l12Cut.l0 k y0 y1) (spec_l12Cut.l0 (k + 1) y0 y1))
 | 0 => fun _ _ r h => by simp [spec_l12Cut.l0] at h
 | k + 1 => by
  have ih0 := spec_l12Cut.mono_l k
  ·intro y0 y1
   unfold spec_l12Cut.l0
   repeat' first
   | (with_reducible exact ih0 _ _)
   | (with_reducible exact LeO.refl _)
   | (with_reducible exact LeO.none _)
   | (with_reducible refine LeO.ite ?_ ?_)
   | (with_reducible refine LeO.bind ?_ (fun _ => ?_))
theorem spec_l12Cut.mono : ∀ a0 k, LeO (spec_l12Cut.f k a0) (spec_l12Cut.f (k + 1) a0) := by
 intro a0 k
 have ih0 := spec_l12Cut.mono_l k
 unfold spec_l12Cut.f
 repeat' first
   | (with_reducible exact ih0 _ _)
   | (with_reducible exact LeO.refl _)
   | (with_reducible exact LeO.none _)
   | (with_reducible refine LeO.ite ?_ ?_)
   | (with_reducible refine LeO.bind ?_ (fun _ => ?_))
set_option maxHeartbeats 8000000 in
set_option maxRecDepth 100000 in
theorem spec_l12Cut.calls (k : Nat) (a0 : ByteArray) (r : List ByteArray) (w : World) (h : spec_l12Cut.f k a0 = some r) :
  Calls Try.prog 28 #[.string a0] w fun e w' => ∃ v0_ : Value, e = .returned (v0_) ∧ Kd.R Kd.string 9 w' w.heap.size (fun _ => True) v0_ r ∧ Below w.heap.size w w' := by
 have HB := aM (Below.refl w.heap.size w)
 have H : (spec_l12Cut.l0 k a0 ([] : List ByteArray)) = some r := h
 clear h
 have H' := aM H
 clear H
 go_enter Try.func28, Try.ntmps28
 go_wp2
 go_loopg [0, 3] k (fun kq v0 v3 w' => ∃ (x0_1 : ByteArray) (x3_1 : List ByteArray), v0 = .string x0_1 ∧ Aside0 (spec_l12Cut.l0 kq x0_1 x3_1 = some r) ∧ Aside0 (kq ≤ k) ∧ Aside0 (Kd.R Kd.string 9 w' w.heap.size (fun _ => True) v3 x3_1) ∧ Aside0 (Below w.heap.size w w'))
 case atStart => exact ⟨(a0), (([] : List ByteArray)), z2, H', ⟨Nat.le_refl _⟩, ⟨y12⟩, ⟨y5⟩⟩
 case round =>
  clear H'
  obtain ⟨x0_1, x3_1, rfl, HA, HK1, du, HB⟩ := hrel
  cases gk with
  | zero => exact absurd HA.out (by simp [spec_l12Cut.l0])
  | succ k1 =>
   have H := HA.out
   clear HA
   simp only [spec_l12Cut.l0] at H
   by_cases c2 : (x0_1.size : Int) > 8
   ·rw [if_pos c2] at H
    have c2b0 : decide (8 < (x0_1.size : Int)) = true := dT c2
    have c2b1 : decide (8 < x0_1.size) = true := dT (by omega)
    clear c2
    by_cases c3 : 0 ≤ 8
    ·rw [if_pos c3] at H
     have c3b0 := eq_true c3
     have c3b1 : decide (0 ≤ 8) = true := dT c3
     clear c3
     by_cases c4 : 8 ≤ (x0_1.size : Int)
     ·rw [if_pos c4] at H
      have c4b0 := eq_true c4
      have c4b1 : decide (8 ≤ (x0_1.size : Int)) = true := dT c4
      clear c4
      by_cases c5 : x3_1.length < 8796093022208
      ·rw [if_pos c5] at H
       have LMc5 := aM c5
       clear c5
       obtain ⟨y143, hy143⟩ : ∃ y_ : List ByteArray, y_ = (x3_1 ++ [x0_1.extract 0 8]) := ⟨_, rfl⟩
       replace H : (spec_l12Cut.l0 k1 (x0_1.extract 8 x0_1.size) y143) = some r := by first | (rw [hy143]; with_reducible exact H) | (have H2_ := (Option.bind_some _ _).symm.trans H; rw [hy143]; with_reducible exact H2_) | (have H2_ := (Option.bind_some _ _).symm.trans H; with_reducible exact H2_) | with_reducible exact H | (rw [hy143]; exact H) | exact H
       have Ny143 := aM hy143
       clear hy143
       have c6b0 := eq_true (oD z3 : 8 ≤ (x0_1.size : Int))
       have H' := aM H
       clear H
       go_wp2_with (first | ((with_reducible refine gate_builtin (b := .append) (xs := #[.tmp 7, .tmp 10]) rfl ?_); at_builtin; refine aX Kd.string (w0 := w) w.heap.size rfl (.tmp 7) (.tmp 10) 60 9 (.string ⟨#[]⟩) 16 rfl Try.underlying60 info9 rfl z0 (by omega) u3 x3_1 (x0_1.extract 0 8) [.string (x0_1.extract 0 8)] (fun _ => True) (fun _ => False) rfl rfl ?aP (fun _ hk => hk.elim) ?aF ?aO ?aB ?aS ?aL ?_; (case aP => exact rfl); (case aB => exact z32); (case aF => exact (fun _ _ => trivial)); (case aO => exact z4); (case aS => exact (aC z32)); (case aL => have := LMc5.out; omega); intro v144 w7 ho hb hg hat; rw [← Ny143.out] at ho; replace HB := aM (hb); have HO145 := aM (ho); clear du; clear ho hb hg hat))
       go_roundg k1
       case measure => have := HK1.out; omega
       case rel => exact ⟨(x0_1.extract 8 x0_1.size), (y143), z2, H', ⟨y0⟩, ⟨kR_ HO145.out⟩, ⟨y5⟩⟩
      ·rw [if_neg c5] at H
       exact absurd H (by simp)
     ·rw [if_neg c4] at H
      exact absurd H (by simp)
    ·exact absurd z0 c3
   ·rw [if_neg c2] at H
    have c2b0 : decide (8 < (x0_1.size : Int)) = false := dF c2
    have c2b1 : decide (8 < x0_1.size) = false := dF (by omega)
    clear c2
    by_cases c8 : x0_1.toList = ([] : List UInt8)
    ·rw [if_pos c8] at H
     have c8b0 : (x0_1.toList == ([] : List UInt8)) = true := qT c8
     have c8b1 : (x0_1.toList != ([] : List UInt8)) = false := nF c8
     clear c8
     obtain rfl := sI H
     go_wp2
     all_goals (try (exfalso; rename_i h_; rw [c8b0] at h_; cases h_; done))
     go_ret
     exact ⟨_, y4, y6, y5⟩
    ·rw [if_neg c8] at H
     have c8b0 : (x0_1.toList == ([] : List UInt8)) = false := qF c8
     have c8b1 : (x0_1.toList != ([] : List UInt8)) = true := nT c8
     by_cases c9 : x3_1.length < 8796093022208
     ·rw [if_pos c9] at H
      have LMc9 := aM c9
      clear c9
      obtain ⟨y146, hy146⟩ : ∃ y_ : List ByteArray, y_ = (x3_1 ++ [x0_1]) := ⟨_, rfl⟩
      replace H : (some y146) = some r := by first | (rw [hy146]; with_reducible exact H) | (have H2_ := (Option.bind_some _ _).symm.trans H; rw [hy146]; with_reducible exact H2_) | (have H2_ := (Option.bind_some _ _).symm.trans H; with_reducible exact H2_) | with_reducible exact H | (rw [hy146]; exact H) | exact H
      have Ny146 := aM hy146
      clear hy146
      obtain rfl := sI H
      go_wp2_with (first | ((with_reducible refine gate_builtin (b := .append) (xs := #[.tmp 16, .tmp 18]) rfl ?_); at_builtin; refine aX Kd.string (w0 := w) w.heap.size rfl (.tmp 16) (.tmp 18) 60 9 (.string ⟨#[]⟩) 16 rfl Try.underlying60 info9 rfl z0 (by omega) u3 x3_1 x0_1 [.string x0_1] (fun _ => True) (fun _ => False) rfl rfl ?aP (fun _ hk => hk.elim) ?aF ?aO ?aB ?aS ?aL ?_; (case aP => exact rfl); (case aB => exact z32); (case aF => exact (fun _ _ => trivial)); (case aO => exact z4); (case aS => exact (aC z32)); (case aL => have := LMc9.out; omega); intro v147 w10 ho hb hg hat; rw [← Ny146.out] at ho; replace HB := aM (hb); have HO148 := aM (ho); clear du; clear ho hb hg hat))
      all_goals (try (exfalso; rename_i h_; rw [c8b0] at h_; cases h_; done))
      go_ret
      exact ⟨_, y4, by (with_reducible repeat (first | apply ae | apply ac | apply aa)); exact HO148.out, y5⟩
     ·rw [if_neg c9] at H
      exact absurd H (by simp)

end Go.Proofs.Ytblnnbaeiggmoaa.AFnSplit
