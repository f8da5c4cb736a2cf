-- this session's own text: written by wip/tools/ownprint.py over the kit's print
import Derived.Test.YtblnnbaeiggmoaaAFnExactEditRopex0
namespace Go.Proofs.Ytblnnbaeiggmoaa.AFnExactEditRope
open Go.RowKit Go.Proofs.YtblnnbaeiggmoaaW.PrintWords Go.Proofs.YtblnnbaeiggmoaaW.PrintLast Go.Proofs.YtblnnbaeiggmoaaW.PrintMore
attribute [local go_sem] max2_int min2_int max_two min_two max_three min_three max_four min_four   -- for this text's walks alone
set_option linter.unusedVariables false
set_option linter.unusedSimpArgs false

/-! ### spec_l3Apply: function 26 -/
mutual
def spec_l3Apply.l0 : Nat → ByteArray → ByteArray → List (S59) → Int → Int → Option (ByteArray × Bool)
 | 0, _, _, _, _, _ => none
 | k + 1, x1, x6, x10, x11, x12 => if x12 < x11 then (if 0 ≤ x12 then (if x12 < (x10.length : Int) then (if (wrap64 (((rd_T59 x10 x12).f0) + (((rd_T59 x10 x12).f2).size : Int))) > (x1.size : Int) then (spec_l3Apply.j1 k x1 x6 (wrap64 (((rd_T59 x10 x12).f0) + (((rd_T59 x10 x12).f2).size : Int))) x10 x11 x12 true ((rd_T59 x10 x12).f0) ((rd_T59 x10 x12).f1) ((rd_T59 x10 x12).f2)) else (if ((rd_T59 x10 x12).f2).toList = ([] : List UInt8) then (spec_l3Apply.j1 k x1 x6 (wrap64 (((rd_T59 x10 x12).f0) + (((rd_T59 x10 x12).f2).size : Int))) x10 x11 x12 false ((rd_T59 x10 x12).f0) ((rd_T59 x10 x12).f1) ((rd_T59 x10 x12).f2)) else (if 0 ≤ (wrap64 (((rd_T59 x10 x12).f0) + (((rd_T59 x10 x12).f2).size : Int))) then (if (wrap64 (((rd_T59 x10 x12).f0) + (((rd_T59 x10 x12).f2).size : Int))) ≤ (x1.size : Int) then (spec_l3Apply.j1 k x1 x6 (wrap64 (((rd_T59 x10 x12).f0) + (((rd_T59 x10 x12).f2).size : Int))) x10 x11 x12 ((x1.extract 0 ((wrap64 (((rd_T59 x10 x12).f0) + (((rd_T59 x10 x12).f2).size : Int))) : Int).toNat).toList != ((rd_T59 x10 x12).f2).toList) ((rd_T59 x10 x12).f0) ((rd_T59 x10 x12).f1) ((rd_T59 x10 x12).f2)) else (none)) else (none)))) else (none)) else (none)) else (some (x6, (x1.toList == ([] : List UInt8))))
def spec_l3Apply.j1 : Nat → ByteArray → ByteArray → Int → List (S59) → Int → Int → Bool → Int → ByteArray → ByteArray → Option (ByteArray × Bool)
 | 0, _, _, _, _, _, _, _, _, _, _ => none
 | k + 1, x1, x6, x9, x10, x11, x12, x38, x142000, x142001, x142002 => if x38 = true then (some ((⟨#[]⟩ : ByteArray), false)) else (if x142000 > 0 then (if 0 ≤ x9 then (if x9 ≤ (x1.size : Int) then (if x6.size + (x1.extract 0 (x9 : Int).toNat).size ≤ 9223372036854775807 then (if (x6 ++ (x1.extract 0 (x9 : Int).toNat)).size + x142001.size ≤ 9223372036854775807 then (spec_l3Apply.l0 k (x1.extract (x9 : Int).toNat x1.size) ((x6 ++ (x1.extract 0 (x9 : Int).toNat)) ++ x142001) x10 x11 (wrap64 (x12 + 1))) else (none)) else (none)) else (none)) else (none)) else (if x6.size + x142001.size ≤ 9223372036854775807 then (if 0 ≤ x9 then (if x9 ≤ (x1.size : Int) then (spec_l3Apply.l0 k (x1.extract (x9 : Int).toNat x1.size) (x6 ++ x142001) x10 x11 (wrap64 (x12 + 1))) else (none)) else (none)) else (none)))
end
def spec_l3Apply.f (k : Nat) (l0 : List (S59)) (a1 : ByteArray) : Option (ByteArray × Bool) := spec_l3Apply.l0 k a1 (⟨#[]⟩ : ByteArray) l0 (l0.length : Int) 0
theorem spec_l3Apply.mono_l : ∀ k, (∀ y0 y1 y2 y3 y4, LeO (spec_l3Apply.l0 k y0 y1 y2 y3 y4) (spec_l3Apply.l0 (k + 1) y0 y1 y2 y3 y4)) ∧ (∀ y0 y1 y2 y3 y4 y5 y6 y7 y8 y9, LeO (spec_l3Apply.j1 k y0 y1 y2 y3 y4 y5 y6 y7 y8 y9) (spec_l3Apply.j1 (k + 1) y0 y1 y2 y3 y4 y5 y6 y7 y8 y9))
 | 0 => ⟨fun _ _ _ _ _ r h => by simp [spec_l3Apply.l0] at h, fun _ _ _ _ _ _ _ _ _ _ r h => by simp [spec_l3Apply.j1] at h⟩
 | k + 1 => by
  obtain ⟨ih0, ih1⟩ := spec_l3Apply.mono_l k
  refine ⟨?_, ?_⟩
  ·intro y0 y1 y2 y3 y4
   unfold spec_l3Apply.l0
   repeat' first
   | (with_reducible exact ih0 _ _ _ _ _)
   | (with_reducible exact ih1 _ _ _ _ _ _ _ _ _ _)
   | (with_reducible exact LeO.refl _)
   | (with_reducible exact LeO.none _)
   | (with_reducible refine LeO.ite ?_ ?_)
   | (with_reducible refine LeO.bind ?_ (fun _ => ?_))
   | exact ih0 _ _ _ _ _
   | exact ih1 _ _ _ _ _ _ _ _ _ _
   | exact LeO.none _
   | refine LeO.ite ?_ ?_
   | refine LeO.bind ?_ (fun _ => ?_)
  ·intro y0 y1 y2 y3 y4 y5 y6 y7 y8 y9
   unfold spec_l3Apply.j1
   repeat' first
   | (with_reducible exact ih0 _ _ _ _ _)
   | (with_reducible exact ih1 _ _ _ _ _ _ _ _ _ _)
   | (with_reducible exact LeO.refl _)
   | (with_reducible exact LeO.none _)
   | (with_reducible refine LeO.ite ?_ ?_)
   | (with_reducible refine LeO.bind ?_ (fun _ => ?_))
   | exact ih0 _ _ _ _ _
   | exact ih1 _ _ _ _ _ _ _ _ _ _
   | exact LeO.none _
   | refine LeO.ite ?_ ?_
   | refine LeO.bind ?_ (fun _ => ?_)
theorem spec_l3Apply.mono : ∀ a0 a1 k, LeO (spec_l3Apply.f k a0 a1) (spec_l3Apply.f (k + 1) a0 a1) := by
 intro a0 a1 k
 obtain ⟨ih0, ih1⟩ := spec_l3Apply.mono_l k
 unfold spec_l3Apply.f
 repeat' first
   | (with_reducible exact ih0 _ _ _ _ _)
   | (with_reducible exact ih1 _ _ _ _ _ _ _ _ _ _)
   | (with_reducible exact LeO.refl _)
   | (with_reducible exact LeO.none _)
   | (with_reducible refine LeO.ite ?_ ?_)
   | (with_reducible refine LeO.bind ?_ (fun _ => ?_))
   | exact ih0 _ _ _ _ _
   | exact ih1 _ _ _ _ _ _ _ _ _ _
   | exact LeO.none _
   | refine LeO.ite ?_ ?_
   | refine LeO.bind ?_ (fun _ => ?_)
set_option maxHeartbeats 8000000 in
set_option maxRecDepth 100000 in
theorem spec_l3Apply.calls (k : Nat) (A0 : Option Addr) (c0 : Nat) (l0 : List (S59)) (a1 : ByteArray) (r1 : ByteArray) (r2 : Bool) (w : World) (hr0 : Kd.C k59 w A0 l0.length l0) (hc0 : l0.length ≤ c0) (h : spec_l3Apply.f k l0 a1 = some (r1, r2)) :
  Calls Try.prog 26 #[.slice A0 l0.length c0, .string a1] w fun e w' => e = .returned (.tuple #[.string r1, .bool r2]) ∧ Below w.heap.size w w' := by
 have hu59 := Try.underlying59
 have bY := aM hr0
 have cQ := aM hc0
 clear hr0 hc0
 have HB := aM (Below.refl w.heap.size w)
 have H : (spec_l3Apply.l0 k a1 (⟨#[]⟩ : ByteArray) l0 (l0.length : Int) 0) = some (r1, r2) := h
 clear h
 have H' := aM H
 clear H
 go_enter Try.func26, Try.ntmps26
 go_wp2
 repeat (go_quiet (fail); try go_wp2)
 go_loopg [1, 6, 12] k (fun kq v1 v6 v12 w' => ∃ (x1_1 : ByteArray) (x6_1 : ByteArray) (x12_1 : Int), v1 = .string x1_1 ∧ v6 = .string x6_1 ∧ v12 = .int .i64 x12_1 ∧ Aside0 (spec_l3Apply.l0 kq x1_1 x6_1 l0 (l0.length : Int) x12_1 = some (r1, r2)) ∧ Aside0 (kq ≤ k) ∧ Aside0 (Below w.heap.size w w'))
 case atStart => exact ⟨(a1), ((⟨#[]⟩ : ByteArray)), (0), z1, z1, z1, H', ⟨Nat.le_refl _⟩, ⟨y4⟩⟩
 case round =>
  clear H'
  try clear c2
  try clear p2
  obtain ⟨x1_1, x6_1, x12_1, rfl, rfl, rfl, HA, HK1, HB⟩ := hrel
  cases gk with
  | zero => exact absurd HA.out (by simp [spec_l3Apply.l0])
  | succ k1 =>
   have H := HA.out
   clear HA
   simp only [spec_l3Apply.l0] at H
   by_cases c3 : x12_1 < (l0.length : Int)
   ·rw [if_pos c3] at H
    have c3b0 : decide (x12_1 < (l0.length : Int)) = true := dT c3
    clear c3
    by_cases c4 : 0 ≤ x12_1
    ·rw [if_pos c4] at H
     have c4b0 : decide (0 ≤ x12_1) = true := dT c4
     clear c4
     by_cases c5 : x12_1 < (l0.length : Int)
     ·rw [if_pos c5] at H
      have c5b0 : decide (x12_1 < (l0.length : Int)) = true := dT c5
      clear c5
      have l9 := aM H
      clear H
      have p140 : 0 ≤ (x12_1 : Int) := oD z2
      have q140 : x12_1 < (l0.length : Int) := oD z2
      obtain ⟨ad140, e140, hx140_0, hx140_1, hx140_2⟩ := at_T59 bY.out x12_1 p140 q140
      cases e140
      replace hx140_0 := (HB.out.cell (World.block_lt_of_cell? w _ hx140_0)).trans hx140_0
      replace hx140_1 := (HB.out.cell (World.block_lt_of_cell? w _ hx140_1)).trans hx140_1
      replace hx140_2 := (HB.out.cell (World.block_lt_of_cell? w _ hx140_2)).trans hx140_2
      replace p140 := eq_true p140
      replace q140 := eq_true q140
      go_upto_region 6 with (first | ((with_reducible refine aJ (N := 8) rfl ?_); refine aK ?hg (N := 8) ?hd (cs := #[.int .i64 0, .string (⟨#[]⟩ : ByteArray), .string (⟨#[]⟩ : ByteArray)]) (t := 59) ?hr ?_; (case hd => rfl); (case hg => rfl); (case hr => first | (go_simp; done) | (go_simp; rfl)); intro co hg w7 hbox hb; have a6 := aM (ay z11 hb); have ba := aM (hbox); have bb := aM ((by rw [hg]; exact (az z11) : w.heap.size ≤ co)); have bf := aM ((by rw [hg]; exact (az z11) : w.heap.size ≤ co)); clear HB; have HB := a6; have bV := ba; have mz := bb; have mE := bf; clear a6 ba bb bf; clear hb hbox hg; have e6 : w7.cell? ⟨co, 0, none⟩ = some (.int .i64 0) := (bC bV.out 0).trans rfl; have gE : w7.cell? ⟨co, 1, none⟩ = some (.string (⟨#[]⟩ : ByteArray)) := (bC bV.out 1).trans rfl; have gD : w7.cell? ⟨co, 2, none⟩ = some (.string (⟨#[]⟩ : ByteArray)) := (bC bV.out 2).trans rfl; have eX := bF bV.out 0; have gC := bF bV.out 1; have gB := bF bV.out 2))
      repeat (go_quiet (first | ((with_reducible refine aJ (N := 8) rfl ?_); refine aK ?hg (N := 8) ?hd (cs := #[.int .i64 0, .string (⟨#[]⟩ : ByteArray), .string (⟨#[]⟩ : ByteArray)]) (t := 59) ?hr ?_; (case hd => rfl); (case hg => rfl); (case hr => first | (go_simp; done) | (go_simp; rfl)); intro co hg w7 hbox hb; have a6 := aM (ay z11 hb); have ba := aM (hbox); have bb := aM ((by rw [hg]; exact (az z11) : w.heap.size ≤ co)); have bf := aM ((by rw [hg]; exact (az z11) : w.heap.size ≤ co)); clear HB; have HB := a6; have bV := ba; have mz := bb; have mE := bf; clear a6 ba bb bf; clear hb hbox hg; have e6 : w7.cell? ⟨co, 0, none⟩ = some (.int .i64 0) := (bC bV.out 0).trans rfl; have gE : w7.cell? ⟨co, 1, none⟩ = some (.string (⟨#[]⟩ : ByteArray)) := (bC bV.out 1).trans rfl; have gD : w7.cell? ⟨co, 2, none⟩ = some (.string (⟨#[]⟩ : ByteArray)) := (bC bV.out 2).trans rfl; have eX := bF bV.out 0; have gC := bF bV.out 1; have gB := bF bV.out 2)); go_upto_region 6 with (first | ((with_reducible refine aJ (N := 8) rfl ?_); refine aK ?hg (N := 8) ?hd (cs := #[.int .i64 0, .string (⟨#[]⟩ : ByteArray), .string (⟨#[]⟩ : ByteArray)]) (t := 59) ?hr ?_; (case hd => rfl); (case hg => rfl); (case hr => first | (go_simp; done) | (go_simp; rfl)); intro co hg w7 hbox hb; have a6 := aM (ay z11 hb); have ba := aM (hbox); have bb := aM ((by rw [hg]; exact (az z11) : w.heap.size ≤ co)); have bf := aM ((by rw [hg]; exact (az z11) : w.heap.size ≤ co)); clear HB; have HB := a6; have bV := ba; have mz := bb; have mE := bf; clear a6 ba bb bf; clear hb hbox hg; have e6 : w7.cell? ⟨co, 0, none⟩ = some (.int .i64 0) := (bC bV.out 0).trans rfl; have gE : w7.cell? ⟨co, 1, none⟩ = some (.string (⟨#[]⟩ : ByteArray)) := (bC bV.out 1).trans rfl; have gD : w7.cell? ⟨co, 2, none⟩ = some (.string (⟨#[]⟩ : ByteArray)) := (bC bV.out 2).trans rfl; have eX := bF bV.out 0; have gC := bF bV.out 1; have gB := bF bV.out 2)))
      (try simp only [Act.put, sA, sB, sC])
      go_cut [38] (fun v38 wc => ∃ (kq : Nat) (x38_5 : Bool), v38 = .bool x38_5 ∧ Aside0 (spec_l3Apply.j1 kq x1_1 x6_1 (wrap64 (((rd_T59 l0 x12_1).f0) + (((rd_T59 l0 x12_1).f2).size : Int))) l0 (l0.length : Int) x12_1 x38_5 ((rd_T59 l0 x12_1).f0) ((rd_T59 l0 x12_1).f1) ((rd_T59 l0 x12_1).f2) = some (r1, r2)) ∧ Aside0 (kq ≤ k1) ∧ Aside0 (wc.heap[co]? = some (.cells #[.int .i64 ((rd_T59 l0 x12_1).f0), .string ((rd_T59 l0 x12_1).f1), .string ((rd_T59 l0 x12_1).f2)] 59 (0, 0))) ∧ Aside0 (Below w.heap.size w wc))
      case first =>
       have H := l9.out
       clear l9
       by_cases c9 : (wrap64 (((rd_T59 l0 x12_1).f0) + (((rd_T59 l0 x12_1).f2).size : Int))) > (x1_1.size : Int)
       ·rw [if_pos c9] at H
        have c9b0 : decide ((x1_1.size : Int) < (wrap64 (((rd_T59 l0 x12_1).f0) + (((rd_T59 l0 x12_1).f2).size : Int)))) = true := dT c9
        clear c9
        (first | rw [c9b0] | (simp only [i64_w, i32_w]; rw [c9b0]) | skip)
        have H' := aM H
        clear H
        go_wp2
        repeat (go_quiet (fail); try go_wp2)
        go_meet
        case rel => exact ⟨_, (true), z1, H', ⟨by have := HK1.out; first | omega | exact Nat.le_refl _⟩, ⟨y24⟩, ⟨y14⟩⟩
       ·rw [if_neg c9] at H
        have c9b0 : decide ((x1_1.size : Int) < (wrap64 (((rd_T59 l0 x12_1).f0) + (((rd_T59 l0 x12_1).f2).size : Int)))) = false := dF c9
        clear c9
        (first | rw [c9b0] | (simp only [i64_w, i32_w]; rw [c9b0]) | skip)
        by_cases cL : ((rd_T59 l0 x12_1).f2).toList = ([] : List UInt8)
        ·rw [if_pos cL] at H
         have c10b0 : (((rd_T59 l0 x12_1).f2).toList == ([] : List UInt8)) = true := qT cL
         have c10b1 : (((rd_T59 l0 x12_1).f2).toList != ([] : List UInt8)) = false := nF cL
         clear cL
         have H' := aM H
         clear H
         have ed : w7.cell? ⟨co, 0, none⟩ = some (.int .i64 0) := (bC bV.out 0).trans rfl
         have ja : w7.cell? ⟨co, 1, none⟩ = some (.string (⟨#[]⟩ : ByteArray)) := (bC bV.out 1).trans rfl
         have i9 : w7.cell? ⟨co, 2, none⟩ = some (.string (⟨#[]⟩ : ByteArray)) := (bC bV.out 2).trans rfl
         have d6 := bF bV.out 0
         have iI := bF bV.out 1
         have iH := bF bV.out 2
         go_wp2
         all_goals (try (exfalso; rename_i h_; rw [c10b0] at h_; cases h_; done))
         repeat (go_quiet (fail); try go_wp2)
         all_goals (try (exfalso; rename_i h_; rw [c10b0] at h_; cases h_; done))
         go_meet
         case rel => exact ⟨_, (false), z1, H', ⟨by have := HK1.out; first | omega | exact Nat.le_refl _⟩, ⟨y24⟩, ⟨y14⟩⟩
        ·rw [if_neg cL] at H
         have c10b0 : (((rd_T59 l0 x12_1).f2).toList == ([] : List UInt8)) = false := qF cL
         have c10b1 : (((rd_T59 l0 x12_1).f2).toList != ([] : List UInt8)) = true := nT cL
         obtain ⟨gR, gA⟩ : ∃ j_ : Int, (wrap64 (((rd_T59 l0 x12_1).f0) + (((rd_T59 l0 x12_1).f2).size : Int))) = j_ := ⟨_, rfl⟩
         replace H : (if 0 ≤ (gR) then (if (gR) ≤ (x1_1.size : Int) then (spec_l3Apply.j1 k1 x1_1 x6_1 gR l0 (l0.length : Int) x12_1 ((x1_1.extract 0 ((gR) : Int).toNat).toList != ((rd_T59 l0 x12_1).f2).toList) ((rd_T59 l0 x12_1).f0) ((rd_T59 l0 x12_1).f1) ((rd_T59 l0 x12_1).f2)) else (none)) else (none)) = some (r1, r2) := by first | (rw [gA] at H; exact H) | (simp only [gA] at H ⊢; exact H)
         (try rw [gA] at c9b0)
         have hji12w : (IntKind.i64.wrap (((rd_T59 l0 x12_1).f0) + (((rd_T59 l0 x12_1).f2).size : Int))) = gR := (i64_w _).trans gA
         by_cases dM : 0 ≤ (gR)
         ·rw [if_pos dM] at H
          have c13b0 := eq_true dM
          have c13b1 : decide (0 ≤ (gR)) = true := dT dM
          clear dM
          by_cases fG : (gR) ≤ (x1_1.size : Int)
          ·rw [if_pos fG] at H
           have c14b0 := eq_true fG
           have c14b1 : decide ((gR) ≤ (x1_1.size : Int)) = true := dT fG
           clear fG
           have H' := aM H
           clear H
           have eN : w7.cell? ⟨co, 0, none⟩ = some (.int .i64 0) := (bC bV.out 0).trans rfl
           have fA : w7.cell? ⟨co, 1, none⟩ = some (.string (⟨#[]⟩ : ByteArray)) := (bC bV.out 1).trans rfl
           have fz : w7.cell? ⟨co, 2, none⟩ = some (.string (⟨#[]⟩ : ByteArray)) := (bC bV.out 2).trans rfl
           have eH := bF bV.out 0
           have fo := bF bV.out 1
           have fm := bF bV.out 2
           go_wp2
           all_goals (try (exfalso; rename_i h_; rw [c10b0] at h_; cases h_; done))
           repeat (go_quiet (fail); try go_wp2)
           all_goals (try (exfalso; rename_i h_; rw [c10b0] at h_; cases h_; done))
           go_meet
           case rel => exact ⟨_, (((x1_1.extract 0 ((gR) : Int).toNat).toList != ((rd_T59 l0 x12_1).f2).toList)), (by first | rfl | (simp; done) | (simp only [← gA] <;> (first | rfl | (simp; done) | (simp; generalize ByteArray.toList _ = u_; cases u_ <;> (first | rfl | (simp; done))))) | (simp [*]; done)), (by first | exact H' | (simp only [gA]; exact H') | (simp only [← gA]; exact H')), ⟨by have := HK1.out; first | omega | exact Nat.le_refl _⟩, ⟨y24⟩, ⟨y14⟩⟩
          ·rw [if_neg fG] at H
           exact absurd H (by simp)
         ·rw [if_neg dM] at H
          exact absurd H (by simp)
      case rest =>
       clear l9
       try clear c1
       try clear p1
       try clear q1
       try clear hx1
       try clear c2
       try clear p2
       try clear c3
       try clear c3b0
       try clear c4
       try clear c4b0
       try clear c5
       try clear c5b0
       try clear p6
       try clear c9
       try clear c9b0
       try clear cL
       try clear c10b0
       try clear c10b1
       try clear dM
       try clear c13b0
       try clear c13b1
       try clear fG
       try clear c14b0
       try clear c14b1
       try clear p14
       try clear q14
       try clear hx14
       try clear ed
       try clear ja
       try clear i9
       try clear eN
       try clear fA
       try clear fz
       try clear e6
       try clear gE
       try clear gD
       try clear d6
       try clear iI
       try clear iH
       try clear eH
       try clear fo
       try clear fm
       try clear eX
       try clear gC
       try clear gB
       try clear hx140_0
       try clear hx140_1
       try clear hx140_2
       try clear p140
       try clear p2
       try clear q140
       obtain ⟨kq, x38_5, rfl, HA, oy, bV, HB⟩ := hcut
       cases kq with
       | zero => exact absurd HA.out (by simp [spec_l3Apply.j1])
       | succ kj5 =>
        have H := HA.out
        clear HA
        simp only [spec_l3Apply.j1] at H
        by_cases fL : x38_5 = true
        ·subst fL
         rw [if_pos rfl] at H
         simp only [Option.some.injEq, Prod.mk.injEq] at H
         obtain ⟨rfl, rfl⟩ := H
         go_wp2
         repeat (go_quiet (fail); try go_wp2)
         go_ret2
         exact ⟨y3, y14⟩
        ·replace fL := Bool.eq_false_iff.mpr fL
         subst fL
         rw [if_neg (show ¬ (false = true) by decide)] at H
         by_cases ei : ((rd_T59 l0 x12_1).f0) > 0
         ·rw [if_pos ei] at H
          have c17b0 : decide (0 < ((rd_T59 l0 x12_1).f0)) = true := dT ei
          clear ei
          obtain ⟨dm, gz⟩ : ∃ j_ : Int, (wrap64 (((rd_T59 l0 x12_1).f0) + (((rd_T59 l0 x12_1).f2).size : Int))) = j_ := ⟨_, rfl⟩
          replace H : (if 0 ≤ (dm) then (if (dm) ≤ (x1_1.size : Int) then (if x6_1.size + (x1_1.extract 0 ((dm) : Int).toNat).size ≤ 9223372036854775807 then (if (x6_1 ++ (x1_1.extract 0 ((dm) : Int).toNat)).size + ((rd_T59 l0 x12_1).f1).size ≤ 9223372036854775807 then (spec_l3Apply.l0 kj5 (x1_1.extract ((dm) : Int).toNat x1_1.size) ((x6_1 ++ (x1_1.extract 0 ((dm) : Int).toNat)) ++ ((rd_T59 l0 x12_1).f1)) l0 (l0.length : Int) (wrap64 (x12_1 + 1))) else (none)) else (none)) else (none)) else (none)) = some (r1, r2) := by first | (rw [gz] at H; exact H) | (simp only [gz] at H ⊢; exact H)
          have hji18w : (IntKind.i64.wrap (((rd_T59 l0 x12_1).f0) + (((rd_T59 l0 x12_1).f2).size : Int))) = dm := (i64_w _).trans gz
          by_cases lH : 0 ≤ (dm)
          ·rw [if_pos lH] at H
           have c19b0 := eq_true lH
           have c19b1 : decide (0 ≤ (dm)) = true := dT lH
           clear lH
           by_cases lG : (dm) ≤ (x1_1.size : Int)
           ·rw [if_pos lG] at H
            have c20b0 := eq_true lG
            have c20b1 : decide ((dm) ≤ (x1_1.size : Int)) = true := dT lG
            clear lG
            by_cases lF : x6_1.size + (x1_1.extract 0 ((dm) : Int).toNat).size ≤ 9223372036854775807
            ·rw [if_pos lF] at H
             have c21b0 := eq_true lF
             have c21b1 : decide (x6_1.size + (x1_1.extract 0 ((dm) : Int).toNat).size ≤ 9223372036854775807) = true := dT lF
             (try (have c21b1m := c21b1; simp only [ByteArray.size_extract, Nat.sub_zero] at c21b1m))
             (try (have c21b0m := c21b0; simp only [ByteArray.size_extract, Nat.sub_zero] at c21b0m))
             try have c21b2 : (9223372036854775807 < x6_1.size + (x1_1.extract 0 ((dm) : Int).toNat).size) = False := eq_false (Nat.not_lt.2 lF)
             (try (have c21x : (9223372036854775807 < x6_1.size + (dm).toNat) = False := eq_false (fun h_ => by have e_ := of_eq_true c21b0; simp only [ByteArray.size_extract, aY] at e_; have f0_ : (dm) ≤ (x1_1.size : Int) := (by first | assumption | exact of_eq_true (by assumption) | exact oD (by assumption)); omega)))
             by_cases lE : (x6_1 ++ (x1_1.extract 0 ((dm) : Int).toNat)).size + ((rd_T59 l0 x12_1).f1).size ≤ 9223372036854775807
             ·rw [if_pos lE] at H
              have c22b0 := eq_true lE
              have c22b1 : decide ((x6_1 ++ (x1_1.extract 0 ((dm) : Int).toNat)).size + ((rd_T59 l0 x12_1).f1).size ≤ 9223372036854775807) = true := dT lE
              try have c22b2 : (9223372036854775807 < (x6_1 ++ (x1_1.extract 0 ((dm) : Int).toNat)).size + ((rd_T59 l0 x12_1).f1).size) = False := eq_false (Nat.not_lt.2 lE)
              (try (have c22x : (9223372036854775807 < (x6_1.size + (dm).toNat) + ((rd_T59 l0 x12_1).f1).size) = False := eq_false (fun h_ => by have e_ := of_eq_true c22b0; simp only [ByteArray.size_extract, aY] at e_; have f0_ : (dm) ≤ (x1_1.size : Int) := (by first | assumption | exact of_eq_true (by assumption) | exact oD (by assumption)); omega)))
              (try (have c22b2s := c22b2; simp only [aY] at c22b2s))
              have c23b0 := eq_true (oD z2 : 0 ≤ (dm))
              have c24b0 := eq_true (oD z2 : (dm) ≤ (x1_1.size : Int))
              have H' := aM H
              clear H
              have fq : wc.cell? ⟨co, 0, none⟩ = some (.int .i64 ((rd_T59 l0 x12_1).f0)) := (bC bV.out 0).trans rfl
              have hcz25_1 : wc.cell? ⟨co, 1, none⟩ = some (.string ((rd_T59 l0 x12_1).f1)) := (bC bV.out 1).trans rfl
              have hcz25_2 : wc.cell? ⟨co, 2, none⟩ = some (.string ((rd_T59 l0 x12_1).f2)) := (bC bV.out 2).trans rfl
              have fe := bF bV.out 0
              have hfz25_1 := bF bV.out 1
              have hfz25_2 := bF bV.out 2
              go_wp2
              repeat (go_quiet (fail); try go_wp2)
              go_roundg kj5
              case measure => have := HK1.out; have := oy.out; omega
              case rel => exact ⟨(x1_1.extract ((dm) : Int).toNat x1_1.size), ((x6_1 ++ (x1_1.extract 0 ((dm) : Int).toNat)) ++ ((rd_T59 l0 x12_1).f1)), (wrap64 (x12_1 + 1)), (by first | rfl | (simp; done) | (simp only [← gz] <;> (first | rfl | (simp; done) | (simp; generalize ByteArray.toList _ = u_; cases u_ <;> (first | rfl | (simp; done))))) | (simp [*]; done)), (by first | rfl | (simp; done) | (simp only [← gz] <;> (first | rfl | (simp; done) | (simp; generalize ByteArray.toList _ = u_; cases u_ <;> (first | rfl | (simp; done))))) | (simp [*]; done)), z1, (by first | exact H' | (simp only [gz]; exact H') | (simp only [← gz]; exact H')), ⟨by have := HK1.out; have := oy.out; omega⟩, ⟨y14⟩⟩
             ·rw [if_neg lE] at H
              exact absurd H (by simp)
            ·rw [if_neg lF] at H
             exact absurd H (by simp)
           ·rw [if_neg lG] at H
            exact absurd H (by simp)
          ·rw [if_neg lH] at H
           exact absurd H (by simp)
         ·rw [if_neg ei] at H
          have c17b0 : decide (0 < ((rd_T59 l0 x12_1).f0)) = false := dF ei
          clear ei
          by_cases nQ : x6_1.size + ((rd_T59 l0 x12_1).f1).size ≤ 9223372036854775807
          ·rw [if_pos nQ] at H
           have c26b0 := eq_true nQ
           have c26b1 : decide (x6_1.size + ((rd_T59 l0 x12_1).f1).size ≤ 9223372036854775807) = true := dT nQ
           try have c26b2 : (9223372036854775807 < x6_1.size + ((rd_T59 l0 x12_1).f1).size) = False := eq_false (Nat.not_lt.2 nQ)
           obtain ⟨ia, gV⟩ : ∃ j_ : Int, (wrap64 (((rd_T59 l0 x12_1).f0) + (((rd_T59 l0 x12_1).f2).size : Int))) = j_ := ⟨_, rfl⟩
           replace H : (if 0 ≤ (ia) then (if (ia) ≤ (x1_1.size : Int) then (spec_l3Apply.l0 kj5 (x1_1.extract ((ia) : Int).toNat x1_1.size) (x6_1 ++ ((rd_T59 l0 x12_1).f1)) l0 (l0.length : Int) (wrap64 (x12_1 + 1))) else (none)) else (none)) = some (r1, r2) := by first | (rw [gV] at H; exact H) | (simp only [gV] at H ⊢; exact H)
           have hji27w : (IntKind.i64.wrap (((rd_T59 l0 x12_1).f0) + (((rd_T59 l0 x12_1).f2).size : Int))) = ia := (i64_w _).trans gV
           by_cases nP : 0 ≤ (ia)
           ·rw [if_pos nP] at H
            have c28b0 := eq_true nP
            have c28b1 : decide (0 ≤ (ia)) = true := dT nP
            clear nP
            by_cases lD : (ia) ≤ (x1_1.size : Int)
            ·rw [if_pos lD] at H
             have c29b0 := eq_true lD
             have c29b1 : decide ((ia) ≤ (x1_1.size : Int)) = true := dT lD
             clear lD
             have H' := aM H
             clear H
             have hcz30_0 : wc.cell? ⟨co, 0, none⟩ = some (.int .i64 ((rd_T59 l0 x12_1).f0)) := (bC bV.out 0).trans rfl
             have hcz30_1 : wc.cell? ⟨co, 1, none⟩ = some (.string ((rd_T59 l0 x12_1).f1)) := (bC bV.out 1).trans rfl
             have hcz30_2 : wc.cell? ⟨co, 2, none⟩ = some (.string ((rd_T59 l0 x12_1).f2)) := (bC bV.out 2).trans rfl
             have hfz30_0 := bF bV.out 0
             have hfz30_1 := bF bV.out 1
             have hfz30_2 := bF bV.out 2
             go_wp2
             repeat (go_quiet (fail); try go_wp2)
             go_roundg kj5
             case measure => have := HK1.out; have := oy.out; omega
             case rel => exact ⟨(x1_1.extract ((ia) : Int).toNat x1_1.size), (x6_1 ++ ((rd_T59 l0 x12_1).f1)), (wrap64 (x12_1 + 1)), (by first | rfl | (simp; done) | (simp only [← gV] <;> (first | rfl | (simp; done) | (simp; generalize ByteArray.toList _ = u_; cases u_ <;> (first | rfl | (simp; done))))) | (simp [*]; done)), z1, z1, (by first | exact H' | (simp only [gV]; exact H') | (simp only [← gV]; exact H')), ⟨by have := HK1.out; have := oy.out; omega⟩, ⟨y14⟩⟩
            ·rw [if_neg lD] at H
             exact absurd H (by simp)
           ·rw [if_neg nP] at H
            exact absurd H (by simp)
          ·rw [if_neg nQ] at H
           exact absurd H (by simp)
     ·rw [if_neg c5] at H
      exact absurd H (by simp)
    ·rw [if_neg c4] at H
     exact absurd H (by simp)
   ·rw [if_neg c3] at H
    have c3b0 : decide (x12_1 < (l0.length : Int)) = false := dF c3
    clear c3
    simp only [Option.some.injEq, Prod.mk.injEq] at H
    obtain ⟨rfl, rfl⟩ := H
    go_wp2
    repeat (go_quiet (fail); try go_wp2)
    go_ret2
    exact ⟨y3, y4⟩

/-! ### spec_l12Pieces: function 32 -/
def spec_l12Pieces.l0 : Nat → List ByteArray → List (S101) → Int → Int → Option (List ByteArray)
 | 0, _, _, _, _ => none
 | k + 1, x3, x6, x7, x8 => if x8 < x7 then (if 0 ≤ x8 then (if x8 < (x6.length : Int) then (if ((rd_T101 x6 x8).f0) < 0 then (if x3.length < 8796093022208 then (spec_l12Pieces.l0 k (x3 ++ [(rd_T101 x6 x8).f2]) x6 x7 (wrap64 (x8 + 1))) else (none)) else (spec_l12Pieces.l0 k x3 x6 x7 (wrap64 (x8 + 1)))) else (none)) else (none)) else (some x3)
def spec_l12Pieces.f (k : Nat) (l0 : List (S101)) : Option (List ByteArray) := spec_l12Pieces.l0 k ([] : List ByteArray) l0 (l0.length : Int) 0
theorem spec_l12Pieces.mono_l : ∀ k, (∀ y0 y1 y2 y3, LeO (spec_l12Pieces.l0 k y0 y1 y2 y3) (spec_l12Pieces.l0 (k + 1) y0 y1 y2 y3))
 | 0 => fun _ _ _ _ r h => by simp [spec_l12Pieces.l0] at h
 | k + 1 => by
  have ih0 := spec_l12Pieces.mono_l k
  ·intro y0 y1 y2 y3
   unfold spec_l12Pieces.l0
   repeat' first
   | (with_reducible exact ih0 _ _ _ _)
   | (with_reducible exact LeO.refl _)
   | (with_reducible exact LeO.none _)
   | (with_reducible refine LeO.ite ?_ ?_)
   | (with_reducible refine LeO.bind ?_ (fun _ => ?_))
   | exact ih0 _ _ _ _
   | exact LeO.none _
   | refine LeO.ite ?_ ?_
   | refine LeO.bind ?_ (fun _ => ?_)
theorem spec_l12Pieces.mono : ∀ a0 k, LeO (spec_l12Pieces.f k a0) (spec_l12Pieces.f (k + 1) a0) := by
 intro a0 k
 have ih0 := spec_l12Pieces.mono_l k
 unfold spec_l12Pieces.f
 repeat' first
   | (with_reducible exact ih0 _ _ _ _)
   | (with_reducible exact LeO.refl _)
   | (with_reducible exact LeO.none _)
   | (with_reducible refine LeO.ite ?_ ?_)
   | (with_reducible refine LeO.bind ?_ (fun _ => ?_))
   | exact ih0 _ _ _ _
   | exact LeO.none _
   | refine LeO.ite ?_ ?_
   | refine LeO.bind ?_ (fun _ => ?_)
set_option maxHeartbeats 8000000 in
set_option maxRecDepth 100000 in
theorem spec_l12Pieces.calls (k : Nat) (A0 : Option Addr) (c0 : Nat) (l0 : List (S101)) (r : List ByteArray) (w : World) (hr0 : Kd.C k101 w A0 l0.length l0) (hc0 : l0.length ≤ c0) (h : spec_l12Pieces.f k l0 = some r) :
  Calls Try.prog 32 #[.slice A0 l0.length c0] w fun e w' => ∃ v0_ : Value, e = .returned (v0_) ∧ Kd.R Kd.string 9 w' w.heap.size (fun _ => True) v0_ r ∧ Below w.heap.size w w' := by
 have hu101 := Try.underlying101
 have bY := aM hr0
 have cQ := aM hc0
 clear hr0 hc0
 have HB := aM (Below.refl w.heap.size w)
 have H : (spec_l12Pieces.l0 k ([] : List ByteArray) l0 (l0.length : Int) 0) = some r := h
 clear h
 have H' := aM H
 clear H
 go_enter Try.func32, Try.ntmps32
 go_wp2
 go_loopg [3, 8] k (fun kq v3 v8 w' => ∃ (x3_1 : List ByteArray) (x8_1 : Int), v8 = .int .i64 x8_1 ∧ Aside0 (spec_l12Pieces.l0 kq x3_1 l0 (l0.length : Int) x8_1 = some r) ∧ Aside0 (kq ≤ k) ∧ Aside0 (Kd.R Kd.string 9 w' w.heap.size (fun _ => True) v3 x3_1) ∧ Aside0 (Below w.heap.size w w'))
 case atStart => exact ⟨(([] : List ByteArray)), (0), z1, H', ⟨Nat.le_refl _⟩, ⟨by first | exact Kd.R_nil _ _ _ _ _ | exact Kd.N_nil _ _ _ _ _ | exact Kd.V_nil _ _ _ _ _ | exact Kd.Q_nil _ _ _ _ _ | exact Kd.S_nil _ _ _ _ _⟩, ⟨y4⟩⟩
 case round =>
  clear H'
  obtain ⟨x3_1, x8_1, rfl, HA, HK1, cw, HB⟩ := hrel
  cases gk with
  | zero => exact absurd HA.out (by simp [spec_l12Pieces.l0])
  | succ k1 =>
   have H := HA.out
   clear HA
   simp only [spec_l12Pieces.l0] at H
   by_cases c2 : x8_1 < (l0.length : Int)
   ·rw [if_pos c2] at H
    have c2b0 : decide (x8_1 < (l0.length : Int)) = true := dT c2
    clear c2
    by_cases c3 : 0 ≤ x8_1
    ·rw [if_pos c3] at H
     have c3b0 : decide (0 ≤ x8_1) = true := dT c3
     clear c3
     by_cases c4 : x8_1 < (l0.length : Int)
     ·rw [if_pos c4] at H
      have c4b0 : decide (x8_1 < (l0.length : Int)) = true := dT c4
      clear c4
      by_cases c5 : ((rd_T101 l0 x8_1).f0) < 0
      ·rw [if_pos c5] at H
       have c5b0 : decide (((rd_T101 l0 x8_1).f0) < 0) = true := dT c5
       clear c5
       by_cases c6 : x3_1.length < 8796093022208
       ·rw [if_pos c6] at H
        have LMc6 := aM c6
        clear c6
        obtain ⟨y144, hy144⟩ : ∃ y_ : List ByteArray, y_ = (x3_1 ++ [(rd_T101 l0 x8_1).f2]) := ⟨_, rfl⟩
        replace H : (spec_l12Pieces.l0 k1 y144 l0 (l0.length : Int) (wrap64 (x8_1 + 1))) = some r := by first | (rw [hy144]; with_reducible exact H) | (have H2_ := (Option.bind_some _ _).symm.trans H; rw [hy144]; with_reducible exact H2_) | (have H2_ := (Option.bind_some _ _).symm.trans H; with_reducible exact H2_) | with_reducible exact H | (rw [hy144]; exact H) | exact H
        have Ny144 := aM hy144
        clear hy144
        have H' := aM H
        clear H
        have p142 : 0 ≤ (x8_1 : Int) := oD z2
        have q142 : x8_1 < (l0.length : Int) := oD z2
        obtain ⟨ad142, e142, hx142_0, hx142_1, hx142_2, hx142_3, hx142_4⟩ := at_T101 bY.out x8_1 p142 q142
        cases e142
        replace hx142_0 := (HB.out.cell (World.block_lt_of_cell? w _ hx142_0)).trans hx142_0
        replace hx142_1 := (HB.out.cell (World.block_lt_of_cell? w _ hx142_1)).trans hx142_1
        replace hx142_2 := (HB.out.cell (World.block_lt_of_cell? w _ hx142_2)).trans hx142_2
        replace hx142_3 := (HB.out.cell (World.block_lt_of_cell? w _ hx142_3)).trans hx142_3
        replace hx142_4 := (HB.out.cell (World.block_lt_of_cell? w _ hx142_4)).trans hx142_4
        replace p142 := eq_true p142
        replace q142 := eq_true q142
        go_wp2_with (first | ((with_reducible refine aJ (N := 5) rfl ?_); refine aK ?hg (N := 5) ?hd (cs := #[.int .i64 0, .int .i64 0, .string (⟨#[]⟩ : ByteArray), .int .i64 0, .int .i64 0]) (t := 101) ?hr ?_; (case hd => rfl); (case hg => rfl); (case hr => first | (go_simp; done) | (go_simp; rfl)); intro cE hg w7 hbox hb; have a6 := aM (ag (by (with_reducible repeat (first | apply ae | apply ac | apply aa)); exact cw.out) hb); have ba := aM (ay z11 hb); have bb := aM (hbox); have bf := aM ((by rw [hg]; exact (az z11) : w.heap.size ≤ cE)); have bz := aM ((by rw [hg]; exact (az z11) : w.heap.size ≤ cE)); clear cw; clear HB; have cw := a6; have HB := ba; have cD := bb; have GW143 := bf; have jD := bz; clear a6 ba bb bf bz; clear hb hbox hg; have e6 : w7.cell? ⟨cE, 0, none⟩ = some (.int .i64 0) := (bC cD.out 0).trans rfl; have gE : w7.cell? ⟨cE, 1, none⟩ = some (.int .i64 0) := (bC cD.out 1).trans rfl; have gD : w7.cell? ⟨cE, 2, none⟩ = some (.string (⟨#[]⟩ : ByteArray)) := (bC cD.out 2).trans rfl; have hcz8_3 : w7.cell? ⟨cE, 3, none⟩ = some (.int .i64 0) := (bC cD.out 3).trans rfl; have hcz8_4 : w7.cell? ⟨cE, 4, none⟩ = some (.int .i64 0) := (bC cD.out 4).trans rfl; have eX := bF cD.out 0; have gC := bF cD.out 1; have gB := bF cD.out 2; have hfz8_3 := bF cD.out 3; have hfz8_4 := bF cD.out 4) | ((with_reducible refine gate_builtin (b := .append) (xs := #[.tmp 15, .tmp 18]) rfl ?_); at_builtin; refine Kd.R_append Kd.string (w0 := w) w.heap.size rfl (.tmp 15) (.tmp 18) 60 9 (.string ⟨#[]⟩) 16 rfl Try.underlying60 info9 rfl (by decide) (by omega) u3 x3_1 ((rd_T101 l0 x8_1).f2) [.string ((rd_T101 l0 x8_1).f2)] (fun _ => True) (fun _ => False) rfl (by first | (go_simp; done) | (go_simp; rfl)) ?aP (fun _ hk => hk.elim) ?aF ?aO ?aB ?aS ?aL ?_; (case aP => exact rfl); (case aB => exact (by repeat (first | (with_reducible first | exact HB.out | apply bA | apply pD | apply bD | refine ax ?_ jD.out) | exact HB.out))); (case aF => exact (fun _ _ => trivial)); (case aO => exact (by (with_reducible repeat (first | apply ae | apply ac | apply aa)); exact ah (am (p := ⟨cE, 4, none⟩) (am (p := ⟨cE, 3, none⟩) (am (p := ⟨cE, 2, none⟩) (am (p := ⟨cE, 1, none⟩) (am (p := ⟨cE, 0, none⟩) (ap cw.out cD.out (by decide)) (fun _ hk => hk.2) (.int .i64 ((rd_T101 l0 x8_1).f0))) (fun _ hk => hk.2) (.int .i64 ((rd_T101 l0 x8_1).f1))) (fun _ hk => hk.2) (.string ((rd_T101 l0 x8_1).f2))) (fun _ hk => hk.2) (.int .i64 ((rd_T101 l0 x8_1).f3))) (fun _ hk => hk.2) (.int .i64 ((rd_T101 l0 x8_1).f4))) (fun _ hk => trivial))); (case aS => exact (az (by repeat (first | (with_reducible first | exact HB.out | apply bA | apply pD | apply bD | refine ax ?_ jD.out) | exact HB.out)))); (case aL => have := LMc6.out; omega); intro v145 w9 ho hb hg hat; rw [← Ny144.out] at ho; have a6 := aM (blk_grown (g := cE) (o := .cells #[.int .i64 ((rd_T101 l0 x8_1).f0), .int .i64 ((rd_T101 l0 x8_1).f1), .string ((rd_T101 l0 x8_1).f2), .int .i64 ((rd_T101 l0 x8_1).f3), .int .i64 ((rd_T101 l0 x8_1).f4)] 101 (0, 0)) (by (with_reducible repeat (first | refine ar ?_ _ | refine aq ?_ | refine au ?_ _)); refine av (cs := #[.int .i64 ((rd_T101 l0 x8_1).f0), .int .i64 ((rd_T101 l0 x8_1).f1), .string ((rd_T101 l0 x8_1).f2), .int .i64 ((rd_T101 l0 x8_1).f3), .int .i64 0]) ?_ 4 _ rfl; (with_reducible repeat (first | refine ar ?_ _ | refine aq ?_ | refine au ?_ _)); refine av (cs := #[.int .i64 ((rd_T101 l0 x8_1).f0), .int .i64 ((rd_T101 l0 x8_1).f1), .string ((rd_T101 l0 x8_1).f2), .int .i64 0, .int .i64 0]) ?_ 3 _ rfl; (with_reducible repeat (first | refine ar ?_ _ | refine aq ?_ | refine au ?_ _)); refine av (cs := #[.int .i64 ((rd_T101 l0 x8_1).f0), .int .i64 ((rd_T101 l0 x8_1).f1), .string (⟨#[]⟩ : ByteArray), .int .i64 0, .int .i64 0]) ?_ 2 _ rfl; (with_reducible repeat (first | refine ar ?_ _ | refine aq ?_ | refine au ?_ _)); refine av (cs := #[.int .i64 ((rd_T101 l0 x8_1).f0), .int .i64 0, .string (⟨#[]⟩ : ByteArray), .int .i64 0, .int .i64 0]) ?_ 1 _ rfl; (with_reducible repeat (first | refine ar ?_ _ | refine aq ?_ | refine au ?_ _)); refine av (cs := #[.int .i64 0, .int .i64 0, .string (⟨#[]⟩ : ByteArray), .int .i64 0, .int .i64 0]) ?_ 0 _ rfl; (with_reducible repeat (first | refine ar ?_ _ | refine aq ?_ | refine au ?_ _)); exact cD.out) hg (Kd.R_ne cw.out cD.out (by decide))); have ba := aM (hb); have bb := aM (ho); clear cD; clear HB; clear cw; have cD := a6; have HB := ba; have HO146 := bb; clear a6 ba bb; clear ho hb hg hat))
        go_roundg k1
        case measure => have := HK1.out; omega
        case rel => exact ⟨(y144), (wrap64 (x8_1 + 1)), z1, H', ⟨y0⟩, ⟨by (with_reducible repeat (first | apply ae | apply ac | apply aa)); exact HO146.out⟩, ⟨by repeat (first | (with_reducible first | exact HB.out | apply bA | apply pD | apply bD | refine ax ?_ jD.out) | exact HB.out)⟩⟩
       ·rw [if_neg c6] at H
        exact absurd H (by simp)
      ·rw [if_neg c5] at H
       have c5b0 : decide (((rd_T101 l0 x8_1).f0) < 0) = false := dF c5
       clear c5
       have H' := aM H
       clear H
       have p142 : 0 ≤ (x8_1 : Int) := oD z2
       have q142 : x8_1 < (l0.length : Int) := oD z2
       obtain ⟨ad142, e142, hx142_0, hx142_1, hx142_2, hx142_3, hx142_4⟩ := at_T101 bY.out x8_1 p142 q142
       cases e142
       replace hx142_0 := (HB.out.cell (World.block_lt_of_cell? w _ hx142_0)).trans hx142_0
       replace hx142_1 := (HB.out.cell (World.block_lt_of_cell? w _ hx142_1)).trans hx142_1
       replace hx142_2 := (HB.out.cell (World.block_lt_of_cell? w _ hx142_2)).trans hx142_2
       replace hx142_3 := (HB.out.cell (World.block_lt_of_cell? w _ hx142_3)).trans hx142_3
       replace hx142_4 := (HB.out.cell (World.block_lt_of_cell? w _ hx142_4)).trans hx142_4
       replace p142 := eq_true p142
       replace q142 := eq_true q142
       go_wp2_with (first | ((with_reducible refine aJ (N := 5) rfl ?_); refine aK ?hg (N := 5) ?hd (cs := #[.int .i64 0, .int .i64 0, .string (⟨#[]⟩ : ByteArray), .int .i64 0, .int .i64 0]) (t := 101) ?hr ?_; (case hd => rfl); (case hg => rfl); (case hr => first | (go_simp; done) | (go_simp; rfl)); intro cE hg w10 hbox hb; have a6 := aM (ag (by (with_reducible repeat (first | apply ae | apply ac | apply aa)); exact cw.out) hb); have ba := aM (ay z11 hb); have bb := aM (hbox); have bf := aM ((by rw [hg]; exact (az z11) : w.heap.size ≤ cE)); have bz := aM ((by rw [hg]; exact (az z11) : w.heap.size ≤ cE)); clear cw; clear HB; have cw := a6; have HB := ba; have cD := bb; have GW143 := bf; have jD := bz; clear a6 ba bb bf bz; clear hb hbox hg; have ed : w10.cell? ⟨cE, 0, none⟩ = some (.int .i64 0) := (bC cD.out 0).trans rfl; have ja : w10.cell? ⟨cE, 1, none⟩ = some (.int .i64 0) := (bC cD.out 1).trans rfl; have i9 : w10.cell? ⟨cE, 2, none⟩ = some (.string (⟨#[]⟩ : ByteArray)) := (bC cD.out 2).trans rfl; have hcz11_3 : w10.cell? ⟨cE, 3, none⟩ = some (.int .i64 0) := (bC cD.out 3).trans rfl; have hcz11_4 : w10.cell? ⟨cE, 4, none⟩ = some (.int .i64 0) := (bC cD.out 4).trans rfl; have d6 := bF cD.out 0; have iI := bF cD.out 1; have iH := bF cD.out 2; have hfz11_3 := bF cD.out 3; have hfz11_4 := bF cD.out 4))
       go_roundg k1
       case measure => have := HK1.out; omega
       case rel => exact ⟨(x3_1), (wrap64 (x8_1 + 1)), z1, H', ⟨y0⟩, ⟨by (with_reducible repeat (first | apply ae | apply ac | apply aa)); exact ah (am (p := ⟨cE, 4, none⟩) (am (p := ⟨cE, 3, none⟩) (am (p := ⟨cE, 2, none⟩) (am (p := ⟨cE, 1, none⟩) (am (p := ⟨cE, 0, none⟩) (ap cw.out cD.out (by decide)) (fun _ hk => hk.2) (.int .i64 ((rd_T101 l0 x8_1).f0))) (fun _ hk => hk.2) (.int .i64 ((rd_T101 l0 x8_1).f1))) (fun _ hk => hk.2) (.string ((rd_T101 l0 x8_1).f2))) (fun _ hk => hk.2) (.int .i64 ((rd_T101 l0 x8_1).f3))) (fun _ hk => hk.2) (.int .i64 ((rd_T101 l0 x8_1).f4))) (fun _ hk => trivial)⟩, ⟨by repeat (first | (with_reducible first | exact HB.out | apply bA | apply pD | apply bD | refine ax ?_ jD.out) | exact HB.out)⟩⟩
     ·rw [if_neg c4] at H
      exact absurd H (by simp)
    ·rw [if_neg c3] at H
     exact absurd H (by simp)
   ·rw [if_neg c2] at H
    have c2b0 : decide (x8_1 < (l0.length : Int)) = false := dF c2
    clear c2
    obtain rfl := sI H
    go_wp2
    go_ret
    exact ⟨_, y3, y5, y4⟩

/-! ### spec_l12Text: function 27 -/
def spec_l12Text.l0 : Nat → ByteArray → List ByteArray → Int → Int → Option (ByteArray)
 | 0, _, _, _, _ => none
 | k + 1, x3, x7, x8, x9 => if x9 < x8 then (if 0 ≤ x9 then (if x9 < (x7.length : Int) then (if x3.size + (rdOf ByteArray.empty x7 x9).size ≤ 9223372036854775807 then (spec_l12Text.l0 k (x3 ++ (rdOf ByteArray.empty x7 x9)) x7 x8 (wrap64 (x9 + 1))) else (none)) else (none)) else (none)) else (some x3)
def spec_l12Text.f (k : Nat) (l0 : List (S101)) : Option (ByteArray) := (spec_l12Pieces.f k l0).bind fun dJ => (spec_l12Text.l0 k (⟨#[]⟩ : ByteArray) dJ (dJ.length : Int) 0)
theorem spec_l12Text.mono_l : ∀ k, (∀ y0 y1 y2 y3, LeO (spec_l12Text.l0 k y0 y1 y2 y3) (spec_l12Text.l0 (k + 1) y0 y1 y2 y3))
 | 0 => fun _ _ _ _ r h => by simp [spec_l12Text.l0] at h
 | k + 1 => by
  have ih0 := spec_l12Text.mono_l k
  ·intro y0 y1 y2 y3
   unfold spec_l12Text.l0
   repeat' first
   | (with_reducible exact ih0 _ _ _ _)
   | (with_reducible exact spec_l12Pieces.mono _ _)
   | (with_reducible exact LeO.refl _)
   | (with_reducible exact LeO.none _)
   | (with_reducible refine LeO.ite ?_ ?_)
   | (with_reducible refine LeO.bind ?_ (fun _ => ?_))
   | exact ih0 _ _ _ _
   | exact spec_l12Pieces.mono _ _
   | exact LeO.none _
   | refine LeO.ite ?_ ?_
   | refine LeO.bind ?_ (fun _ => ?_)
theorem spec_l12Text.mono : ∀ a0 k, LeO (spec_l12Text.f k a0) (spec_l12Text.f (k + 1) a0) := by
 intro a0 k
 have ih0 := spec_l12Text.mono_l k
 unfold spec_l12Text.f
 repeat' first
   | (with_reducible exact ih0 _ _ _ _)
   | (with_reducible exact spec_l12Pieces.mono _ _)
   | (with_reducible exact LeO.refl _)
   | (with_reducible exact LeO.none _)
   | (with_reducible refine LeO.ite ?_ ?_)
   | (with_reducible refine LeO.bind ?_ (fun _ => ?_))
   | exact ih0 _ _ _ _
   | exact spec_l12Pieces.mono _ _
   | exact LeO.none _
   | refine LeO.ite ?_ ?_
   | refine LeO.bind ?_ (fun _ => ?_)
set_option maxHeartbeats 8000000 in
set_option maxRecDepth 100000 in
theorem spec_l12Text.calls (k : Nat) (A0 : Option Addr) (c0 : Nat) (l0 : List (S101)) (r : ByteArray) (w : World) (hr0 : Kd.C k101 w A0 l0.length l0) (hc0 : l0.length ≤ c0) (h : spec_l12Text.f k l0 = some r) :
  Calls Try.prog 27 #[.slice A0 l0.length c0] w fun e w' => e = .returned (.string r) ∧ Below w.heap.size w w' := by
 have bY := aM hr0
 have cQ := aM hc0
 clear hr0 hc0
 have HB := aM (Below.refl w.heap.size w)
 have H : ((spec_l12Pieces.f k l0).bind fun dJ => (spec_l12Text.l0 k (⟨#[]⟩ : ByteArray) dJ (dJ.length : Int) 0)) = some r := h
 clear h
 replace H := oB H
 obtain ⟨dJ, lW, H⟩ := H
 try dsimp only at H
 have A2 := aM lW
 clear lW
 have H' := aM H
 clear H
 go_enter Try.func27, Try.ntmps27
 go_wp2_with (first | ((with_reducible refine aI (f := 32) rfl ?_); refine aN (some 7) rfl rfl Try.func32 z0 rfl #[.slice A0 l0.length c0] rfl z12 ?_; (with_reducible refine (spec_l12Pieces.calls k _ _ l0 dJ _ ?side1 ?side2 A2.out).mono ?_); (case side1 => repeat (first | exact bY.out | (with_reducible refine aE ?_ _) | (with_reducible refine aG ?_ _) | (with_reducible refine aH ?_))); (case side2 => exact cQ.out); rintro e w3 ⟨v148, rfl, ho0, hb⟩; refine ⟨_, rfl, ?_⟩; have a6 := aM (aT ho0 (az z11)); have ba := aM (ay z11 hb); clear HB; have mt := a6; have HB := ba; clear a6 ba; (try clear hb); (try clear hb2); (try clear hk); (try clear hi); (try clear ho0); obtain ⟨np, m7, eo4⟩ := Kd.R_slice mt.out; subst eo4))
 go_loopg [3, 9] k (fun kq v3 v9 w' => ∃ (x3_1 : ByteArray) (x9_1 : Int), v3 = .string x3_1 ∧ v9 = .int .i64 x9_1 ∧ Aside0 (spec_l12Text.l0 kq x3_1 dJ (dJ.length : Int) x9_1 = some r) ∧ Aside0 (kq ≤ k) ∧ Aside0 (Kd.R Kd.string 9 w' w.heap.size (fun _ => True) (.slice np dJ.length m7) dJ) ∧ Aside0 (Below w.heap.size w w'))
 case atStart => exact ⟨((⟨#[]⟩ : ByteArray)), (0), z1, z1, H', ⟨Nat.le_refl _⟩, ⟨by (with_reducible repeat (first | apply ae | apply ac | apply aa)); exact mt.out⟩, ⟨y4⟩⟩
 case round =>
  clear H'
  try clear c2
  try clear p2
  try clear c3
  obtain ⟨x3_1, x9_1, rfl, rfl, HA, HK1, nR, HB⟩ := hrel
  cases gk with
  | zero => exact absurd HA.out (by simp [spec_l12Text.l0])
  | succ k1 =>
   have H := HA.out
   clear HA
   simp only [spec_l12Text.l0] at H
   by_cases c5 : x9_1 < (dJ.length : Int)
   ·rw [if_pos c5] at H
    have c5b0 : decide (x9_1 < (dJ.length : Int)) = true := dT c5
    clear c5
    by_cases c6 : 0 ≤ x9_1
    ·rw [if_pos c6] at H
     have c6b0 : decide (0 ≤ x9_1) = true := dT c6
     clear c6
     by_cases c7 : x9_1 < (dJ.length : Int)
     ·rw [if_pos c7] at H
      have c7b0 : decide (x9_1 < (dJ.length : Int)) = true := dT c7
      clear c7
      by_cases c8 : x3_1.size + (rdOf ByteArray.empty dJ x9_1).size ≤ 9223372036854775807
      ·rw [if_pos c8] at H
       have c8b0 := eq_true c8
       have c8b1 : decide (x3_1.size + (rdOf ByteArray.empty dJ x9_1).size ≤ 9223372036854775807) = true := dT c8
       try have c8b2 : (9223372036854775807 < x3_1.size + (rdOf ByteArray.empty dJ x9_1).size) = False := eq_false (Nat.not_lt.2 c8)
       have H' := aM H
       clear H
       have p150 : 0 ≤ (x9_1 : Int) := oD z2
       have q150 : x9_1 < (dJ.length : Int) := oD z2
       obtain ⟨ad150, e150, hx150_0⟩ := Kd.at_string (ai nR.out).2.2 x9_1 p150 q150
       cases e150
       replace p150 := eq_true p150
       replace q150 := eq_true q150
       go_wp2
       go_roundg k1
       case measure => have := HK1.out; omega
       case rel => exact ⟨(x3_1 ++ (rdOf ByteArray.empty dJ x9_1)), (wrap64 (x9_1 + 1)), z1, z1, H', ⟨y0⟩, ⟨by (with_reducible repeat (first | apply ae | apply ac | apply aa)); exact nR.out⟩, ⟨y4⟩⟩
      ·rw [if_neg c8] at H
       exact absurd H (by simp)
     ·rw [if_neg c7] at H
      exact absurd H (by simp)
    ·rw [if_neg c6] at H
     exact absurd H (by simp)
   ·rw [if_neg c5] at H
    have c5b0 : decide (x9_1 < (dJ.length : Int)) = false := dF c5
    clear c5
    obtain rfl := sI H
    go_wp2
    go_ret
    exact ⟨y3, y4⟩

/-! ### spec_l12Cut: function 28 -/
def spec_l12Cut.l0 : Nat → ByteArray → List ByteArray → Option (List ByteArray)
 | 0, _, _ => none
 | k + 1, x0, x3 => if (x0.size : Int) > 8 then (if 0 ≤ 8 then (if 8 ≤ (x0.size : Int) then (if x3.length < 8796093022208 then (spec_l12Cut.l0 k (x0.extract 8 x0.size) (x3 ++ [x0.extract 0 8])) else (none)) else (none)) else (none)) else (if x0.toList = ([] : List UInt8) then (some x3) else (if x3.length < 8796093022208 then (some (x3 ++ [x0])) else (none)))
def spec_l12Cut.f (k : Nat) (a0 : ByteArray) : Option (List ByteArray) := spec_l12Cut.l0 k a0 ([] : List ByteArray)
theorem spec_l12Cut.mono_l : ∀ k, (∀ y0 y1, LeO (spec_l12Cut.l0 k y0 y1) (spec_l12Cut.l0 (k + 1) y0 y1))
 | 0 => fun _ _ r h => by simp [spec_l12Cut.l0] at h
 | k + 1 => by
  have ih0 := spec_l12Cut.mono_l k
  ·intro y0 y1
   unfold spec_l12Cut.l0
   repeat' first
   | (with_reducible exact ih0 _ _)
   | (with_reducible exact LeO.refl _)
   | (with_reducible exact LeO.none _)
   | (with_reducible refine LeO.ite ?_ ?_)
   | (with_reducible refine LeO.bind ?_ (fun _ => ?_))
   | exact ih0 _ _
   | exact LeO.none _
   | refine LeO.ite ?_ ?_
   | refine LeO.bind ?_ (fun _ => ?_)
theorem spec_l12Cut.mono : ∀ a0 k, LeO (spec_l12Cut.f k a0) (spec_l12Cut.f (k + 1) a0) := by
 intro a0 k
 have ih0 := spec_l12Cut.mono_l k
 unfold spec_l12Cut.f
 repeat' first
   | (with_reducible exact ih0 _ _)
   | (with_reducible exact LeO.refl _)
   | (with_reducible exact LeO.none _)
   | (with_reducible refine LeO.ite ?_ ?_)
   | (with_reducible refine LeO.bind ?_ (fun _ => ?_))
   | exact ih0 _ _
   | exact LeO.none _
   | refine LeO.ite ?_ ?_
   | refine LeO.bind ?_ (fun _ => ?_)
set_option maxHeartbeats 8000000 in
set_option maxRecDepth 100000 in
theorem spec_l12Cut.calls (k : Nat) (a0 : ByteArray) (r : List ByteArray) (w : World) (h : spec_l12Cut.f k a0 = some r) :
  Calls Try.prog 28 #[.string a0] w fun e w' => ∃ v0_ : Value, e = .returned (v0_) ∧ Kd.R Kd.string 9 w' w.heap.size (fun _ => True) v0_ r ∧ Below w.heap.size w w' := by
 have HB := aM (Below.refl w.heap.size w)
 have H : (spec_l12Cut.l0 k a0 ([] : List ByteArray)) = some r := h
 clear h
 have H' := aM H
 clear H
 go_enter Try.func28, Try.ntmps28
 go_wp2
 go_loopg [0, 3] k (fun kq v0 v3 w' => ∃ (x0_1 : ByteArray) (x3_1 : List ByteArray), v0 = .string x0_1 ∧ Aside0 (spec_l12Cut.l0 kq x0_1 x3_1 = some r) ∧ Aside0 (kq ≤ k) ∧ Aside0 (Kd.R Kd.string 9 w' w.heap.size (fun _ => True) v3 x3_1) ∧ Aside0 (Below w.heap.size w w'))
 case atStart => exact ⟨(a0), (([] : List ByteArray)), z1, H', ⟨Nat.le_refl _⟩, ⟨by first | exact Kd.R_nil _ _ _ _ _ | exact Kd.N_nil _ _ _ _ _ | exact Kd.V_nil _ _ _ _ _ | exact Kd.Q_nil _ _ _ _ _ | exact Kd.S_nil _ _ _ _ _⟩, ⟨y4⟩⟩
 case round =>
  clear H'
  obtain ⟨x0_1, x3_1, rfl, HA, HK1, cw, HB⟩ := hrel
  cases gk with
  | zero => exact absurd HA.out (by simp [spec_l12Cut.l0])
  | succ k1 =>
   have H := HA.out
   clear HA
   simp only [spec_l12Cut.l0] at H
   by_cases c2 : (x0_1.size : Int) > 8
   ·rw [if_pos c2] at H
    have c2b0 : decide (8 < (x0_1.size : Int)) = true := dT c2
    have c2b1 : decide (8 < x0_1.size) = true := dT (by omega)
    clear c2
    by_cases c3 : 0 ≤ 8
    ·rw [if_pos c3] at H
     have c3b0 := eq_true c3
     have c3b1 : decide (0 ≤ 8) = true := dT c3
     clear c3
     by_cases c4 : 8 ≤ (x0_1.size : Int)
     ·rw [if_pos c4] at H
      have c4b0 := eq_true c4
      have c4b1 : decide (8 ≤ (x0_1.size : Int)) = true := dT c4
      clear c4
      by_cases c5 : x3_1.length < 8796093022208
      ·rw [if_pos c5] at H
       have LMc5 := aM c5
       clear c5
       obtain ⟨y151, hy151⟩ : ∃ y_ : List ByteArray, y_ = (x3_1 ++ [x0_1.extract 0 8]) := ⟨_, rfl⟩
       replace H : (spec_l12Cut.l0 k1 (x0_1.extract 8 x0_1.size) y151) = some r := by first | (rw [hy151]; with_reducible exact H) | (have H2_ := (Option.bind_some _ _).symm.trans H; rw [hy151]; with_reducible exact H2_) | (have H2_ := (Option.bind_some _ _).symm.trans H; with_reducible exact H2_) | with_reducible exact H | (rw [hy151]; exact H) | exact H
       have Ny151 := aM hy151
       clear hy151
       have c6b0 := eq_true (oD z2 : 8 ≤ (x0_1.size : Int))
       have H' := aM H
       clear H
       go_wp2_with (first | ((with_reducible refine gate_builtin (b := .append) (xs := #[.tmp 7, .tmp 10]) rfl ?_); at_builtin; refine Kd.R_append Kd.string (w0 := w) w.heap.size rfl (.tmp 7) (.tmp 10) 60 9 (.string ⟨#[]⟩) 16 rfl Try.underlying60 info9 rfl (by decide) (by omega) u3 x3_1 (x0_1.extract 0 8) [.string (x0_1.extract 0 8)] (fun _ => True) (fun _ => False) rfl rfl ?aP (fun _ hk => hk.elim) ?aF ?aO ?aB ?aS ?aL ?_; (case aP => exact rfl); (case aB => exact z11); (case aF => exact (fun _ _ => trivial)); (case aO => exact (by (with_reducible repeat (first | apply ae | apply ac | apply aa)); exact cw.out)); (case aS => exact (az z11)); (case aL => have := LMc5.out; omega); intro v152 w7 ho hb hg hat; rw [← Ny151.out] at ho; have a6 := aM (hb); have ba := aM (ho); clear HB; clear cw; have HB := a6; have HO153 := ba; clear a6 ba; clear ho hb hg hat))
       go_roundg k1
       case measure => have := HK1.out; omega
       case rel => exact ⟨(x0_1.extract 8 x0_1.size), (y151), z1, H', ⟨y0⟩, ⟨by (with_reducible repeat (first | apply ae | apply ac | apply aa)); exact HO153.out⟩, ⟨y4⟩⟩
      ·rw [if_neg c5] at H
       exact absurd H (by simp)
     ·rw [if_neg c4] at H
      exact absurd H (by simp)
    ·exact absurd (by decide) c3
   ·rw [if_neg c2] at H
    have c2b0 : decide (8 < (x0_1.size : Int)) = false := dF c2
    have c2b1 : decide (8 < x0_1.size) = false := dF (by omega)
    clear c2
    by_cases c8 : x0_1.toList = ([] : List UInt8)
    ·rw [if_pos c8] at H
     have c8b0 : (x0_1.toList == ([] : List UInt8)) = true := qT c8
     have c8b1 : (x0_1.toList != ([] : List UInt8)) = false := nF c8
     clear c8
     obtain rfl := sI H
     go_wp2
     all_goals (try (exfalso; rename_i h_; rw [c8b0] at h_; cases h_; done))
     go_ret
     exact ⟨_, y3, y5, y4⟩
    ·rw [if_neg c8] at H
     have c8b0 : (x0_1.toList == ([] : List UInt8)) = false := qF c8
     have c8b1 : (x0_1.toList != ([] : List UInt8)) = true := nT c8
     by_cases c9 : x3_1.length < 8796093022208
     ·rw [if_pos c9] at H
      have LMc9 := aM c9
      clear c9
      obtain ⟨y154, hy154⟩ : ∃ y_ : List ByteArray, y_ = (x3_1 ++ [x0_1]) := ⟨_, rfl⟩
      replace H : (some y154) = some r := by first | (rw [hy154]; with_reducible exact H) | (have H2_ := (Option.bind_some _ _).symm.trans H; rw [hy154]; with_reducible exact H2_) | (have H2_ := (Option.bind_some _ _).symm.trans H; with_reducible exact H2_) | with_reducible exact H | (rw [hy154]; exact H) | exact H
      have Ny154 := aM hy154
      clear hy154
      obtain rfl := sI H
      go_wp2_with (first | ((with_reducible refine gate_builtin (b := .append) (xs := #[.tmp 16, .tmp 18]) rfl ?_); at_builtin; refine Kd.R_append Kd.string (w0 := w) w.heap.size rfl (.tmp 16) (.tmp 18) 60 9 (.string ⟨#[]⟩) 16 rfl Try.underlying60 info9 rfl (by decide) (by omega) u3 x3_1 x0_1 [.string x0_1] (fun _ => True) (fun _ => False) rfl rfl ?aP (fun _ hk => hk.elim) ?aF ?aO ?aB ?aS ?aL ?_; (case aP => exact rfl); (case aB => exact z11); (case aF => exact (fun _ _ => trivial)); (case aO => exact (by (with_reducible repeat (first | apply ae | apply ac | apply aa)); exact cw.out)); (case aS => exact (az z11)); (case aL => have := LMc9.out; omega); intro v155 w10 ho hb hg hat; rw [← Ny154.out] at ho; have a6 := aM (hb); have ba := aM (ho); clear HB; clear cw; have HB := a6; have HO156 := ba; clear a6 ba; clear ho hb hg hat))
      all_goals (try (exfalso; rename_i h_; rw [c8b0] at h_; cases h_; done))
      go_ret
      exact ⟨_, y3, by (with_reducible repeat (first | apply ae | apply ac | apply aa)); exact HO156.out, y4⟩
     ·rw [if_neg c9] at H
      exact absurd H (by simp)

end Go.Proofs.Ytblnnbaeiggmoaa.AFnExactEditRope
