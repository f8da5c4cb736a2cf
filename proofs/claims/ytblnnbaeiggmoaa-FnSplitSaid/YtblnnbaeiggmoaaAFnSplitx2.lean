-- this session's own text: written by wip/tools/ownprint.py over the kit's print
import Derived.Test.YtblnnbaeiggmoaaAFnSplitx0
import Derived.Test.YtblnnbaeiggmoaaAFnSplitx1
namespace Go.Proofs.Ytblnnbaeiggmoaa.AFnSplit
open Go.RowKit Go.Proofs.YtblnnbaeiggmoaaW.PrintWords Go.Proofs.YtblnnbaeiggmoaaW.PrintLast Go.Proofs.YtblnnbaeiggmoaaW.PrintMore
attribute [local go_sem] max2_int min2_int max_two min_two max_three min_three max_four min_four   -- for this text's walks alone
set_option linter.unusedVariables false
set_option linter.unusedSimpArgs false

/-! ### spec_l12First: function 59 -/
mutual
def spec_l12First.j0 : Nat → List (S101) → Int → Bool → Int → Int → ByteArray → Int → Int → Option (Int)
 | 0, _, _, _, _, _, _, _, _ => none
 | k + 1, x0, x1, x19, x105000, x105001, x105002, x105003, x105004 => if x19 = true then ((spec_l1In.f (x105002.size : Int) 1 8).bind fun tH => (if tH = true then ((spec_l1Text.f k x105002).bind fun tG => (if tG = true then (if x105003 = (x105002.size : Int) then (if x105004 = 0 then (some x1) else (some (-1))) else (some (-1))) else (some (-1)))) else (some (-1)))) else (if x105002.toList = ([] : List UInt8) then (if x105001 = (wrap64 (x1 - 1)) then (spec_l12First.j1 k x0 x1 (decide (x1 < 2)) x105000 x105001 x105002 x105003 x105004) else (spec_l12First.j1 k x0 x1 true x105000 x105001 x105002 x105003 x105004)) else (spec_l12First.j1 k x0 x1 true x105000 x105001 x105002 x105003 x105004))
def spec_l12First.j1 : Nat → List (S101) → Int → Bool → Int → Int → ByteArray → Int → Int → Option (Int)
 | 0, _, _, _, _, _, _, _, _ => none
 | k + 1, x0, x1, x58, x105000, x105001, x105002, x105003, x105004 => if x58 = true then (some (-1)) else ((spec_l12First.f k x0 (wrap64 (x1 - 1))).bind fun l9 => (if l9 < 1 then (spec_l12First.j2 k x0 true x105000 x105001 x105002 x105003 x105004) else (spec_l12First.j2 k x0 (x105000 != (wrap64 (l9 - 1))) x105000 x105001 x105002 x105003 x105004)))
def spec_l12First.j2 : Nat → List (S101) → Bool → Int → Int → ByteArray → Int → Int → Option (Int)
 | 0, _, _, _, _, _, _, _ => none
 | k + 1, x0, x71, x105000, x105001, x105002, x105003, x105004 => if x71 = true then (some (-1)) else (if 0 ≤ x105000 then (if x105000 < (x0.length : Int) then (if 0 ≤ x105001 then (if x105001 < (x0.length : Int) then (if ((rd_T101 x0 x105001).f4) > ((rd_T101 x0 x105000).f4) then (if x105003 = (wrap64 (((rd_T101 x0 x105000).f3) + ((rd_T101 x0 x105001).f3))) then (if x105004 = (wrap64 (((rd_T101 x0 x105001).f4) + 1)) then ((spec_l12First.f k x0 x105000).bind fun qN => (some qN)) else (some (-1))) else (some (-1))) else (if x105003 = (wrap64 (((rd_T101 x0 x105000).f3) + ((rd_T101 x0 x105001).f3))) then (if x105004 = (wrap64 (((rd_T101 x0 x105000).f4) + 1)) then ((spec_l12First.f k x0 x105000).bind fun qM => (some qM)) else (some (-1))) else (some (-1)))) else (none)) else (none)) else (none)) else (none))
def spec_l12First.f : Nat → List (S101) → Int → Option (Int)
 | 0, _, _ => none
 | k + 1, l0, a1 => if 0 ≤ a1 then (if a1 < (l0.length : Int) then (if ((rd_T101 l0 a1).f0) = (-1) then (spec_l12First.j0 k l0 a1 (((rd_T101 l0 a1).f1) == (-1)) ((rd_T101 l0 a1).f0) ((rd_T101 l0 a1).f1) ((rd_T101 l0 a1).f2) ((rd_T101 l0 a1).f3) ((rd_T101 l0 a1).f4)) else (spec_l12First.j0 k l0 a1 false ((rd_T101 l0 a1).f0) ((rd_T101 l0 a1).f1) ((rd_T101 l0 a1).f2) ((rd_T101 l0 a1).f3) ((rd_T101 l0 a1).f4))) else (none)) else (none)
end
theorem spec_l12First.mono_l : ∀ k, (∀ y0 y1, LeO (spec_l12First.f k y0 y1) (spec_l12First.f (k + 1) y0 y1)) ∧ (∀ y0 y1 y2 y3 y4 y5 y6 y7, LeO (spec_l12First.j0 k y0 y1 y2 y3 y4 y5 y6 y7) (spec_l12First.j0 (k + 1) y0 y1 y2 y3 y4 y5 y6 y7)) ∧ (∀ y0 y1 y2 y3 y4 y5 y6 y7, LeO (spec_l12First.j1 k y0 y1 y2 y3 y4 y5 y6 y7) (spec_l12First.j1 (k + 1) y0 y1 y2 y3 y4 y5 y6 y7)) ∧ (∀ y0 y1 y2 y3 y4 y5 y6, LeO (spec_l12First.j2 k y0 y1 y2 y3 y4 y5 y6) (spec_l12First.j2 (k + 1) y0 y1 y2 y3 y4 y5 y6))
 | 0 => ⟨fun _ _ r h => by simp [spec_l12First.f] at h, fun _ _ _ _ _ _ _ _ r h => by simp [spec_l12First.j0] at h, fun _ _ _ _ _ _ _ _ r h => by simp [spec_l12First.j1] at h, fun _ _ _ _ _ _ _ r h => by simp [spec_l12First.j2] at h⟩
 | k + 1 => by
  obtain ⟨ih0, ih1, ih2, ih3⟩ := spec_l12First.mono_l k
  refine ⟨?_, ?_, ?_, ?_⟩
  ·intro y0 y1
   unfold spec_l12First.f
   repeat' first
   | (with_reducible exact ih0 _ _)
   | (with_reducible exact ih1 _ _ _ _ _ _ _ _)
   | (with_reducible exact ih2 _ _ _ _ _ _ _ _)
   | (with_reducible exact ih3 _ _ _ _ _ _ _)
   | (with_reducible exact spec_l1Text.mono _ _)
   | (with_reducible exact LeO.refl _)
   | (with_reducible exact LeO.none _)
   | (with_reducible refine LeO.ite ?_ ?_)
   | (with_reducible refine LeO.bind ?_ (fun _ => ?_))
  ·intro y0 y1 y2 y3 y4 y5 y6 y7
   unfold spec_l12First.j0
   repeat' first
   | (with_reducible exact ih0 _ _)
   | (with_reducible exact ih1 _ _ _ _ _ _ _ _)
   | (with_reducible exact ih2 _ _ _ _ _ _ _ _)
   | (with_reducible exact ih3 _ _ _ _ _ _ _)
   | (with_reducible exact spec_l1Text.mono _ _)
   | (with_reducible exact LeO.refl _)
   | (with_reducible exact LeO.none _)
   | (with_reducible refine LeO.ite ?_ ?_)
   | (with_reducible refine LeO.bind ?_ (fun _ => ?_))
  ·intro y0 y1 y2 y3 y4 y5 y6 y7
   unfold spec_l12First.j1
   repeat' first
   | (with_reducible exact ih0 _ _)
   | (with_reducible exact ih1 _ _ _ _ _ _ _ _)
   | (with_reducible exact ih2 _ _ _ _ _ _ _ _)
   | (with_reducible exact ih3 _ _ _ _ _ _ _)
   | (with_reducible exact spec_l1Text.mono _ _)
   | (with_reducible exact LeO.refl _)
   | (with_reducible exact LeO.none _)
   | (with_reducible refine LeO.ite ?_ ?_)
   | (with_reducible refine LeO.bind ?_ (fun _ => ?_))
  ·intro y0 y1 y2 y3 y4 y5 y6
   unfold spec_l12First.j2
   repeat' first
   | (with_reducible exact ih0 _ _)
   | (with_reducible exact ih1 _ _ _ _ _ _ _ _)
   | (with_reducible exact ih2 _ _ _ _ _ _ _ _)
   | (with_reducible exact ih3 _ _ _ _ _ _ _)
   | (with_reducible exact spec_l1Text.mono _ _)
   | (with_reducible exact LeO.refl _)
   | (with_reducible exact LeO.none _)
   | (with_reducible refine LeO.ite ?_ ?_)
   | (with_reducible refine LeO.bind ?_ (fun _ => ?_))
theorem spec_l12First.mono : ∀ a0 a1 k, LeO (spec_l12First.f k a0 a1) (spec_l12First.f (k + 1) a0 a1) := by
 intro a0 a1 k
 obtain ⟨ih0, ih1, ih2, ih3⟩ := spec_l12First.mono_l k
 exact ih0 a0 a1
set_option maxHeartbeats 8000000 in
set_option maxRecDepth 100000 in
theorem spec_l12First.calls (k : Nat) : ∀ (A0 : Option Addr) (c0 : Nat) (l0 : List (S101)) (a1 : Int) (r : Int) (w : World) (hr0 : Kd.C k101 w A0 l0.length l0) (hc0 : l0.length ≤ c0) (h : spec_l12First.f k l0 a1 = some r),
  Calls Try.prog 59 #[.slice A0 l0.length c0, .int .i64 a1] w fun e w' => e = .returned (.int .i64 r) ∧ Below w.heap.size w w' := by
 induction k using Nat.strongRecOn with
 | _ k ih =>
 intro A0 c0 l0 a1 r w hr0 hc0 h
 cases k with
 | zero => exact absurd h (by simp [spec_l12First.f])
 | succ k =>
 simp only [spec_l12First.f] at h
 have hu101 := Try.underlying101
 have dY := aM hr0
 have en := aM hc0
 clear hr0 hc0
 have HB := aM (Below.refl w.heap.size w)
 have H : (if 0 ≤ a1 then (if a1 < (l0.length : Int) then (if ((rd_T101 l0 a1).f0) = (-1) then (spec_l12First.j0 k l0 a1 (((rd_T101 l0 a1).f1) == (-1)) ((rd_T101 l0 a1).f0) ((rd_T101 l0 a1).f1) ((rd_T101 l0 a1).f2) ((rd_T101 l0 a1).f3) ((rd_T101 l0 a1).f4)) else (spec_l12First.j0 k l0 a1 false ((rd_T101 l0 a1).f0) ((rd_T101 l0 a1).f1) ((rd_T101 l0 a1).f2) ((rd_T101 l0 a1).f3) ((rd_T101 l0 a1).f4))) else (none)) else (none)) = some r := h
 clear h
 by_cases c3 : 0 ≤ a1
 ·rw [if_pos c3] at H
  have c3b0 : decide (0 ≤ a1) = true := dT c3
  clear c3
  by_cases c4 : a1 < (l0.length : Int)
  ·rw [if_pos c4] at H
   have c4b0 : decide (a1 < (l0.length : Int)) = true := dT c4
   clear c4
   have jH := aM H
   clear H
   have p103 : 0 ≤ (a1 : Int) := oD z3
   have q103 : a1 < (l0.length : Int) := oD z3
   obtain ⟨ad103, e103, hx103_0, hx103_1, hx103_2, hx103_3, hx103_4⟩ := at_T101 dY.out a1 p103 q103
   cases e103
   replace p103 := eq_true p103
   replace q103 := eq_true q103
   go_enter Try.func59, Try.ntmps59
   go_upto_region 2 with (first | ((with_reducible refine aN (N := 5) rfl ?_); (try (refine gate_guard (by rfl) ?_; dsimp only)); refine aQ ?hg (N := 5) ?hd (cs := #[.int .i64 0, .int .i64 0, .string ⟨#[]⟩, .int .i64 0, .int .i64 0]) (t := 101) ?hr ?_; (case hd => rfl); (case hg => rfl); (case hr => first | (go_simp; done) | (go_simp; rfl)); intro b0 hg w6 hbox hb; have bo := aM (hbox); have sH := aM ((by rw [hg]; exact (aC z32) : w.heap.size ≤ b0)); have iN := aM ((by rw [hg]; exact (aC z32) : w.heap.size ≤ b0)); replace HB := aM (aA z32 hb); clear hb hbox hg; obtain ⟨lg, ld, lc, lb, la, k6, k5, k4, kZ, kY⟩ := cc5 bo.out))
   repeat (go_quiet (fail); go_upto_region 2 with (first | ((with_reducible refine aN (N := 5) rfl ?_); (try (refine gate_guard (by rfl) ?_; dsimp only)); refine aQ ?hg (N := 5) ?hd (cs := #[.int .i64 0, .int .i64 0, .string ⟨#[]⟩, .int .i64 0, .int .i64 0]) (t := 101) ?hr ?_; (case hd => rfl); (case hg => rfl); (case hr => first | (go_simp; done) | (go_simp; rfl)); intro b0 hg w6 hbox hb; have bo := aM (hbox); have sH := aM ((by rw [hg]; exact (aC z32) : w.heap.size ≤ b0)); have iN := aM ((by rw [hg]; exact (aC z32) : w.heap.size ≤ b0)); replace HB := aM (aA z32 hb); clear hb hbox hg; obtain ⟨lg, ld, lc, lb, la, k6, k5, k4, kZ, kY⟩ := cc5 bo.out)))
   (try simp only [Act.put, sA, sB, sC])
   go_cut [19] (fun v19 wc => ∃ (kq : Nat) (x19_4 : Bool), v19 = .bool x19_4 ∧ Aside0 (spec_l12First.j0 kq l0 a1 x19_4 ((rd_T101 l0 a1).f0) ((rd_T101 l0 a1).f1) ((rd_T101 l0 a1).f2) ((rd_T101 l0 a1).f3) ((rd_T101 l0 a1).f4) = some r) ∧ Aside0 (kq ≤ k) ∧ Aside0 (wc.heap[b0]? = some (.cells #[.int .i64 ((rd_T101 l0 a1).f0), .int .i64 ((rd_T101 l0 a1).f1), .string ((rd_T101 l0 a1).f2), .int .i64 ((rd_T101 l0 a1).f3), .int .i64 ((rd_T101 l0 a1).f4)] 101 (0, 0))) ∧ Aside0 (Below w.heap.size w wc))
   case first =>
    have H := jH.out
    clear jH
    by_cases c8 : ((rd_T101 l0 a1).f0) = (-1)
    ·rw [if_pos c8] at H
     have c8b0 : (((rd_T101 l0 a1).f0) == (-1)) = true := qT c8
     have c8b1 : (((rd_T101 l0 a1).f0) != (-1)) = false := nF c8
     clear c8
     (first | rw [c8b0] | (simp only [i64_w, i32_w]; rw [c8b0]) | skip)
     have H' := aM H
     clear H
     obtain ⟨jc, jb, ja, oC, oA, jT, i9, i7, oz, oy⟩ := cc5 bo.out
     go_wp2
     repeat (go_quiet (fail); try go_wp2)
     go_meet
     case rel => exact ⟨_, ((((rd_T101 l0 a1).f1) == (-1))), z2, H', ⟨by first | omega | exact Nat.le_refl _⟩, ⟨by (with_reducible repeat (first | refine au ?_ _ | refine ar ?_ | refine av ?_ _)); refine ax (cs := #[.int .i64 ((rd_T101 l0 a1).f0), .int .i64 ((rd_T101 l0 a1).f1), .string ((rd_T101 l0 a1).f2), .int .i64 ((rd_T101 l0 a1).f3), .int .i64 0]) ?_ 4 _ rfl; (with_reducible repeat (first | refine au ?_ _ | refine ar ?_ | refine av ?_ _)); refine ax (cs := #[.int .i64 ((rd_T101 l0 a1).f0), .int .i64 ((rd_T101 l0 a1).f1), .string ((rd_T101 l0 a1).f2), .int .i64 0, .int .i64 0]) ?_ 3 _ rfl; (with_reducible repeat (first | refine au ?_ _ | refine ar ?_ | refine av ?_ _)); refine ax (cs := #[.int .i64 ((rd_T101 l0 a1).f0), .int .i64 ((rd_T101 l0 a1).f1), .string ⟨#[]⟩, .int .i64 0, .int .i64 0]) ?_ 2 _ rfl; (with_reducible repeat (first | refine au ?_ _ | refine ar ?_ | refine av ?_ _)); refine ax (cs := #[.int .i64 ((rd_T101 l0 a1).f0), .int .i64 0, .string ⟨#[]⟩, .int .i64 0, .int .i64 0]) ?_ 1 _ rfl; (with_reducible repeat (first | refine au ?_ _ | refine ar ?_ | refine av ?_ _)); refine ax (cs := #[.int .i64 0, .int .i64 0, .string ⟨#[]⟩, .int .i64 0, .int .i64 0]) ?_ 0 _ rfl; (with_reducible repeat (first | refine au ?_ _ | refine ar ?_ | refine av ?_ _)); exact bo.out⟩, ⟨y8⟩⟩
    ·rw [if_neg c8] at H
     have c8b0 : (((rd_T101 l0 a1).f0) == (-1)) = false := qF c8
     have c8b1 : (((rd_T101 l0 a1).f0) != (-1)) = true := nT c8
     (first | rw [c8b0] | (simp only [i64_w, i32_w]; rw [c8b0]) | skip)
     have H' := aM H
     clear H
     obtain ⟨nl, nk, nj, ni, nh, mW, mV, mU, mT, mS⟩ := cc5 bo.out
     go_wp2
     repeat (go_quiet (fail); try go_wp2)
     go_meet
     case rel => exact ⟨_, (false), z2, H', ⟨by first | omega | exact Nat.le_refl _⟩, ⟨by (with_reducible repeat (first | refine au ?_ _ | refine ar ?_ | refine av ?_ _)); refine ax (cs := #[.int .i64 ((rd_T101 l0 a1).f0), .int .i64 ((rd_T101 l0 a1).f1), .string ((rd_T101 l0 a1).f2), .int .i64 ((rd_T101 l0 a1).f3), .int .i64 0]) ?_ 4 _ rfl; (with_reducible repeat (first | refine au ?_ _ | refine ar ?_ | refine av ?_ _)); refine ax (cs := #[.int .i64 ((rd_T101 l0 a1).f0), .int .i64 ((rd_T101 l0 a1).f1), .string ((rd_T101 l0 a1).f2), .int .i64 0, .int .i64 0]) ?_ 3 _ rfl; (with_reducible repeat (first | refine au ?_ _ | refine ar ?_ | refine av ?_ _)); refine ax (cs := #[.int .i64 ((rd_T101 l0 a1).f0), .int .i64 ((rd_T101 l0 a1).f1), .string ⟨#[]⟩, .int .i64 0, .int .i64 0]) ?_ 2 _ rfl; (with_reducible repeat (first | refine au ?_ _ | refine ar ?_ | refine av ?_ _)); refine ax (cs := #[.int .i64 ((rd_T101 l0 a1).f0), .int .i64 0, .string ⟨#[]⟩, .int .i64 0, .int .i64 0]) ?_ 1 _ rfl; (with_reducible repeat (first | refine au ?_ _ | refine ar ?_ | refine av ?_ _)); refine ax (cs := #[.int .i64 0, .int .i64 0, .string ⟨#[]⟩, .int .i64 0, .int .i64 0]) ?_ 0 _ rfl; (with_reducible repeat (first | refine au ?_ _ | refine ar ?_ | refine av ?_ _)); exact bo.out⟩, ⟨y8⟩⟩
   case rest =>
    clear jH
    try clear c3
    try clear c3b0
    try clear c4
    try clear c4b0
    try clear lg
    try clear ld
    try clear lc
    try clear lb
    try clear la
    try clear k6
    try clear k5
    try clear k4
    try clear kZ
    try clear kY
    try clear hx103_0
    try clear hx103_1
    try clear hx103_2
    try clear hx103_3
    try clear hx103_4
    try clear p103
    try clear q103
    obtain ⟨kq, x19_4, rfl, HA, jg, bo, HB⟩ := hcut
    cases kq with
    | zero => exact absurd HA.out (by simp [spec_l12First.j0])
    | succ kj4 =>
     have H := HA.out
     clear HA
     simp only [spec_l12First.j0] at H
     by_cases fY : x19_4 = true
     ·subst fY
      rw [if_pos rfl] at H
      obtain ⟨tH, lW, H⟩ := oA_ H
      try dsimp only at H
      by_cases fZ : tH = true
      ·subst fZ
       rw [if_pos rfl] at H
       obtain ⟨tG, iP, H⟩ := oA_ H
       try dsimp only at H
       by_cases gn : tG = true
       ·subst gn
        rw [if_pos rfl] at H
        by_cases gE : ((rd_T101 l0 a1).f3) = (((rd_T101 l0 a1).f2).size : Int)
        ·rw [if_pos gE] at H
         have c16b0 : (((rd_T101 l0 a1).f3) == (((rd_T101 l0 a1).f2).size : Int)) = true := qT gE
         have c16b1 : (((rd_T101 l0 a1).f3) != (((rd_T101 l0 a1).f2).size : Int)) = false := nF gE
         clear gE
         by_cases gA : ((rd_T101 l0 a1).f4) = 0
         ·rw [if_pos gA] at H
          have c17b0 : (((rd_T101 l0 a1).f4) == 0) = true := qT gA
          have c17b1 : (((rd_T101 l0 a1).f4) != 0) = false := nF gA
          clear gA
          obtain rfl := sI H
          obtain ⟨kD, pJ, pI, pH, pG, kr, o9, o8, o7, o6⟩ := cc5 bo.out
          go_wp2_with (first | (go_at_call 49; (with_reducible refine (spec_l1In.calls (((rd_T101 l0 a1).f2).size : Int) 1 8 true _ lW.out).mono ?_); rintro e w' ⟨rfl, ⟨nd, rfl⟩⟩; (try exact dD_)) | (go_at_call 77; (with_reducible refine (spec_l1Text.calls kj4 ((rd_T101 l0 a1).f2) true _ iP.out).mono ?_); rintro e w' ⟨rfl, ⟨nd, rfl⟩⟩; (try exact dD_)))
          repeat (go_quiet (first | (go_at_call 49; (with_reducible refine (spec_l1In.calls (((rd_T101 l0 a1).f2).size : Int) 1 8 true _ lW.out).mono ?_); rintro e w' ⟨rfl, ⟨nd, rfl⟩⟩; (try exact dD_)) | (go_at_call 77; (with_reducible refine (spec_l1Text.calls kj4 ((rd_T101 l0 a1).f2) true _ iP.out).mono ?_); rintro e w' ⟨rfl, ⟨nd, rfl⟩⟩; (try exact dD_))); try go_wp2_with (first | (go_at_call 49; (with_reducible refine (spec_l1In.calls (((rd_T101 l0 a1).f2).size : Int) 1 8 true _ lW.out).mono ?_); rintro e w' ⟨rfl, ⟨nd, rfl⟩⟩; (try exact dD_)) | (go_at_call 77; (with_reducible refine (spec_l1Text.calls kj4 ((rd_T101 l0 a1).f2) true _ iP.out).mono ?_); rintro e w' ⟨rfl, ⟨nd, rfl⟩⟩; (try exact dD_))))
          go_ret
          exact ⟨y4, y8⟩
         ·rw [if_neg gA] at H
          have c17b0 : (((rd_T101 l0 a1).f4) == 0) = false := qF gA
          have c17b1 : (((rd_T101 l0 a1).f4) != 0) = true := nT gA
          obtain rfl := sI H
          obtain ⟨iU, nf, nc, nb, na, iR, mQ, mP, mO, mN⟩ := cc5 bo.out
          go_wp2_with (first | (go_at_call 49; (with_reducible refine (spec_l1In.calls (((rd_T101 l0 a1).f2).size : Int) 1 8 true _ lW.out).mono ?_); rintro e w' ⟨rfl, ⟨nd, rfl⟩⟩; (try exact dD_)) | (go_at_call 77; (with_reducible refine (spec_l1Text.calls kj4 ((rd_T101 l0 a1).f2) true _ iP.out).mono ?_); rintro e w' ⟨rfl, ⟨nd, rfl⟩⟩; (try exact dD_)))
          repeat (go_quiet (first | (go_at_call 49; (with_reducible refine (spec_l1In.calls (((rd_T101 l0 a1).f2).size : Int) 1 8 true _ lW.out).mono ?_); rintro e w' ⟨rfl, ⟨nd, rfl⟩⟩; (try exact dD_)) | (go_at_call 77; (with_reducible refine (spec_l1Text.calls kj4 ((rd_T101 l0 a1).f2) true _ iP.out).mono ?_); rintro e w' ⟨rfl, ⟨nd, rfl⟩⟩; (try exact dD_))); try go_wp2_with (first | (go_at_call 49; (with_reducible refine (spec_l1In.calls (((rd_T101 l0 a1).f2).size : Int) 1 8 true _ lW.out).mono ?_); rintro e w' ⟨rfl, ⟨nd, rfl⟩⟩; (try exact dD_)) | (go_at_call 77; (with_reducible refine (spec_l1Text.calls kj4 ((rd_T101 l0 a1).f2) true _ iP.out).mono ?_); rintro e w' ⟨rfl, ⟨nd, rfl⟩⟩; (try exact dD_))))
          go_ret
          exact ⟨y4, y8⟩
        ·rw [if_neg gE] at H
         have c16b0 : (((rd_T101 l0 a1).f3) == (((rd_T101 l0 a1).f2).size : Int)) = false := qF gE
         have c16b1 : (((rd_T101 l0 a1).f3) != (((rd_T101 l0 a1).f2).size : Int)) = true := nT gE
         obtain rfl := sI H
         obtain ⟨kC, kB, kz, pF, pE, kp, ko, kn, o5, o4⟩ := cc5 bo.out
         go_wp2_with (first | (go_at_call 49; (with_reducible refine (spec_l1In.calls (((rd_T101 l0 a1).f2).size : Int) 1 8 true _ lW.out).mono ?_); rintro e w' ⟨rfl, ⟨nd, rfl⟩⟩; (try exact dD_)) | (go_at_call 77; (with_reducible refine (spec_l1Text.calls kj4 ((rd_T101 l0 a1).f2) true _ iP.out).mono ?_); rintro e w' ⟨rfl, ⟨nd, rfl⟩⟩; (try exact dD_)))
         repeat (go_quiet (first | (go_at_call 49; (with_reducible refine (spec_l1In.calls (((rd_T101 l0 a1).f2).size : Int) 1 8 true _ lW.out).mono ?_); rintro e w' ⟨rfl, ⟨nd, rfl⟩⟩; (try exact dD_)) | (go_at_call 77; (with_reducible refine (spec_l1Text.calls kj4 ((rd_T101 l0 a1).f2) true _ iP.out).mono ?_); rintro e w' ⟨rfl, ⟨nd, rfl⟩⟩; (try exact dD_))); try go_wp2_with (first | (go_at_call 49; (with_reducible refine (spec_l1In.calls (((rd_T101 l0 a1).f2).size : Int) 1 8 true _ lW.out).mono ?_); rintro e w' ⟨rfl, ⟨nd, rfl⟩⟩; (try exact dD_)) | (go_at_call 77; (with_reducible refine (spec_l1Text.calls kj4 ((rd_T101 l0 a1).f2) true _ iP.out).mono ?_); rintro e w' ⟨rfl, ⟨nd, rfl⟩⟩; (try exact dD_))))
         go_ret
         exact ⟨y4, y8⟩
       ·replace gn := Bool.eq_false_iff.mpr gn
        subst gn
        rw [if_neg nF_] at H
        obtain rfl := sI H
        obtain ⟨ky, pC, pz, px, pv, km, o3, o0, oZ, oY⟩ := cc5 bo.out
        go_wp2_with (first | (go_at_call 49; (with_reducible refine (spec_l1In.calls (((rd_T101 l0 a1).f2).size : Int) 1 8 true _ lW.out).mono ?_); rintro e w' ⟨rfl, ⟨nd, rfl⟩⟩; (try exact dD_)) | (go_at_call 77; (with_reducible refine (spec_l1Text.calls kj4 ((rd_T101 l0 a1).f2) false _ iP.out).mono ?_); rintro e w' ⟨rfl, ⟨nd, rfl⟩⟩; (try exact dD_)))
        repeat (go_quiet (first | (go_at_call 49; (with_reducible refine (spec_l1In.calls (((rd_T101 l0 a1).f2).size : Int) 1 8 true _ lW.out).mono ?_); rintro e w' ⟨rfl, ⟨nd, rfl⟩⟩; (try exact dD_)) | (go_at_call 77; (with_reducible refine (spec_l1Text.calls kj4 ((rd_T101 l0 a1).f2) false _ iP.out).mono ?_); rintro e w' ⟨rfl, ⟨nd, rfl⟩⟩; (try exact dD_))); try go_wp2_with (first | (go_at_call 49; (with_reducible refine (spec_l1In.calls (((rd_T101 l0 a1).f2).size : Int) 1 8 true _ lW.out).mono ?_); rintro e w' ⟨rfl, ⟨nd, rfl⟩⟩; (try exact dD_)) | (go_at_call 77; (with_reducible refine (spec_l1Text.calls kj4 ((rd_T101 l0 a1).f2) false _ iP.out).mono ?_); rintro e w' ⟨rfl, ⟨nd, rfl⟩⟩; (try exact dD_))))
        go_ret
        exact ⟨y4, y8⟩
      ·replace fZ := Bool.eq_false_iff.mpr fZ
       subst fZ
       rw [if_neg nF_] at H
       obtain rfl := sI H
       obtain ⟨iT, kx, kw, pu, pt, iQ, kk, kj, oX, oW⟩ := cc5 bo.out
       go_wp2_with (first | (go_at_call 49; (with_reducible refine (spec_l1In.calls (((rd_T101 l0 a1).f2).size : Int) 1 8 false _ lW.out).mono ?_); rintro e w' ⟨rfl, ⟨nd, rfl⟩⟩; (try exact dD_)))
       repeat (go_quiet (first | (go_at_call 49; (with_reducible refine (spec_l1In.calls (((rd_T101 l0 a1).f2).size : Int) 1 8 false _ lW.out).mono ?_); rintro e w' ⟨rfl, ⟨nd, rfl⟩⟩; (try exact dD_))); try go_wp2_with (first | (go_at_call 49; (with_reducible refine (spec_l1In.calls (((rd_T101 l0 a1).f2).size : Int) 1 8 false _ lW.out).mono ?_); rintro e w' ⟨rfl, ⟨nd, rfl⟩⟩; (try exact dD_))))
       go_ret
       exact ⟨y4, y8⟩
     ·replace fY := Bool.eq_false_iff.mpr fY
      subst fY
      rw [if_neg nF_] at H
      have tT := aM H
      clear H
      go_upto_region 6 with (fail)
      repeat (go_quiet (fail); go_upto_region 6 with (fail))
      go_cut [58] (fun v58 wc => ∃ (kq : Nat) (x58_22 : Bool), v58 = .bool x58_22 ∧ Aside0 (spec_l12First.j1 kq l0 a1 x58_22 ((rd_T101 l0 a1).f0) ((rd_T101 l0 a1).f1) ((rd_T101 l0 a1).f2) ((rd_T101 l0 a1).f3) ((rd_T101 l0 a1).f4) = some r) ∧ Aside0 (kq ≤ kj4) ∧ Aside0 (wc.heap[b0]? = some (.cells #[.int .i64 ((rd_T101 l0 a1).f0), .int .i64 ((rd_T101 l0 a1).f1), .string ((rd_T101 l0 a1).f2), .int .i64 ((rd_T101 l0 a1).f3), .int .i64 ((rd_T101 l0 a1).f4)] 101 (0, 0))) ∧ Aside0 (Below w.heap.size w wc))
      case first =>
       have H := tT.out
       clear tT
       by_cases oE : ((rd_T101 l0 a1).f2).toList = ([] : List UInt8)
       ·rw [if_pos oE] at H
        have c24b0 : (((rd_T101 l0 a1).f2).toList == ([] : List UInt8)) = true := qT oE
        have c24b1 : (((rd_T101 l0 a1).f2).toList != ([] : List UInt8)) = false := nF oE
        clear oE
        (first | rw [c24b0] | (simp only [i64_w, i32_w]; rw [c24b0]) | skip)
        by_cases j3 : ((rd_T101 l0 a1).f1) = (wrap64 (a1 - 1))
        ·rw [if_pos j3] at H
         have c25b0 : (((rd_T101 l0 a1).f1) == (wrap64 (a1 - 1))) = true := qT j3
         have c25b1 : (((rd_T101 l0 a1).f1) != (wrap64 (a1 - 1))) = false := nF j3
         clear j3
         have H' := aM H
         clear H
         obtain ⟨kv, m9, m8, pr, pq, ki, mM, mL, oV, oU⟩ := cc5 bo.out
         go_wp2
         all_goals (try (exfalso; rename_i h_; rw [c24b0] at h_; cases h_; done))
         repeat (go_quiet (fail); try go_wp2)
         all_goals (try (exfalso; rename_i h_; rw [c24b0] at h_; cases h_; done))
         go_meet
         case rel => exact ⟨_, (decide (a1 < 2)), z2, H', ⟨by have := jg.out; first | omega | exact Nat.le_refl _⟩, ⟨y7⟩, ⟨y8⟩⟩
        ·rw [if_neg j3] at H
         have c25b0 : (((rd_T101 l0 a1).f1) == (wrap64 (a1 - 1))) = false := qF j3
         have c25b1 : (((rd_T101 l0 a1).f1) != (wrap64 (a1 - 1))) = true := nT j3
         have H' := aM H
         clear H
         obtain ⟨jy, jx, jw, pp, po, jv, ju, jt, oT, oS⟩ := cc5 bo.out
         go_wp2
         all_goals (try (exfalso; rename_i h_; rw [c24b0] at h_; cases h_; done))
         repeat (go_quiet (fail); try go_wp2)
         all_goals (try (exfalso; rename_i h_; rw [c24b0] at h_; cases h_; done))
         go_meet
         case rel => exact ⟨_, (true), z2, H', ⟨by have := jg.out; first | omega | exact Nat.le_refl _⟩, ⟨y7⟩, ⟨y8⟩⟩
       ·rw [if_neg oE] at H
        have c24b0 : (((rd_T101 l0 a1).f2).toList == ([] : List UInt8)) = false := qF oE
        have c24b1 : (((rd_T101 l0 a1).f2).toList != ([] : List UInt8)) = true := nT oE
        (first | rw [c24b0] | (simp only [i64_w, i32_w]; rw [c24b0]) | skip)
        have H' := aM H
        clear H
        obtain ⟨pn, pm, pl, pk, pj, oR, oQ, oP, oO, oN⟩ := cc5 bo.out
        go_wp2
        all_goals (try (exfalso; rename_i h_; rw [c24b0] at h_; cases h_; done))
        repeat (go_quiet (fail); try go_wp2)
        all_goals (try (exfalso; rename_i h_; rw [c24b0] at h_; cases h_; done))
        go_meet
        case rel => exact ⟨_, (true), z2, H', ⟨by have := jg.out; first | omega | exact Nat.le_refl _⟩, ⟨y7⟩, ⟨y8⟩⟩
      case rest =>
       clear tT
       try clear c3
       try clear c3b0
       try clear c4
       try clear c4b0
       try clear fY
       try clear lg
       try clear ld
       try clear lc
       try clear lb
       try clear la
       try clear k6
       try clear k5
       try clear k4
       try clear kZ
       try clear kY
       try clear hx103_0
       try clear hx103_1
       try clear hx103_2
       try clear hx103_3
       try clear hx103_4
       try clear p103
       try clear q103
       obtain ⟨kq, x58_22, rfl, HA, lJ, bo, HB⟩ := hcut
       cases kq with
       | zero => exact absurd HA.out (by simp [spec_l12First.j1])
       | succ kj22 =>
        have H := HA.out
        clear HA
        simp only [spec_l12First.j1] at H
        by_cases jO : x58_22 = true
        ·subst jO
         rw [if_pos rfl] at H
         obtain rfl := sI H
         go_wp2
         repeat (go_quiet (fail); try go_wp2)
         go_ret
         exact ⟨y4, y8⟩
        ·replace jO := Bool.eq_false_iff.mpr jO
         subst jO
         rw [if_neg nF_] at H
         obtain ⟨l9, ip, H⟩ := oA_ H
         try dsimp only at H
         have tS := aM H
         clear H
         go_upto_region 9 with (first | (go_at_call 59; (with_reducible refine (ih kj22 (by have := jg.out; have := lJ.out; omega) _ _ l0 (wrap64 (a1 - 1)) l9 _ ?side1 ?side2 ip.out).mono ?_); (case side1 => exact y38); (case side2 => exact en.out); rintro e w32 ⟨rfl, hb⟩; replace bo := aM (af (g := b0) (o := .cells #[.int .i64 ((rd_T101 l0 a1).f0), .int .i64 ((rd_T101 l0 a1).f1), .string ((rd_T101 l0 a1).f2), .int .i64 ((rd_T101 l0 a1).f3), .int .i64 ((rd_T101 l0 a1).f4)] 101 (0, 0)) (kB_ bo.out) hb); replace HB := aM (aA (by repeat (first | (with_reducible first | exact HB.out | apply bA | apply pD | apply bD | refine az ?_ iN.out) | exact HB.out)) hb); (try clear hb)))
         repeat (go_quiet (fail); go_upto_region 9 with (first | (go_at_call 59; (with_reducible refine (ih kj22 (by have := jg.out; have := lJ.out; omega) _ _ l0 (wrap64 (a1 - 1)) l9 _ ?side1 ?side2 ip.out).mono ?_); (case side1 => exact y38); (case side2 => exact en.out); rintro e w32 ⟨rfl, hb⟩; replace bo := aM (af (g := b0) (o := .cells #[.int .i64 ((rd_T101 l0 a1).f0), .int .i64 ((rd_T101 l0 a1).f1), .string ((rd_T101 l0 a1).f2), .int .i64 ((rd_T101 l0 a1).f3), .int .i64 ((rd_T101 l0 a1).f4)] 101 (0, 0)) (kB_ bo.out) hb); replace HB := aM (aA (by repeat (first | (with_reducible first | exact HB.out | apply bA | apply pD | apply bD | refine az ?_ iN.out) | exact HB.out)) hb); (try clear hb))))
         (try simp only [Act.put, sA, sB, sC])
         go_cut [71] (fun v71 wc => ∃ (kq : Nat) (x71_30 : Bool), v71 = .bool x71_30 ∧ Aside0 (spec_l12First.j2 kq l0 x71_30 ((rd_T101 l0 a1).f0) ((rd_T101 l0 a1).f1) ((rd_T101 l0 a1).f2) ((rd_T101 l0 a1).f3) ((rd_T101 l0 a1).f4) = some r) ∧ Aside0 (kq ≤ kj22) ∧ Aside0 (wc.heap[b0]? = some (.cells #[.int .i64 ((rd_T101 l0 a1).f0), .int .i64 ((rd_T101 l0 a1).f1), .string ((rd_T101 l0 a1).f2), .int .i64 ((rd_T101 l0 a1).f3), .int .i64 ((rd_T101 l0 a1).f4)] 101 (0, 0))) ∧ Aside0 (Below w.heap.size w wc))
         case first =>
          have H := tS.out
          clear tS
          by_cases pP : l9 < 1
          ·rw [if_pos pP] at H
           have c33b0 : decide (l9 < 1) = true := dT pP
           clear pP
           (first | rw [c33b0] | (simp only [i64_w, i32_w]; rw [c33b0]) | skip)
           have H' := aM H
           clear H
           go_wp2
           repeat (go_quiet (fail); try go_wp2)
           go_meet
           case rel => exact ⟨_, (true), z2, H', ⟨by have := jg.out; have := lJ.out; first | omega | exact Nat.le_refl _⟩, ⟨y7⟩, ⟨y8⟩⟩
          ·rw [if_neg pP] at H
           have c33b0 : decide (l9 < 1) = false := dF pP
           clear pP
           (first | rw [c33b0] | (simp only [i64_w, i32_w]; rw [c33b0]) | skip)
           have H' := aM H
           clear H
           obtain ⟨hcz34_0, hcz34_1, hcz34_2, hcz34_3, hcz34_4, hfz34_0, hfz34_1, hfz34_2, hfz34_3, hfz34_4⟩ := cc5 bo.out
           go_wp2
           repeat (go_quiet (fail); try go_wp2)
           go_meet
           case rel => exact ⟨_, ((((rd_T101 l0 a1).f0) != (wrap64 (l9 - 1)))), z2, H', ⟨by have := jg.out; have := lJ.out; first | omega | exact Nat.le_refl _⟩, ⟨y7⟩, ⟨y8⟩⟩
         case rest =>
          clear tS
          try clear p1
          try clear q1
          try clear hx1
          try clear p2
          try clear c3
          try clear c3b0
          try clear c4
          try clear c4b0
          try clear c5
          try clear c8
          try clear c8b0
          try clear c8b1
          try clear p10
          try clear q10
          try clear hx10
          try clear fY
          try clear fZ
          try clear gn
          try clear gE
          try clear c16b0
          try clear c16b1
          try clear gA
          try clear c17b0
          try clear c17b1
          try clear jO
          try clear nl
          try clear nk
          try clear nj
          try clear ni
          try clear nh
          try clear kD
          try clear pJ
          try clear pI
          try clear pH
          try clear pG
          try clear iU
          try clear nf
          try clear nc
          try clear nb
          try clear na
          try clear kC
          try clear kB
          try clear kz
          try clear pF
          try clear pE
          try clear ky
          try clear pC
          try clear pz
          try clear px
          try clear pv
          try clear iT
          try clear kx
          try clear kw
          try clear pu
          try clear pt
          try clear lg
          try clear ld
          try clear lc
          try clear lb
          try clear la
          try clear jc
          try clear jb
          try clear ja
          try clear oC
          try clear oA
          try clear mW
          try clear mV
          try clear mU
          try clear mT
          try clear mS
          try clear kr
          try clear o9
          try clear o8
          try clear o7
          try clear o6
          try clear iR
          try clear mQ
          try clear mP
          try clear mO
          try clear mN
          try clear kp
          try clear ko
          try clear kn
          try clear o5
          try clear o4
          try clear km
          try clear o3
          try clear o0
          try clear oZ
          try clear oY
          try clear iQ
          try clear kk
          try clear kj
          try clear oX
          try clear oW
          try clear k6
          try clear k5
          try clear k4
          try clear kZ
          try clear kY
          try clear jT
          try clear i9
          try clear i7
          try clear oz
          try clear oy
          try clear hx103_0
          try clear hx103_1
          try clear hx103_2
          try clear hx103_3
          try clear hx103_4
          try clear p1
          try clear p10
          try clear p103
          try clear p2
          try clear q1
          try clear q10
          try clear q103
          obtain ⟨kq, x71_30, rfl, HA, qh, bo, HB⟩ := hcut
          cases kq with
          | zero => exact absurd HA.out (by simp [spec_l12First.j2])
          | succ kj30 =>
           have H := HA.out
           clear HA
           simp only [spec_l12First.j2] at H
           by_cases qS : x71_30 = true
           ·subst qS
            rw [if_pos rfl] at H
            obtain rfl := sI H
            go_wp2
            repeat (go_quiet (fail); try go_wp2)
            go_ret
            exact ⟨y4, y8⟩
           ·replace qS := Bool.eq_false_iff.mpr qS
            subst qS
            rw [if_neg nF_] at H
            by_cases qm : 0 ≤ ((rd_T101 l0 a1).f0)
            ·rw [if_pos qm] at H
             have c36b0 : decide (0 ≤ ((rd_T101 l0 a1).f0)) = true := dT qm
             clear qm
             by_cases rT : ((rd_T101 l0 a1).f0) < (l0.length : Int)
             ·rw [if_pos rT] at H
              have c37b0 : decide (((rd_T101 l0 a1).f0) < (l0.length : Int)) = true := dT rT
              clear rT
              by_cases vS : 0 ≤ ((rd_T101 l0 a1).f1)
              ·rw [if_pos vS] at H
               have c38b0 : decide (0 ≤ ((rd_T101 l0 a1).f1)) = true := dT vS
               clear vS
               by_cases vR : ((rd_T101 l0 a1).f1) < (l0.length : Int)
               ·rw [if_pos vR] at H
                have c39b0 : decide (((rd_T101 l0 a1).f1) < (l0.length : Int)) = true := dT vR
                clear vR
                by_cases uf : ((rd_T101 l0 ((rd_T101 l0 a1).f1)).f4) > ((rd_T101 l0 ((rd_T101 l0 a1).f0)).f4)
                ·rw [if_pos uf] at H
                 have c40b0 : decide (((rd_T101 l0 ((rd_T101 l0 a1).f0)).f4) < ((rd_T101 l0 ((rd_T101 l0 a1).f1)).f4)) = true := dT uf
                 clear uf
                 by_cases ql : ((rd_T101 l0 a1).f3) = (wrap64 (((rd_T101 l0 ((rd_T101 l0 a1).f0)).f3) + ((rd_T101 l0 ((rd_T101 l0 a1).f1)).f3)))
                 ·rw [if_pos ql] at H
                  have c41b0 : (((rd_T101 l0 a1).f3) == (wrap64 (((rd_T101 l0 ((rd_T101 l0 a1).f0)).f3) + ((rd_T101 l0 ((rd_T101 l0 a1).f1)).f3)))) = true := qT ql
                  have c41b1 : (((rd_T101 l0 a1).f3) != (wrap64 (((rd_T101 l0 ((rd_T101 l0 a1).f0)).f3) + ((rd_T101 l0 ((rd_T101 l0 a1).f1)).f3)))) = false := nF ql
                  clear ql
                  by_cases qd : ((rd_T101 l0 a1).f4) = (wrap64 (((rd_T101 l0 ((rd_T101 l0 a1).f1)).f4) + 1))
                  ·rw [if_pos qd] at H
                   have c42b0 : (((rd_T101 l0 a1).f4) == (wrap64 (((rd_T101 l0 ((rd_T101 l0 a1).f1)).f4) + 1))) = true := qT qd
                   have c42b1 : (((rd_T101 l0 a1).f4) != (wrap64 (((rd_T101 l0 ((rd_T101 l0 a1).f1)).f4) + 1))) = false := nF qd
                   clear qd
                   obtain ⟨qN, vW, H⟩ := oA_ H
                   try dsimp only at H
                   obtain rfl := sI H
                   obtain ⟨hcz44_0, hcz44_1, hcz44_2, hcz44_3, hcz44_4, hfz44_0, hfz44_1, hfz44_2, hfz44_3, hfz44_4⟩ := cc5 bo.out
                   have p108 : 0 ≤ (((rd_T101 l0 a1).f0) : Int) := oD z3
                   have q108 : ((rd_T101 l0 a1).f0) < (l0.length : Int) := oD z3
                   obtain ⟨ad108, e108, hx108_0, hx108_1, hx108_2, hx108_3, hx108_4⟩ := at_T101 dY.out ((rd_T101 l0 a1).f0) p108 q108
                   obtain rfl : ad103 = ad108 := (by injection e108)
                   replace hx108_0 := (HB.out.cell (World.block_lt_of_cell? w _ hx108_0)).trans hx108_0
                   replace hx108_1 := (HB.out.cell (World.block_lt_of_cell? w _ hx108_1)).trans hx108_1
                   replace hx108_2 := (HB.out.cell (World.block_lt_of_cell? w _ hx108_2)).trans hx108_2
                   replace hx108_3 := (HB.out.cell (World.block_lt_of_cell? w _ hx108_3)).trans hx108_3
                   replace hx108_4 := (HB.out.cell (World.block_lt_of_cell? w _ hx108_4)).trans hx108_4
                   replace p108 := eq_true p108
                   replace q108 := eq_true q108
                   have p109 : 0 ≤ (((rd_T101 l0 a1).f1) : Int) := oD z3
                   have q109 : ((rd_T101 l0 a1).f1) < (l0.length : Int) := oD z3
                   obtain ⟨ad109, e109, hx109_0, hx109_1, hx109_2, hx109_3, hx109_4⟩ := at_T101 dY.out ((rd_T101 l0 a1).f1) p109 q109
                   obtain rfl : ad103 = ad109 := (by injection e109)
                   replace hx109_0 := (HB.out.cell (World.block_lt_of_cell? w _ hx109_0)).trans hx109_0
                   replace hx109_1 := (HB.out.cell (World.block_lt_of_cell? w _ hx109_1)).trans hx109_1
                   replace hx109_2 := (HB.out.cell (World.block_lt_of_cell? w _ hx109_2)).trans hx109_2
                   replace hx109_3 := (HB.out.cell (World.block_lt_of_cell? w _ hx109_3)).trans hx109_3
                   replace hx109_4 := (HB.out.cell (World.block_lt_of_cell? w _ hx109_4)).trans hx109_4
                   replace p109 := eq_true p109
                   replace q109 := eq_true q109
                   have p110 : 0 ≤ (((rd_T101 l0 a1).f1) : Int) := oD z3
                   have q110 : ((rd_T101 l0 a1).f1) < (l0.length : Int) := oD z3
                   obtain ⟨ad110, e110, hx110_0, hx110_1, hx110_2, hx110_3, hx110_4⟩ := at_T101 dY.out ((rd_T101 l0 a1).f1) p110 q110
                   obtain rfl : ad103 = ad110 := (by injection e110)
                   replace hx110_0 := (HB.out.cell (World.block_lt_of_cell? w _ hx110_0)).trans hx110_0
                   replace hx110_1 := (HB.out.cell (World.block_lt_of_cell? w _ hx110_1)).trans hx110_1
                   replace hx110_2 := (HB.out.cell (World.block_lt_of_cell? w _ hx110_2)).trans hx110_2
                   replace hx110_3 := (HB.out.cell (World.block_lt_of_cell? w _ hx110_3)).trans hx110_3
                   replace hx110_4 := (HB.out.cell (World.block_lt_of_cell? w _ hx110_4)).trans hx110_4
                   replace p110 := eq_true p110
                   replace q110 := eq_true q110
                   have p111 : 0 ≤ (((rd_T101 l0 a1).f0) : Int) := oD z3
                   have q111 : ((rd_T101 l0 a1).f0) < (l0.length : Int) := oD z3
                   obtain ⟨ad111, e111, hx111_0, hx111_1, hx111_2, hx111_3, hx111_4⟩ := at_T101 dY.out ((rd_T101 l0 a1).f0) p111 q111
                   obtain rfl : ad103 = ad111 := (by injection e111)
                   replace hx111_0 := (HB.out.cell (World.block_lt_of_cell? w _ hx111_0)).trans hx111_0
                   replace hx111_1 := (HB.out.cell (World.block_lt_of_cell? w _ hx111_1)).trans hx111_1
                   replace hx111_2 := (HB.out.cell (World.block_lt_of_cell? w _ hx111_2)).trans hx111_2
                   replace hx111_3 := (HB.out.cell (World.block_lt_of_cell? w _ hx111_3)).trans hx111_3
                   replace hx111_4 := (HB.out.cell (World.block_lt_of_cell? w _ hx111_4)).trans hx111_4
                   replace p111 := eq_true p111
                   replace q111 := eq_true q111
                   have p112 : 0 ≤ (((rd_T101 l0 a1).f1) : Int) := oD z3
                   have q112 : ((rd_T101 l0 a1).f1) < (l0.length : Int) := oD z3
                   obtain ⟨ad112, e112, hx112_0, hx112_1, hx112_2, hx112_3, hx112_4⟩ := at_T101 dY.out ((rd_T101 l0 a1).f1) p112 q112
                   obtain rfl : ad103 = ad112 := (by injection e112)
                   replace hx112_0 := (HB.out.cell (World.block_lt_of_cell? w _ hx112_0)).trans hx112_0
                   replace hx112_1 := (HB.out.cell (World.block_lt_of_cell? w _ hx112_1)).trans hx112_1
                   replace hx112_2 := (HB.out.cell (World.block_lt_of_cell? w _ hx112_2)).trans hx112_2
                   replace hx112_3 := (HB.out.cell (World.block_lt_of_cell? w _ hx112_3)).trans hx112_3
                   replace hx112_4 := (HB.out.cell (World.block_lt_of_cell? w _ hx112_4)).trans hx112_4
                   replace p112 := eq_true p112
                   replace q112 := eq_true q112
                   go_wp2_with (first | (go_at_call 59; (with_reducible refine (ih kj30 (by have := jg.out; have := lJ.out; have := qh.out; omega) _ _ l0 ((rd_T101 l0 a1).f0) qN _ ?side1 ?side2 vW.out).mono ?_); (case side1 => exact y38); (case side2 => exact en.out); rintro e w45 ⟨rfl, hb⟩; replace bo := aM (af (g := b0) (o := .cells #[.int .i64 ((rd_T101 l0 a1).f0), .int .i64 ((rd_T101 l0 a1).f1), .string ((rd_T101 l0 a1).f2), .int .i64 ((rd_T101 l0 a1).f3), .int .i64 ((rd_T101 l0 a1).f4)] 101 (0, 0)) (kB_ bo.out) hb); replace HB := aM (aA (by repeat (first | (with_reducible first | exact HB.out | apply bA | apply pD | apply bD | refine az ?_ iN.out) | exact HB.out)) hb); (try clear hb)))
                   repeat (go_quiet (fail); try go_wp2_with (first | (go_at_call 59; (with_reducible refine (ih kj30 (by have := jg.out; have := lJ.out; have := qh.out; omega) _ _ l0 ((rd_T101 l0 a1).f0) qN _ ?side1 ?side2 vW.out).mono ?_); (case side1 => exact y38); (case side2 => exact en.out); rintro e w45 ⟨rfl, hb⟩; replace bo := aM (af (g := b0) (o := .cells #[.int .i64 ((rd_T101 l0 a1).f0), .int .i64 ((rd_T101 l0 a1).f1), .string ((rd_T101 l0 a1).f2), .int .i64 ((rd_T101 l0 a1).f3), .int .i64 ((rd_T101 l0 a1).f4)] 101 (0, 0)) (kB_ bo.out) hb); replace HB := aM (aA (by repeat (first | (with_reducible first | exact HB.out | apply bA | apply pD | apply bD | refine az ?_ iN.out) | exact HB.out)) hb); (try clear hb))))
                   go_ret
                   exact ⟨y4, y8⟩
                  ·rw [if_neg qd] at H
                   have c42b0 : (((rd_T101 l0 a1).f4) == (wrap64 (((rd_T101 l0 ((rd_T101 l0 a1).f1)).f4) + 1))) = false := qF qd
                   have c42b1 : (((rd_T101 l0 a1).f4) != (wrap64 (((rd_T101 l0 ((rd_T101 l0 a1).f1)).f4) + 1))) = true := nT qd
                   obtain rfl := sI H
                   obtain ⟨hcz46_0, hcz46_1, hcz46_2, hcz46_3, hcz46_4, hfz46_0, hfz46_1, hfz46_2, hfz46_3, hfz46_4⟩ := cc5 bo.out
                   have p108 : 0 ≤ (((rd_T101 l0 a1).f0) : Int) := oD z3
                   have q108 : ((rd_T101 l0 a1).f0) < (l0.length : Int) := oD z3
                   obtain ⟨ad108, e108, hx108_0, hx108_1, hx108_2, hx108_3, hx108_4⟩ := at_T101 dY.out ((rd_T101 l0 a1).f0) p108 q108
                   obtain rfl : ad103 = ad108 := (by injection e108)
                   replace hx108_0 := (HB.out.cell (World.block_lt_of_cell? w _ hx108_0)).trans hx108_0
                   replace hx108_1 := (HB.out.cell (World.block_lt_of_cell? w _ hx108_1)).trans hx108_1
                   replace hx108_2 := (HB.out.cell (World.block_lt_of_cell? w _ hx108_2)).trans hx108_2
                   replace hx108_3 := (HB.out.cell (World.block_lt_of_cell? w _ hx108_3)).trans hx108_3
                   replace hx108_4 := (HB.out.cell (World.block_lt_of_cell? w _ hx108_4)).trans hx108_4
                   replace p108 := eq_true p108
                   replace q108 := eq_true q108
                   have p109 : 0 ≤ (((rd_T101 l0 a1).f1) : Int) := oD z3
                   have q109 : ((rd_T101 l0 a1).f1) < (l0.length : Int) := oD z3
                   obtain ⟨ad109, e109, hx109_0, hx109_1, hx109_2, hx109_3, hx109_4⟩ := at_T101 dY.out ((rd_T101 l0 a1).f1) p109 q109
                   obtain rfl : ad103 = ad109 := (by injection e109)
                   replace hx109_0 := (HB.out.cell (World.block_lt_of_cell? w _ hx109_0)).trans hx109_0
                   replace hx109_1 := (HB.out.cell (World.block_lt_of_cell? w _ hx109_1)).trans hx109_1
                   replace hx109_2 := (HB.out.cell (World.block_lt_of_cell? w _ hx109_2)).trans hx109_2
                   replace hx109_3 := (HB.out.cell (World.block_lt_of_cell? w _ hx109_3)).trans hx109_3
                   replace hx109_4 := (HB.out.cell (World.block_lt_of_cell? w _ hx109_4)).trans hx109_4
                   replace p109 := eq_true p109
                   replace q109 := eq_true q109
                   have p110 : 0 ≤ (((rd_T101 l0 a1).f1) : Int) := oD z3
                   have q110 : ((rd_T101 l0 a1).f1) < (l0.length : Int) := oD z3
                   obtain ⟨ad110, e110, hx110_0, hx110_1, hx110_2, hx110_3, hx110_4⟩ := at_T101 dY.out ((rd_T101 l0 a1).f1) p110 q110
                   obtain rfl : ad103 = ad110 := (by injection e110)
                   replace hx110_0 := (HB.out.cell (World.block_lt_of_cell? w _ hx110_0)).trans hx110_0
                   replace hx110_1 := (HB.out.cell (World.block_lt_of_cell? w _ hx110_1)).trans hx110_1
                   replace hx110_2 := (HB.out.cell (World.block_lt_of_cell? w _ hx110_2)).trans hx110_2
                   replace hx110_3 := (HB.out.cell (World.block_lt_of_cell? w _ hx110_3)).trans hx110_3
                   replace hx110_4 := (HB.out.cell (World.block_lt_of_cell? w _ hx110_4)).trans hx110_4
                   replace p110 := eq_true p110
                   replace q110 := eq_true q110
                   have p111 : 0 ≤ (((rd_T101 l0 a1).f0) : Int) := oD z3
                   have q111 : ((rd_T101 l0 a1).f0) < (l0.length : Int) := oD z3
                   obtain ⟨ad111, e111, hx111_0, hx111_1, hx111_2, hx111_3, hx111_4⟩ := at_T101 dY.out ((rd_T101 l0 a1).f0) p111 q111
                   obtain rfl : ad103 = ad111 := (by injection e111)
                   replace hx111_0 := (HB.out.cell (World.block_lt_of_cell? w _ hx111_0)).trans hx111_0
                   replace hx111_1 := (HB.out.cell (World.block_lt_of_cell? w _ hx111_1)).trans hx111_1
                   replace hx111_2 := (HB.out.cell (World.block_lt_of_cell? w _ hx111_2)).trans hx111_2
                   replace hx111_3 := (HB.out.cell (World.block_lt_of_cell? w _ hx111_3)).trans hx111_3
                   replace hx111_4 := (HB.out.cell (World.block_lt_of_cell? w _ hx111_4)).trans hx111_4
                   replace p111 := eq_true p111
                   replace q111 := eq_true q111
                   have p112 : 0 ≤ (((rd_T101 l0 a1).f1) : Int) := oD z3
                   have q112 : ((rd_T101 l0 a1).f1) < (l0.length : Int) := oD z3
                   obtain ⟨ad112, e112, hx112_0, hx112_1, hx112_2, hx112_3, hx112_4⟩ := at_T101 dY.out ((rd_T101 l0 a1).f1) p112 q112
                   obtain rfl : ad103 = ad112 := (by injection e112)
                   replace hx112_0 := (HB.out.cell (World.block_lt_of_cell? w _ hx112_0)).trans hx112_0
                   replace hx112_1 := (HB.out.cell (World.block_lt_of_cell? w _ hx112_1)).trans hx112_1
                   replace hx112_2 := (HB.out.cell (World.block_lt_of_cell? w _ hx112_2)).trans hx112_2
                   replace hx112_3 := (HB.out.cell (World.block_lt_of_cell? w _ hx112_3)).trans hx112_3
                   replace hx112_4 := (HB.out.cell (World.block_lt_of_cell? w _ hx112_4)).trans hx112_4
                   replace p112 := eq_true p112
                   replace q112 := eq_true q112
                   go_wp2
                   repeat (go_quiet (fail); try go_wp2)
                   go_ret
                   exact ⟨y4, y8⟩
                 ·rw [if_neg ql] at H
                  have c41b0 : (((rd_T101 l0 a1).f3) == (wrap64 (((rd_T101 l0 ((rd_T101 l0 a1).f0)).f3) + ((rd_T101 l0 ((rd_T101 l0 a1).f1)).f3)))) = false := qF ql
                  have c41b1 : (((rd_T101 l0 a1).f3) != (wrap64 (((rd_T101 l0 ((rd_T101 l0 a1).f0)).f3) + ((rd_T101 l0 ((rd_T101 l0 a1).f1)).f3)))) = true := nT ql
                  obtain rfl := sI H
                  obtain ⟨hcz47_0, hcz47_1, hcz47_2, hcz47_3, hcz47_4, hfz47_0, hfz47_1, hfz47_2, hfz47_3, hfz47_4⟩ := cc5 bo.out
                  have p108 : 0 ≤ (((rd_T101 l0 a1).f0) : Int) := oD z3
                  have q108 : ((rd_T101 l0 a1).f0) < (l0.length : Int) := oD z3
                  obtain ⟨ad108, e108, hx108_0, hx108_1, hx108_2, hx108_3, hx108_4⟩ := at_T101 dY.out ((rd_T101 l0 a1).f0) p108 q108
                  obtain rfl : ad103 = ad108 := (by injection e108)
                  replace hx108_0 := (HB.out.cell (World.block_lt_of_cell? w _ hx108_0)).trans hx108_0
                  replace hx108_1 := (HB.out.cell (World.block_lt_of_cell? w _ hx108_1)).trans hx108_1
                  replace hx108_2 := (HB.out.cell (World.block_lt_of_cell? w _ hx108_2)).trans hx108_2
                  replace hx108_3 := (HB.out.cell (World.block_lt_of_cell? w _ hx108_3)).trans hx108_3
                  replace hx108_4 := (HB.out.cell (World.block_lt_of_cell? w _ hx108_4)).trans hx108_4
                  replace p108 := eq_true p108
                  replace q108 := eq_true q108
                  have p109 : 0 ≤ (((rd_T101 l0 a1).f1) : Int) := oD z3
                  have q109 : ((rd_T101 l0 a1).f1) < (l0.length : Int) := oD z3
                  obtain ⟨ad109, e109, hx109_0, hx109_1, hx109_2, hx109_3, hx109_4⟩ := at_T101 dY.out ((rd_T101 l0 a1).f1) p109 q109
                  obtain rfl : ad103 = ad109 := (by injection e109)
                  replace hx109_0 := (HB.out.cell (World.block_lt_of_cell? w _ hx109_0)).trans hx109_0
                  replace hx109_1 := (HB.out.cell (World.block_lt_of_cell? w _ hx109_1)).trans hx109_1
                  replace hx109_2 := (HB.out.cell (World.block_lt_of_cell? w _ hx109_2)).trans hx109_2
                  replace hx109_3 := (HB.out.cell (World.block_lt_of_cell? w _ hx109_3)).trans hx109_3
                  replace hx109_4 := (HB.out.cell (World.block_lt_of_cell? w _ hx109_4)).trans hx109_4
                  replace p109 := eq_true p109
                  replace q109 := eq_true q109
                  have p110 : 0 ≤ (((rd_T101 l0 a1).f1) : Int) := oD z3
                  have q110 : ((rd_T101 l0 a1).f1) < (l0.length : Int) := oD z3
                  obtain ⟨ad110, e110, hx110_0, hx110_1, hx110_2, hx110_3, hx110_4⟩ := at_T101 dY.out ((rd_T101 l0 a1).f1) p110 q110
                  obtain rfl : ad103 = ad110 := (by injection e110)
                  replace hx110_0 := (HB.out.cell (World.block_lt_of_cell? w _ hx110_0)).trans hx110_0
                  replace hx110_1 := (HB.out.cell (World.block_lt_of_cell? w _ hx110_1)).trans hx110_1
                  replace hx110_2 := (HB.out.cell (World.block_lt_of_cell? w _ hx110_2)).trans hx110_2
                  replace hx110_3 := (HB.out.cell (World.block_lt_of_cell? w _ hx110_3)).trans hx110_3
                  replace hx110_4 := (HB.out.cell (World.block_lt_of_cell? w _ hx110_4)).trans hx110_4
                  replace p110 := eq_true p110
                  replace q110 := eq_true q110
                  have p111 : 0 ≤ (((rd_T101 l0 a1).f0) : Int) := oD z3
                  have q111 : ((rd_T101 l0 a1).f0) < (l0.length : Int) := oD z3
                  obtain ⟨ad111, e111, hx111_0, hx111_1, hx111_2, hx111_3, hx111_4⟩ := at_T101 dY.out ((rd_T101 l0 a1).f0) p111 q111
                  obtain rfl : ad103 = ad111 := (by injection e111)
                  replace hx111_0 := (HB.out.cell (World.block_lt_of_cell? w _ hx111_0)).trans hx111_0
                  replace hx111_1 := (HB.out.cell (World.block_lt_of_cell? w _ hx111_1)).trans hx111_1
                  replace hx111_2 := (HB.out.cell (World.block_lt_of_cell? w _ hx111_2)).trans hx111_2
                  replace hx111_3 := (HB.out.cell (World.block_lt_of_cell? w _ hx111_3)).trans hx111_3
                  replace hx111_4 := (HB.out.cell (World.block_lt_of_cell? w _ hx111_4)).trans hx111_4
                  replace p111 := eq_true p111
                  replace q111 := eq_true q111
                  have p112 : 0 ≤ (((rd_T101 l0 a1).f1) : Int) := oD z3
                  have q112 : ((rd_T101 l0 a1).f1) < (l0.length : Int) := oD z3
                  obtain ⟨ad112, e112, hx112_0, hx112_1, hx112_2, hx112_3, hx112_4⟩ := at_T101 dY.out ((rd_T101 l0 a1).f1) p112 q112
                  obtain rfl : ad103 = ad112 := (by injection e112)
                  replace hx112_0 := (HB.out.cell (World.block_lt_of_cell? w _ hx112_0)).trans hx112_0
                  replace hx112_1 := (HB.out.cell (World.block_lt_of_cell? w _ hx112_1)).trans hx112_1
                  replace hx112_2 := (HB.out.cell (World.block_lt_of_cell? w _ hx112_2)).trans hx112_2
                  replace hx112_3 := (HB.out.cell (World.block_lt_of_cell? w _ hx112_3)).trans hx112_3
                  replace hx112_4 := (HB.out.cell (World.block_lt_of_cell? w _ hx112_4)).trans hx112_4
                  replace p112 := eq_true p112
                  replace q112 := eq_true q112
                  go_wp2
                  repeat (go_quiet (fail); try go_wp2)
                  go_ret
                  exact ⟨y4, y8⟩
                ·rw [if_neg uf] at H
                 have c40b0 : decide (((rd_T101 l0 ((rd_T101 l0 a1).f0)).f4) < ((rd_T101 l0 ((rd_T101 l0 a1).f1)).f4)) = false := dF uf
                 clear uf
                 by_cases tO : ((rd_T101 l0 a1).f3) = (wrap64 (((rd_T101 l0 ((rd_T101 l0 a1).f0)).f3) + ((rd_T101 l0 ((rd_T101 l0 a1).f1)).f3)))
                 ·rw [if_pos tO] at H
                  have c48b0 : (((rd_T101 l0 a1).f3) == (wrap64 (((rd_T101 l0 ((rd_T101 l0 a1).f0)).f3) + ((rd_T101 l0 ((rd_T101 l0 a1).f1)).f3)))) = true := qT tO
                  have c48b1 : (((rd_T101 l0 a1).f3) != (wrap64 (((rd_T101 l0 ((rd_T101 l0 a1).f0)).f3) + ((rd_T101 l0 ((rd_T101 l0 a1).f1)).f3)))) = false := nF tO
                  clear tO
                  by_cases tN : ((rd_T101 l0 a1).f4) = (wrap64 (((rd_T101 l0 ((rd_T101 l0 a1).f0)).f4) + 1))
                  ·rw [if_pos tN] at H
                   have c49b0 : (((rd_T101 l0 a1).f4) == (wrap64 (((rd_T101 l0 ((rd_T101 l0 a1).f0)).f4) + 1))) = true := qT tN
                   have c49b1 : (((rd_T101 l0 a1).f4) != (wrap64 (((rd_T101 l0 ((rd_T101 l0 a1).f0)).f4) + 1))) = false := nF tN
                   clear tN
                   obtain ⟨qM, oI, H⟩ := oA_ H
                   try dsimp only at H
                   obtain rfl := sI H
                   obtain ⟨pf, hcz51_1, hcz51_2, hcz51_3, hcz51_4, oK, hfz51_1, hfz51_2, hfz51_3, hfz51_4⟩ := cc5 bo.out
                   have p108 : 0 ≤ (((rd_T101 l0 a1).f0) : Int) := oD z3
                   have q108 : ((rd_T101 l0 a1).f0) < (l0.length : Int) := oD z3
                   obtain ⟨ad108, e108, hx108_0, hx108_1, hx108_2, hx108_3, hx108_4⟩ := at_T101 dY.out ((rd_T101 l0 a1).f0) p108 q108
                   obtain rfl : ad103 = ad108 := (by injection e108)
                   replace hx108_0 := (HB.out.cell (World.block_lt_of_cell? w _ hx108_0)).trans hx108_0
                   replace hx108_1 := (HB.out.cell (World.block_lt_of_cell? w _ hx108_1)).trans hx108_1
                   replace hx108_2 := (HB.out.cell (World.block_lt_of_cell? w _ hx108_2)).trans hx108_2
                   replace hx108_3 := (HB.out.cell (World.block_lt_of_cell? w _ hx108_3)).trans hx108_3
                   replace hx108_4 := (HB.out.cell (World.block_lt_of_cell? w _ hx108_4)).trans hx108_4
                   replace p108 := eq_true p108
                   replace q108 := eq_true q108
                   have p109 : 0 ≤ (((rd_T101 l0 a1).f1) : Int) := oD z3
                   have q109 : ((rd_T101 l0 a1).f1) < (l0.length : Int) := oD z3
                   obtain ⟨ad109, e109, hx109_0, hx109_1, hx109_2, hx109_3, hx109_4⟩ := at_T101 dY.out ((rd_T101 l0 a1).f1) p109 q109
                   obtain rfl : ad103 = ad109 := (by injection e109)
                   replace hx109_0 := (HB.out.cell (World.block_lt_of_cell? w _ hx109_0)).trans hx109_0
                   replace hx109_1 := (HB.out.cell (World.block_lt_of_cell? w _ hx109_1)).trans hx109_1
                   replace hx109_2 := (HB.out.cell (World.block_lt_of_cell? w _ hx109_2)).trans hx109_2
                   replace hx109_3 := (HB.out.cell (World.block_lt_of_cell? w _ hx109_3)).trans hx109_3
                   replace hx109_4 := (HB.out.cell (World.block_lt_of_cell? w _ hx109_4)).trans hx109_4
                   replace p109 := eq_true p109
                   replace q109 := eq_true q109
                   have p114 : 0 ≤ (((rd_T101 l0 a1).f0) : Int) := oD z3
                   have q114 : ((rd_T101 l0 a1).f0) < (l0.length : Int) := oD z3
                   obtain ⟨ad114, e114, hx114_0, hx114_1, hx114_2, hx114_3, hx114_4⟩ := at_T101 dY.out ((rd_T101 l0 a1).f0) p114 q114
                   obtain rfl : ad103 = ad114 := (by injection e114)
                   replace hx114_0 := (HB.out.cell (World.block_lt_of_cell? w _ hx114_0)).trans hx114_0
                   replace hx114_1 := (HB.out.cell (World.block_lt_of_cell? w _ hx114_1)).trans hx114_1
                   replace hx114_2 := (HB.out.cell (World.block_lt_of_cell? w _ hx114_2)).trans hx114_2
                   replace hx114_3 := (HB.out.cell (World.block_lt_of_cell? w _ hx114_3)).trans hx114_3
                   replace hx114_4 := (HB.out.cell (World.block_lt_of_cell? w _ hx114_4)).trans hx114_4
                   replace p114 := eq_true p114
                   replace q114 := eq_true q114
                   have p115 : 0 ≤ (((rd_T101 l0 a1).f1) : Int) := oD z3
                   have q115 : ((rd_T101 l0 a1).f1) < (l0.length : Int) := oD z3
                   obtain ⟨ad115, e115, hx115_0, hx115_1, hx115_2, hx115_3, hx115_4⟩ := at_T101 dY.out ((rd_T101 l0 a1).f1) p115 q115
                   obtain rfl : ad103 = ad115 := (by injection e115)
                   replace hx115_0 := (HB.out.cell (World.block_lt_of_cell? w _ hx115_0)).trans hx115_0
                   replace hx115_1 := (HB.out.cell (World.block_lt_of_cell? w _ hx115_1)).trans hx115_1
                   replace hx115_2 := (HB.out.cell (World.block_lt_of_cell? w _ hx115_2)).trans hx115_2
                   replace hx115_3 := (HB.out.cell (World.block_lt_of_cell? w _ hx115_3)).trans hx115_3
                   replace hx115_4 := (HB.out.cell (World.block_lt_of_cell? w _ hx115_4)).trans hx115_4
                   replace p115 := eq_true p115
                   replace q115 := eq_true q115
                   go_wp2_with (first | (go_at_call 59; (with_reducible refine (ih kj30 (by have := jg.out; have := lJ.out; have := qh.out; omega) _ _ l0 ((rd_T101 l0 a1).f0) qM _ ?side1 ?side2 oI.out).mono ?_); (case side1 => exact y38); (case side2 => exact en.out); rintro e w52 ⟨rfl, hb⟩; replace bo := aM (af (g := b0) (o := .cells #[.int .i64 ((rd_T101 l0 a1).f0), .int .i64 ((rd_T101 l0 a1).f1), .string ((rd_T101 l0 a1).f2), .int .i64 ((rd_T101 l0 a1).f3), .int .i64 ((rd_T101 l0 a1).f4)] 101 (0, 0)) (kB_ bo.out) hb); replace HB := aM (aA (by repeat (first | (with_reducible first | exact HB.out | apply bA | apply pD | apply bD | refine az ?_ iN.out) | exact HB.out)) hb); (try clear hb)))
                   repeat (go_quiet (fail); try go_wp2_with (first | (go_at_call 59; (with_reducible refine (ih kj30 (by have := jg.out; have := lJ.out; have := qh.out; omega) _ _ l0 ((rd_T101 l0 a1).f0) qM _ ?side1 ?side2 oI.out).mono ?_); (case side1 => exact y38); (case side2 => exact en.out); rintro e w52 ⟨rfl, hb⟩; replace bo := aM (af (g := b0) (o := .cells #[.int .i64 ((rd_T101 l0 a1).f0), .int .i64 ((rd_T101 l0 a1).f1), .string ((rd_T101 l0 a1).f2), .int .i64 ((rd_T101 l0 a1).f3), .int .i64 ((rd_T101 l0 a1).f4)] 101 (0, 0)) (kB_ bo.out) hb); replace HB := aM (aA (by repeat (first | (with_reducible first | exact HB.out | apply bA | apply pD | apply bD | refine az ?_ iN.out) | exact HB.out)) hb); (try clear hb))))
                   go_ret
                   exact ⟨y4, y8⟩
                  ·rw [if_neg tN] at H
                   have c49b0 : (((rd_T101 l0 a1).f4) == (wrap64 (((rd_T101 l0 ((rd_T101 l0 a1).f0)).f4) + 1))) = false := qF tN
                   have c49b1 : (((rd_T101 l0 a1).f4) != (wrap64 (((rd_T101 l0 ((rd_T101 l0 a1).f0)).f4) + 1))) = true := nT tN
                   obtain rfl := sI H
                   obtain ⟨hcz53_0, hcz53_1, hcz53_2, hcz53_3, hcz53_4, hfz53_0, hfz53_1, hfz53_2, hfz53_3, hfz53_4⟩ := cc5 bo.out
                   have p108 : 0 ≤ (((rd_T101 l0 a1).f0) : Int) := oD z3
                   have q108 : ((rd_T101 l0 a1).f0) < (l0.length : Int) := oD z3
                   obtain ⟨ad108, e108, hx108_0, hx108_1, hx108_2, hx108_3, hx108_4⟩ := at_T101 dY.out ((rd_T101 l0 a1).f0) p108 q108
                   obtain rfl : ad103 = ad108 := (by injection e108)
                   replace hx108_0 := (HB.out.cell (World.block_lt_of_cell? w _ hx108_0)).trans hx108_0
                   replace hx108_1 := (HB.out.cell (World.block_lt_of_cell? w _ hx108_1)).trans hx108_1
                   replace hx108_2 := (HB.out.cell (World.block_lt_of_cell? w _ hx108_2)).trans hx108_2
                   replace hx108_3 := (HB.out.cell (World.block_lt_of_cell? w _ hx108_3)).trans hx108_3
                   replace hx108_4 := (HB.out.cell (World.block_lt_of_cell? w _ hx108_4)).trans hx108_4
                   replace p108 := eq_true p108
                   replace q108 := eq_true q108
                   have p109 : 0 ≤ (((rd_T101 l0 a1).f1) : Int) := oD z3
                   have q109 : ((rd_T101 l0 a1).f1) < (l0.length : Int) := oD z3
                   obtain ⟨ad109, e109, hx109_0, hx109_1, hx109_2, hx109_3, hx109_4⟩ := at_T101 dY.out ((rd_T101 l0 a1).f1) p109 q109
                   obtain rfl : ad103 = ad109 := (by injection e109)
                   replace hx109_0 := (HB.out.cell (World.block_lt_of_cell? w _ hx109_0)).trans hx109_0
                   replace hx109_1 := (HB.out.cell (World.block_lt_of_cell? w _ hx109_1)).trans hx109_1
                   replace hx109_2 := (HB.out.cell (World.block_lt_of_cell? w _ hx109_2)).trans hx109_2
                   replace hx109_3 := (HB.out.cell (World.block_lt_of_cell? w _ hx109_3)).trans hx109_3
                   replace hx109_4 := (HB.out.cell (World.block_lt_of_cell? w _ hx109_4)).trans hx109_4
                   replace p109 := eq_true p109
                   replace q109 := eq_true q109
                   have p114 : 0 ≤ (((rd_T101 l0 a1).f0) : Int) := oD z3
                   have q114 : ((rd_T101 l0 a1).f0) < (l0.length : Int) := oD z3
                   obtain ⟨ad114, e114, hx114_0, hx114_1, hx114_2, hx114_3, hx114_4⟩ := at_T101 dY.out ((rd_T101 l0 a1).f0) p114 q114
                   obtain rfl : ad103 = ad114 := (by injection e114)
                   replace hx114_0 := (HB.out.cell (World.block_lt_of_cell? w _ hx114_0)).trans hx114_0
                   replace hx114_1 := (HB.out.cell (World.block_lt_of_cell? w _ hx114_1)).trans hx114_1
                   replace hx114_2 := (HB.out.cell (World.block_lt_of_cell? w _ hx114_2)).trans hx114_2
                   replace hx114_3 := (HB.out.cell (World.block_lt_of_cell? w _ hx114_3)).trans hx114_3
                   replace hx114_4 := (HB.out.cell (World.block_lt_of_cell? w _ hx114_4)).trans hx114_4
                   replace p114 := eq_true p114
                   replace q114 := eq_true q114
                   have p115 : 0 ≤ (((rd_T101 l0 a1).f1) : Int) := oD z3
                   have q115 : ((rd_T101 l0 a1).f1) < (l0.length : Int) := oD z3
                   obtain ⟨ad115, e115, hx115_0, hx115_1, hx115_2, hx115_3, hx115_4⟩ := at_T101 dY.out ((rd_T101 l0 a1).f1) p115 q115
                   obtain rfl : ad103 = ad115 := (by injection e115)
                   replace hx115_0 := (HB.out.cell (World.block_lt_of_cell? w _ hx115_0)).trans hx115_0
                   replace hx115_1 := (HB.out.cell (World.block_lt_of_cell? w _ hx115_1)).trans hx115_1
                   replace hx115_2 := (HB.out.cell (World.block_lt_of_cell? w _ hx115_2)).trans hx115_2
                   replace hx115_3 := (HB.out.cell (World.block_lt_of_cell? w _ hx115_3)).trans hx115_3
                   replace hx115_4 := (HB.out.cell (World.block_lt_of_cell? w _ hx115_4)).trans hx115_4
                   replace p115 := eq_true p115
                   replace q115 := eq_true q115
                   go_wp2
                   repeat (go_quiet (fail); try go_wp2)
                   go_ret
                   exact ⟨y4, y8⟩
                 ·rw [if_neg tO] at H
                  have c48b0 : (((rd_T101 l0 a1).f3) == (wrap64 (((rd_T101 l0 ((rd_T101 l0 a1).f0)).f3) + ((rd_T101 l0 ((rd_T101 l0 a1).f1)).f3)))) = false := qF tO
                  have c48b1 : (((rd_T101 l0 a1).f3) != (wrap64 (((rd_T101 l0 ((rd_T101 l0 a1).f0)).f3) + ((rd_T101 l0 ((rd_T101 l0 a1).f1)).f3)))) = true := nT tO
                  obtain rfl := sI H
                  obtain ⟨hcz54_0, hcz54_1, hcz54_2, hcz54_3, hcz54_4, hfz54_0, hfz54_1, hfz54_2, hfz54_3, hfz54_4⟩ := cc5 bo.out
                  have p108 : 0 ≤ (((rd_T101 l0 a1).f0) : Int) := oD z3
                  have q108 : ((rd_T101 l0 a1).f0) < (l0.length : Int) := oD z3
                  obtain ⟨ad108, e108, hx108_0, hx108_1, hx108_2, hx108_3, hx108_4⟩ := at_T101 dY.out ((rd_T101 l0 a1).f0) p108 q108
                  obtain rfl : ad103 = ad108 := (by injection e108)
                  replace hx108_0 := (HB.out.cell (World.block_lt_of_cell? w _ hx108_0)).trans hx108_0
                  replace hx108_1 := (HB.out.cell (World.block_lt_of_cell? w _ hx108_1)).trans hx108_1
                  replace hx108_2 := (HB.out.cell (World.block_lt_of_cell? w _ hx108_2)).trans hx108_2
                  replace hx108_3 := (HB.out.cell (World.block_lt_of_cell? w _ hx108_3)).trans hx108_3
                  replace hx108_4 := (HB.out.cell (World.block_lt_of_cell? w _ hx108_4)).trans hx108_4
                  replace p108 := eq_true p108
                  replace q108 := eq_true q108
                  have p109 : 0 ≤ (((rd_T101 l0 a1).f1) : Int) := oD z3
                  have q109 : ((rd_T101 l0 a1).f1) < (l0.length : Int) := oD z3
                  obtain ⟨ad109, e109, hx109_0, hx109_1, hx109_2, hx109_3, hx109_4⟩ := at_T101 dY.out ((rd_T101 l0 a1).f1) p109 q109
                  obtain rfl : ad103 = ad109 := (by injection e109)
                  replace hx109_0 := (HB.out.cell (World.block_lt_of_cell? w _ hx109_0)).trans hx109_0
                  replace hx109_1 := (HB.out.cell (World.block_lt_of_cell? w _ hx109_1)).trans hx109_1
                  replace hx109_2 := (HB.out.cell (World.block_lt_of_cell? w _ hx109_2)).trans hx109_2
                  replace hx109_3 := (HB.out.cell (World.block_lt_of_cell? w _ hx109_3)).trans hx109_3
                  replace hx109_4 := (HB.out.cell (World.block_lt_of_cell? w _ hx109_4)).trans hx109_4
                  replace p109 := eq_true p109
                  replace q109 := eq_true q109
                  have p114 : 0 ≤ (((rd_T101 l0 a1).f0) : Int) := oD z3
                  have q114 : ((rd_T101 l0 a1).f0) < (l0.length : Int) := oD z3
                  obtain ⟨ad114, e114, hx114_0, hx114_1, hx114_2, hx114_3, hx114_4⟩ := at_T101 dY.out ((rd_T101 l0 a1).f0) p114 q114
                  obtain rfl : ad103 = ad114 := (by injection e114)
                  replace hx114_0 := (HB.out.cell (World.block_lt_of_cell? w _ hx114_0)).trans hx114_0
                  replace hx114_1 := (HB.out.cell (World.block_lt_of_cell? w _ hx114_1)).trans hx114_1
                  replace hx114_2 := (HB.out.cell (World.block_lt_of_cell? w _ hx114_2)).trans hx114_2
                  replace hx114_3 := (HB.out.cell (World.block_lt_of_cell? w _ hx114_3)).trans hx114_3
                  replace hx114_4 := (HB.out.cell (World.block_lt_of_cell? w _ hx114_4)).trans hx114_4
                  replace p114 := eq_true p114
                  replace q114 := eq_true q114
                  have p115 : 0 ≤ (((rd_T101 l0 a1).f1) : Int) := oD z3
                  have q115 : ((rd_T101 l0 a1).f1) < (l0.length : Int) := oD z3
                  obtain ⟨ad115, e115, hx115_0, hx115_1, hx115_2, hx115_3, hx115_4⟩ := at_T101 dY.out ((rd_T101 l0 a1).f1) p115 q115
                  obtain rfl : ad103 = ad115 := (by injection e115)
                  replace hx115_0 := (HB.out.cell (World.block_lt_of_cell? w _ hx115_0)).trans hx115_0
                  replace hx115_1 := (HB.out.cell (World.block_lt_of_cell? w _ hx115_1)).trans hx115_1
                  replace hx115_2 := (HB.out.cell (World.block_lt_of_cell? w _ hx115_2)).trans hx115_2
                  replace hx115_3 := (HB.out.cell (World.block_lt_of_cell? w _ hx115_3)).trans hx115_3
                  replace hx115_4 := (HB.out.cell (World.block_lt_of_cell? w _ hx115_4)).trans hx115_4
                  replace p115 := eq_true p115
                  replace q115 := eq_true q115
                  go_wp2
                  repeat (go_quiet (fail); try go_wp2)
                  go_ret
                  exact ⟨y4, y8⟩
               ·rw [if_neg vR] at H
                exact absurd H (by simp)
              ·rw [if_neg vS] at H
               exact absurd H (by simp)
             ·rw [if_neg rT] at H
              exact absurd H (by simp)
            ·rw [if_neg qm] at H
             exact absurd H (by simp)
  ·rw [if_neg c4] at H
   exact absurd H (by simp)
 ·rw [if_neg c3] at H
  exact absurd H (by simp)

end Go.Proofs.Ytblnnbaeiggmoaa.AFnSplit
