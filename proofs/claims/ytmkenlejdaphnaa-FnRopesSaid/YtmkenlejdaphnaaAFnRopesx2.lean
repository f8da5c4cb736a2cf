-- this session's own text: written by wip/tools/ownprint.py over the kit's print
import Derived.Test.YtmkenlejdaphnaaAFnRopesx0
import Derived.Test.YtmkenlejdaphnaaAFnRopesx1
namespace Go.Proofs.Ytmkenlejdaphnaa.AFnRopes
open Go.RowKit Go.Proofs.YtmkenlejdaphnaaW.PrintWords Go.Proofs.YtmkenlejdaphnaaW.PrintLast Go.Proofs.YtmkenlejdaphnaaW.PrintMore
attribute [local go_sem] max2_int min2_int max_two min_two max_three min_three max_four min_four   -- for this text's walks alone
set_option linter.unusedVariables false
set_option linter.unusedSimpArgs false

/-! ### spec_l12First: function 46 -/
mutual
def spec_l12First.j0 : Nat → List (S58) → Int → Bool → Int → Int → ByteArray → Int → Int → Option (Int)
 | 0, _, _, _, _, _, _, _, _ => none
 | k + 1, x0, x1, x19, x105000, x105001, x105002, x105003, x105004 => if x19 = true then ((spec_l1In.f (x105002.size : Int) 1 8).bind fun qZ => (if qZ = true then ((spec_l1Text.f k x105002).bind fun qY => (if qY = true then (if x105003 = (x105002.size : Int) then (if x105004 = 0 then (some x1) else (some (-1))) else (some (-1))) else (some (-1)))) else (some (-1)))) else (if x105002.toList = ([] : List UInt8) then (if x105001 = (wrap64 (x1 - 1)) then (spec_l12First.j1 k x0 x1 (decide (x1 < 2)) x105000 x105001 x105002 x105003 x105004) else (spec_l12First.j1 k x0 x1 true x105000 x105001 x105002 x105003 x105004)) else (spec_l12First.j1 k x0 x1 true x105000 x105001 x105002 x105003 x105004))
def spec_l12First.j1 : Nat → List (S58) → Int → Bool → Int → Int → ByteArray → Int → Int → Option (Int)
 | 0, _, _, _, _, _, _, _, _ => none
 | k + 1, x0, x1, x58, x105000, x105001, x105002, x105003, x105004 => if x58 = true then (some (-1)) else ((spec_l12First.f k x0 (wrap64 (x1 - 1))).bind fun jL => (if jL < 1 then (spec_l12First.j2 k x0 true x105000 x105001 x105002 x105003 x105004) else (spec_l12First.j2 k x0 (x105000 != (wrap64 (jL - 1))) x105000 x105001 x105002 x105003 x105004)))
def spec_l12First.j2 : Nat → List (S58) → Bool → Int → Int → ByteArray → Int → Int → Option (Int)
 | 0, _, _, _, _, _, _, _ => none
 | k + 1, x0, x71, x105000, x105001, x105002, x105003, x105004 => if x71 = true then (some (-1)) else (if 0 ≤ x105000 then (if x105000 < (x0.length : Int) then (if 0 ≤ x105001 then (if x105001 < (x0.length : Int) then (if ((rd_T58 x0 x105001).f4) > ((rd_T58 x0 x105000).f4) then (if x105003 = (wrap64 (((rd_T58 x0 x105000).f3) + ((rd_T58 x0 x105001).f3))) then (if x105004 = (wrap64 (((rd_T58 x0 x105001).f4) + 1)) then ((spec_l12First.f k x0 x105000).bind fun ov => (some ov)) else (some (-1))) else (some (-1))) else (if x105003 = (wrap64 (((rd_T58 x0 x105000).f3) + ((rd_T58 x0 x105001).f3))) then (if x105004 = (wrap64 (((rd_T58 x0 x105000).f4) + 1)) then ((spec_l12First.f k x0 x105000).bind fun ou => (some ou)) else (some (-1))) else (some (-1)))) else (none)) else (none)) else (none)) else (none))
def spec_l12First.f : Nat → List (S58) → Int → Option (Int)
 | 0, _, _ => none
 | k + 1, l0, a1 => if 0 ≤ a1 then (if a1 < (l0.length : Int) then (if ((rd_T58 l0 a1).f0) = (-1) then (spec_l12First.j0 k l0 a1 (((rd_T58 l0 a1).f1) == (-1)) ((rd_T58 l0 a1).f0) ((rd_T58 l0 a1).f1) ((rd_T58 l0 a1).f2) ((rd_T58 l0 a1).f3) ((rd_T58 l0 a1).f4)) else (spec_l12First.j0 k l0 a1 false ((rd_T58 l0 a1).f0) ((rd_T58 l0 a1).f1) ((rd_T58 l0 a1).f2) ((rd_T58 l0 a1).f3) ((rd_T58 l0 a1).f4))) else (none)) else (none)
end
theorem spec_l12First.mono_l : ∀ k, (∀ y0 y1, LeO (spec_l12First.f k y0 y1) (spec_l12First.f (k + 1) y0 y1)) ∧ (∀ y0 y1 y2 y3 y4 y5 y6 y7, LeO (spec_l12First.j0 k y0 y1 y2 y3 y4 y5 y6 y7) (spec_l12First.j0 (k + 1) y0 y1 y2 y3 y4 y5 y6 y7)) ∧ (∀ y0 y1 y2 y3 y4 y5 y6 y7, LeO (spec_l12First.j1 k y0 y1 y2 y3 y4 y5 y6 y7) (spec_l12First.j1 (k + 1) y0 y1 y2 y3 y4 y5 y6 y7)) ∧ (∀ y0 y1 y2 y3 y4 y5 y6, LeO (spec_l12First.j2 k y0 y1 y2 y3 y4 y5 y6) (spec_l12First.j2 (k + 1) y0 y1 y2 y3 y4 y5 y6))
 | 0 => ⟨fun _ _ r h => by simp [spec_l12First.f] at h, fun _ _ _ _ _ _ _ _ r h => by simp [spec_l12First.j0] at h, fun _ _ _ _ _ _ _ _ r h => by simp [spec_l12First.j1] at h, fun _ _ _ _ _ _ _ r h => by simp [spec_l12First.j2] at h⟩
 | k + 1 => by
  obtain ⟨ih0, ih1, ih2, ih3⟩ := spec_l12First.mono_l k
  refine ⟨?_, ?_, ?_, ?_⟩
  ·intro y0 y1
   unfold spec_l12First.f
   repeat' first
   | (with_reducible exact ih0 _ _)
   | (with_reducible exact ih1 _ _ _ _ _ _ _ _)
   | (with_reducible exact ih2 _ _ _ _ _ _ _ _)
   | (with_reducible exact ih3 _ _ _ _ _ _ _)
   | (with_reducible exact spec_l1Text.mono _ _)
   | (with_reducible exact LeO.refl _)
   | (with_reducible exact LeO.none _)
   | (with_reducible refine LeO.ite ?_ ?_)
   | (with_reducible refine LeO.bind ?_ (fun _ => ?_))
  ·intro y0 y1 y2 y3 y4 y5 y6 y7
   unfold spec_l12First.j0
   repeat' first
   | (with_reducible exact ih0 _ _)
   | (with_reducible exact ih1 _ _ _ _ _ _ _ _)
   | (with_reducible exact ih2 _ _ _ _ _ _ _ _)
   | (with_reducible exact ih3 _ _ _ _ _ _ _)
   | (with_reducible exact spec_l1Text.mono _ _)
   | (with_reducible exact LeO.refl _)
   | (with_reducible exact LeO.none _)
   | (with_reducible refine LeO.ite ?_ ?_)
   | (with_reducible refine LeO.bind ?_ (fun _ => ?_))
  ·intro y0 y1 y2 y3 y4 y5 y6 y7
   unfold spec_l12First.j1
   repeat' first
   | (with_reducible exact ih0 _ _)
   | (with_reducible exact ih1 _ _ _ _ _ _ _ _)
   | (with_reducible exact ih2 _ _ _ _ _ _ _ _)
   | (with_reducible exact ih3 _ _ _ _ _ _ _)
   | (with_reducible exact spec_l1Text.mono _ _)
   | (with_reducible exact LeO.refl _)
   | (with_reducible exact LeO.none _)
   | (with_reducible refine LeO.ite ?_ ?_)
   | (with_reducible refine LeO.bind ?_ (fun _ => ?_))
  ·intro y0 y1 y2 y3 y4 y5 y6
   unfold spec_l12First.j2
   repeat' first
   | (with_reducible exact ih0 _ _)
   | (with_reducible exact ih1 _ _ _ _ _ _ _ _)
   | (with_reducible exact ih2 _ _ _ _ _ _ _ _)
   | (with_reducible exact ih3 _ _ _ _ _ _ _)
   | (with_reducible exact spec_l1Text.mono _ _)
   | (with_reducible exact LeO.refl _)
   | (with_reducible exact LeO.none _)
   | (with_reducible refine LeO.ite ?_ ?_)
   | (with_reducible refine LeO.bind ?_ (fun _ => ?_))
theorem spec_l12First.mono : ∀ a0 a1 k, LeO (spec_l12First.f k a0 a1) (spec_l12First.f (k + 1) a0 a1) := by
 intro a0 a1 k
 obtain ⟨ih0, ih1, ih2, ih3⟩ := spec_l12First.mono_l k
 exact ih0 a0 a1
set_option maxHeartbeats 8000000 in
set_option maxRecDepth 100000 in
theorem spec_l12First.calls (k : Nat) : ∀ (A0 : Option Addr) (c0 : Nat) (l0 : List (S58)) (a1 : Int) (r : Int) (w : World) (hr0 : Kd.C k58 w A0 l0.length l0) (hc0 : l0.length ≤ c0) (h : spec_l12First.f k l0 a1 = some r),
  Calls Try.prog 46 #[.slice A0 l0.length c0, .int .i64 a1] w fun e w' => e = .returned (.int .i64 r) ∧ Below w.heap.size w w' := by
 induction k using Nat.strongRecOn with
 | _ k ih =>
 intro A0 c0 l0 a1 r w hr0 hc0 h
 cases k with
 | zero => exact absurd h (by simp [spec_l12First.f])
 | succ k =>
 simp only [spec_l12First.f] at h
 have hu58 := Try.underlying58
 have em := aM hr0
 have eV := aM hc0
 clear hr0 hc0
 have HB := aM (Below.refl w.heap.size w)
 have H : (if 0 ≤ a1 then (if a1 < (l0.length : Int) then (if ((rd_T58 l0 a1).f0) = (-1) then (spec_l12First.j0 k l0 a1 (((rd_T58 l0 a1).f1) == (-1)) ((rd_T58 l0 a1).f0) ((rd_T58 l0 a1).f1) ((rd_T58 l0 a1).f2) ((rd_T58 l0 a1).f3) ((rd_T58 l0 a1).f4)) else (spec_l12First.j0 k l0 a1 false ((rd_T58 l0 a1).f0) ((rd_T58 l0 a1).f1) ((rd_T58 l0 a1).f2) ((rd_T58 l0 a1).f3) ((rd_T58 l0 a1).f4))) else (none)) else (none)) = some r := h
 clear h
 by_cases c3 : 0 ≤ a1
 ·rw [if_pos c3] at H
  have c3b0 : decide (0 ≤ a1) = true := dT c3
  clear c3
  by_cases c4 : a1 < (l0.length : Int)
  ·rw [if_pos c4] at H
   have c4b0 : decide (a1 < (l0.length : Int)) = true := dT c4
   clear c4
   have g6 := aM H
   clear H
   have p103 : 0 ≤ (a1 : Int) := oD z3
   have q103 : a1 < (l0.length : Int) := oD z3
   obtain ⟨ad103, e103, hx103_0, hx103_1, hx103_2, hx103_3, hx103_4⟩ := at_T58 em.out a1 p103 q103
   cases e103
   replace p103 := eq_true p103
   replace q103 := eq_true q103
   go_enter Try.func46, Try.ntmps46
   go_upto_region 2 with (first | ((with_reducible refine aN (N := 5) rfl ?_); (try (refine gate_guard (by rfl) ?_; dsimp only)); refine aQ ?hg (N := 5) ?hd (cs := #[.int .i64 0, .int .i64 0, .string ⟨#[]⟩, .int .i64 0, .int .i64 0]) (t := 58) ?hr ?_; (case hd => rfl); (case hg => rfl); (case hr => first | (go_simp; done) | (go_simp; rfl)); intro bS hg w6 hbox hb; have bi := aM (hbox); have qm := aM ((by rw [hg]; exact (aC z20) : w.heap.size ≤ bS)); have gu := aM ((by rw [hg]; exact (aC z20) : w.heap.size ≤ bS)); replace HB := aM (aA z20 hb); clear hb hbox hg; obtain ⟨jf, je, jd, jc, jb, i5, i4, i3, i2, i1⟩ := cc5 bi.out))
   repeat (go_quiet (fail); go_upto_region 2 with (first | ((with_reducible refine aN (N := 5) rfl ?_); (try (refine gate_guard (by rfl) ?_; dsimp only)); refine aQ ?hg (N := 5) ?hd (cs := #[.int .i64 0, .int .i64 0, .string ⟨#[]⟩, .int .i64 0, .int .i64 0]) (t := 58) ?hr ?_; (case hd => rfl); (case hg => rfl); (case hr => first | (go_simp; done) | (go_simp; rfl)); intro bS hg w6 hbox hb; have bi := aM (hbox); have qm := aM ((by rw [hg]; exact (aC z20) : w.heap.size ≤ bS)); have gu := aM ((by rw [hg]; exact (aC z20) : w.heap.size ≤ bS)); replace HB := aM (aA z20 hb); clear hb hbox hg; obtain ⟨jf, je, jd, jc, jb, i5, i4, i3, i2, i1⟩ := cc5 bi.out)))
   (try simp only [Act.put, sA, sB, sC])
   go_cut [19] (fun v19 wc => ∃ (kq : Nat) (x19_4 : Bool), v19 = .bool x19_4 ∧ Aside0 (spec_l12First.j0 kq l0 a1 x19_4 ((rd_T58 l0 a1).f0) ((rd_T58 l0 a1).f1) ((rd_T58 l0 a1).f2) ((rd_T58 l0 a1).f3) ((rd_T58 l0 a1).f4) = some r) ∧ Aside0 (kq ≤ k) ∧ Aside0 (wc.heap[bS]? = some (.cells #[.int .i64 ((rd_T58 l0 a1).f0), .int .i64 ((rd_T58 l0 a1).f1), .string ((rd_T58 l0 a1).f2), .int .i64 ((rd_T58 l0 a1).f3), .int .i64 ((rd_T58 l0 a1).f4)] 58 (0, 0))) ∧ Aside0 (Below w.heap.size w wc))
   case first =>
    have H := g6.out
    clear g6
    by_cases c8 : ((rd_T58 l0 a1).f0) = (-1)
    ·rw [if_pos c8] at H
     have c8b0 : (((rd_T58 l0 a1).f0) == (-1)) = true := qT c8
     have c8b1 : (((rd_T58 l0 a1).f0) != (-1)) = false := nF c8
     clear c8
     (first | rw [c8b0] | (simp only [i64_w, i32_w]; rw [c8b0]) | skip)
     have H' := aM H
     clear H
     obtain ⟨ic, ib, ia, lS, lR, iX, hV, hU, lQ, lP⟩ := cc5 bi.out
     go_wp2
     repeat (go_quiet (fail); try go_wp2)
     go_meet
     case rel => exact ⟨_, ((((rd_T58 l0 a1).f1) == (-1))), z2, H', ⟨by first | omega | exact Nat.le_refl _⟩, ⟨by (with_reducible repeat (first | refine au ?_ _ | refine ar ?_ | refine av ?_ _)); refine ax (cs := #[.int .i64 ((rd_T58 l0 a1).f0), .int .i64 ((rd_T58 l0 a1).f1), .string ((rd_T58 l0 a1).f2), .int .i64 ((rd_T58 l0 a1).f3), .int .i64 0]) ?_ 4 _ rfl; (with_reducible repeat (first | refine au ?_ _ | refine ar ?_ | refine av ?_ _)); refine ax (cs := #[.int .i64 ((rd_T58 l0 a1).f0), .int .i64 ((rd_T58 l0 a1).f1), .string ((rd_T58 l0 a1).f2), .int .i64 0, .int .i64 0]) ?_ 3 _ rfl; (with_reducible repeat (first | refine au ?_ _ | refine ar ?_ | refine av ?_ _)); refine ax (cs := #[.int .i64 ((rd_T58 l0 a1).f0), .int .i64 ((rd_T58 l0 a1).f1), .string ⟨#[]⟩, .int .i64 0, .int .i64 0]) ?_ 2 _ rfl; (with_reducible repeat (first | refine au ?_ _ | refine ar ?_ | refine av ?_ _)); refine ax (cs := #[.int .i64 ((rd_T58 l0 a1).f0), .int .i64 0, .string ⟨#[]⟩, .int .i64 0, .int .i64 0]) ?_ 1 _ rfl; (with_reducible repeat (first | refine au ?_ _ | refine ar ?_ | refine av ?_ _)); refine ax (cs := #[.int .i64 0, .int .i64 0, .string ⟨#[]⟩, .int .i64 0, .int .i64 0]) ?_ 0 _ rfl; (with_reducible repeat (first | refine au ?_ _ | refine ar ?_ | refine av ?_ _)); exact bi.out⟩, ⟨y11⟩⟩
    ·rw [if_neg c8] at H
     have c8b0 : (((rd_T58 l0 a1).f0) == (-1)) = false := qF c8
     have c8b1 : (((rd_T58 l0 a1).f0) != (-1)) = true := nT c8
     (first | rw [c8b0] | (simp only [i64_w, i32_w]; rw [c8b0]) | skip)
     have H' := aM H
     clear H
     obtain ⟨k7, k6, k5, k4, kZ, kH, kG, kF, kE, kD⟩ := cc5 bi.out
     go_wp2
     repeat (go_quiet (fail); try go_wp2)
     go_meet
     case rel => exact ⟨_, (false), z2, H', ⟨by first | omega | exact Nat.le_refl _⟩, ⟨by (with_reducible repeat (first | refine au ?_ _ | refine ar ?_ | refine av ?_ _)); refine ax (cs := #[.int .i64 ((rd_T58 l0 a1).f0), .int .i64 ((rd_T58 l0 a1).f1), .string ((rd_T58 l0 a1).f2), .int .i64 ((rd_T58 l0 a1).f3), .int .i64 0]) ?_ 4 _ rfl; (with_reducible repeat (first | refine au ?_ _ | refine ar ?_ | refine av ?_ _)); refine ax (cs := #[.int .i64 ((rd_T58 l0 a1).f0), .int .i64 ((rd_T58 l0 a1).f1), .string ((rd_T58 l0 a1).f2), .int .i64 0, .int .i64 0]) ?_ 3 _ rfl; (with_reducible repeat (first | refine au ?_ _ | refine ar ?_ | refine av ?_ _)); refine ax (cs := #[.int .i64 ((rd_T58 l0 a1).f0), .int .i64 ((rd_T58 l0 a1).f1), .string ⟨#[]⟩, .int .i64 0, .int .i64 0]) ?_ 2 _ rfl; (with_reducible repeat (first | refine au ?_ _ | refine ar ?_ | refine av ?_ _)); refine ax (cs := #[.int .i64 ((rd_T58 l0 a1).f0), .int .i64 0, .string ⟨#[]⟩, .int .i64 0, .int .i64 0]) ?_ 1 _ rfl; (with_reducible repeat (first | refine au ?_ _ | refine ar ?_ | refine av ?_ _)); refine ax (cs := #[.int .i64 0, .int .i64 0, .string ⟨#[]⟩, .int .i64 0, .int .i64 0]) ?_ 0 _ rfl; (with_reducible repeat (first | refine au ?_ _ | refine ar ?_ | refine av ?_ _)); exact bi.out⟩, ⟨y11⟩⟩
   case rest =>
    clear g6
    try clear c3
    try clear c3b0
    try clear c4
    try clear c4b0
    try clear jf
    try clear je
    try clear jd
    try clear jc
    try clear jb
    try clear i5
    try clear i4
    try clear i3
    try clear i2
    try clear i1
    try clear hx103_0
    try clear hx103_1
    try clear hx103_2
    try clear hx103_3
    try clear hx103_4
    try clear p103
    try clear q103
    obtain ⟨kq, x19_4, rfl, HA, gJ, bi, HB⟩ := hcut
    cases kq with
    | zero => exact absurd HA.out (by simp [spec_l12First.j0])
    | succ kj4 =>
     have H := HA.out
     clear HA
     simp only [spec_l12First.j0] at H
     by_cases e9 : x19_4 = true
     ·subst e9
      rw [if_pos rfl] at H
      obtain ⟨qZ, lb, H⟩ := oA_ H
      try dsimp only at H
      by_cases fj : qZ = true
      ·subst fj
       rw [if_pos rfl] at H
       obtain ⟨qY, g9, H⟩ := oA_ H
       try dsimp only at H
       by_cases fe : qY = true
       ·subst fe
        rw [if_pos rfl] at H
        by_cases fS : ((rd_T58 l0 a1).f3) = (((rd_T58 l0 a1).f2).size : Int)
        ·rw [if_pos fS] at H
         have c16b0 : (((rd_T58 l0 a1).f3) == (((rd_T58 l0 a1).f2).size : Int)) = true := qT fS
         have c16b1 : (((rd_T58 l0 a1).f3) != (((rd_T58 l0 a1).f2).size : Int)) = false := nF fS
         clear fS
         by_cases gE : ((rd_T58 l0 a1).f4) = 0
         ·rw [if_pos gE] at H
          have c17b0 : (((rd_T58 l0 a1).f4) == 0) = true := qT gE
          have c17b1 : (((rd_T58 l0 a1).f4) != 0) = false := nF gE
          clear gE
          obtain rfl := sI H
          obtain ⟨nt, nr, np, nn, nm, mG, mF, mE, mD, mC⟩ := cc5 bi.out
          go_wp2_with (first | (go_at_call 50; (with_reducible refine (spec_l1In.calls (((rd_T58 l0 a1).f2).size : Int) 1 8 true _ lb.out).mono ?_); rintro e w' ⟨rfl, ⟨nd, rfl⟩⟩; (try exact dD_)) | (go_at_call 76; (with_reducible refine (spec_l1Text.calls kj4 ((rd_T58 l0 a1).f2) true _ g9.out).mono ?_); rintro e w' ⟨rfl, ⟨nd, rfl⟩⟩; (try exact dD_)))
          repeat (go_quiet (first | (go_at_call 50; (with_reducible refine (spec_l1In.calls (((rd_T58 l0 a1).f2).size : Int) 1 8 true _ lb.out).mono ?_); rintro e w' ⟨rfl, ⟨nd, rfl⟩⟩; (try exact dD_)) | (go_at_call 76; (with_reducible refine (spec_l1Text.calls kj4 ((rd_T58 l0 a1).f2) true _ g9.out).mono ?_); rintro e w' ⟨rfl, ⟨nd, rfl⟩⟩; (try exact dD_))); try go_wp2_with (first | (go_at_call 50; (with_reducible refine (spec_l1In.calls (((rd_T58 l0 a1).f2).size : Int) 1 8 true _ lb.out).mono ?_); rintro e w' ⟨rfl, ⟨nd, rfl⟩⟩; (try exact dD_)) | (go_at_call 76; (with_reducible refine (spec_l1Text.calls kj4 ((rd_T58 l0 a1).f2) true _ g9.out).mono ?_); rintro e w' ⟨rfl, ⟨nd, rfl⟩⟩; (try exact dD_))))
          go_ret
          exact ⟨y4, y11⟩
         ·rw [if_neg gE] at H
          have c17b0 : (((rd_T58 l0 a1).f4) == 0) = false := qF gE
          have c17b1 : (((rd_T58 l0 a1).f4) != 0) = true := nT gE
          obtain rfl := sI H
          obtain ⟨iI, kW, kV, kU, kT, iG, kz, ky, kx, kw⟩ := cc5 bi.out
          go_wp2_with (first | (go_at_call 50; (with_reducible refine (spec_l1In.calls (((rd_T58 l0 a1).f2).size : Int) 1 8 true _ lb.out).mono ?_); rintro e w' ⟨rfl, ⟨nd, rfl⟩⟩; (try exact dD_)) | (go_at_call 76; (with_reducible refine (spec_l1Text.calls kj4 ((rd_T58 l0 a1).f2) true _ g9.out).mono ?_); rintro e w' ⟨rfl, ⟨nd, rfl⟩⟩; (try exact dD_)))
          repeat (go_quiet (first | (go_at_call 50; (with_reducible refine (spec_l1In.calls (((rd_T58 l0 a1).f2).size : Int) 1 8 true _ lb.out).mono ?_); rintro e w' ⟨rfl, ⟨nd, rfl⟩⟩; (try exact dD_)) | (go_at_call 76; (with_reducible refine (spec_l1Text.calls kj4 ((rd_T58 l0 a1).f2) true _ g9.out).mono ?_); rintro e w' ⟨rfl, ⟨nd, rfl⟩⟩; (try exact dD_))); try go_wp2_with (first | (go_at_call 50; (with_reducible refine (spec_l1In.calls (((rd_T58 l0 a1).f2).size : Int) 1 8 true _ lb.out).mono ?_); rintro e w' ⟨rfl, ⟨nd, rfl⟩⟩; (try exact dD_)) | (go_at_call 76; (with_reducible refine (spec_l1Text.calls kj4 ((rd_T58 l0 a1).f2) true _ g9.out).mono ?_); rintro e w' ⟨rfl, ⟨nd, rfl⟩⟩; (try exact dD_))))
          go_ret
          exact ⟨y4, y11⟩
        ·rw [if_neg fS] at H
         have c16b0 : (((rd_T58 l0 a1).f3) == (((rd_T58 l0 a1).f2).size : Int)) = false := qF fS
         have c16b1 : (((rd_T58 l0 a1).f3) != (((rd_T58 l0 a1).f2).size : Int)) = true := nT fS
         obtain rfl := sI H
         obtain ⟨kR, kQ, kP, nl, nk, kv, ku, kt, mB, mA⟩ := cc5 bi.out
         go_wp2_with (first | (go_at_call 50; (with_reducible refine (spec_l1In.calls (((rd_T58 l0 a1).f2).size : Int) 1 8 true _ lb.out).mono ?_); rintro e w' ⟨rfl, ⟨nd, rfl⟩⟩; (try exact dD_)) | (go_at_call 76; (with_reducible refine (spec_l1Text.calls kj4 ((rd_T58 l0 a1).f2) true _ g9.out).mono ?_); rintro e w' ⟨rfl, ⟨nd, rfl⟩⟩; (try exact dD_)))
         repeat (go_quiet (first | (go_at_call 50; (with_reducible refine (spec_l1In.calls (((rd_T58 l0 a1).f2).size : Int) 1 8 true _ lb.out).mono ?_); rintro e w' ⟨rfl, ⟨nd, rfl⟩⟩; (try exact dD_)) | (go_at_call 76; (with_reducible refine (spec_l1Text.calls kj4 ((rd_T58 l0 a1).f2) true _ g9.out).mono ?_); rintro e w' ⟨rfl, ⟨nd, rfl⟩⟩; (try exact dD_))); try go_wp2_with (first | (go_at_call 50; (with_reducible refine (spec_l1In.calls (((rd_T58 l0 a1).f2).size : Int) 1 8 true _ lb.out).mono ?_); rintro e w' ⟨rfl, ⟨nd, rfl⟩⟩; (try exact dD_)) | (go_at_call 76; (with_reducible refine (spec_l1Text.calls kj4 ((rd_T58 l0 a1).f2) true _ g9.out).mono ?_); rintro e w' ⟨rfl, ⟨nd, rfl⟩⟩; (try exact dD_))))
         go_ret
         exact ⟨y4, y11⟩
       ·replace fe := Bool.eq_false_iff.mpr fe
        subst fe
        rw [if_neg nF_] at H
        obtain rfl := sI H
        obtain ⟨nj, ni, nh, ng, nf, mz, my, mw, mv, mu⟩ := cc5 bi.out
        go_wp2_with (first | (go_at_call 50; (with_reducible refine (spec_l1In.calls (((rd_T58 l0 a1).f2).size : Int) 1 8 true _ lb.out).mono ?_); rintro e w' ⟨rfl, ⟨nd, rfl⟩⟩; (try exact dD_)) | (go_at_call 76; (with_reducible refine (spec_l1Text.calls kj4 ((rd_T58 l0 a1).f2) false _ g9.out).mono ?_); rintro e w' ⟨rfl, ⟨nd, rfl⟩⟩; (try exact dD_)))
        repeat (go_quiet (first | (go_at_call 50; (with_reducible refine (spec_l1In.calls (((rd_T58 l0 a1).f2).size : Int) 1 8 true _ lb.out).mono ?_); rintro e w' ⟨rfl, ⟨nd, rfl⟩⟩; (try exact dD_)) | (go_at_call 76; (with_reducible refine (spec_l1Text.calls kj4 ((rd_T58 l0 a1).f2) false _ g9.out).mono ?_); rintro e w' ⟨rfl, ⟨nd, rfl⟩⟩; (try exact dD_))); try go_wp2_with (first | (go_at_call 50; (with_reducible refine (spec_l1In.calls (((rd_T58 l0 a1).f2).size : Int) 1 8 true _ lb.out).mono ?_); rintro e w' ⟨rfl, ⟨nd, rfl⟩⟩; (try exact dD_)) | (go_at_call 76; (with_reducible refine (spec_l1Text.calls kj4 ((rd_T58 l0 a1).f2) false _ g9.out).mono ?_); rintro e w' ⟨rfl, ⟨nd, rfl⟩⟩; (try exact dD_))))
        go_ret
        exact ⟨y4, y11⟩
      ·replace fj := Bool.eq_false_iff.mpr fj
       subst fj
       rw [if_neg nF_] at H
       obtain rfl := sI H
       obtain ⟨kO, kN, kM, nc, nb, ks, kr, kp, mt, ms⟩ := cc5 bi.out
       go_wp2_with (first | (go_at_call 50; (with_reducible refine (spec_l1In.calls (((rd_T58 l0 a1).f2).size : Int) 1 8 false _ lb.out).mono ?_); rintro e w' ⟨rfl, ⟨nd, rfl⟩⟩; (try exact dD_)))
       repeat (go_quiet (first | (go_at_call 50; (with_reducible refine (spec_l1In.calls (((rd_T58 l0 a1).f2).size : Int) 1 8 false _ lb.out).mono ?_); rintro e w' ⟨rfl, ⟨nd, rfl⟩⟩; (try exact dD_))); try go_wp2_with (first | (go_at_call 50; (with_reducible refine (spec_l1In.calls (((rd_T58 l0 a1).f2).size : Int) 1 8 false _ lb.out).mono ?_); rintro e w' ⟨rfl, ⟨nd, rfl⟩⟩; (try exact dD_))))
       go_ret
       exact ⟨y4, y11⟩
     ·replace e9 := Bool.eq_false_iff.mpr e9
      subst e9
      rw [if_neg nF_] at H
      have rm := aM H
      clear H
      go_upto_region 6 with (fail)
      repeat (go_quiet (fail); go_upto_region 6 with (fail))
      go_cut [58] (fun v58 wc => ∃ (kq : Nat) (x58_22 : Bool), v58 = .bool x58_22 ∧ Aside0 (spec_l12First.j1 kq l0 a1 x58_22 ((rd_T58 l0 a1).f0) ((rd_T58 l0 a1).f1) ((rd_T58 l0 a1).f2) ((rd_T58 l0 a1).f3) ((rd_T58 l0 a1).f4) = some r) ∧ Aside0 (kq ≤ kj4) ∧ Aside0 (wc.heap[bS]? = some (.cells #[.int .i64 ((rd_T58 l0 a1).f0), .int .i64 ((rd_T58 l0 a1).f1), .string ((rd_T58 l0 a1).f2), .int .i64 ((rd_T58 l0 a1).f3), .int .i64 ((rd_T58 l0 a1).f4)] 58 (0, 0))) ∧ Aside0 (Below w.heap.size w wc))
      case first =>
       have H := rm.out
       clear rm
       by_cases oI : ((rd_T58 l0 a1).f2).toList = ([] : List UInt8)
       ·rw [if_pos oI] at H
        have c24b0 : (((rd_T58 l0 a1).f2).toList == ([] : List UInt8)) = true := qT oI
        have c24b1 : (((rd_T58 l0 a1).f2).toList != ([] : List UInt8)) = false := nF oI
        clear oI
        (first | rw [c24b0] | (simp only [i64_w, i32_w]; rw [c24b0]) | skip)
        by_cases jB : ((rd_T58 l0 a1).f1) = (wrap64 (a1 - 1))
        ·rw [if_pos jB] at H
         have c25b0 : (((rd_T58 l0 a1).f1) == (wrap64 (a1 - 1))) = true := qT jB
         have c25b1 : (((rd_T58 l0 a1).f1) != (wrap64 (a1 - 1))) = false := nF jB
         clear jB
         have H' := aM H
         clear H
         obtain ⟨na, m9, m8, m7, mY, mr, mq, mo, mm, ml⟩ := cc5 bi.out
         go_wp2
         all_goals (try (exfalso; rename_i h_; rw [c24b0] at h_; cases h_; done))
         repeat (go_quiet (fail); try go_wp2)
         all_goals (try (exfalso; rename_i h_; rw [c24b0] at h_; cases h_; done))
         go_meet
         case rel => exact ⟨_, (decide (a1 < 2)), z2, H', ⟨by have := gJ.out; first | omega | exact Nat.le_refl _⟩, ⟨y8⟩, ⟨y11⟩⟩
        ·rw [if_neg jB] at H
         have c25b0 : (((rd_T58 l0 a1).f1) == (wrap64 (a1 - 1))) = false := qF jB
         have c25b1 : (((rd_T58 l0 a1).f1) != (wrap64 (a1 - 1))) = true := nT jB
         have H' := aM H
         clear H
         obtain ⟨mX, mW, mV, mU, mT, mj, mi, mh, mg, mf⟩ := cc5 bi.out
         go_wp2
         all_goals (try (exfalso; rename_i h_; rw [c24b0] at h_; cases h_; done))
         repeat (go_quiet (fail); try go_wp2)
         all_goals (try (exfalso; rename_i h_; rw [c24b0] at h_; cases h_; done))
         go_meet
         case rel => exact ⟨_, (true), z2, H', ⟨by have := gJ.out; first | omega | exact Nat.le_refl _⟩, ⟨y8⟩, ⟨y11⟩⟩
       ·rw [if_neg oI] at H
        have c24b0 : (((rd_T58 l0 a1).f2).toList == ([] : List UInt8)) = false := qF oI
        have c24b1 : (((rd_T58 l0 a1).f2).toList != ([] : List UInt8)) = true := nT oI
        (first | rw [c24b0] | (simp only [i64_w, i32_w]; rw [c24b0]) | skip)
        have H' := aM H
        clear H
        obtain ⟨gT, mS, mR, mQ, mP, gS, me, mc, mb, ma⟩ := cc5 bi.out
        go_wp2
        all_goals (try (exfalso; rename_i h_; rw [c24b0] at h_; cases h_; done))
        repeat (go_quiet (fail); try go_wp2)
        all_goals (try (exfalso; rename_i h_; rw [c24b0] at h_; cases h_; done))
        go_meet
        case rel => exact ⟨_, (true), z2, H', ⟨by have := gJ.out; first | omega | exact Nat.le_refl _⟩, ⟨y8⟩, ⟨y11⟩⟩
      case rest =>
       clear rm
       try clear c3
       try clear c3b0
       try clear c4
       try clear c4b0
       try clear e9
       try clear jf
       try clear je
       try clear jd
       try clear jc
       try clear jb
       try clear i5
       try clear i4
       try clear i3
       try clear i2
       try clear i1
       try clear hx103_0
       try clear hx103_1
       try clear hx103_2
       try clear hx103_3
       try clear hx103_4
       try clear p103
       try clear q103
       obtain ⟨kq, x58_22, rfl, HA, jw, bi, HB⟩ := hcut
       cases kq with
       | zero => exact absurd HA.out (by simp [spec_l12First.j1])
       | succ kj22 =>
        have H := HA.out
        clear HA
        simp only [spec_l12First.j1] at H
        by_cases gY : x58_22 = true
        ·subst gY
         rw [if_pos rfl] at H
         obtain rfl := sI H
         go_wp2
         repeat (go_quiet (fail); try go_wp2)
         go_ret
         exact ⟨y4, y11⟩
        ·replace gY := Bool.eq_false_iff.mpr gY
         subst gY
         rw [if_neg nF_] at H
         obtain ⟨jL, hD, H⟩ := oA_ H
         try dsimp only at H
         have lZ := aM H
         clear H
         go_upto_region 9 with (first | (go_at_call 46; (with_reducible refine (ih kj22 (by have := gJ.out; have := jw.out; omega) _ _ l0 (wrap64 (a1 - 1)) jL _ ?side1 ?side2 hD.out).mono ?_); (case side1 => exact y41); (case side2 => exact eV.out); rintro e w32 ⟨rfl, hb⟩; replace bi := aM (af (g := bS) (o := .cells #[.int .i64 ((rd_T58 l0 a1).f0), .int .i64 ((rd_T58 l0 a1).f1), .string ((rd_T58 l0 a1).f2), .int .i64 ((rd_T58 l0 a1).f3), .int .i64 ((rd_T58 l0 a1).f4)] 58 (0, 0)) (kB_ bi.out) hb); replace HB := aM (aA (by repeat (first | (with_reducible first | exact HB.out | apply bA | apply pD | apply bD | refine az ?_ gu.out) | exact HB.out)) hb); (try clear hb)))
         repeat (go_quiet (fail); go_upto_region 9 with (first | (go_at_call 46; (with_reducible refine (ih kj22 (by have := gJ.out; have := jw.out; omega) _ _ l0 (wrap64 (a1 - 1)) jL _ ?side1 ?side2 hD.out).mono ?_); (case side1 => exact y41); (case side2 => exact eV.out); rintro e w32 ⟨rfl, hb⟩; replace bi := aM (af (g := bS) (o := .cells #[.int .i64 ((rd_T58 l0 a1).f0), .int .i64 ((rd_T58 l0 a1).f1), .string ((rd_T58 l0 a1).f2), .int .i64 ((rd_T58 l0 a1).f3), .int .i64 ((rd_T58 l0 a1).f4)] 58 (0, 0)) (kB_ bi.out) hb); replace HB := aM (aA (by repeat (first | (with_reducible first | exact HB.out | apply bA | apply pD | apply bD | refine az ?_ gu.out) | exact HB.out)) hb); (try clear hb))))
         (try simp only [Act.put, sA, sB, sC])
         go_cut [71] (fun v71 wc => ∃ (kq : Nat) (x71_30 : Bool), v71 = .bool x71_30 ∧ Aside0 (spec_l12First.j2 kq l0 x71_30 ((rd_T58 l0 a1).f0) ((rd_T58 l0 a1).f1) ((rd_T58 l0 a1).f2) ((rd_T58 l0 a1).f3) ((rd_T58 l0 a1).f4) = some r) ∧ Aside0 (kq ≤ kj22) ∧ Aside0 (wc.heap[bS]? = some (.cells #[.int .i64 ((rd_T58 l0 a1).f0), .int .i64 ((rd_T58 l0 a1).f1), .string ((rd_T58 l0 a1).f2), .int .i64 ((rd_T58 l0 a1).f3), .int .i64 ((rd_T58 l0 a1).f4)] 58 (0, 0))) ∧ Aside0 (Below w.heap.size w wc))
         case first =>
          have H := lZ.out
          clear lZ
          by_cases nV : jL < 1
          ·rw [if_pos nV] at H
           have c33b0 : decide (jL < 1) = true := dT nV
           clear nV
           (first | rw [c33b0] | (simp only [i64_w, i32_w]; rw [c33b0]) | skip)
           have H' := aM H
           clear H
           go_wp2
           repeat (go_quiet (fail); try go_wp2)
           go_meet
           case rel => exact ⟨_, (true), z2, H', ⟨by have := gJ.out; have := jw.out; first | omega | exact Nat.le_refl _⟩, ⟨y8⟩, ⟨y11⟩⟩
          ·rw [if_neg nV] at H
           have c33b0 : decide (jL < 1) = false := dF nV
           clear nV
           (first | rw [c33b0] | (simp only [i64_w, i32_w]; rw [c33b0]) | skip)
           have H' := aM H
           clear H
           obtain ⟨hcz34_0, hcz34_1, hcz34_2, hcz34_3, hcz34_4, hfz34_0, hfz34_1, hfz34_2, hfz34_3, hfz34_4⟩ := cc5 bi.out
           go_wp2
           repeat (go_quiet (fail); try go_wp2)
           go_meet
           case rel => exact ⟨_, ((((rd_T58 l0 a1).f0) != (wrap64 (jL - 1)))), z2, H', ⟨by have := gJ.out; have := jw.out; first | omega | exact Nat.le_refl _⟩, ⟨y8⟩, ⟨y11⟩⟩
         case rest =>
          clear lZ
          try clear p1
          try clear q1
          try clear hx1
          try clear p2
          try clear c3
          try clear c3b0
          try clear c4
          try clear c4b0
          try clear c8
          try clear c8b0
          try clear c8b1
          try clear p10
          try clear q10
          try clear hx10
          try clear e9
          try clear fj
          try clear fe
          try clear fS
          try clear c16b0
          try clear c16b1
          try clear gE
          try clear c17b0
          try clear c17b1
          try clear gY
          try clear k7
          try clear k6
          try clear k5
          try clear k4
          try clear kZ
          try clear nt
          try clear nr
          try clear np
          try clear nn
          try clear nm
          try clear iI
          try clear kW
          try clear kV
          try clear kU
          try clear kT
          try clear kR
          try clear kQ
          try clear kP
          try clear nl
          try clear nk
          try clear nj
          try clear ni
          try clear nh
          try clear ng
          try clear nf
          try clear kO
          try clear kN
          try clear kM
          try clear nc
          try clear nb
          try clear jf
          try clear je
          try clear jd
          try clear jc
          try clear jb
          try clear ic
          try clear ib
          try clear ia
          try clear lS
          try clear lR
          try clear kH
          try clear kG
          try clear kF
          try clear kE
          try clear kD
          try clear mG
          try clear mF
          try clear mE
          try clear mD
          try clear mC
          try clear iG
          try clear kz
          try clear ky
          try clear kx
          try clear kw
          try clear kv
          try clear ku
          try clear kt
          try clear mB
          try clear mA
          try clear mz
          try clear my
          try clear mw
          try clear mv
          try clear mu
          try clear ks
          try clear kr
          try clear kp
          try clear mt
          try clear ms
          try clear i5
          try clear i4
          try clear i3
          try clear i2
          try clear i1
          try clear iX
          try clear hV
          try clear hU
          try clear lQ
          try clear lP
          try clear hx103_0
          try clear hx103_1
          try clear hx103_2
          try clear hx103_3
          try clear hx103_4
          try clear p1
          try clear p10
          try clear p103
          try clear p2
          try clear q1
          try clear q10
          try clear q103
          obtain ⟨kq, x71_30, rfl, HA, k9, bi, HB⟩ := hcut
          cases kq with
          | zero => exact absurd HA.out (by simp [spec_l12First.j2])
          | succ kj30 =>
           have H := HA.out
           clear HA
           simp only [spec_l12First.j2] at H
           by_cases lu : x71_30 = true
           ·subst lu
            rw [if_pos rfl] at H
            obtain rfl := sI H
            go_wp2
            repeat (go_quiet (fail); try go_wp2)
            go_ret
            exact ⟨y4, y11⟩
           ·replace lu := Bool.eq_false_iff.mpr lu
            subst lu
            rw [if_neg nF_] at H
            by_cases nz : 0 ≤ ((rd_T58 l0 a1).f0)
            ·rw [if_pos nz] at H
             have c36b0 : decide (0 ≤ ((rd_T58 l0 a1).f0)) = true := dT nz
             clear nz
             by_cases s8 : ((rd_T58 l0 a1).f0) < (l0.length : Int)
             ·rw [if_pos s8] at H
              have c37b0 : decide (((rd_T58 l0 a1).f0) < (l0.length : Int)) = true := dT s8
              clear s8
              by_cases oH : 0 ≤ ((rd_T58 l0 a1).f1)
              ·rw [if_pos oH] at H
               have c38b0 : decide (0 ≤ ((rd_T58 l0 a1).f1)) = true := dT oH
               clear oH
               by_cases s7 : ((rd_T58 l0 a1).f1) < (l0.length : Int)
               ·rw [if_pos s7] at H
                have c39b0 : decide (((rd_T58 l0 a1).f1) < (l0.length : Int)) = true := dT s7
                clear s7
                by_cases pZ : ((rd_T58 l0 ((rd_T58 l0 a1).f1)).f4) > ((rd_T58 l0 ((rd_T58 l0 a1).f0)).f4)
                ·rw [if_pos pZ] at H
                 have c40b0 : decide (((rd_T58 l0 ((rd_T58 l0 a1).f0)).f4) < ((rd_T58 l0 ((rd_T58 l0 a1).f1)).f4)) = true := dT pZ
                 clear pZ
                 by_cases pY : ((rd_T58 l0 a1).f3) = (wrap64 (((rd_T58 l0 ((rd_T58 l0 a1).f0)).f3) + ((rd_T58 l0 ((rd_T58 l0 a1).f1)).f3)))
                 ·rw [if_pos pY] at H
                  have c41b0 : (((rd_T58 l0 a1).f3) == (wrap64 (((rd_T58 l0 ((rd_T58 l0 a1).f0)).f3) + ((rd_T58 l0 ((rd_T58 l0 a1).f1)).f3)))) = true := qT pY
                  have c41b1 : (((rd_T58 l0 a1).f3) != (wrap64 (((rd_T58 l0 ((rd_T58 l0 a1).f0)).f3) + ((rd_T58 l0 ((rd_T58 l0 a1).f1)).f3)))) = false := nF pY
                  clear pY
                  by_cases nU : ((rd_T58 l0 a1).f4) = (wrap64 (((rd_T58 l0 ((rd_T58 l0 a1).f1)).f4) + 1))
                  ·rw [if_pos nU] at H
                   have c42b0 : (((rd_T58 l0 a1).f4) == (wrap64 (((rd_T58 l0 ((rd_T58 l0 a1).f1)).f4) + 1))) = true := qT nU
                   have c42b1 : (((rd_T58 l0 a1).f4) != (wrap64 (((rd_T58 l0 ((rd_T58 l0 a1).f1)).f4) + 1))) = false := nF nU
                   clear nU
                   obtain ⟨ov, td, H⟩ := oA_ H
                   try dsimp only at H
                   obtain rfl := sI H
                   obtain ⟨hcz44_0, hcz44_1, hcz44_2, hcz44_3, hcz44_4, hfz44_0, hfz44_1, hfz44_2, hfz44_3, hfz44_4⟩ := cc5 bi.out
                   have p108 : 0 ≤ (((rd_T58 l0 a1).f0) : Int) := oD z3
                   have q108 : ((rd_T58 l0 a1).f0) < (l0.length : Int) := oD z3
                   obtain ⟨ad108, e108, hx108_0, hx108_1, hx108_2, hx108_3, hx108_4⟩ := at_T58 em.out ((rd_T58 l0 a1).f0) p108 q108
                   obtain rfl : ad103 = ad108 := (by injection e108)
                   replace hx108_0 := (HB.out.cell (World.block_lt_of_cell? w _ hx108_0)).trans hx108_0
                   replace hx108_1 := (HB.out.cell (World.block_lt_of_cell? w _ hx108_1)).trans hx108_1
                   replace hx108_2 := (HB.out.cell (World.block_lt_of_cell? w _ hx108_2)).trans hx108_2
                   replace hx108_3 := (HB.out.cell (World.block_lt_of_cell? w _ hx108_3)).trans hx108_3
                   replace hx108_4 := (HB.out.cell (World.block_lt_of_cell? w _ hx108_4)).trans hx108_4
                   replace p108 := eq_true p108
                   replace q108 := eq_true q108
                   have p109 : 0 ≤ (((rd_T58 l0 a1).f1) : Int) := oD z3
                   have q109 : ((rd_T58 l0 a1).f1) < (l0.length : Int) := oD z3
                   obtain ⟨ad109, e109, hx109_0, hx109_1, hx109_2, hx109_3, hx109_4⟩ := at_T58 em.out ((rd_T58 l0 a1).f1) p109 q109
                   obtain rfl : ad103 = ad109 := (by injection e109)
                   replace hx109_0 := (HB.out.cell (World.block_lt_of_cell? w _ hx109_0)).trans hx109_0
                   replace hx109_1 := (HB.out.cell (World.block_lt_of_cell? w _ hx109_1)).trans hx109_1
                   replace hx109_2 := (HB.out.cell (World.block_lt_of_cell? w _ hx109_2)).trans hx109_2
                   replace hx109_3 := (HB.out.cell (World.block_lt_of_cell? w _ hx109_3)).trans hx109_3
                   replace hx109_4 := (HB.out.cell (World.block_lt_of_cell? w _ hx109_4)).trans hx109_4
                   replace p109 := eq_true p109
                   replace q109 := eq_true q109
                   have p110 : 0 ≤ (((rd_T58 l0 a1).f1) : Int) := oD z3
                   have q110 : ((rd_T58 l0 a1).f1) < (l0.length : Int) := oD z3
                   obtain ⟨ad110, e110, hx110_0, hx110_1, hx110_2, hx110_3, hx110_4⟩ := at_T58 em.out ((rd_T58 l0 a1).f1) p110 q110
                   obtain rfl : ad103 = ad110 := (by injection e110)
                   replace hx110_0 := (HB.out.cell (World.block_lt_of_cell? w _ hx110_0)).trans hx110_0
                   replace hx110_1 := (HB.out.cell (World.block_lt_of_cell? w _ hx110_1)).trans hx110_1
                   replace hx110_2 := (HB.out.cell (World.block_lt_of_cell? w _ hx110_2)).trans hx110_2
                   replace hx110_3 := (HB.out.cell (World.block_lt_of_cell? w _ hx110_3)).trans hx110_3
                   replace hx110_4 := (HB.out.cell (World.block_lt_of_cell? w _ hx110_4)).trans hx110_4
                   replace p110 := eq_true p110
                   replace q110 := eq_true q110
                   have p111 : 0 ≤ (((rd_T58 l0 a1).f0) : Int) := oD z3
                   have q111 : ((rd_T58 l0 a1).f0) < (l0.length : Int) := oD z3
                   obtain ⟨ad111, e111, hx111_0, hx111_1, hx111_2, hx111_3, hx111_4⟩ := at_T58 em.out ((rd_T58 l0 a1).f0) p111 q111
                   obtain rfl : ad103 = ad111 := (by injection e111)
                   replace hx111_0 := (HB.out.cell (World.block_lt_of_cell? w _ hx111_0)).trans hx111_0
                   replace hx111_1 := (HB.out.cell (World.block_lt_of_cell? w _ hx111_1)).trans hx111_1
                   replace hx111_2 := (HB.out.cell (World.block_lt_of_cell? w _ hx111_2)).trans hx111_2
                   replace hx111_3 := (HB.out.cell (World.block_lt_of_cell? w _ hx111_3)).trans hx111_3
                   replace hx111_4 := (HB.out.cell (World.block_lt_of_cell? w _ hx111_4)).trans hx111_4
                   replace p111 := eq_true p111
                   replace q111 := eq_true q111
                   have p112 : 0 ≤ (((rd_T58 l0 a1).f1) : Int) := oD z3
                   have q112 : ((rd_T58 l0 a1).f1) < (l0.length : Int) := oD z3
                   obtain ⟨ad112, e112, hx112_0, hx112_1, hx112_2, hx112_3, hx112_4⟩ := at_T58 em.out ((rd_T58 l0 a1).f1) p112 q112
                   obtain rfl : ad103 = ad112 := (by injection e112)
                   replace hx112_0 := (HB.out.cell (World.block_lt_of_cell? w _ hx112_0)).trans hx112_0
                   replace hx112_1 := (HB.out.cell (World.block_lt_of_cell? w _ hx112_1)).trans hx112_1
                   replace hx112_2 := (HB.out.cell (World.block_lt_of_cell? w _ hx112_2)).trans hx112_2
                   replace hx112_3 := (HB.out.cell (World.block_lt_of_cell? w _ hx112_3)).trans hx112_3
                   replace hx112_4 := (HB.out.cell (World.block_lt_of_cell? w _ hx112_4)).trans hx112_4
                   replace p112 := eq_true p112
                   replace q112 := eq_true q112
                   go_wp2_with (first | (go_at_call 46; (with_reducible refine (ih kj30 (by have := gJ.out; have := jw.out; have := k9.out; omega) _ _ l0 ((rd_T58 l0 a1).f0) ov _ ?side1 ?side2 td.out).mono ?_); (case side1 => exact y41); (case side2 => exact eV.out); rintro e w45 ⟨rfl, hb⟩; replace bi := aM (af (g := bS) (o := .cells #[.int .i64 ((rd_T58 l0 a1).f0), .int .i64 ((rd_T58 l0 a1).f1), .string ((rd_T58 l0 a1).f2), .int .i64 ((rd_T58 l0 a1).f3), .int .i64 ((rd_T58 l0 a1).f4)] 58 (0, 0)) (kB_ bi.out) hb); replace HB := aM (aA (by repeat (first | (with_reducible first | exact HB.out | apply bA | apply pD | apply bD | refine az ?_ gu.out) | exact HB.out)) hb); (try clear hb)))
                   repeat (go_quiet (fail); try go_wp2_with (first | (go_at_call 46; (with_reducible refine (ih kj30 (by have := gJ.out; have := jw.out; have := k9.out; omega) _ _ l0 ((rd_T58 l0 a1).f0) ov _ ?side1 ?side2 td.out).mono ?_); (case side1 => exact y41); (case side2 => exact eV.out); rintro e w45 ⟨rfl, hb⟩; replace bi := aM (af (g := bS) (o := .cells #[.int .i64 ((rd_T58 l0 a1).f0), .int .i64 ((rd_T58 l0 a1).f1), .string ((rd_T58 l0 a1).f2), .int .i64 ((rd_T58 l0 a1).f3), .int .i64 ((rd_T58 l0 a1).f4)] 58 (0, 0)) (kB_ bi.out) hb); replace HB := aM (aA (by repeat (first | (with_reducible first | exact HB.out | apply bA | apply pD | apply bD | refine az ?_ gu.out) | exact HB.out)) hb); (try clear hb))))
                   go_ret
                   exact ⟨y4, y11⟩
                  ·rw [if_neg nU] at H
                   have c42b0 : (((rd_T58 l0 a1).f4) == (wrap64 (((rd_T58 l0 ((rd_T58 l0 a1).f1)).f4) + 1))) = false := qF nU
                   have c42b1 : (((rd_T58 l0 a1).f4) != (wrap64 (((rd_T58 l0 ((rd_T58 l0 a1).f1)).f4) + 1))) = true := nT nU
                   obtain rfl := sI H
                   obtain ⟨kI, hcz46_1, hcz46_2, hcz46_3, hcz46_4, km, hfz46_1, hfz46_2, hfz46_3, hfz46_4⟩ := cc5 bi.out
                   have p108 : 0 ≤ (((rd_T58 l0 a1).f0) : Int) := oD z3
                   have q108 : ((rd_T58 l0 a1).f0) < (l0.length : Int) := oD z3
                   obtain ⟨ad108, e108, hx108_0, hx108_1, hx108_2, hx108_3, hx108_4⟩ := at_T58 em.out ((rd_T58 l0 a1).f0) p108 q108
                   obtain rfl : ad103 = ad108 := (by injection e108)
                   replace hx108_0 := (HB.out.cell (World.block_lt_of_cell? w _ hx108_0)).trans hx108_0
                   replace hx108_1 := (HB.out.cell (World.block_lt_of_cell? w _ hx108_1)).trans hx108_1
                   replace hx108_2 := (HB.out.cell (World.block_lt_of_cell? w _ hx108_2)).trans hx108_2
                   replace hx108_3 := (HB.out.cell (World.block_lt_of_cell? w _ hx108_3)).trans hx108_3
                   replace hx108_4 := (HB.out.cell (World.block_lt_of_cell? w _ hx108_4)).trans hx108_4
                   replace p108 := eq_true p108
                   replace q108 := eq_true q108
                   have p109 : 0 ≤ (((rd_T58 l0 a1).f1) : Int) := oD z3
                   have q109 : ((rd_T58 l0 a1).f1) < (l0.length : Int) := oD z3
                   obtain ⟨ad109, e109, hx109_0, hx109_1, hx109_2, hx109_3, hx109_4⟩ := at_T58 em.out ((rd_T58 l0 a1).f1) p109 q109
                   obtain rfl : ad103 = ad109 := (by injection e109)
                   replace hx109_0 := (HB.out.cell (World.block_lt_of_cell? w _ hx109_0)).trans hx109_0
                   replace hx109_1 := (HB.out.cell (World.block_lt_of_cell? w _ hx109_1)).trans hx109_1
                   replace hx109_2 := (HB.out.cell (World.block_lt_of_cell? w _ hx109_2)).trans hx109_2
                   replace hx109_3 := (HB.out.cell (World.block_lt_of_cell? w _ hx109_3)).trans hx109_3
                   replace hx109_4 := (HB.out.cell (World.block_lt_of_cell? w _ hx109_4)).trans hx109_4
                   replace p109 := eq_true p109
                   replace q109 := eq_true q109
                   have p110 : 0 ≤ (((rd_T58 l0 a1).f1) : Int) := oD z3
                   have q110 : ((rd_T58 l0 a1).f1) < (l0.length : Int) := oD z3
                   obtain ⟨ad110, e110, hx110_0, hx110_1, hx110_2, hx110_3, hx110_4⟩ := at_T58 em.out ((rd_T58 l0 a1).f1) p110 q110
                   obtain rfl : ad103 = ad110 := (by injection e110)
                   replace hx110_0 := (HB.out.cell (World.block_lt_of_cell? w _ hx110_0)).trans hx110_0
                   replace hx110_1 := (HB.out.cell (World.block_lt_of_cell? w _ hx110_1)).trans hx110_1
                   replace hx110_2 := (HB.out.cell (World.block_lt_of_cell? w _ hx110_2)).trans hx110_2
                   replace hx110_3 := (HB.out.cell (World.block_lt_of_cell? w _ hx110_3)).trans hx110_3
                   replace hx110_4 := (HB.out.cell (World.block_lt_of_cell? w _ hx110_4)).trans hx110_4
                   replace p110 := eq_true p110
                   replace q110 := eq_true q110
                   have p111 : 0 ≤ (((rd_T58 l0 a1).f0) : Int) := oD z3
                   have q111 : ((rd_T58 l0 a1).f0) < (l0.length : Int) := oD z3
                   obtain ⟨ad111, e111, hx111_0, hx111_1, hx111_2, hx111_3, hx111_4⟩ := at_T58 em.out ((rd_T58 l0 a1).f0) p111 q111
                   obtain rfl : ad103 = ad111 := (by injection e111)
                   replace hx111_0 := (HB.out.cell (World.block_lt_of_cell? w _ hx111_0)).trans hx111_0
                   replace hx111_1 := (HB.out.cell (World.block_lt_of_cell? w _ hx111_1)).trans hx111_1
                   replace hx111_2 := (HB.out.cell (World.block_lt_of_cell? w _ hx111_2)).trans hx111_2
                   replace hx111_3 := (HB.out.cell (World.block_lt_of_cell? w _ hx111_3)).trans hx111_3
                   replace hx111_4 := (HB.out.cell (World.block_lt_of_cell? w _ hx111_4)).trans hx111_4
                   replace p111 := eq_true p111
                   replace q111 := eq_true q111
                   have p112 : 0 ≤ (((rd_T58 l0 a1).f1) : Int) := oD z3
                   have q112 : ((rd_T58 l0 a1).f1) < (l0.length : Int) := oD z3
                   obtain ⟨ad112, e112, hx112_0, hx112_1, hx112_2, hx112_3, hx112_4⟩ := at_T58 em.out ((rd_T58 l0 a1).f1) p112 q112
                   obtain rfl : ad103 = ad112 := (by injection e112)
                   replace hx112_0 := (HB.out.cell (World.block_lt_of_cell? w _ hx112_0)).trans hx112_0
                   replace hx112_1 := (HB.out.cell (World.block_lt_of_cell? w _ hx112_1)).trans hx112_1
                   replace hx112_2 := (HB.out.cell (World.block_lt_of_cell? w _ hx112_2)).trans hx112_2
                   replace hx112_3 := (HB.out.cell (World.block_lt_of_cell? w _ hx112_3)).trans hx112_3
                   replace hx112_4 := (HB.out.cell (World.block_lt_of_cell? w _ hx112_4)).trans hx112_4
                   replace p112 := eq_true p112
                   replace q112 := eq_true q112
                   go_wp2
                   repeat (go_quiet (fail); try go_wp2)
                   go_ret
                   exact ⟨y4, y11⟩
                 ·rw [if_neg pY] at H
                  have c41b0 : (((rd_T58 l0 a1).f3) == (wrap64 (((rd_T58 l0 ((rd_T58 l0 a1).f0)).f3) + ((rd_T58 l0 ((rd_T58 l0 a1).f1)).f3)))) = false := qF pY
                  have c41b1 : (((rd_T58 l0 a1).f3) != (wrap64 (((rd_T58 l0 ((rd_T58 l0 a1).f0)).f3) + ((rd_T58 l0 ((rd_T58 l0 a1).f1)).f3)))) = true := nT pY
                  obtain rfl := sI H
                  obtain ⟨hcz47_0, hcz47_1, hcz47_2, hcz47_3, hcz47_4, hfz47_0, hfz47_1, hfz47_2, hfz47_3, hfz47_4⟩ := cc5 bi.out
                  have p108 : 0 ≤ (((rd_T58 l0 a1).f0) : Int) := oD z3
                  have q108 : ((rd_T58 l0 a1).f0) < (l0.length : Int) := oD z3
                  obtain ⟨ad108, e108, hx108_0, hx108_1, hx108_2, hx108_3, hx108_4⟩ := at_T58 em.out ((rd_T58 l0 a1).f0) p108 q108
                  obtain rfl : ad103 = ad108 := (by injection e108)
                  replace hx108_0 := (HB.out.cell (World.block_lt_of_cell? w _ hx108_0)).trans hx108_0
                  replace hx108_1 := (HB.out.cell (World.block_lt_of_cell? w _ hx108_1)).trans hx108_1
                  replace hx108_2 := (HB.out.cell (World.block_lt_of_cell? w _ hx108_2)).trans hx108_2
                  replace hx108_3 := (HB.out.cell (World.block_lt_of_cell? w _ hx108_3)).trans hx108_3
                  replace hx108_4 := (HB.out.cell (World.block_lt_of_cell? w _ hx108_4)).trans hx108_4
                  replace p108 := eq_true p108
                  replace q108 := eq_true q108
                  have p109 : 0 ≤ (((rd_T58 l0 a1).f1) : Int) := oD z3
                  have q109 : ((rd_T58 l0 a1).f1) < (l0.length : Int) := oD z3
                  obtain ⟨ad109, e109, hx109_0, hx109_1, hx109_2, hx109_3, hx109_4⟩ := at_T58 em.out ((rd_T58 l0 a1).f1) p109 q109
                  obtain rfl : ad103 = ad109 := (by injection e109)
                  replace hx109_0 := (HB.out.cell (World.block_lt_of_cell? w _ hx109_0)).trans hx109_0
                  replace hx109_1 := (HB.out.cell (World.block_lt_of_cell? w _ hx109_1)).trans hx109_1
                  replace hx109_2 := (HB.out.cell (World.block_lt_of_cell? w _ hx109_2)).trans hx109_2
                  replace hx109_3 := (HB.out.cell (World.block_lt_of_cell? w _ hx109_3)).trans hx109_3
                  replace hx109_4 := (HB.out.cell (World.block_lt_of_cell? w _ hx109_4)).trans hx109_4
                  replace p109 := eq_true p109
                  replace q109 := eq_true q109
                  have p110 : 0 ≤ (((rd_T58 l0 a1).f1) : Int) := oD z3
                  have q110 : ((rd_T58 l0 a1).f1) < (l0.length : Int) := oD z3
                  obtain ⟨ad110, e110, hx110_0, hx110_1, hx110_2, hx110_3, hx110_4⟩ := at_T58 em.out ((rd_T58 l0 a1).f1) p110 q110
                  obtain rfl : ad103 = ad110 := (by injection e110)
                  replace hx110_0 := (HB.out.cell (World.block_lt_of_cell? w _ hx110_0)).trans hx110_0
                  replace hx110_1 := (HB.out.cell (World.block_lt_of_cell? w _ hx110_1)).trans hx110_1
                  replace hx110_2 := (HB.out.cell (World.block_lt_of_cell? w _ hx110_2)).trans hx110_2
                  replace hx110_3 := (HB.out.cell (World.block_lt_of_cell? w _ hx110_3)).trans hx110_3
                  replace hx110_4 := (HB.out.cell (World.block_lt_of_cell? w _ hx110_4)).trans hx110_4
                  replace p110 := eq_true p110
                  replace q110 := eq_true q110
                  have p111 : 0 ≤ (((rd_T58 l0 a1).f0) : Int) := oD z3
                  have q111 : ((rd_T58 l0 a1).f0) < (l0.length : Int) := oD z3
                  obtain ⟨ad111, e111, hx111_0, hx111_1, hx111_2, hx111_3, hx111_4⟩ := at_T58 em.out ((rd_T58 l0 a1).f0) p111 q111
                  obtain rfl : ad103 = ad111 := (by injection e111)
                  replace hx111_0 := (HB.out.cell (World.block_lt_of_cell? w _ hx111_0)).trans hx111_0
                  replace hx111_1 := (HB.out.cell (World.block_lt_of_cell? w _ hx111_1)).trans hx111_1
                  replace hx111_2 := (HB.out.cell (World.block_lt_of_cell? w _ hx111_2)).trans hx111_2
                  replace hx111_3 := (HB.out.cell (World.block_lt_of_cell? w _ hx111_3)).trans hx111_3
                  replace hx111_4 := (HB.out.cell (World.block_lt_of_cell? w _ hx111_4)).trans hx111_4
                  replace p111 := eq_true p111
                  replace q111 := eq_true q111
                  have p112 : 0 ≤ (((rd_T58 l0 a1).f1) : Int) := oD z3
                  have q112 : ((rd_T58 l0 a1).f1) < (l0.length : Int) := oD z3
                  obtain ⟨ad112, e112, hx112_0, hx112_1, hx112_2, hx112_3, hx112_4⟩ := at_T58 em.out ((rd_T58 l0 a1).f1) p112 q112
                  obtain rfl : ad103 = ad112 := (by injection e112)
                  replace hx112_0 := (HB.out.cell (World.block_lt_of_cell? w _ hx112_0)).trans hx112_0
                  replace hx112_1 := (HB.out.cell (World.block_lt_of_cell? w _ hx112_1)).trans hx112_1
                  replace hx112_2 := (HB.out.cell (World.block_lt_of_cell? w _ hx112_2)).trans hx112_2
                  replace hx112_3 := (HB.out.cell (World.block_lt_of_cell? w _ hx112_3)).trans hx112_3
                  replace hx112_4 := (HB.out.cell (World.block_lt_of_cell? w _ hx112_4)).trans hx112_4
                  replace p112 := eq_true p112
                  replace q112 := eq_true q112
                  go_wp2
                  repeat (go_quiet (fail); try go_wp2)
                  go_ret
                  exact ⟨y4, y11⟩
                ·rw [if_neg pZ] at H
                 have c40b0 : decide (((rd_T58 l0 ((rd_T58 l0 a1).f0)).f4) < ((rd_T58 l0 ((rd_T58 l0 a1).f1)).f4)) = false := dF pZ
                 clear pZ
                 by_cases nS : ((rd_T58 l0 a1).f3) = (wrap64 (((rd_T58 l0 ((rd_T58 l0 a1).f0)).f3) + ((rd_T58 l0 ((rd_T58 l0 a1).f1)).f3)))
                 ·rw [if_pos nS] at H
                  have c48b0 : (((rd_T58 l0 a1).f3) == (wrap64 (((rd_T58 l0 ((rd_T58 l0 a1).f0)).f3) + ((rd_T58 l0 ((rd_T58 l0 a1).f1)).f3)))) = true := qT nS
                  have c48b1 : (((rd_T58 l0 a1).f3) != (wrap64 (((rd_T58 l0 ((rd_T58 l0 a1).f0)).f3) + ((rd_T58 l0 ((rd_T58 l0 a1).f1)).f3)))) = false := nF nS
                  clear nS
                  by_cases lT : ((rd_T58 l0 a1).f4) = (wrap64 (((rd_T58 l0 ((rd_T58 l0 a1).f0)).f4) + 1))
                  ·rw [if_pos lT] at H
                   have c49b0 : (((rd_T58 l0 a1).f4) == (wrap64 (((rd_T58 l0 ((rd_T58 l0 a1).f0)).f4) + 1))) = true := qT lT
                   have c49b1 : (((rd_T58 l0 a1).f4) != (wrap64 (((rd_T58 l0 ((rd_T58 l0 a1).f0)).f4) + 1))) = false := nF lT
                   clear lT
                   obtain ⟨ou, la, H⟩ := oA_ H
                   try dsimp only at H
                   obtain rfl := sI H
                   obtain ⟨hcz51_0, hcz51_1, hcz51_2, hcz51_3, hcz51_4, hfz51_0, hfz51_1, hfz51_2, hfz51_3, hfz51_4⟩ := cc5 bi.out
                   have p108 : 0 ≤ (((rd_T58 l0 a1).f0) : Int) := oD z3
                   have q108 : ((rd_T58 l0 a1).f0) < (l0.length : Int) := oD z3
                   obtain ⟨ad108, e108, hx108_0, hx108_1, hx108_2, hx108_3, hx108_4⟩ := at_T58 em.out ((rd_T58 l0 a1).f0) p108 q108
                   obtain rfl : ad103 = ad108 := (by injection e108)
                   replace hx108_0 := (HB.out.cell (World.block_lt_of_cell? w _ hx108_0)).trans hx108_0
                   replace hx108_1 := (HB.out.cell (World.block_lt_of_cell? w _ hx108_1)).trans hx108_1
                   replace hx108_2 := (HB.out.cell (World.block_lt_of_cell? w _ hx108_2)).trans hx108_2
                   replace hx108_3 := (HB.out.cell (World.block_lt_of_cell? w _ hx108_3)).trans hx108_3
                   replace hx108_4 := (HB.out.cell (World.block_lt_of_cell? w _ hx108_4)).trans hx108_4
                   replace p108 := eq_true p108
                   replace q108 := eq_true q108
                   have p109 : 0 ≤ (((rd_T58 l0 a1).f1) : Int) := oD z3
                   have q109 : ((rd_T58 l0 a1).f1) < (l0.length : Int) := oD z3
                   obtain ⟨ad109, e109, hx109_0, hx109_1, hx109_2, hx109_3, hx109_4⟩ := at_T58 em.out ((rd_T58 l0 a1).f1) p109 q109
                   obtain rfl : ad103 = ad109 := (by injection e109)
                   replace hx109_0 := (HB.out.cell (World.block_lt_of_cell? w _ hx109_0)).trans hx109_0
                   replace hx109_1 := (HB.out.cell (World.block_lt_of_cell? w _ hx109_1)).trans hx109_1
                   replace hx109_2 := (HB.out.cell (World.block_lt_of_cell? w _ hx109_2)).trans hx109_2
                   replace hx109_3 := (HB.out.cell (World.block_lt_of_cell? w _ hx109_3)).trans hx109_3
                   replace hx109_4 := (HB.out.cell (World.block_lt_of_cell? w _ hx109_4)).trans hx109_4
                   replace p109 := eq_true p109
                   replace q109 := eq_true q109
                   have p114 : 0 ≤ (((rd_T58 l0 a1).f0) : Int) := oD z3
                   have q114 : ((rd_T58 l0 a1).f0) < (l0.length : Int) := oD z3
                   obtain ⟨ad114, e114, hx114_0, hx114_1, hx114_2, hx114_3, hx114_4⟩ := at_T58 em.out ((rd_T58 l0 a1).f0) p114 q114
                   obtain rfl : ad103 = ad114 := (by injection e114)
                   replace hx114_0 := (HB.out.cell (World.block_lt_of_cell? w _ hx114_0)).trans hx114_0
                   replace hx114_1 := (HB.out.cell (World.block_lt_of_cell? w _ hx114_1)).trans hx114_1
                   replace hx114_2 := (HB.out.cell (World.block_lt_of_cell? w _ hx114_2)).trans hx114_2
                   replace hx114_3 := (HB.out.cell (World.block_lt_of_cell? w _ hx114_3)).trans hx114_3
                   replace hx114_4 := (HB.out.cell (World.block_lt_of_cell? w _ hx114_4)).trans hx114_4
                   replace p114 := eq_true p114
                   replace q114 := eq_true q114
                   have p115 : 0 ≤ (((rd_T58 l0 a1).f1) : Int) := oD z3
                   have q115 : ((rd_T58 l0 a1).f1) < (l0.length : Int) := oD z3
                   obtain ⟨ad115, e115, hx115_0, hx115_1, hx115_2, hx115_3, hx115_4⟩ := at_T58 em.out ((rd_T58 l0 a1).f1) p115 q115
                   obtain rfl : ad103 = ad115 := (by injection e115)
                   replace hx115_0 := (HB.out.cell (World.block_lt_of_cell? w _ hx115_0)).trans hx115_0
                   replace hx115_1 := (HB.out.cell (World.block_lt_of_cell? w _ hx115_1)).trans hx115_1
                   replace hx115_2 := (HB.out.cell (World.block_lt_of_cell? w _ hx115_2)).trans hx115_2
                   replace hx115_3 := (HB.out.cell (World.block_lt_of_cell? w _ hx115_3)).trans hx115_3
                   replace hx115_4 := (HB.out.cell (World.block_lt_of_cell? w _ hx115_4)).trans hx115_4
                   replace p115 := eq_true p115
                   replace q115 := eq_true q115
                   go_wp2_with (first | (go_at_call 46; (with_reducible refine (ih kj30 (by have := gJ.out; have := jw.out; have := k9.out; omega) _ _ l0 ((rd_T58 l0 a1).f0) ou _ ?side1 ?side2 la.out).mono ?_); (case side1 => exact y41); (case side2 => exact eV.out); rintro e w52 ⟨rfl, hb⟩; replace bi := aM (af (g := bS) (o := .cells #[.int .i64 ((rd_T58 l0 a1).f0), .int .i64 ((rd_T58 l0 a1).f1), .string ((rd_T58 l0 a1).f2), .int .i64 ((rd_T58 l0 a1).f3), .int .i64 ((rd_T58 l0 a1).f4)] 58 (0, 0)) (kB_ bi.out) hb); replace HB := aM (aA (by repeat (first | (with_reducible first | exact HB.out | apply bA | apply pD | apply bD | refine az ?_ gu.out) | exact HB.out)) hb); (try clear hb)))
                   repeat (go_quiet (fail); try go_wp2_with (first | (go_at_call 46; (with_reducible refine (ih kj30 (by have := gJ.out; have := jw.out; have := k9.out; omega) _ _ l0 ((rd_T58 l0 a1).f0) ou _ ?side1 ?side2 la.out).mono ?_); (case side1 => exact y41); (case side2 => exact eV.out); rintro e w52 ⟨rfl, hb⟩; replace bi := aM (af (g := bS) (o := .cells #[.int .i64 ((rd_T58 l0 a1).f0), .int .i64 ((rd_T58 l0 a1).f1), .string ((rd_T58 l0 a1).f2), .int .i64 ((rd_T58 l0 a1).f3), .int .i64 ((rd_T58 l0 a1).f4)] 58 (0, 0)) (kB_ bi.out) hb); replace HB := aM (aA (by repeat (first | (with_reducible first | exact HB.out | apply bA | apply pD | apply bD | refine az ?_ gu.out) | exact HB.out)) hb); (try clear hb))))
                   go_ret
                   exact ⟨y4, y11⟩
                  ·rw [if_neg lT] at H
                   have c49b0 : (((rd_T58 l0 a1).f4) == (wrap64 (((rd_T58 l0 ((rd_T58 l0 a1).f0)).f4) + 1))) = false := qF lT
                   have c49b1 : (((rd_T58 l0 a1).f4) != (wrap64 (((rd_T58 l0 ((rd_T58 l0 a1).f0)).f4) + 1))) = true := nT lT
                   obtain rfl := sI H
                   obtain ⟨hcz53_0, hcz53_1, hcz53_2, hcz53_3, hcz53_4, hfz53_0, hfz53_1, hfz53_2, hfz53_3, hfz53_4⟩ := cc5 bi.out
                   have p108 : 0 ≤ (((rd_T58 l0 a1).f0) : Int) := oD z3
                   have q108 : ((rd_T58 l0 a1).f0) < (l0.length : Int) := oD z3
                   obtain ⟨ad108, e108, hx108_0, hx108_1, hx108_2, hx108_3, hx108_4⟩ := at_T58 em.out ((rd_T58 l0 a1).f0) p108 q108
                   obtain rfl : ad103 = ad108 := (by injection e108)
                   replace hx108_0 := (HB.out.cell (World.block_lt_of_cell? w _ hx108_0)).trans hx108_0
                   replace hx108_1 := (HB.out.cell (World.block_lt_of_cell? w _ hx108_1)).trans hx108_1
                   replace hx108_2 := (HB.out.cell (World.block_lt_of_cell? w _ hx108_2)).trans hx108_2
                   replace hx108_3 := (HB.out.cell (World.block_lt_of_cell? w _ hx108_3)).trans hx108_3
                   replace hx108_4 := (HB.out.cell (World.block_lt_of_cell? w _ hx108_4)).trans hx108_4
                   replace p108 := eq_true p108
                   replace q108 := eq_true q108
                   have p109 : 0 ≤ (((rd_T58 l0 a1).f1) : Int) := oD z3
                   have q109 : ((rd_T58 l0 a1).f1) < (l0.length : Int) := oD z3
                   obtain ⟨ad109, e109, hx109_0, hx109_1, hx109_2, hx109_3, hx109_4⟩ := at_T58 em.out ((rd_T58 l0 a1).f1) p109 q109
                   obtain rfl : ad103 = ad109 := (by injection e109)
                   replace hx109_0 := (HB.out.cell (World.block_lt_of_cell? w _ hx109_0)).trans hx109_0
                   replace hx109_1 := (HB.out.cell (World.block_lt_of_cell? w _ hx109_1)).trans hx109_1
                   replace hx109_2 := (HB.out.cell (World.block_lt_of_cell? w _ hx109_2)).trans hx109_2
                   replace hx109_3 := (HB.out.cell (World.block_lt_of_cell? w _ hx109_3)).trans hx109_3
                   replace hx109_4 := (HB.out.cell (World.block_lt_of_cell? w _ hx109_4)).trans hx109_4
                   replace p109 := eq_true p109
                   replace q109 := eq_true q109
                   have p114 : 0 ≤ (((rd_T58 l0 a1).f0) : Int) := oD z3
                   have q114 : ((rd_T58 l0 a1).f0) < (l0.length : Int) := oD z3
                   obtain ⟨ad114, e114, hx114_0, hx114_1, hx114_2, hx114_3, hx114_4⟩ := at_T58 em.out ((rd_T58 l0 a1).f0) p114 q114
                   obtain rfl : ad103 = ad114 := (by injection e114)
                   replace hx114_0 := (HB.out.cell (World.block_lt_of_cell? w _ hx114_0)).trans hx114_0
                   replace hx114_1 := (HB.out.cell (World.block_lt_of_cell? w _ hx114_1)).trans hx114_1
                   replace hx114_2 := (HB.out.cell (World.block_lt_of_cell? w _ hx114_2)).trans hx114_2
                   replace hx114_3 := (HB.out.cell (World.block_lt_of_cell? w _ hx114_3)).trans hx114_3
                   replace hx114_4 := (HB.out.cell (World.block_lt_of_cell? w _ hx114_4)).trans hx114_4
                   replace p114 := eq_true p114
                   replace q114 := eq_true q114
                   have p115 : 0 ≤ (((rd_T58 l0 a1).f1) : Int) := oD z3
                   have q115 : ((rd_T58 l0 a1).f1) < (l0.length : Int) := oD z3
                   obtain ⟨ad115, e115, hx115_0, hx115_1, hx115_2, hx115_3, hx115_4⟩ := at_T58 em.out ((rd_T58 l0 a1).f1) p115 q115
                   obtain rfl : ad103 = ad115 := (by injection e115)
                   replace hx115_0 := (HB.out.cell (World.block_lt_of_cell? w _ hx115_0)).trans hx115_0
                   replace hx115_1 := (HB.out.cell (World.block_lt_of_cell? w _ hx115_1)).trans hx115_1
                   replace hx115_2 := (HB.out.cell (World.block_lt_of_cell? w _ hx115_2)).trans hx115_2
                   replace hx115_3 := (HB.out.cell (World.block_lt_of_cell? w _ hx115_3)).trans hx115_3
                   replace hx115_4 := (HB.out.cell (World.block_lt_of_cell? w _ hx115_4)).trans hx115_4
                   replace p115 := eq_true p115
                   replace q115 := eq_true q115
                   go_wp2
                   repeat (go_quiet (fail); try go_wp2)
                   go_ret
                   exact ⟨y4, y11⟩
                 ·rw [if_neg nS] at H
                  have c48b0 : (((rd_T58 l0 a1).f3) == (wrap64 (((rd_T58 l0 ((rd_T58 l0 a1).f0)).f3) + ((rd_T58 l0 ((rd_T58 l0 a1).f1)).f3)))) = false := qF nS
                  have c48b1 : (((rd_T58 l0 a1).f3) != (wrap64 (((rd_T58 l0 ((rd_T58 l0 a1).f0)).f3) + ((rd_T58 l0 ((rd_T58 l0 a1).f1)).f3)))) = true := nT nS
                  obtain rfl := sI H
                  obtain ⟨hcz54_0, hcz54_1, hcz54_2, hcz54_3, hcz54_4, hfz54_0, hfz54_1, hfz54_2, hfz54_3, hfz54_4⟩ := cc5 bi.out
                  have p108 : 0 ≤ (((rd_T58 l0 a1).f0) : Int) := oD z3
                  have q108 : ((rd_T58 l0 a1).f0) < (l0.length : Int) := oD z3
                  obtain ⟨ad108, e108, hx108_0, hx108_1, hx108_2, hx108_3, hx108_4⟩ := at_T58 em.out ((rd_T58 l0 a1).f0) p108 q108
                  obtain rfl : ad103 = ad108 := (by injection e108)
                  replace hx108_0 := (HB.out.cell (World.block_lt_of_cell? w _ hx108_0)).trans hx108_0
                  replace hx108_1 := (HB.out.cell (World.block_lt_of_cell? w _ hx108_1)).trans hx108_1
                  replace hx108_2 := (HB.out.cell (World.block_lt_of_cell? w _ hx108_2)).trans hx108_2
                  replace hx108_3 := (HB.out.cell (World.block_lt_of_cell? w _ hx108_3)).trans hx108_3
                  replace hx108_4 := (HB.out.cell (World.block_lt_of_cell? w _ hx108_4)).trans hx108_4
                  replace p108 := eq_true p108
                  replace q108 := eq_true q108
                  have p109 : 0 ≤ (((rd_T58 l0 a1).f1) : Int) := oD z3
                  have q109 : ((rd_T58 l0 a1).f1) < (l0.length : Int) := oD z3
                  obtain ⟨ad109, e109, hx109_0, hx109_1, hx109_2, hx109_3, hx109_4⟩ := at_T58 em.out ((rd_T58 l0 a1).f1) p109 q109
                  obtain rfl : ad103 = ad109 := (by injection e109)
                  replace hx109_0 := (HB.out.cell (World.block_lt_of_cell? w _ hx109_0)).trans hx109_0
                  replace hx109_1 := (HB.out.cell (World.block_lt_of_cell? w _ hx109_1)).trans hx109_1
                  replace hx109_2 := (HB.out.cell (World.block_lt_of_cell? w _ hx109_2)).trans hx109_2
                  replace hx109_3 := (HB.out.cell (World.block_lt_of_cell? w _ hx109_3)).trans hx109_3
                  replace hx109_4 := (HB.out.cell (World.block_lt_of_cell? w _ hx109_4)).trans hx109_4
                  replace p109 := eq_true p109
                  replace q109 := eq_true q109
                  have p114 : 0 ≤ (((rd_T58 l0 a1).f0) : Int) := oD z3
                  have q114 : ((rd_T58 l0 a1).f0) < (l0.length : Int) := oD z3
                  obtain ⟨ad114, e114, hx114_0, hx114_1, hx114_2, hx114_3, hx114_4⟩ := at_T58 em.out ((rd_T58 l0 a1).f0) p114 q114
                  obtain rfl : ad103 = ad114 := (by injection e114)
                  replace hx114_0 := (HB.out.cell (World.block_lt_of_cell? w _ hx114_0)).trans hx114_0
                  replace hx114_1 := (HB.out.cell (World.block_lt_of_cell? w _ hx114_1)).trans hx114_1
                  replace hx114_2 := (HB.out.cell (World.block_lt_of_cell? w _ hx114_2)).trans hx114_2
                  replace hx114_3 := (HB.out.cell (World.block_lt_of_cell? w _ hx114_3)).trans hx114_3
                  replace hx114_4 := (HB.out.cell (World.block_lt_of_cell? w _ hx114_4)).trans hx114_4
                  replace p114 := eq_true p114
                  replace q114 := eq_true q114
                  have p115 : 0 ≤ (((rd_T58 l0 a1).f1) : Int) := oD z3
                  have q115 : ((rd_T58 l0 a1).f1) < (l0.length : Int) := oD z3
                  obtain ⟨ad115, e115, hx115_0, hx115_1, hx115_2, hx115_3, hx115_4⟩ := at_T58 em.out ((rd_T58 l0 a1).f1) p115 q115
                  obtain rfl : ad103 = ad115 := (by injection e115)
                  replace hx115_0 := (HB.out.cell (World.block_lt_of_cell? w _ hx115_0)).trans hx115_0
                  replace hx115_1 := (HB.out.cell (World.block_lt_of_cell? w _ hx115_1)).trans hx115_1
                  replace hx115_2 := (HB.out.cell (World.block_lt_of_cell? w _ hx115_2)).trans hx115_2
                  replace hx115_3 := (HB.out.cell (World.block_lt_of_cell? w _ hx115_3)).trans hx115_3
                  replace hx115_4 := (HB.out.cell (World.block_lt_of_cell? w _ hx115_4)).trans hx115_4
                  replace p115 := eq_true p115
                  replace q115 := eq_true q115
                  go_wp2
                  repeat (go_quiet (fail); try go_wp2)
                  go_ret
                  exact ⟨y4, y11⟩
               ·rw [if_neg s7] at H
                exact absurd H (by simp)
              ·rw [if_neg oH] at H
               exact absurd H (by simp)
             ·rw [if_neg s8] at H
              exact absurd H (by simp)
            ·rw [if_neg nz] at H
             exact absurd H (by simp)
  ·rw [if_neg c4] at H
   exact absurd H (by simp)
 ·rw [if_neg c3] at H
  exact absurd H (by simp)

end Go.Proofs.Ytmkenlejdaphnaa.AFnRopes
