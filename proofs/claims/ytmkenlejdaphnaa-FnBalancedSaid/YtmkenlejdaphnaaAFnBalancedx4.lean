-- this session's own text: written by wip/tools/ownprint.py over the kit's print
import Derived.Test.YtmkenlejdaphnaaAFnBalancedx0
import Derived.Test.YtmkenlejdaphnaaAFnBalancedx2
import Derived.Test.YtmkenlejdaphnaaAFnBalancedx3
namespace Go.Proofs.Ytmkenlejdaphnaa.AFnBalanced
open Go.RowKit Go.Proofs.YtmkenlejdaphnaaW.PrintWords Go.Proofs.YtmkenlejdaphnaaW.PrintLast Go.Proofs.YtmkenlejdaphnaaW.PrintMore
attribute [local go_sem] max2_int min2_int max_two min_two max_three min_three max_four min_four   -- for this text's walks alone
set_option linter.unusedVariables false
set_option linter.unusedSimpArgs false

/-! ### spec_l12First: function 46 -/
mutual
def spec_l12First.j0 : Nat → List (S58) → Int → Bool → Int → Int → ByteArray → Int → Int → Option (Int)
 | 0, _, _, _, _, _, _, _, _ => none
 | k + 1, x0, x1, x19, x107000, x107001, x107002, x107003, x107004 => if x19 = true then ((spec_l1In.f (x107002.size : Int) 1 8).bind fun oR => (if oR = true then ((spec_l1Text.f k x107002).bind fun oQ => (if oQ = true then (if x107003 = (x107002.size : Int) then (if x107004 = 0 then (some x1) else (some (-1))) else (some (-1))) else (some (-1)))) else (some (-1)))) else (if x107002.toList = ([] : List UInt8) then (if x107001 = (wrap64 (x1 - 1)) then (spec_l12First.j1 k x0 x1 (decide (x1 < 2)) x107000 x107001 x107002 x107003 x107004) else (spec_l12First.j1 k x0 x1 true x107000 x107001 x107002 x107003 x107004)) else (spec_l12First.j1 k x0 x1 true x107000 x107001 x107002 x107003 x107004))
def spec_l12First.j1 : Nat → List (S58) → Int → Bool → Int → Int → ByteArray → Int → Int → Option (Int)
 | 0, _, _, _, _, _, _, _, _ => none
 | k + 1, x0, x1, x58, x107000, x107001, x107002, x107003, x107004 => if x58 = true then (some (-1)) else ((spec_l12First.f k x0 (wrap64 (x1 - 1))).bind fun iw => (if iw < 1 then (spec_l12First.j2 k x0 true x107000 x107001 x107002 x107003 x107004) else (spec_l12First.j2 k x0 (x107000 != (wrap64 (iw - 1))) x107000 x107001 x107002 x107003 x107004)))
def spec_l12First.j2 : Nat → List (S58) → Bool → Int → Int → ByteArray → Int → Int → Option (Int)
 | 0, _, _, _, _, _, _, _ => none
 | k + 1, x0, x71, x107000, x107001, x107002, x107003, x107004 => if x71 = true then (some (-1)) else (if 0 ≤ x107000 then (if x107000 < (x0.length : Int) then (if 0 ≤ x107001 then (if x107001 < (x0.length : Int) then (if ((rd_T58 x0 x107001).f4) > ((rd_T58 x0 x107000).f4) then (if x107003 = (wrap64 (((rd_T58 x0 x107000).f3) + ((rd_T58 x0 x107001).f3))) then (if x107004 = (wrap64 (((rd_T58 x0 x107001).f4) + 1)) then ((spec_l12First.f k x0 x107000).bind fun mc => (some mc)) else (some (-1))) else (some (-1))) else (if x107003 = (wrap64 (((rd_T58 x0 x107000).f3) + ((rd_T58 x0 x107001).f3))) then (if x107004 = (wrap64 (((rd_T58 x0 x107000).f4) + 1)) then ((spec_l12First.f k x0 x107000).bind fun mb => (some mb)) else (some (-1))) else (some (-1)))) else (none)) else (none)) else (none)) else (none))
def spec_l12First.f : Nat → List (S58) → Int → Option (Int)
 | 0, _, _ => none
 | k + 1, l0, a1 => if 0 ≤ a1 then (if a1 < (l0.length : Int) then (if ((rd_T58 l0 a1).f0) = (-1) then (spec_l12First.j0 k l0 a1 (((rd_T58 l0 a1).f1) == (-1)) ((rd_T58 l0 a1).f0) ((rd_T58 l0 a1).f1) ((rd_T58 l0 a1).f2) ((rd_T58 l0 a1).f3) ((rd_T58 l0 a1).f4)) else (spec_l12First.j0 k l0 a1 false ((rd_T58 l0 a1).f0) ((rd_T58 l0 a1).f1) ((rd_T58 l0 a1).f2) ((rd_T58 l0 a1).f3) ((rd_T58 l0 a1).f4))) else (none)) else (none)
end
theorem spec_l12First.mono_l : ∀ k, (∀ y0 y1, LeO (spec_l12First.f k y0 y1) (spec_l12First.f (k + 1) y0 y1)) ∧ (∀ y0 y1 y2 y3 y4 y5 y6 y7, LeO (spec_l12First.j0 k y0 y1 y2 y3 y4 y5 y6 y7) (spec_l12First.j0 (k + 1) y0 y1 y2 y3 y4 y5 y6 y7)) ∧ (∀ y0 y1 y2 y3 y4 y5 y6 y7, LeO (spec_l12First.j1 k y0 y1 y2 y3 y4 y5 y6 y7) (spec_l12First.j1 (k + 1) y0 y1 y2 y3 y4 y5 y6 y7)) ∧ (∀ y0 y1 y2 y3 y4 y5 y6, LeO (spec_l12First.j2 k y0 y1 y2 y3 y4 y5 y6) (spec_l12First.j2 (k + 1) y0 y1 y2 y3 y4 y5 y6))
 | 0 => ⟨fun _ _ r h => by simp [spec_l12First.f] at h, fun _ _ _ _ _ _ _ _ r h => by simp [spec_l12First.j0] at h, fun _ _ _ _ _ _ _ _ r h => by simp [spec_l12First.j1] at h, fun _ _ _ _ _ _ _ r h => by simp [spec_l12First.j2] at h⟩
 | k + 1 => by
  obtain ⟨ih0, ih1, ih2, ih3⟩ := spec_l12First.mono_l k
  refine ⟨?_, ?_, ?_, ?_⟩
  ·intro y0 y1
   unfold spec_l12First.f
   repeat' first
   | (with_reducible exact ih0 _ _)
   | (with_reducible exact ih1 _ _ _ _ _ _ _ _)
   | (with_reducible exact ih2 _ _ _ _ _ _ _ _)
   | (with_reducible exact ih3 _ _ _ _ _ _ _)
   | (with_reducible exact spec_l1Text.mono _ _)
   | (with_reducible exact LeO.refl _)
   | (with_reducible exact LeO.none _)
   | (with_reducible refine LeO.ite ?_ ?_)
   | (with_reducible refine LeO.bind ?_ (fun _ => ?_))
  ·intro y0 y1 y2 y3 y4 y5 y6 y7
   unfold spec_l12First.j0
   repeat' first
   | (with_reducible exact ih0 _ _)
   | (with_reducible exact ih1 _ _ _ _ _ _ _ _)
   | (with_reducible exact ih2 _ _ _ _ _ _ _ _)
   | (with_reducible exact ih3 _ _ _ _ _ _ _)
   | (with_reducible exact spec_l1Text.mono _ _)
   | (with_reducible exact LeO.refl _)
   | (with_reducible exact LeO.none _)
   | (with_reducible refine LeO.ite ?_ ?_)
   | (with_reducible refine LeO.bind ?_ (fun _ => ?_))
  ·intro y0 y1 y2 y3 y4 y5 y6 y7
   unfold spec_l12First.j1
   repeat' first
   | (with_reducible exact ih0 _ _)
   | (with_reducible exact ih1 _ _ _ _ _ _ _ _)
   | (with_reducible exact ih2 _ _ _ _ _ _ _ _)
   | (with_reducible exact ih3 _ _ _ _ _ _ _)
   | (with_reducible exact spec_l1Text.mono _ _)
   | (with_reducible exact LeO.refl _)
   | (with_reducible exact LeO.none _)
   | (with_reducible refine LeO.ite ?_ ?_)
   | (with_reducible refine LeO.bind ?_ (fun _ => ?_))
  ·intro y0 y1 y2 y3 y4 y5 y6
   unfold spec_l12First.j2
   repeat' first
   | (with_reducible exact ih0 _ _)
   | (with_reducible exact ih1 _ _ _ _ _ _ _ _)
   | (with_reducible exact ih2 _ _ _ _ _ _ _ _)
   | (with_reducible exact ih3 _ _ _ _ _ _ _)
   | (with_reducible exact spec_l1Text.mono _ _)
   | (with_reducible exact LeO.refl _)
   | (with_reducible exact LeO.none _)
   | (with_reducible refine LeO.ite ?_ ?_)
   | (with_reducible refine LeO.bind ?_ (fun _ => ?_))
theorem spec_l12First.mono : ∀ a0 a1 k, LeO (spec_l12First.f k a0 a1) (spec_l12First.f (k + 1) a0 a1) := by
 intro a0 a1 k
 obtain ⟨ih0, ih1, ih2, ih3⟩ := spec_l12First.mono_l k
 exact ih0 a0 a1
set_option maxHeartbeats 8000000 in
set_option maxRecDepth 100000 in
theorem spec_l12First.calls (k : Nat) : ∀ (A0 : Option Addr) (c0 : Nat) (l0 : List (S58)) (a1 : Int) (r : Int) (w : World) (hr0 : Kd.C k58 w A0 l0.length l0) (hc0 : l0.length ≤ c0) (h : spec_l12First.f k l0 a1 = some r),
  Calls Try.prog 46 #[.slice A0 l0.length c0, .int .i64 a1] w fun e w' => e = .returned (.int .i64 r) ∧ Below w.heap.size w w' := by
 induction k using Nat.strongRecOn with
 | _ k ih =>
 intro A0 c0 l0 a1 r w hr0 hc0 h
 cases k with
 | zero => exact absurd h (by simp [spec_l12First.f])
 | succ k =>
 simp only [spec_l12First.f] at h
 have hu58 := Try.underlying58
 have cN := aM hr0
 have dy := aM hc0
 clear hr0 hc0
 have HB := aM (Below.refl w.heap.size w)
 have H : (if 0 ≤ a1 then (if a1 < (l0.length : Int) then (if ((rd_T58 l0 a1).f0) = (-1) then (spec_l12First.j0 k l0 a1 (((rd_T58 l0 a1).f1) == (-1)) ((rd_T58 l0 a1).f0) ((rd_T58 l0 a1).f1) ((rd_T58 l0 a1).f2) ((rd_T58 l0 a1).f3) ((rd_T58 l0 a1).f4)) else (spec_l12First.j0 k l0 a1 false ((rd_T58 l0 a1).f0) ((rd_T58 l0 a1).f1) ((rd_T58 l0 a1).f2) ((rd_T58 l0 a1).f3) ((rd_T58 l0 a1).f4))) else (none)) else (none)) = some r := h
 clear h
 by_cases c3 : 0 ≤ a1
 ·rw [if_pos c3] at H
  have c3b0 : decide (0 ≤ a1) = true := dT c3
  clear c3
  by_cases c4 : a1 < (l0.length : Int)
  ·rw [if_pos c4] at H
   have c4b0 : decide (a1 < (l0.length : Int)) = true := dT c4
   clear c4
   have fH := aM H
   clear H
   have p105 : 0 ≤ (a1 : Int) := oD z2
   have q105 : a1 < (l0.length : Int) := oD z2
   obtain ⟨ad105, e105, hx105_0, hx105_1, hx105_2, hx105_3, hx105_4⟩ := at_T58 cN.out a1 p105 q105
   cases e105
   replace p105 := eq_true p105
   replace q105 := eq_true q105
   go_enter Try.func46, Try.ntmps46
   go_upto_region 2 with (first | ((with_reducible refine aK (N := 5) rfl ?_); (try (refine gate_guard (by rfl) ?_; dsimp only)); refine aN ?hg (N := 5) ?hd (cs := #[.int .i64 0, .int .i64 0, .string ⟨#[]⟩, .int .i64 0, .int .i64 0]) (t := 58) ?hr ?_; (case hd => rfl); (case hg => rfl); (case hr => first | (go_simp; done) | (go_simp; rfl)); intro bk hg w6 hbox hb; have ba := aM (hbox); have oa := aM ((by rw [hg]; exact (aA z16) : w.heap.size ≤ bk)); have eK := aM ((by rw [hg]; exact (aA z16) : w.heap.size ≤ bk)); replace HB := aM (az z16 hb); clear hb hbox hg; obtain ⟨ej, gZ, gY, gX, gW, eg, gT, gS, gR, gQ⟩ := cc5 ba.out))
   repeat (go_quiet (fail); go_upto_region 2 with (first | ((with_reducible refine aK (N := 5) rfl ?_); (try (refine gate_guard (by rfl) ?_; dsimp only)); refine aN ?hg (N := 5) ?hd (cs := #[.int .i64 0, .int .i64 0, .string ⟨#[]⟩, .int .i64 0, .int .i64 0]) (t := 58) ?hr ?_; (case hd => rfl); (case hg => rfl); (case hr => first | (go_simp; done) | (go_simp; rfl)); intro bk hg w6 hbox hb; have ba := aM (hbox); have oa := aM ((by rw [hg]; exact (aA z16) : w.heap.size ≤ bk)); have eK := aM ((by rw [hg]; exact (aA z16) : w.heap.size ≤ bk)); replace HB := aM (az z16 hb); clear hb hbox hg; obtain ⟨ej, gZ, gY, gX, gW, eg, gT, gS, gR, gQ⟩ := cc5 ba.out)))
   (try simp only [Act.put, sA, sB, sC])
   go_cut [19] (fun v19 wc => ∃ (kq : Nat) (x19_4 : Bool), v19 = .bool x19_4 ∧ Aside0 (spec_l12First.j0 kq l0 a1 x19_4 ((rd_T58 l0 a1).f0) ((rd_T58 l0 a1).f1) ((rd_T58 l0 a1).f2) ((rd_T58 l0 a1).f3) ((rd_T58 l0 a1).f4) = some r) ∧ Aside0 (kq ≤ k) ∧ Aside0 (wc.heap[bk]? = some (.cells #[.int .i64 ((rd_T58 l0 a1).f0), .int .i64 ((rd_T58 l0 a1).f1), .string ((rd_T58 l0 a1).f2), .int .i64 ((rd_T58 l0 a1).f3), .int .i64 ((rd_T58 l0 a1).f4)] 58 (0, 0))) ∧ Aside0 (Below w.heap.size w wc))
   case first =>
    have H := fH.out
    clear fH
    by_cases c8 : ((rd_T58 l0 a1).f0) = (-1)
    ·rw [if_pos c8] at H
     have c8b0 : (((rd_T58 l0 a1).f0) == (-1)) = true := qT c8
     have c8b1 : (((rd_T58 l0 a1).f0) != (-1)) = false := nF c8
     clear c8
     (first | rw [c8b0] | (simp only [i64_w, i32_w]; rw [c8b0]) | skip)
     have H' := aM H
     clear H
     obtain ⟨fd, fU, fT, j4, j3, fS, fQ, fP, jY, jX⟩ := cc5 ba.out
     go_wp2
     repeat (go_quiet (fail); try go_wp2)
     go_meet
     case rel => exact ⟨_, ((((rd_T58 l0 a1).f1) == (-1))), z1, H', ⟨by first | omega | exact Nat.le_refl _⟩, ⟨by (with_reducible repeat (first | refine ar ?_ _ | refine aq ?_ | refine au ?_ _)); refine aw (cs := #[.int .i64 ((rd_T58 l0 a1).f0), .int .i64 ((rd_T58 l0 a1).f1), .string ((rd_T58 l0 a1).f2), .int .i64 ((rd_T58 l0 a1).f3), .int .i64 0]) ?_ 4 _ rfl; (with_reducible repeat (first | refine ar ?_ _ | refine aq ?_ | refine au ?_ _)); refine aw (cs := #[.int .i64 ((rd_T58 l0 a1).f0), .int .i64 ((rd_T58 l0 a1).f1), .string ((rd_T58 l0 a1).f2), .int .i64 0, .int .i64 0]) ?_ 3 _ rfl; (with_reducible repeat (first | refine ar ?_ _ | refine aq ?_ | refine au ?_ _)); refine aw (cs := #[.int .i64 ((rd_T58 l0 a1).f0), .int .i64 ((rd_T58 l0 a1).f1), .string ⟨#[]⟩, .int .i64 0, .int .i64 0]) ?_ 2 _ rfl; (with_reducible repeat (first | refine ar ?_ _ | refine aq ?_ | refine au ?_ _)); refine aw (cs := #[.int .i64 ((rd_T58 l0 a1).f0), .int .i64 0, .string ⟨#[]⟩, .int .i64 0, .int .i64 0]) ?_ 1 _ rfl; (with_reducible repeat (first | refine ar ?_ _ | refine aq ?_ | refine au ?_ _)); refine aw (cs := #[.int .i64 0, .int .i64 0, .string ⟨#[]⟩, .int .i64 0, .int .i64 0]) ?_ 0 _ rfl; (with_reducible repeat (first | refine ar ?_ _ | refine aq ?_ | refine au ?_ _)); exact ba.out⟩, ⟨y9⟩⟩
    ·rw [if_neg c8] at H
     have c8b0 : (((rd_T58 l0 a1).f0) == (-1)) = false := qF c8
     have c8b1 : (((rd_T58 l0 a1).f0) != (-1)) = true := nT c8
     (first | rw [c8b0] | (simp only [i64_w, i32_w]; rw [c8b0]) | skip)
     have H' := aM H
     clear H
     obtain ⟨jn, jm, jl, jk, jj, ja, i7, i6, i5, i4⟩ := cc5 ba.out
     go_wp2
     repeat (go_quiet (fail); try go_wp2)
     go_meet
     case rel => exact ⟨_, (false), z1, H', ⟨by first | omega | exact Nat.le_refl _⟩, ⟨by (with_reducible repeat (first | refine ar ?_ _ | refine aq ?_ | refine au ?_ _)); refine aw (cs := #[.int .i64 ((rd_T58 l0 a1).f0), .int .i64 ((rd_T58 l0 a1).f1), .string ((rd_T58 l0 a1).f2), .int .i64 ((rd_T58 l0 a1).f3), .int .i64 0]) ?_ 4 _ rfl; (with_reducible repeat (first | refine ar ?_ _ | refine aq ?_ | refine au ?_ _)); refine aw (cs := #[.int .i64 ((rd_T58 l0 a1).f0), .int .i64 ((rd_T58 l0 a1).f1), .string ((rd_T58 l0 a1).f2), .int .i64 0, .int .i64 0]) ?_ 3 _ rfl; (with_reducible repeat (first | refine ar ?_ _ | refine aq ?_ | refine au ?_ _)); refine aw (cs := #[.int .i64 ((rd_T58 l0 a1).f0), .int .i64 ((rd_T58 l0 a1).f1), .string ⟨#[]⟩, .int .i64 0, .int .i64 0]) ?_ 2 _ rfl; (with_reducible repeat (first | refine ar ?_ _ | refine aq ?_ | refine au ?_ _)); refine aw (cs := #[.int .i64 ((rd_T58 l0 a1).f0), .int .i64 0, .string ⟨#[]⟩, .int .i64 0, .int .i64 0]) ?_ 1 _ rfl; (with_reducible repeat (first | refine ar ?_ _ | refine aq ?_ | refine au ?_ _)); refine aw (cs := #[.int .i64 0, .int .i64 0, .string ⟨#[]⟩, .int .i64 0, .int .i64 0]) ?_ 0 _ rfl; (with_reducible repeat (first | refine ar ?_ _ | refine aq ?_ | refine au ?_ _)); exact ba.out⟩, ⟨y9⟩⟩
   case rest =>
    clear fH
    try clear c3
    try clear c3b0
    try clear c4
    try clear c4b0
    try clear ej
    try clear gZ
    try clear gY
    try clear gX
    try clear gW
    try clear eg
    try clear gT
    try clear gS
    try clear gR
    try clear gQ
    try clear hx105_0
    try clear hx105_1
    try clear hx105_2
    try clear hx105_3
    try clear hx105_4
    try clear p105
    try clear q105
    obtain ⟨kq, x19_4, rfl, HA, fe, ba, HB⟩ := hcut
    cases kq with
    | zero => exact absurd HA.out (by simp [spec_l12First.j0])
    | succ kj4 =>
     have H := HA.out
     clear HA
     simp only [spec_l12First.j0] at H
     by_cases dk : x19_4 = true
     ·subst dk
      rw [if_pos rfl] at H
      obtain ⟨oR, jp, H⟩ := oA_ H
      try dsimp only at H
      by_cases dH : oR = true
      ·subst dH
       rw [if_pos rfl] at H
       obtain ⟨oQ, fL, H⟩ := oA_ H
       try dsimp only at H
       by_cases dC : oQ = true
       ·subst dC
        rw [if_pos rfl] at H
        by_cases dM : ((rd_T58 l0 a1).f3) = (((rd_T58 l0 a1).f2).size : Int)
        ·rw [if_pos dM] at H
         have c16b0 : (((rd_T58 l0 a1).f3) == (((rd_T58 l0 a1).f2).size : Int)) = true := qT dM
         have c16b1 : (((rd_T58 l0 a1).f3) != (((rd_T58 l0 a1).f2).size : Int)) = false := nF dM
         clear dM
         by_cases e6 : ((rd_T58 l0 a1).f4) = 0
         ·rw [if_pos e6] at H
          have c17b0 : (((rd_T58 l0 a1).f4) == 0) = true := qT e6
          have c17b1 : (((rd_T58 l0 a1).f4) != 0) = false := nF e6
          clear e6
          obtain rfl := sI H
          obtain ⟨gB, lm, ll, lh, lg, gw, kF, kE, kD, kC⟩ := cc5 ba.out
          go_wp2_with (first | (go_at_call 50; (with_reducible refine (spec_l1In.calls (((rd_T58 l0 a1).f2).size : Int) 1 8 true _ jp.out).mono ?_); rintro e w' ⟨rfl, ⟨nd, rfl⟩⟩; (try exact dD_)) | (go_at_call 76; (with_reducible refine (spec_l1Text.calls kj4 ((rd_T58 l0 a1).f2) true _ fL.out).mono ?_); rintro e w' ⟨rfl, ⟨nd, rfl⟩⟩; (try exact dD_)))
          repeat (go_quiet (first | (go_at_call 50; (with_reducible refine (spec_l1In.calls (((rd_T58 l0 a1).f2).size : Int) 1 8 true _ jp.out).mono ?_); rintro e w' ⟨rfl, ⟨nd, rfl⟩⟩; (try exact dD_)) | (go_at_call 76; (with_reducible refine (spec_l1Text.calls kj4 ((rd_T58 l0 a1).f2) true _ fL.out).mono ?_); rintro e w' ⟨rfl, ⟨nd, rfl⟩⟩; (try exact dD_))); try go_wp2_with (first | (go_at_call 50; (with_reducible refine (spec_l1In.calls (((rd_T58 l0 a1).f2).size : Int) 1 8 true _ jp.out).mono ?_); rintro e w' ⟨rfl, ⟨nd, rfl⟩⟩; (try exact dD_)) | (go_at_call 76; (with_reducible refine (spec_l1Text.calls kj4 ((rd_T58 l0 a1).f2) true _ fL.out).mono ?_); rintro e w' ⟨rfl, ⟨nd, rfl⟩⟩; (try exact dD_))))
          go_ret
          exact ⟨y4, y9⟩
         ·rw [if_neg e6] at H
          have c17b0 : (((rd_T58 l0 a1).f4) == 0) = false := qF e6
          have c17b1 : (((rd_T58 l0 a1).f4) != 0) = true := nT e6
          obtain rfl := sI H
          obtain ⟨em, eX, eW, eV, eU, ei, eR, eQ, eP, eO⟩ := cc5 ba.out
          go_wp2_with (first | (go_at_call 50; (with_reducible refine (spec_l1In.calls (((rd_T58 l0 a1).f2).size : Int) 1 8 true _ jp.out).mono ?_); rintro e w' ⟨rfl, ⟨nd, rfl⟩⟩; (try exact dD_)) | (go_at_call 76; (with_reducible refine (spec_l1Text.calls kj4 ((rd_T58 l0 a1).f2) true _ fL.out).mono ?_); rintro e w' ⟨rfl, ⟨nd, rfl⟩⟩; (try exact dD_)))
          repeat (go_quiet (first | (go_at_call 50; (with_reducible refine (spec_l1In.calls (((rd_T58 l0 a1).f2).size : Int) 1 8 true _ jp.out).mono ?_); rintro e w' ⟨rfl, ⟨nd, rfl⟩⟩; (try exact dD_)) | (go_at_call 76; (with_reducible refine (spec_l1Text.calls kj4 ((rd_T58 l0 a1).f2) true _ fL.out).mono ?_); rintro e w' ⟨rfl, ⟨nd, rfl⟩⟩; (try exact dD_))); try go_wp2_with (first | (go_at_call 50; (with_reducible refine (spec_l1In.calls (((rd_T58 l0 a1).f2).size : Int) 1 8 true _ jp.out).mono ?_); rintro e w' ⟨rfl, ⟨nd, rfl⟩⟩; (try exact dD_)) | (go_at_call 76; (with_reducible refine (spec_l1Text.calls kj4 ((rd_T58 l0 a1).f2) true _ fL.out).mono ?_); rintro e w' ⟨rfl, ⟨nd, rfl⟩⟩; (try exact dD_))))
          go_ret
          exact ⟨y4, y9⟩
        ·rw [if_neg dM] at H
         have c16b0 : (((rd_T58 l0 a1).f3) == (((rd_T58 l0 a1).f2).size : Int)) = false := qF dM
         have c16b1 : (((rd_T58 l0 a1).f3) != (((rd_T58 l0 a1).f2).size : Int)) = true := nT dM
         obtain rfl := sI H
         obtain ⟨gA, jd, jc, ld, lc, gv, iX, iW, kB, kz⟩ := cc5 ba.out
         go_wp2_with (first | (go_at_call 50; (with_reducible refine (spec_l1In.calls (((rd_T58 l0 a1).f2).size : Int) 1 8 true _ jp.out).mono ?_); rintro e w' ⟨rfl, ⟨nd, rfl⟩⟩; (try exact dD_)) | (go_at_call 76; (with_reducible refine (spec_l1Text.calls kj4 ((rd_T58 l0 a1).f2) true _ fL.out).mono ?_); rintro e w' ⟨rfl, ⟨nd, rfl⟩⟩; (try exact dD_)))
         repeat (go_quiet (first | (go_at_call 50; (with_reducible refine (spec_l1In.calls (((rd_T58 l0 a1).f2).size : Int) 1 8 true _ jp.out).mono ?_); rintro e w' ⟨rfl, ⟨nd, rfl⟩⟩; (try exact dD_)) | (go_at_call 76; (with_reducible refine (spec_l1Text.calls kj4 ((rd_T58 l0 a1).f2) true _ fL.out).mono ?_); rintro e w' ⟨rfl, ⟨nd, rfl⟩⟩; (try exact dD_))); try go_wp2_with (first | (go_at_call 50; (with_reducible refine (spec_l1In.calls (((rd_T58 l0 a1).f2).size : Int) 1 8 true _ jp.out).mono ?_); rintro e w' ⟨rfl, ⟨nd, rfl⟩⟩; (try exact dD_)) | (go_at_call 76; (with_reducible refine (spec_l1Text.calls kj4 ((rd_T58 l0 a1).f2) true _ fL.out).mono ?_); rintro e w' ⟨rfl, ⟨nd, rfl⟩⟩; (try exact dD_))))
         go_ret
         exact ⟨y4, y9⟩
       ·replace dC := Bool.eq_false_iff.mpr dC
        subst dC
        rw [if_neg nF_] at H
        obtain rfl := sI H
        obtain ⟨lb, la, k9, k8, k7, ky, kx, kw, kv, ku⟩ := cc5 ba.out
        go_wp2_with (first | (go_at_call 50; (with_reducible refine (spec_l1In.calls (((rd_T58 l0 a1).f2).size : Int) 1 8 true _ jp.out).mono ?_); rintro e w' ⟨rfl, ⟨nd, rfl⟩⟩; (try exact dD_)) | (go_at_call 76; (with_reducible refine (spec_l1Text.calls kj4 ((rd_T58 l0 a1).f2) false _ fL.out).mono ?_); rintro e w' ⟨rfl, ⟨nd, rfl⟩⟩; (try exact dD_)))
        repeat (go_quiet (first | (go_at_call 50; (with_reducible refine (spec_l1In.calls (((rd_T58 l0 a1).f2).size : Int) 1 8 true _ jp.out).mono ?_); rintro e w' ⟨rfl, ⟨nd, rfl⟩⟩; (try exact dD_)) | (go_at_call 76; (with_reducible refine (spec_l1Text.calls kj4 ((rd_T58 l0 a1).f2) false _ fL.out).mono ?_); rintro e w' ⟨rfl, ⟨nd, rfl⟩⟩; (try exact dD_))); try go_wp2_with (first | (go_at_call 50; (with_reducible refine (spec_l1In.calls (((rd_T58 l0 a1).f2).size : Int) 1 8 true _ jp.out).mono ?_); rintro e w' ⟨rfl, ⟨nd, rfl⟩⟩; (try exact dD_)) | (go_at_call 76; (with_reducible refine (spec_l1Text.calls kj4 ((rd_T58 l0 a1).f2) false _ fL.out).mono ?_); rintro e w' ⟨rfl, ⟨nd, rfl⟩⟩; (try exact dD_))))
        go_ret
        exact ⟨y4, y9⟩
      ·replace dH := Bool.eq_false_iff.mpr dH
       subst dH
       rw [if_neg nF_] at H
       obtain rfl := sI H
       obtain ⟨ek, eT, eS, fy, fx, eh, eN, eM, fu, ft⟩ := cc5 ba.out
       go_wp2_with (first | (go_at_call 50; (with_reducible refine (spec_l1In.calls (((rd_T58 l0 a1).f2).size : Int) 1 8 false _ jp.out).mono ?_); rintro e w' ⟨rfl, ⟨nd, rfl⟩⟩; (try exact dD_)))
       repeat (go_quiet (first | (go_at_call 50; (with_reducible refine (spec_l1In.calls (((rd_T58 l0 a1).f2).size : Int) 1 8 false _ jp.out).mono ?_); rintro e w' ⟨rfl, ⟨nd, rfl⟩⟩; (try exact dD_))); try go_wp2_with (first | (go_at_call 50; (with_reducible refine (spec_l1In.calls (((rd_T58 l0 a1).f2).size : Int) 1 8 false _ jp.out).mono ?_); rintro e w' ⟨rfl, ⟨nd, rfl⟩⟩; (try exact dD_))))
       go_ret
       exact ⟨y4, y9⟩
     ·replace dk := Bool.eq_false_iff.mpr dk
      subst dk
      rw [if_neg nF_] at H
      have o4 := aM H
      clear H
      go_upto_region 6 with (fail)
      repeat (go_quiet (fail); go_upto_region 6 with (fail))
      go_cut [58] (fun v58 wc => ∃ (kq : Nat) (x58_22 : Bool), v58 = .bool x58_22 ∧ Aside0 (spec_l12First.j1 kq l0 a1 x58_22 ((rd_T58 l0 a1).f0) ((rd_T58 l0 a1).f1) ((rd_T58 l0 a1).f2) ((rd_T58 l0 a1).f3) ((rd_T58 l0 a1).f4) = some r) ∧ Aside0 (kq ≤ kj4) ∧ Aside0 (wc.heap[bk]? = some (.cells #[.int .i64 ((rd_T58 l0 a1).f0), .int .i64 ((rd_T58 l0 a1).f1), .string ((rd_T58 l0 a1).f2), .int .i64 ((rd_T58 l0 a1).f3), .int .i64 ((rd_T58 l0 a1).f4)] 58 (0, 0))) ∧ Aside0 (Below w.heap.size w wc))
      case first =>
       have H := o4.out
       clear o4
       by_cases nm : ((rd_T58 l0 a1).f2).toList = ([] : List UInt8)
       ·rw [if_pos nm] at H
        have c24b0 : (((rd_T58 l0 a1).f2).toList == ([] : List UInt8)) = true := qT nm
        have c24b1 : (((rd_T58 l0 a1).f2).toList != ([] : List UInt8)) = false := nF nm
        clear nm
        (first | rw [c24b0] | (simp only [i64_w, i32_w]; rw [c24b0]) | skip)
        by_cases iD : ((rd_T58 l0 a1).f1) = (wrap64 (a1 - 1))
        ·rw [if_pos iD] at H
         have c25b0 : (((rd_T58 l0 a1).f1) == (wrap64 (a1 - 1))) = true := qT iD
         have c25b1 : (((rd_T58 l0 a1).f1) != (wrap64 (a1 - 1))) = false := nF iD
         clear iD
         have H' := aM H
         clear H
         obtain ⟨k5, k4, kZ, kY, kX, ks, kr, kp, ko, kn⟩ := cc5 ba.out
         go_wp2
         all_goals (try (exfalso; rename_i h_; rw [c24b0] at h_; cases h_; done))
         repeat (go_quiet (fail); try go_wp2)
         all_goals (try (exfalso; rename_i h_; rw [c24b0] at h_; cases h_; done))
         go_meet
         case rel => exact ⟨_, (decide (a1 < 2)), z1, H', ⟨by have := fe.out; first | omega | exact Nat.le_refl _⟩, ⟨y6⟩, ⟨y9⟩⟩
        ·rw [if_neg iD] at H
         have c25b0 : (((rd_T58 l0 a1).f1) == (wrap64 (a1 - 1))) = false := qF iD
         have c25b1 : (((rd_T58 l0 a1).f1) != (wrap64 (a1 - 1))) = true := nT iD
         have H' := aM H
         clear H
         obtain ⟨gz, kW, kV, kU, kT, gu, km, kk, kj, ki⟩ := cc5 ba.out
         go_wp2
         all_goals (try (exfalso; rename_i h_; rw [c24b0] at h_; cases h_; done))
         repeat (go_quiet (fail); try go_wp2)
         all_goals (try (exfalso; rename_i h_; rw [c24b0] at h_; cases h_; done))
         go_meet
         case rel => exact ⟨_, (true), z1, H', ⟨by have := fe.out; first | omega | exact Nat.le_refl _⟩, ⟨y6⟩, ⟨y9⟩⟩
       ·rw [if_neg nm] at H
        have c24b0 : (((rd_T58 l0 a1).f2).toList == ([] : List UInt8)) = false := qF nm
        have c24b1 : (((rd_T58 l0 a1).f2).toList != ([] : List UInt8)) = true := nT nm
        (first | rw [c24b0] | (simp only [i64_w, i32_w]; rw [c24b0]) | skip)
        have H' := aM H
        clear H
        obtain ⟨kR, kQ, kP, kO, kN, kg, kf, ke, kd, kc⟩ := cc5 ba.out
        go_wp2
        all_goals (try (exfalso; rename_i h_; rw [c24b0] at h_; cases h_; done))
        repeat (go_quiet (fail); try go_wp2)
        all_goals (try (exfalso; rename_i h_; rw [c24b0] at h_; cases h_; done))
        go_meet
        case rel => exact ⟨_, (true), z1, H', ⟨by have := fe.out; first | omega | exact Nat.le_refl _⟩, ⟨y6⟩, ⟨y9⟩⟩
      case rest =>
       clear o4
       try clear c3
       try clear c3b0
       try clear c4
       try clear c4b0
       try clear dk
       try clear ej
       try clear gZ
       try clear gY
       try clear gX
       try clear gW
       try clear eg
       try clear gT
       try clear gS
       try clear gR
       try clear gQ
       try clear hx105_0
       try clear hx105_1
       try clear hx105_2
       try clear hx105_3
       try clear hx105_4
       try clear p105
       try clear q105
       obtain ⟨kq, x58_22, rfl, HA, ig, ba, HB⟩ := hcut
       cases kq with
       | zero => exact absurd HA.out (by simp [spec_l12First.j1])
       | succ kj22 =>
        have H := HA.out
        clear HA
        simp only [spec_l12First.j1] at H
        by_cases eA : x58_22 = true
        ·subst eA
         rw [if_pos rfl] at H
         obtain rfl := sI H
         go_wp2
         repeat (go_quiet (fail); try go_wp2)
         go_ret
         exact ⟨y4, y9⟩
        ·replace eA := Bool.eq_false_iff.mpr eA
         subst eA
         rw [if_neg nF_] at H
         obtain ⟨iw, gm, H⟩ := oA_ H
         try dsimp only at H
         have o3 := aM H
         clear H
         go_upto_region 9 with (first | (go_at_call 46; (with_reducible refine (ih kj22 (by have := fe.out; have := ig.out; omega) _ _ l0 (wrap64 (a1 - 1)) iw _ ?side1 ?side2 gm.out).mono ?_); (case side1 => exact y37); (case side2 => exact dy.out); rintro e w32 ⟨rfl, hb⟩; replace ba := aM (af (g := bk) (o := .cells #[.int .i64 ((rd_T58 l0 a1).f0), .int .i64 ((rd_T58 l0 a1).f1), .string ((rd_T58 l0 a1).f2), .int .i64 ((rd_T58 l0 a1).f3), .int .i64 ((rd_T58 l0 a1).f4)] 58 (0, 0)) (kB_ ba.out) hb); replace HB := aM (az (by repeat (first | (with_reducible first | exact HB.out | apply bA | apply pD | apply bD | refine ay ?_ eK.out) | exact HB.out)) hb); (try clear hb)))
         repeat (go_quiet (fail); go_upto_region 9 with (first | (go_at_call 46; (with_reducible refine (ih kj22 (by have := fe.out; have := ig.out; omega) _ _ l0 (wrap64 (a1 - 1)) iw _ ?side1 ?side2 gm.out).mono ?_); (case side1 => exact y37); (case side2 => exact dy.out); rintro e w32 ⟨rfl, hb⟩; replace ba := aM (af (g := bk) (o := .cells #[.int .i64 ((rd_T58 l0 a1).f0), .int .i64 ((rd_T58 l0 a1).f1), .string ((rd_T58 l0 a1).f2), .int .i64 ((rd_T58 l0 a1).f3), .int .i64 ((rd_T58 l0 a1).f4)] 58 (0, 0)) (kB_ ba.out) hb); replace HB := aM (az (by repeat (first | (with_reducible first | exact HB.out | apply bA | apply pD | apply bD | refine ay ?_ eK.out) | exact HB.out)) hb); (try clear hb))))
         (try simp only [Act.put, sA, sB, sC])
         go_cut [71] (fun v71 wc => ∃ (kq : Nat) (x71_30 : Bool), v71 = .bool x71_30 ∧ Aside0 (spec_l12First.j2 kq l0 x71_30 ((rd_T58 l0 a1).f0) ((rd_T58 l0 a1).f1) ((rd_T58 l0 a1).f2) ((rd_T58 l0 a1).f3) ((rd_T58 l0 a1).f4) = some r) ∧ Aside0 (kq ≤ kj22) ∧ Aside0 (wc.heap[bk]? = some (.cells #[.int .i64 ((rd_T58 l0 a1).f0), .int .i64 ((rd_T58 l0 a1).f1), .string ((rd_T58 l0 a1).f2), .int .i64 ((rd_T58 l0 a1).f3), .int .i64 ((rd_T58 l0 a1).f4)] 58 (0, 0))) ∧ Aside0 (Below w.heap.size w wc))
         case first =>
          have H := o3.out
          clear o3
          by_cases lM : iw < 1
          ·rw [if_pos lM] at H
           have c33b0 : decide (iw < 1) = true := dT lM
           clear lM
           (first | rw [c33b0] | (simp only [i64_w, i32_w]; rw [c33b0]) | skip)
           have H' := aM H
           clear H
           go_wp2
           repeat (go_quiet (fail); try go_wp2)
           go_meet
           case rel => exact ⟨_, (true), z1, H', ⟨by have := fe.out; have := ig.out; first | omega | exact Nat.le_refl _⟩, ⟨y6⟩, ⟨y9⟩⟩
          ·rw [if_neg lM] at H
           have c33b0 : decide (iw < 1) = false := dF lM
           clear lM
           (first | rw [c33b0] | (simp only [i64_w, i32_w]; rw [c33b0]) | skip)
           have H' := aM H
           clear H
           obtain ⟨hcz34_0, hcz34_1, hcz34_2, hcz34_3, hcz34_4, hfz34_0, hfz34_1, hfz34_2, hfz34_3, hfz34_4⟩ := cc5 ba.out
           go_wp2
           repeat (go_quiet (fail); try go_wp2)
           go_meet
           case rel => exact ⟨_, ((((rd_T58 l0 a1).f0) != (wrap64 (iw - 1)))), z1, H', ⟨by have := fe.out; have := ig.out; first | omega | exact Nat.le_refl _⟩, ⟨y6⟩, ⟨y9⟩⟩
         case rest =>
          clear o3
          try clear p1
          try clear q1
          try clear hx1
          try clear p2
          try clear c3
          try clear c3b0
          try clear c4
          try clear c4b0
          try clear c8
          try clear c8b0
          try clear c8b1
          try clear p10
          try clear q10
          try clear hx10
          try clear dk
          try clear dH
          try clear dC
          try clear dM
          try clear c16b0
          try clear c16b1
          try clear e6
          try clear c17b0
          try clear c17b1
          try clear eA
          try clear jn
          try clear jm
          try clear jl
          try clear jk
          try clear jj
          try clear gB
          try clear lm
          try clear ll
          try clear lh
          try clear lg
          try clear em
          try clear eX
          try clear eW
          try clear eV
          try clear eU
          try clear gA
          try clear jd
          try clear jc
          try clear ld
          try clear lc
          try clear lb
          try clear la
          try clear k9
          try clear k8
          try clear k7
          try clear ek
          try clear eT
          try clear eS
          try clear fy
          try clear fx
          try clear ej
          try clear gZ
          try clear gY
          try clear gX
          try clear gW
          try clear fd
          try clear fU
          try clear fT
          try clear j4
          try clear j3
          try clear ja
          try clear i7
          try clear i6
          try clear i5
          try clear i4
          try clear gw
          try clear kF
          try clear kE
          try clear kD
          try clear kC
          try clear ei
          try clear eR
          try clear eQ
          try clear eP
          try clear eO
          try clear gv
          try clear iX
          try clear iW
          try clear kB
          try clear kz
          try clear ky
          try clear kx
          try clear kw
          try clear kv
          try clear ku
          try clear eh
          try clear eN
          try clear eM
          try clear fu
          try clear ft
          try clear eg
          try clear gT
          try clear gS
          try clear gR
          try clear gQ
          try clear fS
          try clear fQ
          try clear fP
          try clear jY
          try clear jX
          try clear hx105_0
          try clear hx105_1
          try clear hx105_2
          try clear hx105_3
          try clear hx105_4
          try clear p1
          try clear p10
          try clear p105
          try clear p2
          try clear q1
          try clear q10
          try clear q105
          obtain ⟨kq, x71_30, rfl, HA, lQ, ba, HB⟩ := hcut
          cases kq with
          | zero => exact absurd HA.out (by simp [spec_l12First.j2])
          | succ kj30 =>
           have H := HA.out
           clear HA
           simp only [spec_l12First.j2] at H
           by_cases mU : x71_30 = true
           ·subst mU
            rw [if_pos rfl] at H
            obtain rfl := sI H
            go_wp2
            repeat (go_quiet (fail); try go_wp2)
            go_ret
            exact ⟨y4, y9⟩
           ·replace mU := Bool.eq_false_iff.mpr mU
            subst mU
            rw [if_neg nF_] at H
            by_cases nl : 0 ≤ ((rd_T58 l0 a1).f0)
            ·rw [if_pos nl] at H
             have c36b0 : decide (0 ≤ ((rd_T58 l0 a1).f0)) = true := dT nl
             clear nl
             by_cases nk : ((rd_T58 l0 a1).f0) < (l0.length : Int)
             ·rw [if_pos nk] at H
              have c37b0 : decide (((rd_T58 l0 a1).f0) < (l0.length : Int)) = true := dT nk
              clear nk
              by_cases nj : 0 ≤ ((rd_T58 l0 a1).f1)
              ·rw [if_pos nj] at H
               have c38b0 : decide (0 ≤ ((rd_T58 l0 a1).f1)) = true := dT nj
               clear nj
               by_cases ni : ((rd_T58 l0 a1).f1) < (l0.length : Int)
               ·rw [if_pos ni] at H
                have c39b0 : decide (((rd_T58 l0 a1).f1) < (l0.length : Int)) = true := dT ni
                clear ni
                by_cases o9 : ((rd_T58 l0 ((rd_T58 l0 a1).f1)).f4) > ((rd_T58 l0 ((rd_T58 l0 a1).f0)).f4)
                ·rw [if_pos o9] at H
                 have c40b0 : decide (((rd_T58 l0 ((rd_T58 l0 a1).f0)).f4) < ((rd_T58 l0 ((rd_T58 l0 a1).f1)).f4)) = true := dT o9
                 clear o9
                 by_cases lT : ((rd_T58 l0 a1).f3) = (wrap64 (((rd_T58 l0 ((rd_T58 l0 a1).f0)).f3) + ((rd_T58 l0 ((rd_T58 l0 a1).f1)).f3)))
                 ·rw [if_pos lT] at H
                  have c41b0 : (((rd_T58 l0 a1).f3) == (wrap64 (((rd_T58 l0 ((rd_T58 l0 a1).f0)).f3) + ((rd_T58 l0 ((rd_T58 l0 a1).f1)).f3)))) = true := qT lT
                  have c41b1 : (((rd_T58 l0 a1).f3) != (wrap64 (((rd_T58 l0 ((rd_T58 l0 a1).f0)).f3) + ((rd_T58 l0 ((rd_T58 l0 a1).f1)).f3)))) = false := nF lT
                  clear lT
                  by_cases lL : ((rd_T58 l0 a1).f4) = (wrap64 (((rd_T58 l0 ((rd_T58 l0 a1).f1)).f4) + 1))
                  ·rw [if_pos lL] at H
                   have c42b0 : (((rd_T58 l0 a1).f4) == (wrap64 (((rd_T58 l0 ((rd_T58 l0 a1).f1)).f4) + 1))) = true := qT lL
                   have c42b1 : (((rd_T58 l0 a1).f4) != (wrap64 (((rd_T58 l0 ((rd_T58 l0 a1).f1)).f4) + 1))) = false := nF lL
                   clear lL
                   obtain ⟨mc, qK, H⟩ := oA_ H
                   try dsimp only at H
                   obtain rfl := sI H
                   obtain ⟨hcz44_0, hcz44_1, hcz44_2, hcz44_3, hcz44_4, hfz44_0, hfz44_1, hfz44_2, hfz44_3, hfz44_4⟩ := cc5 ba.out
                   have p110 : 0 ≤ (((rd_T58 l0 a1).f0) : Int) := oD z2
                   have q110 : ((rd_T58 l0 a1).f0) < (l0.length : Int) := oD z2
                   obtain ⟨ad110, e110, hx110_0, hx110_1, hx110_2, hx110_3, hx110_4⟩ := at_T58 cN.out ((rd_T58 l0 a1).f0) p110 q110
                   obtain rfl : ad105 = ad110 := (by injection e110)
                   replace hx110_0 := (HB.out.cell (World.block_lt_of_cell? w _ hx110_0)).trans hx110_0
                   replace hx110_1 := (HB.out.cell (World.block_lt_of_cell? w _ hx110_1)).trans hx110_1
                   replace hx110_2 := (HB.out.cell (World.block_lt_of_cell? w _ hx110_2)).trans hx110_2
                   replace hx110_3 := (HB.out.cell (World.block_lt_of_cell? w _ hx110_3)).trans hx110_3
                   replace hx110_4 := (HB.out.cell (World.block_lt_of_cell? w _ hx110_4)).trans hx110_4
                   replace p110 := eq_true p110
                   replace q110 := eq_true q110
                   have p111 : 0 ≤ (((rd_T58 l0 a1).f1) : Int) := oD z2
                   have q111 : ((rd_T58 l0 a1).f1) < (l0.length : Int) := oD z2
                   obtain ⟨ad111, e111, hx111_0, hx111_1, hx111_2, hx111_3, hx111_4⟩ := at_T58 cN.out ((rd_T58 l0 a1).f1) p111 q111
                   obtain rfl : ad105 = ad111 := (by injection e111)
                   replace hx111_0 := (HB.out.cell (World.block_lt_of_cell? w _ hx111_0)).trans hx111_0
                   replace hx111_1 := (HB.out.cell (World.block_lt_of_cell? w _ hx111_1)).trans hx111_1
                   replace hx111_2 := (HB.out.cell (World.block_lt_of_cell? w _ hx111_2)).trans hx111_2
                   replace hx111_3 := (HB.out.cell (World.block_lt_of_cell? w _ hx111_3)).trans hx111_3
                   replace hx111_4 := (HB.out.cell (World.block_lt_of_cell? w _ hx111_4)).trans hx111_4
                   replace p111 := eq_true p111
                   replace q111 := eq_true q111
                   have p112 : 0 ≤ (((rd_T58 l0 a1).f1) : Int) := oD z2
                   have q112 : ((rd_T58 l0 a1).f1) < (l0.length : Int) := oD z2
                   obtain ⟨ad112, e112, hx112_0, hx112_1, hx112_2, hx112_3, hx112_4⟩ := at_T58 cN.out ((rd_T58 l0 a1).f1) p112 q112
                   obtain rfl : ad105 = ad112 := (by injection e112)
                   replace hx112_0 := (HB.out.cell (World.block_lt_of_cell? w _ hx112_0)).trans hx112_0
                   replace hx112_1 := (HB.out.cell (World.block_lt_of_cell? w _ hx112_1)).trans hx112_1
                   replace hx112_2 := (HB.out.cell (World.block_lt_of_cell? w _ hx112_2)).trans hx112_2
                   replace hx112_3 := (HB.out.cell (World.block_lt_of_cell? w _ hx112_3)).trans hx112_3
                   replace hx112_4 := (HB.out.cell (World.block_lt_of_cell? w _ hx112_4)).trans hx112_4
                   replace p112 := eq_true p112
                   replace q112 := eq_true q112
                   have p113 : 0 ≤ (((rd_T58 l0 a1).f0) : Int) := oD z2
                   have q113 : ((rd_T58 l0 a1).f0) < (l0.length : Int) := oD z2
                   obtain ⟨ad113, e113, hx113_0, hx113_1, hx113_2, hx113_3, hx113_4⟩ := at_T58 cN.out ((rd_T58 l0 a1).f0) p113 q113
                   obtain rfl : ad105 = ad113 := (by injection e113)
                   replace hx113_0 := (HB.out.cell (World.block_lt_of_cell? w _ hx113_0)).trans hx113_0
                   replace hx113_1 := (HB.out.cell (World.block_lt_of_cell? w _ hx113_1)).trans hx113_1
                   replace hx113_2 := (HB.out.cell (World.block_lt_of_cell? w _ hx113_2)).trans hx113_2
                   replace hx113_3 := (HB.out.cell (World.block_lt_of_cell? w _ hx113_3)).trans hx113_3
                   replace hx113_4 := (HB.out.cell (World.block_lt_of_cell? w _ hx113_4)).trans hx113_4
                   replace p113 := eq_true p113
                   replace q113 := eq_true q113
                   have p114 : 0 ≤ (((rd_T58 l0 a1).f1) : Int) := oD z2
                   have q114 : ((rd_T58 l0 a1).f1) < (l0.length : Int) := oD z2
                   obtain ⟨ad114, e114, hx114_0, hx114_1, hx114_2, hx114_3, hx114_4⟩ := at_T58 cN.out ((rd_T58 l0 a1).f1) p114 q114
                   obtain rfl : ad105 = ad114 := (by injection e114)
                   replace hx114_0 := (HB.out.cell (World.block_lt_of_cell? w _ hx114_0)).trans hx114_0
                   replace hx114_1 := (HB.out.cell (World.block_lt_of_cell? w _ hx114_1)).trans hx114_1
                   replace hx114_2 := (HB.out.cell (World.block_lt_of_cell? w _ hx114_2)).trans hx114_2
                   replace hx114_3 := (HB.out.cell (World.block_lt_of_cell? w _ hx114_3)).trans hx114_3
                   replace hx114_4 := (HB.out.cell (World.block_lt_of_cell? w _ hx114_4)).trans hx114_4
                   replace p114 := eq_true p114
                   replace q114 := eq_true q114
                   go_wp2_with (first | (go_at_call 46; (with_reducible refine (ih kj30 (by have := fe.out; have := ig.out; have := lQ.out; omega) _ _ l0 ((rd_T58 l0 a1).f0) mc _ ?side1 ?side2 qK.out).mono ?_); (case side1 => exact y37); (case side2 => exact dy.out); rintro e w45 ⟨rfl, hb⟩; replace ba := aM (af (g := bk) (o := .cells #[.int .i64 ((rd_T58 l0 a1).f0), .int .i64 ((rd_T58 l0 a1).f1), .string ((rd_T58 l0 a1).f2), .int .i64 ((rd_T58 l0 a1).f3), .int .i64 ((rd_T58 l0 a1).f4)] 58 (0, 0)) (kB_ ba.out) hb); replace HB := aM (az (by repeat (first | (with_reducible first | exact HB.out | apply bA | apply pD | apply bD | refine ay ?_ eK.out) | exact HB.out)) hb); (try clear hb)))
                   repeat (go_quiet (fail); try go_wp2_with (first | (go_at_call 46; (with_reducible refine (ih kj30 (by have := fe.out; have := ig.out; have := lQ.out; omega) _ _ l0 ((rd_T58 l0 a1).f0) mc _ ?side1 ?side2 qK.out).mono ?_); (case side1 => exact y37); (case side2 => exact dy.out); rintro e w45 ⟨rfl, hb⟩; replace ba := aM (af (g := bk) (o := .cells #[.int .i64 ((rd_T58 l0 a1).f0), .int .i64 ((rd_T58 l0 a1).f1), .string ((rd_T58 l0 a1).f2), .int .i64 ((rd_T58 l0 a1).f3), .int .i64 ((rd_T58 l0 a1).f4)] 58 (0, 0)) (kB_ ba.out) hb); replace HB := aM (az (by repeat (first | (with_reducible first | exact HB.out | apply bA | apply pD | apply bD | refine ay ?_ eK.out) | exact HB.out)) hb); (try clear hb))))
                   go_ret
                   exact ⟨y4, y9⟩
                  ·rw [if_neg lL] at H
                   have c42b0 : (((rd_T58 l0 a1).f4) == (wrap64 (((rd_T58 l0 ((rd_T58 l0 a1).f1)).f4) + 1))) = false := qF lL
                   have c42b1 : (((rd_T58 l0 a1).f4) != (wrap64 (((rd_T58 l0 ((rd_T58 l0 a1).f1)).f4) + 1))) = true := nT lL
                   obtain rfl := sI H
                   obtain ⟨hcz46_0, hcz46_1, hcz46_2, hcz46_3, hcz46_4, hfz46_0, hfz46_1, hfz46_2, hfz46_3, hfz46_4⟩ := cc5 ba.out
                   have p110 : 0 ≤ (((rd_T58 l0 a1).f0) : Int) := oD z2
                   have q110 : ((rd_T58 l0 a1).f0) < (l0.length : Int) := oD z2
                   obtain ⟨ad110, e110, hx110_0, hx110_1, hx110_2, hx110_3, hx110_4⟩ := at_T58 cN.out ((rd_T58 l0 a1).f0) p110 q110
                   obtain rfl : ad105 = ad110 := (by injection e110)
                   replace hx110_0 := (HB.out.cell (World.block_lt_of_cell? w _ hx110_0)).trans hx110_0
                   replace hx110_1 := (HB.out.cell (World.block_lt_of_cell? w _ hx110_1)).trans hx110_1
                   replace hx110_2 := (HB.out.cell (World.block_lt_of_cell? w _ hx110_2)).trans hx110_2
                   replace hx110_3 := (HB.out.cell (World.block_lt_of_cell? w _ hx110_3)).trans hx110_3
                   replace hx110_4 := (HB.out.cell (World.block_lt_of_cell? w _ hx110_4)).trans hx110_4
                   replace p110 := eq_true p110
                   replace q110 := eq_true q110
                   have p111 : 0 ≤ (((rd_T58 l0 a1).f1) : Int) := oD z2
                   have q111 : ((rd_T58 l0 a1).f1) < (l0.length : Int) := oD z2
                   obtain ⟨ad111, e111, hx111_0, hx111_1, hx111_2, hx111_3, hx111_4⟩ := at_T58 cN.out ((rd_T58 l0 a1).f1) p111 q111
                   obtain rfl : ad105 = ad111 := (by injection e111)
                   replace hx111_0 := (HB.out.cell (World.block_lt_of_cell? w _ hx111_0)).trans hx111_0
                   replace hx111_1 := (HB.out.cell (World.block_lt_of_cell? w _ hx111_1)).trans hx111_1
                   replace hx111_2 := (HB.out.cell (World.block_lt_of_cell? w _ hx111_2)).trans hx111_2
                   replace hx111_3 := (HB.out.cell (World.block_lt_of_cell? w _ hx111_3)).trans hx111_3
                   replace hx111_4 := (HB.out.cell (World.block_lt_of_cell? w _ hx111_4)).trans hx111_4
                   replace p111 := eq_true p111
                   replace q111 := eq_true q111
                   have p112 : 0 ≤ (((rd_T58 l0 a1).f1) : Int) := oD z2
                   have q112 : ((rd_T58 l0 a1).f1) < (l0.length : Int) := oD z2
                   obtain ⟨ad112, e112, hx112_0, hx112_1, hx112_2, hx112_3, hx112_4⟩ := at_T58 cN.out ((rd_T58 l0 a1).f1) p112 q112
                   obtain rfl : ad105 = ad112 := (by injection e112)
                   replace hx112_0 := (HB.out.cell (World.block_lt_of_cell? w _ hx112_0)).trans hx112_0
                   replace hx112_1 := (HB.out.cell (World.block_lt_of_cell? w _ hx112_1)).trans hx112_1
                   replace hx112_2 := (HB.out.cell (World.block_lt_of_cell? w _ hx112_2)).trans hx112_2
                   replace hx112_3 := (HB.out.cell (World.block_lt_of_cell? w _ hx112_3)).trans hx112_3
                   replace hx112_4 := (HB.out.cell (World.block_lt_of_cell? w _ hx112_4)).trans hx112_4
                   replace p112 := eq_true p112
                   replace q112 := eq_true q112
                   have p113 : 0 ≤ (((rd_T58 l0 a1).f0) : Int) := oD z2
                   have q113 : ((rd_T58 l0 a1).f0) < (l0.length : Int) := oD z2
                   obtain ⟨ad113, e113, hx113_0, hx113_1, hx113_2, hx113_3, hx113_4⟩ := at_T58 cN.out ((rd_T58 l0 a1).f0) p113 q113
                   obtain rfl : ad105 = ad113 := (by injection e113)
                   replace hx113_0 := (HB.out.cell (World.block_lt_of_cell? w _ hx113_0)).trans hx113_0
                   replace hx113_1 := (HB.out.cell (World.block_lt_of_cell? w _ hx113_1)).trans hx113_1
                   replace hx113_2 := (HB.out.cell (World.block_lt_of_cell? w _ hx113_2)).trans hx113_2
                   replace hx113_3 := (HB.out.cell (World.block_lt_of_cell? w _ hx113_3)).trans hx113_3
                   replace hx113_4 := (HB.out.cell (World.block_lt_of_cell? w _ hx113_4)).trans hx113_4
                   replace p113 := eq_true p113
                   replace q113 := eq_true q113
                   have p114 : 0 ≤ (((rd_T58 l0 a1).f1) : Int) := oD z2
                   have q114 : ((rd_T58 l0 a1).f1) < (l0.length : Int) := oD z2
                   obtain ⟨ad114, e114, hx114_0, hx114_1, hx114_2, hx114_3, hx114_4⟩ := at_T58 cN.out ((rd_T58 l0 a1).f1) p114 q114
                   obtain rfl : ad105 = ad114 := (by injection e114)
                   replace hx114_0 := (HB.out.cell (World.block_lt_of_cell? w _ hx114_0)).trans hx114_0
                   replace hx114_1 := (HB.out.cell (World.block_lt_of_cell? w _ hx114_1)).trans hx114_1
                   replace hx114_2 := (HB.out.cell (World.block_lt_of_cell? w _ hx114_2)).trans hx114_2
                   replace hx114_3 := (HB.out.cell (World.block_lt_of_cell? w _ hx114_3)).trans hx114_3
                   replace hx114_4 := (HB.out.cell (World.block_lt_of_cell? w _ hx114_4)).trans hx114_4
                   replace p114 := eq_true p114
                   replace q114 := eq_true q114
                   go_wp2
                   repeat (go_quiet (fail); try go_wp2)
                   go_ret
                   exact ⟨y4, y9⟩
                 ·rw [if_neg lT] at H
                  have c41b0 : (((rd_T58 l0 a1).f3) == (wrap64 (((rd_T58 l0 ((rd_T58 l0 a1).f0)).f3) + ((rd_T58 l0 ((rd_T58 l0 a1).f1)).f3)))) = false := qF lT
                  have c41b1 : (((rd_T58 l0 a1).f3) != (wrap64 (((rd_T58 l0 ((rd_T58 l0 a1).f0)).f3) + ((rd_T58 l0 ((rd_T58 l0 a1).f1)).f3)))) = true := nT lT
                  obtain rfl := sI H
                  obtain ⟨hcz47_0, hcz47_1, hcz47_2, hcz47_3, hcz47_4, hfz47_0, hfz47_1, hfz47_2, hfz47_3, hfz47_4⟩ := cc5 ba.out
                  have p110 : 0 ≤ (((rd_T58 l0 a1).f0) : Int) := oD z2
                  have q110 : ((rd_T58 l0 a1).f0) < (l0.length : Int) := oD z2
                  obtain ⟨ad110, e110, hx110_0, hx110_1, hx110_2, hx110_3, hx110_4⟩ := at_T58 cN.out ((rd_T58 l0 a1).f0) p110 q110
                  obtain rfl : ad105 = ad110 := (by injection e110)
                  replace hx110_0 := (HB.out.cell (World.block_lt_of_cell? w _ hx110_0)).trans hx110_0
                  replace hx110_1 := (HB.out.cell (World.block_lt_of_cell? w _ hx110_1)).trans hx110_1
                  replace hx110_2 := (HB.out.cell (World.block_lt_of_cell? w _ hx110_2)).trans hx110_2
                  replace hx110_3 := (HB.out.cell (World.block_lt_of_cell? w _ hx110_3)).trans hx110_3
                  replace hx110_4 := (HB.out.cell (World.block_lt_of_cell? w _ hx110_4)).trans hx110_4
                  replace p110 := eq_true p110
                  replace q110 := eq_true q110
                  have p111 : 0 ≤ (((rd_T58 l0 a1).f1) : Int) := oD z2
                  have q111 : ((rd_T58 l0 a1).f1) < (l0.length : Int) := oD z2
                  obtain ⟨ad111, e111, hx111_0, hx111_1, hx111_2, hx111_3, hx111_4⟩ := at_T58 cN.out ((rd_T58 l0 a1).f1) p111 q111
                  obtain rfl : ad105 = ad111 := (by injection e111)
                  replace hx111_0 := (HB.out.cell (World.block_lt_of_cell? w _ hx111_0)).trans hx111_0
                  replace hx111_1 := (HB.out.cell (World.block_lt_of_cell? w _ hx111_1)).trans hx111_1
                  replace hx111_2 := (HB.out.cell (World.block_lt_of_cell? w _ hx111_2)).trans hx111_2
                  replace hx111_3 := (HB.out.cell (World.block_lt_of_cell? w _ hx111_3)).trans hx111_3
                  replace hx111_4 := (HB.out.cell (World.block_lt_of_cell? w _ hx111_4)).trans hx111_4
                  replace p111 := eq_true p111
                  replace q111 := eq_true q111
                  have p112 : 0 ≤ (((rd_T58 l0 a1).f1) : Int) := oD z2
                  have q112 : ((rd_T58 l0 a1).f1) < (l0.length : Int) := oD z2
                  obtain ⟨ad112, e112, hx112_0, hx112_1, hx112_2, hx112_3, hx112_4⟩ := at_T58 cN.out ((rd_T58 l0 a1).f1) p112 q112
                  obtain rfl : ad105 = ad112 := (by injection e112)
                  replace hx112_0 := (HB.out.cell (World.block_lt_of_cell? w _ hx112_0)).trans hx112_0
                  replace hx112_1 := (HB.out.cell (World.block_lt_of_cell? w _ hx112_1)).trans hx112_1
                  replace hx112_2 := (HB.out.cell (World.block_lt_of_cell? w _ hx112_2)).trans hx112_2
                  replace hx112_3 := (HB.out.cell (World.block_lt_of_cell? w _ hx112_3)).trans hx112_3
                  replace hx112_4 := (HB.out.cell (World.block_lt_of_cell? w _ hx112_4)).trans hx112_4
                  replace p112 := eq_true p112
                  replace q112 := eq_true q112
                  have p113 : 0 ≤ (((rd_T58 l0 a1).f0) : Int) := oD z2
                  have q113 : ((rd_T58 l0 a1).f0) < (l0.length : Int) := oD z2
                  obtain ⟨ad113, e113, hx113_0, hx113_1, hx113_2, hx113_3, hx113_4⟩ := at_T58 cN.out ((rd_T58 l0 a1).f0) p113 q113
                  obtain rfl : ad105 = ad113 := (by injection e113)
                  replace hx113_0 := (HB.out.cell (World.block_lt_of_cell? w _ hx113_0)).trans hx113_0
                  replace hx113_1 := (HB.out.cell (World.block_lt_of_cell? w _ hx113_1)).trans hx113_1
                  replace hx113_2 := (HB.out.cell (World.block_lt_of_cell? w _ hx113_2)).trans hx113_2
                  replace hx113_3 := (HB.out.cell (World.block_lt_of_cell? w _ hx113_3)).trans hx113_3
                  replace hx113_4 := (HB.out.cell (World.block_lt_of_cell? w _ hx113_4)).trans hx113_4
                  replace p113 := eq_true p113
                  replace q113 := eq_true q113
                  have p114 : 0 ≤ (((rd_T58 l0 a1).f1) : Int) := oD z2
                  have q114 : ((rd_T58 l0 a1).f1) < (l0.length : Int) := oD z2
                  obtain ⟨ad114, e114, hx114_0, hx114_1, hx114_2, hx114_3, hx114_4⟩ := at_T58 cN.out ((rd_T58 l0 a1).f1) p114 q114
                  obtain rfl : ad105 = ad114 := (by injection e114)
                  replace hx114_0 := (HB.out.cell (World.block_lt_of_cell? w _ hx114_0)).trans hx114_0
                  replace hx114_1 := (HB.out.cell (World.block_lt_of_cell? w _ hx114_1)).trans hx114_1
                  replace hx114_2 := (HB.out.cell (World.block_lt_of_cell? w _ hx114_2)).trans hx114_2
                  replace hx114_3 := (HB.out.cell (World.block_lt_of_cell? w _ hx114_3)).trans hx114_3
                  replace hx114_4 := (HB.out.cell (World.block_lt_of_cell? w _ hx114_4)).trans hx114_4
                  replace p114 := eq_true p114
                  replace q114 := eq_true q114
                  go_wp2
                  repeat (go_quiet (fail); try go_wp2)
                  go_ret
                  exact ⟨y4, y9⟩
                ·rw [if_neg o9] at H
                 have c40b0 : decide (((rd_T58 l0 ((rd_T58 l0 a1).f0)).f4) < ((rd_T58 l0 ((rd_T58 l0 a1).f1)).f4)) = false := dF o9
                 clear o9
                 by_cases oZ : ((rd_T58 l0 a1).f3) = (wrap64 (((rd_T58 l0 ((rd_T58 l0 a1).f0)).f3) + ((rd_T58 l0 ((rd_T58 l0 a1).f1)).f3)))
                 ·rw [if_pos oZ] at H
                  have c48b0 : (((rd_T58 l0 a1).f3) == (wrap64 (((rd_T58 l0 ((rd_T58 l0 a1).f0)).f3) + ((rd_T58 l0 ((rd_T58 l0 a1).f1)).f3)))) = true := qT oZ
                  have c48b1 : (((rd_T58 l0 a1).f3) != (wrap64 (((rd_T58 l0 ((rd_T58 l0 a1).f0)).f3) + ((rd_T58 l0 ((rd_T58 l0 a1).f1)).f3)))) = false := nF oZ
                  clear oZ
                  by_cases oY : ((rd_T58 l0 a1).f4) = (wrap64 (((rd_T58 l0 ((rd_T58 l0 a1).f0)).f4) + 1))
                  ·rw [if_pos oY] at H
                   have c49b0 : (((rd_T58 l0 a1).f4) == (wrap64 (((rd_T58 l0 ((rd_T58 l0 a1).f0)).f4) + 1))) = true := qT oY
                   have c49b1 : (((rd_T58 l0 a1).f4) != (wrap64 (((rd_T58 l0 ((rd_T58 l0 a1).f0)).f4) + 1))) = false := nF oY
                   clear oY
                   obtain ⟨mb, kb, H⟩ := oA_ H
                   try dsimp only at H
                   obtain rfl := sI H
                   obtain ⟨hcz51_0, hcz51_1, hcz51_2, hcz51_3, hcz51_4, hfz51_0, hfz51_1, hfz51_2, hfz51_3, hfz51_4⟩ := cc5 ba.out
                   have p110 : 0 ≤ (((rd_T58 l0 a1).f0) : Int) := oD z2
                   have q110 : ((rd_T58 l0 a1).f0) < (l0.length : Int) := oD z2
                   obtain ⟨ad110, e110, hx110_0, hx110_1, hx110_2, hx110_3, hx110_4⟩ := at_T58 cN.out ((rd_T58 l0 a1).f0) p110 q110
                   obtain rfl : ad105 = ad110 := (by injection e110)
                   replace hx110_0 := (HB.out.cell (World.block_lt_of_cell? w _ hx110_0)).trans hx110_0
                   replace hx110_1 := (HB.out.cell (World.block_lt_of_cell? w _ hx110_1)).trans hx110_1
                   replace hx110_2 := (HB.out.cell (World.block_lt_of_cell? w _ hx110_2)).trans hx110_2
                   replace hx110_3 := (HB.out.cell (World.block_lt_of_cell? w _ hx110_3)).trans hx110_3
                   replace hx110_4 := (HB.out.cell (World.block_lt_of_cell? w _ hx110_4)).trans hx110_4
                   replace p110 := eq_true p110
                   replace q110 := eq_true q110
                   have p111 : 0 ≤ (((rd_T58 l0 a1).f1) : Int) := oD z2
                   have q111 : ((rd_T58 l0 a1).f1) < (l0.length : Int) := oD z2
                   obtain ⟨ad111, e111, hx111_0, hx111_1, hx111_2, hx111_3, hx111_4⟩ := at_T58 cN.out ((rd_T58 l0 a1).f1) p111 q111
                   obtain rfl : ad105 = ad111 := (by injection e111)
                   replace hx111_0 := (HB.out.cell (World.block_lt_of_cell? w _ hx111_0)).trans hx111_0
                   replace hx111_1 := (HB.out.cell (World.block_lt_of_cell? w _ hx111_1)).trans hx111_1
                   replace hx111_2 := (HB.out.cell (World.block_lt_of_cell? w _ hx111_2)).trans hx111_2
                   replace hx111_3 := (HB.out.cell (World.block_lt_of_cell? w _ hx111_3)).trans hx111_3
                   replace hx111_4 := (HB.out.cell (World.block_lt_of_cell? w _ hx111_4)).trans hx111_4
                   replace p111 := eq_true p111
                   replace q111 := eq_true q111
                   have p116 : 0 ≤ (((rd_T58 l0 a1).f0) : Int) := oD z2
                   have q116 : ((rd_T58 l0 a1).f0) < (l0.length : Int) := oD z2
                   obtain ⟨ad116, e116, hx116_0, hx116_1, hx116_2, hx116_3, hx116_4⟩ := at_T58 cN.out ((rd_T58 l0 a1).f0) p116 q116
                   obtain rfl : ad105 = ad116 := (by injection e116)
                   replace hx116_0 := (HB.out.cell (World.block_lt_of_cell? w _ hx116_0)).trans hx116_0
                   replace hx116_1 := (HB.out.cell (World.block_lt_of_cell? w _ hx116_1)).trans hx116_1
                   replace hx116_2 := (HB.out.cell (World.block_lt_of_cell? w _ hx116_2)).trans hx116_2
                   replace hx116_3 := (HB.out.cell (World.block_lt_of_cell? w _ hx116_3)).trans hx116_3
                   replace hx116_4 := (HB.out.cell (World.block_lt_of_cell? w _ hx116_4)).trans hx116_4
                   replace p116 := eq_true p116
                   replace q116 := eq_true q116
                   have p117 : 0 ≤ (((rd_T58 l0 a1).f1) : Int) := oD z2
                   have q117 : ((rd_T58 l0 a1).f1) < (l0.length : Int) := oD z2
                   obtain ⟨ad117, e117, hx117_0, hx117_1, hx117_2, hx117_3, hx117_4⟩ := at_T58 cN.out ((rd_T58 l0 a1).f1) p117 q117
                   obtain rfl : ad105 = ad117 := (by injection e117)
                   replace hx117_0 := (HB.out.cell (World.block_lt_of_cell? w _ hx117_0)).trans hx117_0
                   replace hx117_1 := (HB.out.cell (World.block_lt_of_cell? w _ hx117_1)).trans hx117_1
                   replace hx117_2 := (HB.out.cell (World.block_lt_of_cell? w _ hx117_2)).trans hx117_2
                   replace hx117_3 := (HB.out.cell (World.block_lt_of_cell? w _ hx117_3)).trans hx117_3
                   replace hx117_4 := (HB.out.cell (World.block_lt_of_cell? w _ hx117_4)).trans hx117_4
                   replace p117 := eq_true p117
                   replace q117 := eq_true q117
                   go_wp2_with (first | (go_at_call 46; (with_reducible refine (ih kj30 (by have := fe.out; have := ig.out; have := lQ.out; omega) _ _ l0 ((rd_T58 l0 a1).f0) mb _ ?side1 ?side2 kb.out).mono ?_); (case side1 => exact y37); (case side2 => exact dy.out); rintro e w52 ⟨rfl, hb⟩; replace ba := aM (af (g := bk) (o := .cells #[.int .i64 ((rd_T58 l0 a1).f0), .int .i64 ((rd_T58 l0 a1).f1), .string ((rd_T58 l0 a1).f2), .int .i64 ((rd_T58 l0 a1).f3), .int .i64 ((rd_T58 l0 a1).f4)] 58 (0, 0)) (kB_ ba.out) hb); replace HB := aM (az (by repeat (first | (with_reducible first | exact HB.out | apply bA | apply pD | apply bD | refine ay ?_ eK.out) | exact HB.out)) hb); (try clear hb)))
                   repeat (go_quiet (fail); try go_wp2_with (first | (go_at_call 46; (with_reducible refine (ih kj30 (by have := fe.out; have := ig.out; have := lQ.out; omega) _ _ l0 ((rd_T58 l0 a1).f0) mb _ ?side1 ?side2 kb.out).mono ?_); (case side1 => exact y37); (case side2 => exact dy.out); rintro e w52 ⟨rfl, hb⟩; replace ba := aM (af (g := bk) (o := .cells #[.int .i64 ((rd_T58 l0 a1).f0), .int .i64 ((rd_T58 l0 a1).f1), .string ((rd_T58 l0 a1).f2), .int .i64 ((rd_T58 l0 a1).f3), .int .i64 ((rd_T58 l0 a1).f4)] 58 (0, 0)) (kB_ ba.out) hb); replace HB := aM (az (by repeat (first | (with_reducible first | exact HB.out | apply bA | apply pD | apply bD | refine ay ?_ eK.out) | exact HB.out)) hb); (try clear hb))))
                   go_ret
                   exact ⟨y4, y9⟩
                  ·rw [if_neg oY] at H
                   have c49b0 : (((rd_T58 l0 a1).f4) == (wrap64 (((rd_T58 l0 ((rd_T58 l0 a1).f0)).f4) + 1))) = false := qF oY
                   have c49b1 : (((rd_T58 l0 a1).f4) != (wrap64 (((rd_T58 l0 ((rd_T58 l0 a1).f0)).f4) + 1))) = true := nT oY
                   obtain rfl := sI H
                   obtain ⟨hcz53_0, hcz53_1, hcz53_2, hcz53_3, hcz53_4, hfz53_0, hfz53_1, hfz53_2, hfz53_3, hfz53_4⟩ := cc5 ba.out
                   have p110 : 0 ≤ (((rd_T58 l0 a1).f0) : Int) := oD z2
                   have q110 : ((rd_T58 l0 a1).f0) < (l0.length : Int) := oD z2
                   obtain ⟨ad110, e110, hx110_0, hx110_1, hx110_2, hx110_3, hx110_4⟩ := at_T58 cN.out ((rd_T58 l0 a1).f0) p110 q110
                   obtain rfl : ad105 = ad110 := (by injection e110)
                   replace hx110_0 := (HB.out.cell (World.block_lt_of_cell? w _ hx110_0)).trans hx110_0
                   replace hx110_1 := (HB.out.cell (World.block_lt_of_cell? w _ hx110_1)).trans hx110_1
                   replace hx110_2 := (HB.out.cell (World.block_lt_of_cell? w _ hx110_2)).trans hx110_2
                   replace hx110_3 := (HB.out.cell (World.block_lt_of_cell? w _ hx110_3)).trans hx110_3
                   replace hx110_4 := (HB.out.cell (World.block_lt_of_cell? w _ hx110_4)).trans hx110_4
                   replace p110 := eq_true p110
                   replace q110 := eq_true q110
                   have p111 : 0 ≤ (((rd_T58 l0 a1).f1) : Int) := oD z2
                   have q111 : ((rd_T58 l0 a1).f1) < (l0.length : Int) := oD z2
                   obtain ⟨ad111, e111, hx111_0, hx111_1, hx111_2, hx111_3, hx111_4⟩ := at_T58 cN.out ((rd_T58 l0 a1).f1) p111 q111
                   obtain rfl : ad105 = ad111 := (by injection e111)
                   replace hx111_0 := (HB.out.cell (World.block_lt_of_cell? w _ hx111_0)).trans hx111_0
                   replace hx111_1 := (HB.out.cell (World.block_lt_of_cell? w _ hx111_1)).trans hx111_1
                   replace hx111_2 := (HB.out.cell (World.block_lt_of_cell? w _ hx111_2)).trans hx111_2
                   replace hx111_3 := (HB.out.cell (World.block_lt_of_cell? w _ hx111_3)).trans hx111_3
                   replace hx111_4 := (HB.out.cell (World.block_lt_of_cell? w _ hx111_4)).trans hx111_4
                   replace p111 := eq_true p111
                   replace q111 := eq_true q111
                   have p116 : 0 ≤ (((rd_T58 l0 a1).f0) : Int) := oD z2
                   have q116 : ((rd_T58 l0 a1).f0) < (l0.length : Int) := oD z2
                   obtain ⟨ad116, e116, hx116_0, hx116_1, hx116_2, hx116_3, hx116_4⟩ := at_T58 cN.out ((rd_T58 l0 a1).f0) p116 q116
                   obtain rfl : ad105 = ad116 := (by injection e116)
                   replace hx116_0 := (HB.out.cell (World.block_lt_of_cell? w _ hx116_0)).trans hx116_0
                   replace hx116_1 := (HB.out.cell (World.block_lt_of_cell? w _ hx116_1)).trans hx116_1
                   replace hx116_2 := (HB.out.cell (World.block_lt_of_cell? w _ hx116_2)).trans hx116_2
                   replace hx116_3 := (HB.out.cell (World.block_lt_of_cell? w _ hx116_3)).trans hx116_3
                   replace hx116_4 := (HB.out.cell (World.block_lt_of_cell? w _ hx116_4)).trans hx116_4
                   replace p116 := eq_true p116
                   replace q116 := eq_true q116
                   have p117 : 0 ≤ (((rd_T58 l0 a1).f1) : Int) := oD z2
                   have q117 : ((rd_T58 l0 a1).f1) < (l0.length : Int) := oD z2
                   obtain ⟨ad117, e117, hx117_0, hx117_1, hx117_2, hx117_3, hx117_4⟩ := at_T58 cN.out ((rd_T58 l0 a1).f1) p117 q117
                   obtain rfl : ad105 = ad117 := (by injection e117)
                   replace hx117_0 := (HB.out.cell (World.block_lt_of_cell? w _ hx117_0)).trans hx117_0
                   replace hx117_1 := (HB.out.cell (World.block_lt_of_cell? w _ hx117_1)).trans hx117_1
                   replace hx117_2 := (HB.out.cell (World.block_lt_of_cell? w _ hx117_2)).trans hx117_2
                   replace hx117_3 := (HB.out.cell (World.block_lt_of_cell? w _ hx117_3)).trans hx117_3
                   replace hx117_4 := (HB.out.cell (World.block_lt_of_cell? w _ hx117_4)).trans hx117_4
                   replace p117 := eq_true p117
                   replace q117 := eq_true q117
                   go_wp2
                   repeat (go_quiet (fail); try go_wp2)
                   go_ret
                   exact ⟨y4, y9⟩
                 ·rw [if_neg oZ] at H
                  have c48b0 : (((rd_T58 l0 a1).f3) == (wrap64 (((rd_T58 l0 ((rd_T58 l0 a1).f0)).f3) + ((rd_T58 l0 ((rd_T58 l0 a1).f1)).f3)))) = false := qF oZ
                  have c48b1 : (((rd_T58 l0 a1).f3) != (wrap64 (((rd_T58 l0 ((rd_T58 l0 a1).f0)).f3) + ((rd_T58 l0 ((rd_T58 l0 a1).f1)).f3)))) = true := nT oZ
                  obtain rfl := sI H
                  obtain ⟨hcz54_0, hcz54_1, hcz54_2, hcz54_3, hcz54_4, hfz54_0, hfz54_1, hfz54_2, hfz54_3, hfz54_4⟩ := cc5 ba.out
                  have p110 : 0 ≤ (((rd_T58 l0 a1).f0) : Int) := oD z2
                  have q110 : ((rd_T58 l0 a1).f0) < (l0.length : Int) := oD z2
                  obtain ⟨ad110, e110, hx110_0, hx110_1, hx110_2, hx110_3, hx110_4⟩ := at_T58 cN.out ((rd_T58 l0 a1).f0) p110 q110
                  obtain rfl : ad105 = ad110 := (by injection e110)
                  replace hx110_0 := (HB.out.cell (World.block_lt_of_cell? w _ hx110_0)).trans hx110_0
                  replace hx110_1 := (HB.out.cell (World.block_lt_of_cell? w _ hx110_1)).trans hx110_1
                  replace hx110_2 := (HB.out.cell (World.block_lt_of_cell? w _ hx110_2)).trans hx110_2
                  replace hx110_3 := (HB.out.cell (World.block_lt_of_cell? w _ hx110_3)).trans hx110_3
                  replace hx110_4 := (HB.out.cell (World.block_lt_of_cell? w _ hx110_4)).trans hx110_4
                  replace p110 := eq_true p110
                  replace q110 := eq_true q110
                  have p111 : 0 ≤ (((rd_T58 l0 a1).f1) : Int) := oD z2
                  have q111 : ((rd_T58 l0 a1).f1) < (l0.length : Int) := oD z2
                  obtain ⟨ad111, e111, hx111_0, hx111_1, hx111_2, hx111_3, hx111_4⟩ := at_T58 cN.out ((rd_T58 l0 a1).f1) p111 q111
                  obtain rfl : ad105 = ad111 := (by injection e111)
                  replace hx111_0 := (HB.out.cell (World.block_lt_of_cell? w _ hx111_0)).trans hx111_0
                  replace hx111_1 := (HB.out.cell (World.block_lt_of_cell? w _ hx111_1)).trans hx111_1
                  replace hx111_2 := (HB.out.cell (World.block_lt_of_cell? w _ hx111_2)).trans hx111_2
                  replace hx111_3 := (HB.out.cell (World.block_lt_of_cell? w _ hx111_3)).trans hx111_3
                  replace hx111_4 := (HB.out.cell (World.block_lt_of_cell? w _ hx111_4)).trans hx111_4
                  replace p111 := eq_true p111
                  replace q111 := eq_true q111
                  have p116 : 0 ≤ (((rd_T58 l0 a1).f0) : Int) := oD z2
                  have q116 : ((rd_T58 l0 a1).f0) < (l0.length : Int) := oD z2
                  obtain ⟨ad116, e116, hx116_0, hx116_1, hx116_2, hx116_3, hx116_4⟩ := at_T58 cN.out ((rd_T58 l0 a1).f0) p116 q116
                  obtain rfl : ad105 = ad116 := (by injection e116)
                  replace hx116_0 := (HB.out.cell (World.block_lt_of_cell? w _ hx116_0)).trans hx116_0
                  replace hx116_1 := (HB.out.cell (World.block_lt_of_cell? w _ hx116_1)).trans hx116_1
                  replace hx116_2 := (HB.out.cell (World.block_lt_of_cell? w _ hx116_2)).trans hx116_2
                  replace hx116_3 := (HB.out.cell (World.block_lt_of_cell? w _ hx116_3)).trans hx116_3
                  replace hx116_4 := (HB.out.cell (World.block_lt_of_cell? w _ hx116_4)).trans hx116_4
                  replace p116 := eq_true p116
                  replace q116 := eq_true q116
                  have p117 : 0 ≤ (((rd_T58 l0 a1).f1) : Int) := oD z2
                  have q117 : ((rd_T58 l0 a1).f1) < (l0.length : Int) := oD z2
                  obtain ⟨ad117, e117, hx117_0, hx117_1, hx117_2, hx117_3, hx117_4⟩ := at_T58 cN.out ((rd_T58 l0 a1).f1) p117 q117
                  obtain rfl : ad105 = ad117 := (by injection e117)
                  replace hx117_0 := (HB.out.cell (World.block_lt_of_cell? w _ hx117_0)).trans hx117_0
                  replace hx117_1 := (HB.out.cell (World.block_lt_of_cell? w _ hx117_1)).trans hx117_1
                  replace hx117_2 := (HB.out.cell (World.block_lt_of_cell? w _ hx117_2)).trans hx117_2
                  replace hx117_3 := (HB.out.cell (World.block_lt_of_cell? w _ hx117_3)).trans hx117_3
                  replace hx117_4 := (HB.out.cell (World.block_lt_of_cell? w _ hx117_4)).trans hx117_4
                  replace p117 := eq_true p117
                  replace q117 := eq_true q117
                  go_wp2
                  repeat (go_quiet (fail); try go_wp2)
                  go_ret
                  exact ⟨y4, y9⟩
               ·rw [if_neg ni] at H
                exact absurd H (by simp)
              ·rw [if_neg nj] at H
               exact absurd H (by simp)
             ·rw [if_neg nk] at H
              exact absurd H (by simp)
            ·rw [if_neg nl] at H
             exact absurd H (by simp)
  ·rw [if_neg c4] at H
   exact absurd H (by simp)
 ·rw [if_neg c3] at H
  exact absurd H (by simp)

end Go.Proofs.Ytmkenlejdaphnaa.AFnBalanced
