-- this session's own text: written by wip/tools/ownprint.py over the kit's print
import Derived.Test.YtblnnbaeiggmoaaAFnSplitx0
import Derived.Test.YtblnnbaeiggmoaaAFnSplitx1
import Derived.Test.YtblnnbaeiggmoaaAFnSplitx2
namespace Go.Proofs.Ytblnnbaeiggmoaa.AFnSplit
open Go.RowKit Go.Proofs.YtblnnbaeiggmoaaW.PrintWords Go.Proofs.YtblnnbaeiggmoaaW.PrintLast Go.Proofs.YtblnnbaeiggmoaaW.PrintMore
attribute [local go_sem] max2_int min2_int max_two min_two max_three min_three max_four min_four   -- for this text's walks alone
set_option linter.unusedVariables false
set_option linter.unusedSimpArgs false

/-! ### spec_GoodRope: function 24 -/
def spec_GoodRope.f (k : Nat) (l0_0 : List (S101)) : Option (Bool) := if (l0_0.length : Int) = 0 then (some true) else (if (l0_0.length : Int) ≤ 200 then ((spec_l12First.f k l0_0 (wrap64 ((l0_0.length : Int) - 1))).bind fun kR => (if kR = 0 then (if 0 ≤ (wrap64 ((l0_0.length : Int) - 1)) then (if (wrap64 ((l0_0.length : Int) - 1)) < (l0_0.length : Int) then (some (decide (((rd_T101 l0_0 (wrap64 ((l0_0.length : Int) - 1))).f3) ≤ 300))) else (none)) else (none)) else (some false))) else (some false))
theorem spec_GoodRope.mono : ∀ a0 k, LeO (spec_GoodRope.f k a0) (spec_GoodRope.f (k + 1) a0) := by
 intro a0 k
 unfold spec_GoodRope.f
 repeat' first
   | (with_reducible exact spec_l12First.mono _ _ _)
   | (with_reducible exact LeO.refl _)
   | (with_reducible exact LeO.none _)
   | (with_reducible refine LeO.ite ?_ ?_)
   | (with_reducible refine LeO.bind ?_ (fun _ => ?_))
set_option maxHeartbeats 8000000 in
set_option maxRecDepth 100000 in
theorem spec_GoodRope.calls (k : Nat) (cL : Option Addr) (cM : Nat) (l0_0 : List (S101)) (r : Bool) (w : World) (hr0_0 : Kd.C k101 w cL l0_0.length l0_0) (hc0_0 : l0_0.length ≤ cM) (h : spec_GoodRope.f k l0_0 = some r) :
  Calls Try.prog 24 #[.agg #[.slice cL l0_0.length cM]] w fun e w' => e = .returned (.bool r) ∧ Below w.heap.size w w' := by
 have hu30 := Try.underlying30
 have rh := aM hr0_0
 have sF := aM hc0_0
 clear hr0_0 hc0_0
 have HB := aM (Below.refl w.heap.size w)
 have H : (if (l0_0.length : Int) = 0 then (some true) else (if (l0_0.length : Int) ≤ 200 then ((spec_l12First.f k l0_0 (wrap64 ((l0_0.length : Int) - 1))).bind fun kR => (if kR = 0 then (if 0 ≤ (wrap64 ((l0_0.length : Int) - 1)) then (if (wrap64 ((l0_0.length : Int) - 1)) < (l0_0.length : Int) then (some (decide (((rd_T101 l0_0 (wrap64 ((l0_0.length : Int) - 1))).f3) ≤ 300))) else (none)) else (none)) else (some false))) else (some false))) = some r := h
 clear h
 by_cases c2 : (l0_0.length : Int) = 0
 ·rw [if_pos c2] at H
  have c2b0 : ((l0_0.length : Int) == 0) = true := qT c2
  have c2b1 : ((l0_0.length : Int) != 0) = false := nF c2
  clear c2
  obtain rfl := sI H
  go_enter Try.func24, Try.ntmps24
  go_wp2_with (first | ((with_reducible refine aN (N := 1) rfl ?_); refine aQ ?hg (N := 1) ?hd (cs := #[.slice cL l0_0.length cM]) (t := 30) ?hr ?_; (case hd => rfl); (case hg => rfl); (case hr => first | (go_simp; done) | (go_simp; rfl)); intro gi hg w3 hbox hb; have ga := aM (hbox); have rl := aM ((by rw [hg]; exact (aC z32) : w.heap.size ≤ gi)); have jI := aM ((by rw [hg]; exact (aC z32) : w.heap.size ≤ gi)); replace HB := aM (aA z32 hb); clear hb hbox hg; obtain ⟨hcz4_0, hfz4_0⟩ := cc1 ga.out))
  go_ret
  exact ⟨y4, by repeat (first | (with_reducible first | exact HB.out | apply bA | apply pD | apply bD | refine az ?_ jI.out) | exact HB.out)⟩
 ·rw [if_neg c2] at H
  have c2b0 : ((l0_0.length : Int) == 0) = false := qF c2
  have c2b1 : ((l0_0.length : Int) != 0) = true := nT c2
  have c2b2 : ¬ (l0_0 = []) := fun h_ => c2 (by rw [h_]; rfl)
  by_cases c5 : (l0_0.length : Int) ≤ 200
  ·rw [if_pos c5] at H
   have c5b0 : decide ((l0_0.length : Int) ≤ 200) = true := dT c5
   have c5b1 : decide (l0_0.length ≤ 200) = true := dT (by omega)
   clear c5
   obtain ⟨kR, A6, H⟩ := oA_ H
   try dsimp only at H
   by_cases c7 : kR = 0
   ·rw [if_pos c7] at H
    have c7b0 : (kR == 0) = true := qT c7
    have c7b1 : (kR != 0) = false := nF c7
    clear c7
    obtain ⟨qk, qP⟩ : ∃ j_ : Int, (wrap64 ((l0_0.length : Int) - 1)) = j_ := ⟨_, rfl⟩
    replace H : (if 0 ≤ (qk) then (if (qk) < (l0_0.length : Int) then (some (decide (((rd_T101 l0_0 (qk)).f3) ≤ 300))) else (none)) else (none)) = some r := by first | (rw [qP] at H; exact H) | (simp only [qP] at H ⊢; exact H)
    (try rw [qP] at A6)
    have hji8w : (IntKind.i64.wrap ((l0_0.length : Int) - 1)) = qk := (i64_w _).trans qP
    by_cases c9 : 0 ≤ (qk)
    ·rw [if_pos c9] at H
     have c9b0 : decide (0 ≤ (qk)) = true := dT c9
     clear c9
     by_cases fo : (qk) < (l0_0.length : Int)
     ·rw [if_pos fo] at H
      have c10b0 : decide ((qk) < (l0_0.length : Int)) = true := dT fo
      clear fo
      obtain rfl := sI H
      go_enter Try.func24, Try.ntmps24
      go_wp2_with (first | ((with_reducible refine aN (N := 1) rfl ?_); refine aQ ?hg (N := 1) ?hd (cs := #[.slice cL l0_0.length cM]) (t := 30) ?hr ?_; (case hd => rfl); (case hg => rfl); (case hr => first | (go_simp; done) | (go_simp; rfl)); intro gi hg w11 hbox hb; have ga := aM (hbox); have rl := aM ((by rw [hg]; exact (aC z32) : w.heap.size ≤ gi)); have jI := aM ((by rw [hg]; exact (aC z32) : w.heap.size ≤ gi)); replace HB := aM (aA z32 hb); clear hb hbox hg; obtain ⟨ng, mR⟩ := cc1 ga.out) | (go_at_call 59; (with_reducible refine (spec_l12First.calls k _ _ l0_0 qk kR _ ?side1 ?side2 A6.out).mono ?_); (case side1 => exact y40); (case side2 => exact sF.out); rintro e w13 ⟨rfl, hb⟩; replace ga := aM (af (g := gi) (o := .cells #[.slice cL l0_0.length cM] 30 (0, 0)) (kB_ ga.out) hb); replace HB := aM (aA (by repeat (first | (with_reducible first | exact HB.out | apply bA | apply pD | apply bD | refine az ?_ jI.out) | exact HB.out)) hb); (try clear hb); obtain ⟨hcz14_0, hfz14_0⟩ := cc1 ga.out; have p119 : 0 ≤ ((qk) : Int) := oD z3; have q119 : (qk) < (l0_0.length : Int) := oD z3; obtain ⟨ad119, e119, hx119_0, hx119_1, hx119_2, hx119_3, hx119_4⟩ := at_T101 rh.out (qk) p119 q119; cases e119; replace hx119_0 := (HB.out.cell (World.block_lt_of_cell? w _ hx119_0)).trans hx119_0; replace hx119_1 := (HB.out.cell (World.block_lt_of_cell? w _ hx119_1)).trans hx119_1; replace hx119_2 := (HB.out.cell (World.block_lt_of_cell? w _ hx119_2)).trans hx119_2; replace hx119_3 := (HB.out.cell (World.block_lt_of_cell? w _ hx119_3)).trans hx119_3; replace hx119_4 := (HB.out.cell (World.block_lt_of_cell? w _ hx119_4)).trans hx119_4; replace p119 := eq_true p119; replace q119 := eq_true q119))
      go_ret
      exact ⟨by first | rfl | (simp [errW_none, errW_some] <;> rfl) | (simp only [← qP]; first | rfl | (simp [errW_none, errW_some] <;> rfl)) | (simp [*, errW_none, errW_some] <;> rfl), by repeat (first | (with_reducible first | exact HB.out | apply bA | apply pD | apply bD | refine az ?_ jI.out) | exact HB.out)⟩
     ·rw [if_neg fo] at H
      exact absurd H (by simp)
    ·rw [if_neg c9] at H
     exact absurd H (by simp)
   ·rw [if_neg c7] at H
    have c7b0 : (kR == 0) = false := qF c7
    have c7b1 : (kR != 0) = true := nT c7
    obtain rfl := sI H
    go_enter Try.func24, Try.ntmps24
    go_wp2_with (first | ((with_reducible refine aN (N := 1) rfl ?_); refine aQ ?hg (N := 1) ?hd (cs := #[.slice cL l0_0.length cM]) (t := 30) ?hr ?_; (case hd => rfl); (case hg => rfl); (case hr => first | (go_simp; done) | (go_simp; rfl)); intro gi hg w15 hbox hb; have ga := aM (hbox); have rl := aM ((by rw [hg]; exact (aC z32) : w.heap.size ≤ gi)); have jI := aM ((by rw [hg]; exact (aC z32) : w.heap.size ≤ gi)); replace HB := aM (aA z32 hb); clear hb hbox hg; obtain ⟨hcz16_0, hfz16_0⟩ := cc1 ga.out) | (go_at_call 59; (with_reducible refine (spec_l12First.calls k _ _ l0_0 (wrap64 ((l0_0.length : Int) - 1)) kR _ ?side1 ?side2 A6.out).mono ?_); (case side1 => exact y40); (case side2 => exact sF.out); rintro e w17 ⟨rfl, hb⟩; replace ga := aM (af (g := gi) (o := .cells #[.slice cL l0_0.length cM] 30 (0, 0)) (kB_ ga.out) hb); replace HB := aM (aA (by repeat (first | (with_reducible first | exact HB.out | apply bA | apply pD | apply bD | refine az ?_ jI.out) | exact HB.out)) hb); (try clear hb)))
    go_ret
    exact ⟨y4, by repeat (first | (with_reducible first | exact HB.out | apply bA | apply pD | apply bD | refine az ?_ jI.out) | exact HB.out)⟩
  ·rw [if_neg c5] at H
   have c5b0 : decide ((l0_0.length : Int) ≤ 200) = false := dF c5
   have c5b1 : decide (l0_0.length ≤ 200) = false := dF (by omega)
   clear c5
   obtain rfl := sI H
   go_enter Try.func24, Try.ntmps24
   go_wp2_with (first | ((with_reducible refine aN (N := 1) rfl ?_); refine aQ ?hg (N := 1) ?hd (cs := #[.slice cL l0_0.length cM]) (t := 30) ?hr ?_; (case hd => rfl); (case hg => rfl); (case hr => first | (go_simp; done) | (go_simp; rfl)); intro gi hg w18 hbox hb; have ga := aM (hbox); have rl := aM ((by rw [hg]; exact (aC z32) : w.heap.size ≤ gi)); have jI := aM ((by rw [hg]; exact (aC z32) : w.heap.size ≤ gi)); replace HB := aM (aA z32 hb); clear hb hbox hg; obtain ⟨iU, iR⟩ := cc1 ga.out))
   go_ret
   exact ⟨y4, by repeat (first | (with_reducible first | exact HB.out | apply bA | apply pD | apply bD | refine az ?_ jI.out) | exact HB.out)⟩

/-! ### spec_GoodText: function 78 -/
def spec_GoodText.f (k : Nat) (a0 : ByteArray) : Option (Bool) := (spec_l1Text.f k a0).bind fun qL => (if qL = true then (some (decide ((a0.size : Int) ≤ 300))) else (some false))
theorem spec_GoodText.mono : ∀ a0 k, LeO (spec_GoodText.f k a0) (spec_GoodText.f (k + 1) a0) := by
 intro a0 k
 unfold spec_GoodText.f
 repeat' first
   | (with_reducible exact spec_l1Text.mono _ _)
   | (with_reducible exact LeO.refl _)
   | (with_reducible exact LeO.none _)
   | (with_reducible refine LeO.ite ?_ ?_)
   | (with_reducible refine LeO.bind ?_ (fun _ => ?_))
set_option maxHeartbeats 8000000 in
set_option maxRecDepth 100000 in
theorem spec_GoodText.calls (k : Nat) (a0 : ByteArray) (r : Bool) (w : World) (h : spec_GoodText.f k a0 = some r) :
  Calls Try.prog 78 #[.string a0] w fun e w' => e = .returned (.bool r) ∧ Drawn0 w w' := by
 have H : ((spec_l1Text.f k a0).bind fun qL => (if qL = true then (some (decide ((a0.size : Int) ≤ 300))) else (some false))) = some r := h
 clear h
 obtain ⟨qL, A2, H⟩ := oA_ H
 try dsimp only at H
 by_cases c3 : qL = true
 ·subst c3
  rw [if_pos rfl] at H
  obtain rfl := sI H
  go_enter Try.func78, Try.ntmps78
  go_wp2_with (first | ((with_reducible refine aK (f := 77) rfl ?_); refine aT (some 4) rfl rfl Try.func77 z1 rfl #[.string a0] rfl z33 ?_; (with_reducible refine (spec_l1Text.calls k a0 true _ A2.out).mono ?_); rintro e w' ⟨rfl, ⟨nd, rfl⟩⟩; refine ⟨_, rfl, ?_⟩))
  go_ret
  exact ⟨y1, y3⟩
 ·replace c3 := Bool.eq_false_iff.mpr c3
  subst c3
  rw [if_neg nF_] at H
  obtain rfl := sI H
  go_enter Try.func78, Try.ntmps78
  go_wp2_with (first | ((with_reducible refine aK (f := 77) rfl ?_); refine aT (some 4) rfl rfl Try.func77 z1 rfl #[.string a0] rfl z33 ?_; (with_reducible refine (spec_l1Text.calls k a0 false _ A2.out).mono ?_); rintro e w' ⟨rfl, ⟨nd, rfl⟩⟩; refine ⟨_, rfl, ?_⟩))
  go_ret
  exact ⟨y1, y3⟩

/-! ### spec_l3Part: function 60 -/
def spec_l3Part.f (k : Nat) (a0_0 : Int) (a0_1 : ByteArray) (a0_2 : ByteArray) : Option (Bool) := if a0_0 = 0 then (if a0_1.toList = ([] : List UInt8) then (if a0_2.toList = ([] : List UInt8) then (some false) else ((spec_GoodText.f k a0_2).bind fun qK => (some qK))) else (if a0_2.toList = ([] : List UInt8) then ((spec_GoodText.f k a0_1).bind fun qJ => (some qJ)) else (some false))) else ((spec_l1In.f a0_0 1 300).bind fun qI => (if qI = true then (if a0_1.toList = ([] : List UInt8) then (some (a0_2.toList == ([] : List UInt8))) else (some false)) else (some false)))
theorem spec_l3Part.mono : ∀ a0 a1 a2 k, LeO (spec_l3Part.f k a0 a1 a2) (spec_l3Part.f (k + 1) a0 a1 a2) := by
 intro a0 a1 a2 k
 unfold spec_l3Part.f
 repeat' first
   | (with_reducible exact spec_GoodText.mono _ _)
   | (with_reducible exact LeO.refl _)
   | (with_reducible exact LeO.none _)
   | (with_reducible refine LeO.ite ?_ ?_)
   | (with_reducible refine LeO.bind ?_ (fun _ => ?_))
set_option maxHeartbeats 8000000 in
set_option maxRecDepth 100000 in
theorem spec_l3Part.calls (k : Nat) (a0_0 : Int) (a0_1 : ByteArray) (a0_2 : ByteArray) (r : Bool) (w : World) (h : spec_l3Part.f k a0_0 a0_1 a0_2 = some r) :
  Calls Try.prog 60 #[.agg #[.int .i64 a0_0, .string a0_1, .string a0_2]] w fun e w' => e = .returned (.bool r) ∧ Below w.heap.size w w' := by
 have hu59 := Try.underlying59
 have HB := aM (Below.refl w.heap.size w)
 have H : (if a0_0 = 0 then (if a0_1.toList = ([] : List UInt8) then (if a0_2.toList = ([] : List UInt8) then (some false) else ((spec_GoodText.f k a0_2).bind fun qK => (some qK))) else (if a0_2.toList = ([] : List UInt8) then ((spec_GoodText.f k a0_1).bind fun qJ => (some qJ)) else (some false))) else ((spec_l1In.f a0_0 1 300).bind fun qI => (if qI = true then (if a0_1.toList = ([] : List UInt8) then (some (a0_2.toList == ([] : List UInt8))) else (some false)) else (some false)))) = some r := h
 clear h
 by_cases c2 : a0_0 = 0
 ·rw [if_pos c2] at H
  have c2b0 : (a0_0 == 0) = true := qT c2
  have c2b1 : (a0_0 != 0) = false := nF c2
  clear c2
  by_cases c3 : a0_1.toList = ([] : List UInt8)
  ·rw [if_pos c3] at H
   have c3b0 : (a0_1.toList == ([] : List UInt8)) = true := qT c3
   have c3b1 : (a0_1.toList != ([] : List UInt8)) = false := nF c3
   clear c3
   by_cases c4 : a0_2.toList = ([] : List UInt8)
   ·rw [if_pos c4] at H
    have c4b0 : (a0_2.toList == ([] : List UInt8)) = true := qT c4
    have c4b1 : (a0_2.toList != ([] : List UInt8)) = false := nF c4
    clear c4
    obtain rfl := sI H
    go_enter Try.func60, Try.ntmps60
    go_wp2_with (first | ((with_reducible refine aN (N := 1) rfl ?_); refine aQ ?hg (N := 1) ?hd (cs := #[.int .i64 a0_0, .string a0_1, .string a0_2]) (t := 59) ?hr ?_; (case hd => rfl); (case hg => rfl); (case hr => first | (go_simp; done) | (go_simp; rfl)); intro dj hg w5 hbox hb; have cZ := aM (hbox); have mo := aM ((by rw [hg]; exact (aC z32) : w.heap.size ≤ dj)); have mq := aM ((by rw [hg]; exact (aC z32) : w.heap.size ≤ dj)); replace HB := aM (aA z32 hb); clear hb hbox hg; obtain ⟨lh, mY, mX, mJ, mI, mH⟩ := cc3 cZ.out))
    all_goals (try (exfalso; rename_i h_; rw [c3b0] at h_; cases h_; done))
    all_goals (try (exfalso; rename_i h_; rw [c4b0] at h_; cases h_; done))
    go_ret
    exact ⟨y4, y9⟩
   ·rw [if_neg c4] at H
    have c4b0 : (a0_2.toList == ([] : List UInt8)) = false := qF c4
    have c4b1 : (a0_2.toList != ([] : List UInt8)) = true := nT c4
    obtain ⟨qK, A7, H⟩ := oA_ H
    try dsimp only at H
    obtain rfl := sI H
    go_enter Try.func60, Try.ntmps60
    go_wp2_with (first | ((with_reducible refine aN (N := 1) rfl ?_); refine aQ ?hg (N := 1) ?hd (cs := #[.int .i64 a0_0, .string a0_1, .string a0_2]) (t := 59) ?hr ?_; (case hd => rfl); (case hg => rfl); (case hr => first | (go_simp; done) | (go_simp; rfl)); intro dj hg w8 hbox hb; have cZ := aM (hbox); have mo := aM ((by rw [hg]; exact (aC z32) : w.heap.size ≤ dj)); have mq := aM ((by rw [hg]; exact (aC z32) : w.heap.size ≤ dj)); replace HB := aM (aA z32 hb); clear hb hbox hg; obtain ⟨jc, jb, ja, jT, i9, i7⟩ := cc3 cZ.out) | (go_at_call 78; (with_reducible refine (spec_GoodText.calls k a0_2 qK _ A7.out).mono ?_); rintro e w' ⟨rfl, ⟨nd, rfl⟩⟩))
    all_goals (try (exfalso; rename_i h_; rw [c3b0] at h_; cases h_; done))
    all_goals (try (exfalso; rename_i h_; rw [c4b0] at h_; cases h_; done))
    go_ret
    exact ⟨y4, y9⟩
  ·rw [if_neg c3] at H
   have c3b0 : (a0_1.toList == ([] : List UInt8)) = false := qF c3
   have c3b1 : (a0_1.toList != ([] : List UInt8)) = true := nT c3
   by_cases fo : a0_2.toList = ([] : List UInt8)
   ·rw [if_pos fo] at H
    have c10b0 : (a0_2.toList == ([] : List UInt8)) = true := qT fo
    have c10b1 : (a0_2.toList != ([] : List UInt8)) = false := nF fo
    clear fo
    obtain ⟨qJ, ua, H⟩ := oA_ H
    try dsimp only at H
    obtain rfl := sI H
    go_enter Try.func60, Try.ntmps60
    go_wp2_with (first | ((with_reducible refine aN (N := 1) rfl ?_); refine aQ ?hg (N := 1) ?hd (cs := #[.int .i64 a0_0, .string a0_1, .string a0_2]) (t := 59) ?hr ?_; (case hd => rfl); (case hg => rfl); (case hr => first | (go_simp; done) | (go_simp; rfl)); intro dj hg w12 hbox hb; have cZ := aM (hbox); have mo := aM ((by rw [hg]; exact (aC z32) : w.heap.size ≤ dj)); have mq := aM ((by rw [hg]; exact (aC z32) : w.heap.size ≤ dj)); replace HB := aM (aA z32 hb); clear hb hbox hg; obtain ⟨pK, hcz13_1, hcz13_2, pa, hfz13_1, hfz13_2⟩ := cc3 cZ.out) | (go_at_call 78; (with_reducible refine (spec_GoodText.calls k a0_1 qJ _ ua.out).mono ?_); rintro e w' ⟨rfl, ⟨nd, rfl⟩⟩))
    all_goals (try (exfalso; rename_i h_; rw [c3b0] at h_; cases h_; done))
    all_goals (try (exfalso; rename_i h_; rw [c10b0] at h_; cases h_; done))
    go_ret
    exact ⟨y4, y9⟩
   ·rw [if_neg fo] at H
    have c10b0 : (a0_2.toList == ([] : List UInt8)) = false := qF fo
    have c10b1 : (a0_2.toList != ([] : List UInt8)) = true := nT fo
    obtain rfl := sI H
    go_enter Try.func60, Try.ntmps60
    go_wp2_with (first | ((with_reducible refine aN (N := 1) rfl ?_); refine aQ ?hg (N := 1) ?hd (cs := #[.int .i64 a0_0, .string a0_1, .string a0_2]) (t := 59) ?hr ?_; (case hd => rfl); (case hg => rfl); (case hr => first | (go_simp; done) | (go_simp; rfl)); intro dj hg w14 hbox hb; have cZ := aM (hbox); have mo := aM ((by rw [hg]; exact (aC z32) : w.heap.size ≤ dj)); have mq := aM ((by rw [hg]; exact (aC z32) : w.heap.size ≤ dj)); replace HB := aM (aA z32 hb); clear hb hbox hg; obtain ⟨kG, kF, kE, ku, kt, ks⟩ := cc3 cZ.out))
    all_goals (try (exfalso; rename_i h_; rw [c3b0] at h_; cases h_; done))
    all_goals (try (exfalso; rename_i h_; rw [c10b0] at h_; cases h_; done))
    go_ret
    exact ⟨y4, y9⟩
 ·rw [if_neg c2] at H
  have c2b0 : (a0_0 == 0) = false := qF c2
  have c2b1 : (a0_0 != 0) = true := nT c2
  obtain ⟨qI, vM, H⟩ := oA_ H
  try dsimp only at H
  by_cases gA : qI = true
  ·subst gA
   rw [if_pos rfl] at H
   by_cases hH : a0_1.toList = ([] : List UInt8)
   ·rw [if_pos hH] at H
    have c18b0 : (a0_1.toList == ([] : List UInt8)) = true := qT hH
    have c18b1 : (a0_1.toList != ([] : List UInt8)) = false := nF hH
    clear hH
    obtain rfl := sI H
    go_enter Try.func60, Try.ntmps60
    go_wp2_with (first | ((with_reducible refine aN (N := 1) rfl ?_); refine aQ ?hg (N := 1) ?hd (cs := #[.int .i64 a0_0, .string a0_1, .string a0_2]) (t := 59) ?hr ?_; (case hd => rfl); (case hg => rfl); (case hr => first | (go_simp; done) | (go_simp; rfl)); intro dj hg w19 hbox hb; have cZ := aM (hbox); have mo := aM ((by rw [hg]; exact (aC z32) : w.heap.size ≤ dj)); have mq := aM ((by rw [hg]; exact (aC z32) : w.heap.size ≤ dj)); replace HB := aM (aA z32 hb); clear hb hbox hg; obtain ⟨kC, kB, kz, kp, ko, kn⟩ := cc3 cZ.out) | ((with_reducible refine aK (f := 49) rfl ?_); refine aT (some 9) rfl rfl Try.func49 z1 rfl #[.int .i64 a0_0, .int .i64 1, .int .i64 300] rfl z33 ?_; (with_reducible refine (spec_l1In.calls a0_0 1 300 true _ vM.out).mono ?_); rintro e w' ⟨rfl, ⟨nd, rfl⟩⟩; refine ⟨_, rfl, ?_⟩))
    all_goals (try (exfalso; rename_i h_; rw [c18b0] at h_; cases h_; done))
    go_ret
    exact ⟨y4, y9⟩
   ·rw [if_neg hH] at H
    have c18b0 : (a0_1.toList == ([] : List UInt8)) = false := qF hH
    have c18b1 : (a0_1.toList != ([] : List UInt8)) = true := nT hH
    obtain rfl := sI H
    go_enter Try.func60, Try.ntmps60
    go_wp2_with (first | ((with_reducible refine aN (N := 1) rfl ?_); refine aQ ?hg (N := 1) ?hd (cs := #[.int .i64 a0_0, .string a0_1, .string a0_2]) (t := 59) ?hr ?_; (case hd => rfl); (case hg => rfl); (case hr => first | (go_simp; done) | (go_simp; rfl)); intro dj hg w21 hbox hb; have cZ := aM (hbox); have mo := aM ((by rw [hg]; exact (aC z32) : w.heap.size ≤ dj)); have mq := aM ((by rw [hg]; exact (aC z32) : w.heap.size ≤ dj)); replace HB := aM (aA z32 hb); clear hb hbox hg; obtain ⟨iT, kx, kw, iQ, kk, kj⟩ := cc3 cZ.out) | ((with_reducible refine aK (f := 49) rfl ?_); refine aT (some 9) rfl rfl Try.func49 z1 rfl #[.int .i64 a0_0, .int .i64 1, .int .i64 300] rfl z33 ?_; (with_reducible refine (spec_l1In.calls a0_0 1 300 true _ vM.out).mono ?_); rintro e w' ⟨rfl, ⟨nd, rfl⟩⟩; refine ⟨_, rfl, ?_⟩))
    all_goals (try (exfalso; rename_i h_; rw [c18b0] at h_; cases h_; done))
    go_ret
    exact ⟨y4, y9⟩
  ·replace gA := Bool.eq_false_iff.mpr gA
   subst gA
   rw [if_neg nF_] at H
   obtain rfl := sI H
   go_enter Try.func60, Try.ntmps60
   go_wp2_with (first | ((with_reducible refine aN (N := 1) rfl ?_); refine aQ ?hg (N := 1) ?hd (cs := #[.int .i64 a0_0, .string a0_1, .string a0_2]) (t := 59) ?hr ?_; (case hd => rfl); (case hg => rfl); (case hr => first | (go_simp; done) | (go_simp; rfl)); intro dj hg w23 hbox hb; have cZ := aM (hbox); have mo := aM ((by rw [hg]; exact (aC z32) : w.heap.size ≤ dj)); have mq := aM ((by rw [hg]; exact (aC z32) : w.heap.size ≤ dj)); replace HB := aM (aA z32 hb); clear hb hbox hg; obtain ⟨hcz24_0, hcz24_1, hcz24_2, hfz24_0, hfz24_1, hfz24_2⟩ := cc3 cZ.out) | ((with_reducible refine aK (f := 49) rfl ?_); refine aT (some 9) rfl rfl Try.func49 z1 rfl #[.int .i64 a0_0, .int .i64 1, .int .i64 300] rfl z33 ?_; (with_reducible refine (spec_l1In.calls a0_0 1 300 false _ vM.out).mono ?_); rintro e w' ⟨rfl, ⟨nd, rfl⟩⟩; refine ⟨_, rfl, ?_⟩))
   go_ret
   exact ⟨y4, y9⟩

/-! ### spec_l3Sizes: function 61 -/
def spec_l3Sizes.l0 : Nat → Int → Int → List (S59) → Int → Int → Option (Int × Int)
 | 0, _, _, _, _, _ => none
 | k + 1, x4, x5, x8, x9, x10 => if x10 < x9 then (if 0 ≤ x10 then (if x10 < (x8.length : Int) then (spec_l3Sizes.l0 k (wrap64 (x4 + (wrap64 (((rd_T59 x8 x10).f0) + (((rd_T59 x8 x10).f2).size : Int))))) (wrap64 (x5 + (wrap64 (((rd_T59 x8 x10).f0) + (((rd_T59 x8 x10).f1).size : Int))))) x8 x9 (wrap64 (x10 + 1))) else (none)) else (none)) else (some (x4, x5))
def spec_l3Sizes.f (k : Nat) (l0 : List (S59)) : Option (Int × Int) := spec_l3Sizes.l0 k 0 0 l0 (l0.length : Int) 0
theorem spec_l3Sizes.mono_l : ∀ k, (∀ y0 y1 y2 y3 y4, LeO (spec_l3Sizes.l0 k y0 y1 y2 y3 y4) (spec_l3Sizes.l0 (k + 1) y0 y1 y2 y3 y4))
 | 0 => fun _ _ _ _ _ r h => by simp [spec_l3Sizes.l0] at h
 | k + 1 => by
  have ih0 := spec_l3Sizes.mono_l k
  ·intro y0 y1 y2 y3 y4
   unfold spec_l3Sizes.l0
   repeat' first
   | (with_reducible exact ih0 _ _ _ _ _)
   | (with_reducible exact LeO.refl _)
   | (with_reducible exact LeO.none _)
   | (with_reducible refine LeO.ite ?_ ?_)
   | (with_reducible refine LeO.bind ?_ (fun _ => ?_))
theorem spec_l3Sizes.mono : ∀ a0 k, LeO (spec_l3Sizes.f k a0) (spec_l3Sizes.f (k + 1) a0) := by
 intro a0 k
 have ih0 := spec_l3Sizes.mono_l k
 unfold spec_l3Sizes.f
 repeat' first
   | (with_reducible exact ih0 _ _ _ _ _)
   | (with_reducible exact LeO.refl _)
   | (with_reducible exact LeO.none _)
   | (with_reducible refine LeO.ite ?_ ?_)
   | (with_reducible refine LeO.bind ?_ (fun _ => ?_))
set_option maxHeartbeats 8000000 in
set_option maxRecDepth 100000 in
theorem spec_l3Sizes.calls (k : Nat) (A0 : Option Addr) (c0 : Nat) (l0 : List (S59)) (r1 : Int) (r2 : Int) (w : World) (hr0 : Kd.C k59 w A0 l0.length l0) (hc0 : l0.length ≤ c0) (h : spec_l3Sizes.f k l0 = some (r1, r2)) :
  Calls Try.prog 61 #[.slice A0 l0.length c0] w fun e w' => e = .returned (.tuple #[.int .i64 r1, .int .i64 r2]) ∧ Below w.heap.size w w' := by
 have hu59 := Try.underlying59
 have dY := aM hr0
 have en := aM hc0
 clear hr0 hc0
 have HB := aM (Below.refl w.heap.size w)
 have H : (spec_l3Sizes.l0 k 0 0 l0 (l0.length : Int) 0) = some (r1, r2) := h
 clear h
 have H' := aM H
 clear H
 go_enter Try.func61, Try.ntmps61
 go_wp2
 go_loopg [4, 5, 10] k (fun kq v4 v5 v10 w' => ∃ (x4_1 : Int) (x5_1 : Int) (x10_1 : Int), v4 = .int .i64 x4_1 ∧ v5 = .int .i64 x5_1 ∧ v10 = .int .i64 x10_1 ∧ Aside0 (spec_l3Sizes.l0 kq x4_1 x5_1 l0 (l0.length : Int) x10_1 = some (r1, r2)) ∧ Aside0 (kq ≤ k) ∧ Aside0 (Below w.heap.size w w'))
 case atStart => exact ⟨(0), (0), (0), z2, z2, z2, H', ⟨Nat.le_refl _⟩, ⟨y5⟩⟩
 case round =>
  clear H'
  obtain ⟨x4_1, x5_1, x10_1, rfl, rfl, rfl, HA, HK1, HB⟩ := hrel
  cases gk with
  | zero => exact absurd HA.out (by simp [spec_l3Sizes.l0])
  | succ k1 =>
   have H := HA.out
   clear HA
   simp only [spec_l3Sizes.l0] at H
   by_cases c2 : x10_1 < (l0.length : Int)
   ·rw [if_pos c2] at H
    have c2b0 : decide (x10_1 < (l0.length : Int)) = true := dT c2
    clear c2
    by_cases c3 : 0 ≤ x10_1
    ·rw [if_pos c3] at H
     have c3b0 : decide (0 ≤ x10_1) = true := dT c3
     clear c3
     by_cases c4 : x10_1 < (l0.length : Int)
     ·rw [if_pos c4] at H
      have c4b0 : decide (x10_1 < (l0.length : Int)) = true := dT c4
      clear c4
      have H' := aM H
      clear H
      have p125 : 0 ≤ (x10_1 : Int) := oD z3
      have q125 : x10_1 < (l0.length : Int) := oD z3
      obtain ⟨ad125, e125, hx125_0, hx125_1, hx125_2⟩ := at_T59 dY.out x10_1 p125 q125
      cases e125
      replace hx125_0 := (HB.out.cell (World.block_lt_of_cell? w _ hx125_0)).trans hx125_0
      replace hx125_1 := (HB.out.cell (World.block_lt_of_cell? w _ hx125_1)).trans hx125_1
      replace hx125_2 := (HB.out.cell (World.block_lt_of_cell? w _ hx125_2)).trans hx125_2
      replace p125 := eq_true p125
      replace q125 := eq_true q125
      go_wp2_with (first | ((with_reducible refine aN (N := 7) rfl ?_); refine aQ ?hg (N := 7) ?hd (cs := #[.int .i64 0, .string ⟨#[]⟩, .string ⟨#[]⟩]) (t := 59) ?hr ?_; (case hd => rfl); (case hg => rfl); (case hr => first | (go_simp; done) | (go_simp; rfl)); intro nC hg w5 hbox hb; have mt := aM (hbox); have GW126 := aM ((by rw [hg]; exact (aC z32) : w.heap.size ≤ nC)); have GE126 := aM ((by rw [hg]; exact (aC z32) : w.heap.size ≤ nC)); replace HB := aM (aA z32 hb); clear hb hbox hg; obtain ⟨lh, mY, mX, mJ, mI, mH⟩ := cc3 mt.out))
      go_roundg k1
      case measure => have := HK1.out; omega
      case rel => exact ⟨(wrap64 (x4_1 + (wrap64 (((rd_T59 l0 x10_1).f0) + (((rd_T59 l0 x10_1).f2).size : Int))))), (wrap64 (x5_1 + (wrap64 (((rd_T59 l0 x10_1).f0) + (((rd_T59 l0 x10_1).f1).size : Int))))), (wrap64 (x10_1 + 1)), z2, z2, z2, H', ⟨y0⟩, ⟨by repeat (first | (with_reducible first | exact HB.out | apply bA | apply pD | apply bD | refine az ?_ GE126.out) | exact HB.out)⟩⟩
     ·rw [if_neg c4] at H
      exact absurd H (by simp)
    ·rw [if_neg c3] at H
     exact absurd H (by simp)
   ·rw [if_neg c2] at H
    have c2b0 : decide (x10_1 < (l0.length : Int)) = false := dF c2
    clear c2
    simp only [Option.some.injEq, Prod.mk.injEq] at H
    obtain ⟨rfl, rfl⟩ := H
    go_wp2
    go_ret2
    exact ⟨y4, y5⟩

/-! ### spec_GoodOp: function 25 -/
def spec_GoodOp.l0 : Nat → List (S59) → List (S59) → Int → Int → Option (Bool)
 | 0, _, _, _, _ => none
 | k + 1, x0, x10, x11, x12 => if x12 < x11 then (if 0 ≤ x12 then (if x12 < (x10.length : Int) then ((spec_l3Part.f k ((rd_T59 x10 x12).f0) ((rd_T59 x10 x12).f1) ((rd_T59 x10 x12).f2)).bind fun tF => (if tF = true then (spec_GoodOp.l0 k x0 x10 x11 (wrap64 (x12 + 1))) else (some false))) else (none)) else (none)) else ((spec_l3Sizes.f k x0).bind fun sv => (if sv.1 ≤ 300 then (some (decide (sv.2 ≤ 300))) else (some false)))
def spec_GoodOp.f (k : Nat) (l0 : List (S59)) : Option (Bool) := if (l0.length : Int) > 60 then (some false) else (spec_GoodOp.l0 k l0 l0 (l0.length : Int) 0)
theorem spec_GoodOp.mono_l : ∀ k, (∀ y0 y1 y2 y3, LeO (spec_GoodOp.l0 k y0 y1 y2 y3) (spec_GoodOp.l0 (k + 1) y0 y1 y2 y3))
 | 0 => fun _ _ _ _ r h => by simp [spec_GoodOp.l0] at h
 | k + 1 => by
  have ih0 := spec_GoodOp.mono_l k
  ·intro y0 y1 y2 y3
   unfold spec_GoodOp.l0
   repeat' first
   | (with_reducible exact ih0 _ _ _ _)
   | (with_reducible exact spec_l3Part.mono _ _ _ _)
   | (with_reducible exact spec_l3Sizes.mono _ _)
   | (with_reducible exact LeO.refl _)
   | (with_reducible exact LeO.none _)
   | (with_reducible refine LeO.ite ?_ ?_)
   | (with_reducible refine LeO.bind ?_ (fun _ => ?_))
theorem spec_GoodOp.mono : ∀ a0 k, LeO (spec_GoodOp.f k a0) (spec_GoodOp.f (k + 1) a0) := by
 intro a0 k
 have ih0 := spec_GoodOp.mono_l k
 unfold spec_GoodOp.f
 repeat' first
   | (with_reducible exact ih0 _ _ _ _)
   | (with_reducible exact spec_l3Part.mono _ _ _ _)
   | (with_reducible exact spec_l3Sizes.mono _ _)
   | (with_reducible exact LeO.refl _)
   | (with_reducible exact LeO.none _)
   | (with_reducible refine LeO.ite ?_ ?_)
   | (with_reducible refine LeO.bind ?_ (fun _ => ?_))
set_option maxHeartbeats 8000000 in
set_option maxRecDepth 100000 in
theorem spec_GoodOp.calls (k : Nat) (A0 : Option Addr) (c0 : Nat) (l0 : List (S59)) (r : Bool) (w : World) (hr0 : Kd.C k59 w A0 l0.length l0) (hc0 : l0.length ≤ c0) (h : spec_GoodOp.f k l0 = some r) :
  Calls Try.prog 25 #[.slice A0 l0.length c0] w fun e w' => e = .returned (.bool r) ∧ Below w.heap.size w w' := by
 have hu59 := Try.underlying59
 have dY := aM hr0
 have en := aM hc0
 clear hr0 hc0
 have HB := aM (Below.refl w.heap.size w)
 have H : (if (l0.length : Int) > 60 then (some false) else (spec_GoodOp.l0 k l0 l0 (l0.length : Int) 0)) = some r := h
 clear h
 by_cases c2 : (l0.length : Int) > 60
 ·rw [if_pos c2] at H
  have c2b0 : decide (60 < (l0.length : Int)) = true := dT c2
  have c2b1 : decide (60 < l0.length) = true := dT (by omega)
  clear c2
  obtain rfl := sI H
  go_enter Try.func25, Try.ntmps25
  go_wp2
  go_ret
  exact ⟨y4, y5⟩
 ·rw [if_neg c2] at H
  have c2b0 : decide (60 < (l0.length : Int)) = false := dF c2
  have c2b1 : decide (60 < l0.length) = false := dF (by omega)
  clear c2
  have H' := aM H
  clear H
  go_enter Try.func25, Try.ntmps25
  go_wp2
  go_loopg [12] k (fun kq v12 w' => ∃ (x12_1 : Int), v12 = .int .i64 x12_1 ∧ Aside0 (spec_GoodOp.l0 kq l0 l0 (l0.length : Int) x12_1 = some r) ∧ Aside0 (kq ≤ k) ∧ Aside0 (Below w.heap.size w w'))
  case atStart => exact ⟨(0), z2, H', ⟨Nat.le_refl _⟩, ⟨y5⟩⟩
  case round =>
   clear H'
   try clear c2
   try clear c2b0
   try clear c2b1
   obtain ⟨x12_1, rfl, HA, HK1, HB⟩ := hrel
   cases gk with
   | zero => exact absurd HA.out (by simp [spec_GoodOp.l0])
   | succ k1 =>
    have H := HA.out
    clear HA
    simp only [spec_GoodOp.l0] at H
    by_cases c3 : x12_1 < (l0.length : Int)
    ·rw [if_pos c3] at H
     have c3b0 : decide (x12_1 < (l0.length : Int)) = true := dT c3
     clear c3
     by_cases c4 : 0 ≤ x12_1
     ·rw [if_pos c4] at H
      have c4b0 : decide (0 ≤ x12_1) = true := dT c4
      clear c4
      by_cases c5 : x12_1 < (l0.length : Int)
      ·rw [if_pos c5] at H
       have c5b0 : decide (x12_1 < (l0.length : Int)) = true := dT c5
       clear c5
       obtain ⟨tF, A6, H⟩ := oA_ H
       try dsimp only at H
       by_cases c7 : tF = true
       ·subst c7
        rw [if_pos rfl] at H
        have H' := aM H
        clear H
        have p127 : 0 ≤ (x12_1 : Int) := oD z3
        have q127 : x12_1 < (l0.length : Int) := oD z3
        obtain ⟨ad127, e127, hx127_0, hx127_1, hx127_2⟩ := at_T59 dY.out x12_1 p127 q127
        cases e127
        replace hx127_0 := (HB.out.cell (World.block_lt_of_cell? w _ hx127_0)).trans hx127_0
        replace hx127_1 := (HB.out.cell (World.block_lt_of_cell? w _ hx127_1)).trans hx127_1
        replace hx127_2 := (HB.out.cell (World.block_lt_of_cell? w _ hx127_2)).trans hx127_2
        replace p127 := eq_true p127
        replace q127 := eq_true q127
        go_wp2_with (first | ((with_reducible refine aN (N := 4) rfl ?_); refine aQ ?hg (N := 4) ?hd (cs := #[.int .i64 0, .string ⟨#[]⟩, .string ⟨#[]⟩]) (t := 59) ?hr ?_; (case hd => rfl); (case hg => rfl); (case hr => first | (go_simp; done) | (go_simp; rfl)); intro hG hg w8 hbox hb; have f9 := aM (hbox); have GW128 := aM ((by rw [hg]; exact (aC z32) : w.heap.size ≤ hG)); have oe := aM ((by rw [hg]; exact (aC z32) : w.heap.size ≤ hG)); replace HB := aM (aA z32 hb); clear hb hbox hg; obtain ⟨jc, jb, ja, jT, i9, i7⟩ := cc3 f9.out) | ((with_reducible refine aK (f := 60) rfl ?_); refine aT (some 17) rfl rfl Try.func60 z1 rfl #[.agg #[.int .i64 ((rd_T59 l0 x12_1).f0), .string ((rd_T59 l0 x12_1).f1), .string ((rd_T59 l0 x12_1).f2)]] rfl z33 ?_; (with_reducible refine (spec_l3Part.calls k1 ((rd_T59 l0 x12_1).f0) ((rd_T59 l0 x12_1).f1) ((rd_T59 l0 x12_1).f2) true _ A6.out).mono ?_); rintro e w10 ⟨rfl, hb⟩; refine ⟨_, rfl, ?_⟩; replace f9 := aM (af (g := hG) (o := .cells #[.int .i64 ((rd_T59 l0 x12_1).f0), .string ((rd_T59 l0 x12_1).f1), .string ((rd_T59 l0 x12_1).f2)] 59 (0, 0)) (by (with_reducible repeat (first | refine au ?_ _ | refine ar ?_ | refine av ?_ _)); refine ax (cs := #[.int .i64 ((rd_T59 l0 x12_1).f0), .string ((rd_T59 l0 x12_1).f1), .string ⟨#[]⟩]) ?_ 2 _ rfl; (with_reducible repeat (first | refine au ?_ _ | refine ar ?_ | refine av ?_ _)); refine ax (cs := #[.int .i64 ((rd_T59 l0 x12_1).f0), .string ⟨#[]⟩, .string ⟨#[]⟩]) ?_ 1 _ rfl; (with_reducible repeat (first | refine au ?_ _ | refine ar ?_ | refine av ?_ _)); refine ax (cs := #[.int .i64 0, .string ⟨#[]⟩, .string ⟨#[]⟩]) ?_ 0 _ rfl; (with_reducible repeat (first | refine au ?_ _ | refine ar ?_ | refine av ?_ _)); exact f9.out) hb); replace HB := aM (aA (by repeat (first | (with_reducible first | exact HB.out | apply bA | apply pD | apply bD | refine az ?_ oe.out) | exact HB.out)) hb); (try clear hb)))
        go_roundg k1
        case measure => have := HK1.out; omega
        case rel => exact ⟨(wrap64 (x12_1 + 1)), z2, H', ⟨y0⟩, ⟨by repeat (first | (with_reducible first | exact HB.out | apply bA | apply pD | apply bD | refine az ?_ oe.out) | exact HB.out)⟩⟩
       ·replace c7 := Bool.eq_false_iff.mpr c7
        subst c7
        rw [if_neg nF_] at H
        obtain rfl := sI H
        have p127 : 0 ≤ (x12_1 : Int) := oD z3
        have q127 : x12_1 < (l0.length : Int) := oD z3
        obtain ⟨ad127, e127, hx127_0, hx127_1, hx127_2⟩ := at_T59 dY.out x12_1 p127 q127
        cases e127
        replace hx127_0 := (HB.out.cell (World.block_lt_of_cell? w _ hx127_0)).trans hx127_0
        replace hx127_1 := (HB.out.cell (World.block_lt_of_cell? w _ hx127_1)).trans hx127_1
        replace hx127_2 := (HB.out.cell (World.block_lt_of_cell? w _ hx127_2)).trans hx127_2
        replace p127 := eq_true p127
        replace q127 := eq_true q127
        go_wp2_with (first | ((with_reducible refine aN (N := 4) rfl ?_); refine aQ ?hg (N := 4) ?hd (cs := #[.int .i64 0, .string ⟨#[]⟩, .string ⟨#[]⟩]) (t := 59) ?hr ?_; (case hd => rfl); (case hg => rfl); (case hr => first | (go_simp; done) | (go_simp; rfl)); intro hG hg w11 hbox hb; have f9 := aM (hbox); have GW128 := aM ((by rw [hg]; exact (aC z32) : w.heap.size ≤ hG)); have oe := aM ((by rw [hg]; exact (aC z32) : w.heap.size ≤ hG)); replace HB := aM (aA z32 hb); clear hb hbox hg; obtain ⟨ng, hcz12_1, hcz12_2, mR, hfz12_1, hfz12_2⟩ := cc3 f9.out) | ((with_reducible refine aK (f := 60) rfl ?_); refine aT (some 17) rfl rfl Try.func60 z1 rfl #[.agg #[.int .i64 ((rd_T59 l0 x12_1).f0), .string ((rd_T59 l0 x12_1).f1), .string ((rd_T59 l0 x12_1).f2)]] rfl z33 ?_; (with_reducible refine (spec_l3Part.calls k1 ((rd_T59 l0 x12_1).f0) ((rd_T59 l0 x12_1).f1) ((rd_T59 l0 x12_1).f2) false _ A6.out).mono ?_); rintro e w13 ⟨rfl, hb⟩; refine ⟨_, rfl, ?_⟩; replace f9 := aM (af (g := hG) (o := .cells #[.int .i64 ((rd_T59 l0 x12_1).f0), .string ((rd_T59 l0 x12_1).f1), .string ((rd_T59 l0 x12_1).f2)] 59 (0, 0)) (by (with_reducible repeat (first | refine au ?_ _ | refine ar ?_ | refine av ?_ _)); refine ax (cs := #[.int .i64 ((rd_T59 l0 x12_1).f0), .string ((rd_T59 l0 x12_1).f1), .string ⟨#[]⟩]) ?_ 2 _ rfl; (with_reducible repeat (first | refine au ?_ _ | refine ar ?_ | refine av ?_ _)); refine ax (cs := #[.int .i64 ((rd_T59 l0 x12_1).f0), .string ⟨#[]⟩, .string ⟨#[]⟩]) ?_ 1 _ rfl; (with_reducible repeat (first | refine au ?_ _ | refine ar ?_ | refine av ?_ _)); refine ax (cs := #[.int .i64 0, .string ⟨#[]⟩, .string ⟨#[]⟩]) ?_ 0 _ rfl; (with_reducible repeat (first | refine au ?_ _ | refine ar ?_ | refine av ?_ _)); exact f9.out) hb); replace HB := aM (aA (by repeat (first | (with_reducible first | exact HB.out | apply bA | apply pD | apply bD | refine az ?_ oe.out) | exact HB.out)) hb); (try clear hb)))
        go_ret
        exact ⟨y4, by repeat (first | (with_reducible first | exact HB.out | apply bA | apply pD | apply bD | refine az ?_ oe.out) | exact HB.out)⟩
      ·rw [if_neg c5] at H
       exact absurd H (by simp)
     ·rw [if_neg c4] at H
      exact absurd H (by simp)
    ·rw [if_neg c3] at H
     have c3b0 : decide (x12_1 < (l0.length : Int)) = false := dF c3
     clear c3
     obtain ⟨⟨qH, vn⟩, iP, H⟩ := oA_ H
     try dsimp only at H
     by_cases gn : qH ≤ 300
     ·rw [if_pos gn] at H
      have c15b0 : decide (qH ≤ 300) = true := dT gn
      clear gn
      obtain rfl := sI H
      go_wp2_with (first | ((with_reducible refine aK (f := 61) rfl ?_); refine aT (some 22) rfl rfl Try.func61 z1 rfl #[.slice A0 l0.length c0] rfl z33 ?_; (with_reducible refine (spec_l3Sizes.calls k1 _ _ l0 qH vn _ ?side1 ?side2 iP.out).mono ?_); (case side1 => exact y38); (case side2 => exact en.out); rintro e w16 ⟨rfl, hb⟩; refine ⟨_, rfl, ?_⟩; replace HB := aM (aA z32 hb); (try clear hb)))
      go_ret
      exact ⟨y4, y5⟩
     ·rw [if_neg gn] at H
      have c15b0 : decide (qH ≤ 300) = false := dF gn
      clear gn
      obtain rfl := sI H
      go_wp2_with (first | ((with_reducible refine aK (f := 61) rfl ?_); refine aT (some 22) rfl rfl Try.func61 z1 rfl #[.slice A0 l0.length c0] rfl z33 ?_; (with_reducible refine (spec_l3Sizes.calls k1 _ _ l0 qH vn _ ?side1 ?side2 iP.out).mono ?_); (case side1 => exact y38); (case side2 => exact en.out); rintro e w17 ⟨rfl, hb⟩; refine ⟨_, rfl, ?_⟩; replace HB := aM (aA z32 hb); (try clear hb)))
      go_ret
      exact ⟨y4, y5⟩

end Go.Proofs.Ytblnnbaeiggmoaa.AFnSplit
