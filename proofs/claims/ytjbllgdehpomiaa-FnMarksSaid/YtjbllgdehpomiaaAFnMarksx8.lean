-- this session's own text: written by wip/tools/ownprint.py over the kit's print
import Derived.Laws.Cover1
import Derived.Test.YtjbllgdehpomiaaAFnMarksx0
import Derived.Test.YtjbllgdehpomiaaAFnMarksx5
import Derived.Test.YtjbllgdehpomiaaAFnMarksx3
namespace Go.Proofs.Ytjbllgdehpomiaa.AFnMarks
open Go.RowKit Go.Proofs.YtjbllgdehpomiaaW.PrintWords Go.Proofs.YtjbllgdehpomiaaW.PrintLast Go.Proofs.YtjbllgdehpomiaaW.PrintMore
attribute [local go_sem] max2_int min2_int max_two min_two max_three min_three max_four min_four   -- for this text's walks alone
set_option linter.unusedVariables false
set_option maxHeartbeats 8000000
set_option maxRecDepth 100000
set_option linter.unusedSimpArgs false
/-! ### spec_GoodMarks: function 25 -/
def spec_GoodMarks.l0 : Nat → List (S34) → Int → List (S34) → Int → Int → Option (Bool)
 | 0, _, _, _, _, _ => none
 | k + 1, x0, x1, x7, x8, x9 => if x9 < x8 then (if 0 ≤ x9 then (if x9 < (x7.length : Int) then ((spec_l5Mark.f k ((so x7 x9).f0) ((so x7 x9).f1) ((so x7 x9).f2) x1).bind fun qm => (if qm = true then (if x9 > 0 then (if 0 ≤ (wrap64 (x9 - 1)) then (if (wrap64 (x9 - 1)) < (x0.length : Int) then (if (Op.bytesLess (((so x7 x9).f2).toList) (((so x0 (wrap64 (x9 - 1))).f2).toList)) = true then (some false) else (if ((so x0 (wrap64 (x9 - 1))).f2).toList = ((so x7 x9).f2).toList then (if ((so x0 (wrap64 (x9 - 1))).f1) ≥ ((so x7 x9).f0) then (some false) else (spec_GoodMarks.l0 k x0 x1 x7 x8 (wrap64 (x9 + 1)))) else (spec_GoodMarks.l0 k x0 x1 x7 x8 (wrap64 (x9 + 1))))) else (none)) else (none)) else (spec_GoodMarks.l0 k x0 x1 x7 x8 (wrap64 (x9 + 1)))) else (some false))) else (none)) else (none)) else (if (x0.length : Int) ≤ 40 then ((spec_l1In.f x1 0 300).bind fun ov => (some ov)) else (some false))
def spec_GoodMarks.f (k : Nat) (l0 : List (S34)) (a1 : Int) : Option (Bool) := spec_GoodMarks.l0 k l0 a1 l0 (l0.length : Int) 0
theorem spec_GoodMarks.mono_l : ∀ k, (∀ y0 y1 y2 y3 y4, LeO (spec_GoodMarks.l0 k y0 y1 y2 y3 y4) (spec_GoodMarks.l0 (k + 1) y0 y1 y2 y3 y4))
 | 0 => fun _ _ _ _ _ r h => by simp [spec_GoodMarks.l0] at h
 | k + 1 => by
  have ih0 := spec_GoodMarks.mono_l k
  ·intro y0 y1 y2 y3 y4
   unfold spec_GoodMarks.l0
   with_reducible repeat' first | exact ih0 _ _ _ _ _ | exact spec_l5Mark.mono _ _ _ _ _ | exact lR_ _ | exact lN_ _ | refine lI_ ?_ ?_ | refine lB_ ?_ fun _ => ?_
theorem spec_GoodMarks.mono : ∀ a0 a1 k, LeO (spec_GoodMarks.f k a0 a1) (spec_GoodMarks.f (k + 1) a0 a1) := by
 intro a0 a1 k
 have ih0 := spec_GoodMarks.mono_l k
 unfold spec_GoodMarks.f
 with_reducible repeat' first | exact ih0 _ _ _ _ _ | exact spec_l5Mark.mono _ _ _ _ _ | exact lR_ _ | exact lN_ _ | refine lI_ ?_ ?_ | refine lB_ ?_ fun _ => ?_
theorem spec_GoodMarks.calls (k : Nat) (A0 : Option Addr) (c0 : Nat) (l0 : List (S34)) (a1 : Int) (r : Bool) (w : World) (hr0 : Kd.C k34 w A0 l0.length l0) (hc0 : l0.length ≤ c0) (h : spec_GoodMarks.f k l0 a1 = some r) :
  Calls Try.prog 25 #[.slice A0 l0.length c0, .int .i64 a1] w fun e w' => e = .returned (.bool r) ∧ Below w.heap.size w w' := by
 have hu34 := Try.underlying34
 have bH := aM hr0
 have cH := aM hc0
 clear hr0 hc0
 have HB := aM (Below.refl w.heap.size w)
 have H : (spec_GoodMarks.l0 k l0 a1 l0 (l0.length : Int) 0) = some r := h
 clear h
 have H' := aM H
 clear H
 go_enter Try.func25, Try.ntmps25
 go_wp2
 repeat (go_quiet (fail); try go_wp2)
 go_loopg [9] k (fun kq v9 w' => ∃ (x9_1 : Int), v9 = .int .i64 x9_1 ∧ Aside0 (spec_GoodMarks.l0 kq l0 a1 l0 (l0.length : Int) x9_1 = some r) ∧ Aside0 (kq ≤ k) ∧ Aside0 (Below w.heap.size w w'))
 case atStart => exact ⟨(0), z1, H', ⟨Nat.le_refl _⟩, ⟨y6⟩⟩
 case round =>
  clear H'
  obtain ⟨x9_1, rfl, HA, HK1, HB⟩ := hrel
  cases gk with
  | zero => exact absurd HA.out (by simp [spec_GoodMarks.l0])
  | succ k1 =>
   have H := HA.out
   clear HA
   simp only [spec_GoodMarks.l0] at H
   by_cases c3 : x9_1 < (l0.length : Int)
   ·rw [if_pos c3] at H
    have c3b0 : decide (x9_1 < (l0.length : Int)) = true := dT c3
    clear c3
    by_cases c4 : 0 ≤ x9_1
    ·rw [if_pos c4] at H
     have c4b0 : decide (0 ≤ x9_1) = true := dT c4
     clear c4
     by_cases c5 : x9_1 < (l0.length : Int)
     ·rw [if_pos c5] at H
      have c5b0 : decide (x9_1 < (l0.length : Int)) = true := dT c5
      clear c5
      obtain ⟨qm, A6, H⟩ := oA_ H
      try dsimp only at H
      by_cases c7 : qm = true
      ·subst c7
       rw [if_pos rfl] at H
       by_cases c8 : x9_1 > 0
       ·rw [if_pos c8] at H
        have c8b0 : decide (0 < x9_1) = true := dT c8
        clear c8
        obtain ⟨bp, ep⟩ : ∃ j_ : Int, (wrap64 (x9_1 - 1)) = j_ := ⟨_, rfl⟩
        replace H : (if 0 ≤ (bp) then (if (bp) < (l0.length : Int) then (if (Op.bytesLess (((so l0 x9_1).f2).toList) (((so l0 (bp)).f2).toList)) = true then (some false) else (if ((so l0 (bp)).f2).toList = ((so l0 x9_1).f2).toList then (if ((so l0 (bp)).f1) ≥ ((so l0 x9_1).f0) then (some false) else (spec_GoodMarks.l0 k1 l0 a1 l0 (l0.length : Int) (wrap64 (x9_1 + 1)))) else (spec_GoodMarks.l0 k1 l0 a1 l0 (l0.length : Int) (wrap64 (x9_1 + 1))))) else (none)) else (none)) = some r := by first | (rw [ep] at H; exact H) | (simp only [ep] at H ⊢; exact H)
        (try rw [ep] at A6)
        have hji9w : (IntKind.i64.wrap (x9_1 - 1)) = bp := (i64_w _).trans ep
        by_cases cq : 0 ≤ (bp)
        ·rw [if_pos cq] at H
         have c10b0 : decide (0 ≤ (bp)) = true := dT cq
         clear cq
         by_cases b4 : (bp) < (l0.length : Int)
         ·rw [if_pos b4] at H
          have c11b0 : decide ((bp) < (l0.length : Int)) = true := dT b4
          clear b4
          by_cases bT : (Op.bytesLess (((so l0 x9_1).f2).toList) (((so l0 (bp)).f2).toList)) = true
          ·rw [if_pos bT] at H
           have c12b0 : (Op.bytesLess (((so l0 x9_1).f2).toList) (((so l0 (bp)).f2).toList)) = true := bT
           have c12g1 := bl_asym c12b0
           have c12g2 := bl_ne c12b0
           have c12g3 := bl_ne' c12b0
           have c12g4 := qF c12g2
           have c12g5 := qF c12g3
           clear bT
           obtain rfl := sI H
           have p268 : 0 ≤ (x9_1 : Int) := oD z2
           have q268 : x9_1 < (l0.length : Int) := oD z2
           obtain ⟨ad268, e268, hx268_0, hx268_1, hx268_2⟩ := at_T34 bH.out x9_1 p268 q268
           cases e268
           replace hx268_0 := hC_ HB.out hx268_0
           replace hx268_1 := hC_ HB.out hx268_1
           replace hx268_2 := hC_ HB.out hx268_2
           replace p268 := eq_true p268
           replace q268 := eq_true q268
           go_wp2_with (first | ((with_reducible refine ay (N := 6) rfl ?_); refine bE_ (N := 6) (cs := #[.int .i64 0, .int .i64 0, .string ⟨#[]⟩]) (t := 34) (h := ?_); intro aT hg w13 hbox hb; have aQ := aM (hbox); have dS := aM ((zg_ : w.heap.size ≤ aT)); have dU := aM ((zg_ : w.heap.size ≤ aT)); replace HB := aM (ap z9 hb); clear hb hbox hg; obtain ⟨cz, cy, cx, cw, cv, cu⟩ := cc3 aQ.out) | (go_at_call 32; (with_reducible refine (spec_l5Mark.calls k1 ((so l0 x9_1).f0) ((so l0 x9_1).f1) ((so l0 x9_1).f2) a1 true _ A6.out).mono ?_); rintro e w15 ⟨rfl, hb⟩; replace aQ := aM (ae (g := aT) (o := .cells #[.int .i64 ((so l0 x9_1).f0), .int .i64 ((so l0 x9_1).f1), .string ((so l0 x9_1).f2)] 34 (0, 0)) z21 hb); replace HB := aM (ap z12 hb); (try clear hb); have p271 : 0 ≤ ((bp) : Int) := oD z2; have q271 : (bp) < (l0.length : Int) := oD z2; obtain ⟨ad271, e271, hx271_0, hx271_1, hx271_2⟩ := at_T34 bH.out (bp) p271 q271; obtain rfl : ad268 = ad271 := (by injection e271); replace hx271_0 := hC_ HB.out hx271_0; replace hx271_1 := hC_ HB.out hx271_1; replace hx271_2 := hC_ HB.out hx271_2; replace p271 := eq_true p271; replace q271 := eq_true q271; obtain ⟨jg, jf, je, i6, i5, i4⟩ := cc3 aQ.out))
           repeat (go_quiet (fail); try go_wp2_with (first | ((with_reducible refine ay (N := 6) rfl ?_); refine bE_ (N := 6) (cs := #[.int .i64 0, .int .i64 0, .string ⟨#[]⟩]) (t := 34) (h := ?_); intro aT hg w13 hbox hb; have aQ := aM (hbox); have dS := aM ((zg_ : w.heap.size ≤ aT)); have dU := aM ((zg_ : w.heap.size ≤ aT)); replace HB := aM (ap z9 hb); clear hb hbox hg; obtain ⟨cz, cy, cx, cw, cv, cu⟩ := cc3 aQ.out) | (go_at_call 32; (with_reducible refine (spec_l5Mark.calls k1 ((so l0 x9_1).f0) ((so l0 x9_1).f1) ((so l0 x9_1).f2) a1 true _ A6.out).mono ?_); rintro e w15 ⟨rfl, hb⟩; replace aQ := aM (ae (g := aT) (o := .cells #[.int .i64 ((so l0 x9_1).f0), .int .i64 ((so l0 x9_1).f1), .string ((so l0 x9_1).f2)] 34 (0, 0)) z21 hb); replace HB := aM (ap z12 hb); (try clear hb); have p271 : 0 ≤ ((bp) : Int) := oD z2; have q271 : (bp) < (l0.length : Int) := oD z2; obtain ⟨ad271, e271, hx271_0, hx271_1, hx271_2⟩ := at_T34 bH.out (bp) p271 q271; obtain rfl : ad268 = ad271 := (by injection e271); replace hx271_0 := hC_ HB.out hx271_0; replace hx271_1 := hC_ HB.out hx271_1; replace hx271_2 := hC_ HB.out hx271_2; replace p271 := eq_true p271; replace q271 := eq_true q271; obtain ⟨jg, jf, je, i6, i5, i4⟩ := cc3 aQ.out)))
           go_ret
           exact ⟨by first | rfl | (simp [errW_none, errW_some] <;> rfl) | (simp only [← ep]; first | rfl | (simp [errW_none, errW_some] <;> rfl)) | (simp [*, errW_none, errW_some] <;> rfl), y25⟩
          ·rw [if_neg bT] at H
           have c12b0 : (Op.bytesLess (((so l0 x9_1).f2).toList) (((so l0 (bp)).f2).toList)) = false := by simpa using bT
           have c12g6 := bl_or c12b0
           have c12g7 := bl_or2 c12b0
           clear bT
           by_cases cA : ((so l0 (bp)).f2).toList = ((so l0 x9_1).f2).toList
           ·rw [if_pos cA] at H
            have c17b0 : (((so l0 (bp)).f2).toList == ((so l0 x9_1).f2).toList) = true := qT cA
            have c17g1 := bl_eq1 c17b0
            have c17b1 : (((so l0 (bp)).f2).toList != ((so l0 x9_1).f2).toList) = false := nF cA
            clear cA
            by_cases cJ : ((so l0 (bp)).f1) ≥ ((so l0 x9_1).f0)
            ·rw [if_pos cJ] at H
             have c18b0 : decide (((so l0 x9_1).f0) ≤ ((so l0 (bp)).f1)) = true := dT cJ
             clear cJ
             obtain rfl := sI H
             have p268 : 0 ≤ (x9_1 : Int) := oD z2
             have q268 : x9_1 < (l0.length : Int) := oD z2
             obtain ⟨ad268, e268, hx268_0, hx268_1, hx268_2⟩ := at_T34 bH.out x9_1 p268 q268
             cases e268
             replace hx268_0 := hC_ HB.out hx268_0
             replace hx268_1 := hC_ HB.out hx268_1
             replace hx268_2 := hC_ HB.out hx268_2
             replace p268 := eq_true p268
             replace q268 := eq_true q268
             go_wp2_with (first | ((with_reducible refine ay (N := 6) rfl ?_); refine bE_ (N := 6) (cs := #[.int .i64 0, .int .i64 0, .string ⟨#[]⟩]) (t := 34) (h := ?_); intro aT hg w19 hbox hb; have aQ := aM (hbox); have dS := aM ((zg_ : w.heap.size ≤ aT)); have dU := aM ((zg_ : w.heap.size ≤ aT)); replace HB := aM (ap z9 hb); clear hb hbox hg; obtain ⟨eg, ef, ee, d7, d6, d5⟩ := cc3 aQ.out) | (go_at_call 32; (with_reducible refine (spec_l5Mark.calls k1 ((so l0 x9_1).f0) ((so l0 x9_1).f1) ((so l0 x9_1).f2) a1 true _ A6.out).mono ?_); rintro e w21 ⟨rfl, hb⟩; replace aQ := aM (ae (g := aT) (o := .cells #[.int .i64 ((so l0 x9_1).f0), .int .i64 ((so l0 x9_1).f1), .string ((so l0 x9_1).f2)] 34 (0, 0)) z21 hb); replace HB := aM (ap z12 hb); (try clear hb); have p271 : 0 ≤ ((bp) : Int) := oD z2; have q271 : (bp) < (l0.length : Int) := oD z2; obtain ⟨ad271, e271, hx271_0, hx271_1, hx271_2⟩ := at_T34 bH.out (bp) p271 q271; obtain rfl : ad268 = ad271 := (by injection e271); replace hx271_0 := hC_ HB.out hx271_0; replace hx271_1 := hC_ HB.out hx271_1; replace hx271_2 := hC_ HB.out hx271_2; replace p271 := eq_true p271; replace q271 := eq_true q271; obtain ⟨dN, dM, dL, dK, dJ, dI⟩ := cc3 aQ.out; have p272 : 0 ≤ ((bp) : Int) := oD z2; have q272 : (bp) < (l0.length : Int) := oD z2; obtain ⟨ad272, e272, hx272_0, hx272_1, hx272_2⟩ := at_T34 bH.out (bp) p272 q272; obtain rfl : ad268 = ad272 := (by injection e272); replace hx272_0 := hC_ HB.out hx272_0; replace hx272_1 := hC_ HB.out hx272_1; replace hx272_2 := hC_ HB.out hx272_2; replace p272 := eq_true p272; replace q272 := eq_true q272; have p273 : 0 ≤ ((bp) : Int) := oD z2; have q273 : (bp) < (l0.length : Int) := oD z2; obtain ⟨ad273, e273, hx273_0, hx273_1, hx273_2⟩ := at_T34 bH.out (bp) p273 q273; obtain rfl : ad268 = ad273 := (by injection e273); replace hx273_0 := hC_ HB.out hx273_0; replace hx273_1 := hC_ HB.out hx273_1; replace hx273_2 := hC_ HB.out hx273_2; replace p273 := eq_true p273; replace q273 := eq_true q273))
             all_goals (try (exfalso; rename_i h_; rw [c17b0] at h_; cases h_; done))
             repeat (go_quiet (fail); try go_wp2_with (first | ((with_reducible refine ay (N := 6) rfl ?_); refine bE_ (N := 6) (cs := #[.int .i64 0, .int .i64 0, .string ⟨#[]⟩]) (t := 34) (h := ?_); intro aT hg w19 hbox hb; have aQ := aM (hbox); have dS := aM ((zg_ : w.heap.size ≤ aT)); have dU := aM ((zg_ : w.heap.size ≤ aT)); replace HB := aM (ap z9 hb); clear hb hbox hg; obtain ⟨eg, ef, ee, d7, d6, d5⟩ := cc3 aQ.out) | (go_at_call 32; (with_reducible refine (spec_l5Mark.calls k1 ((so l0 x9_1).f0) ((so l0 x9_1).f1) ((so l0 x9_1).f2) a1 true _ A6.out).mono ?_); rintro e w21 ⟨rfl, hb⟩; replace aQ := aM (ae (g := aT) (o := .cells #[.int .i64 ((so l0 x9_1).f0), .int .i64 ((so l0 x9_1).f1), .string ((so l0 x9_1).f2)] 34 (0, 0)) z21 hb); replace HB := aM (ap z12 hb); (try clear hb); have p271 : 0 ≤ ((bp) : Int) := oD z2; have q271 : (bp) < (l0.length : Int) := oD z2; obtain ⟨ad271, e271, hx271_0, hx271_1, hx271_2⟩ := at_T34 bH.out (bp) p271 q271; obtain rfl : ad268 = ad271 := (by injection e271); replace hx271_0 := hC_ HB.out hx271_0; replace hx271_1 := hC_ HB.out hx271_1; replace hx271_2 := hC_ HB.out hx271_2; replace p271 := eq_true p271; replace q271 := eq_true q271; obtain ⟨dN, dM, dL, dK, dJ, dI⟩ := cc3 aQ.out; have p272 : 0 ≤ ((bp) : Int) := oD z2; have q272 : (bp) < (l0.length : Int) := oD z2; obtain ⟨ad272, e272, hx272_0, hx272_1, hx272_2⟩ := at_T34 bH.out (bp) p272 q272; obtain rfl : ad268 = ad272 := (by injection e272); replace hx272_0 := hC_ HB.out hx272_0; replace hx272_1 := hC_ HB.out hx272_1; replace hx272_2 := hC_ HB.out hx272_2; replace p272 := eq_true p272; replace q272 := eq_true q272; have p273 : 0 ≤ ((bp) : Int) := oD z2; have q273 : (bp) < (l0.length : Int) := oD z2; obtain ⟨ad273, e273, hx273_0, hx273_1, hx273_2⟩ := at_T34 bH.out (bp) p273 q273; obtain rfl : ad268 = ad273 := (by injection e273); replace hx273_0 := hC_ HB.out hx273_0; replace hx273_1 := hC_ HB.out hx273_1; replace hx273_2 := hC_ HB.out hx273_2; replace p273 := eq_true p273; replace q273 := eq_true q273)))
             all_goals (try (exfalso; rename_i h_; rw [c17b0] at h_; cases h_; done))
             go_ret
             exact ⟨by first | rfl | (simp [errW_none, errW_some] <;> rfl) | (simp only [← ep]; first | rfl | (simp [errW_none, errW_some] <;> rfl)) | (simp [*, errW_none, errW_some] <;> rfl), y25⟩
            ·rw [if_neg cJ] at H
             have c18b0 : decide (((so l0 x9_1).f0) ≤ ((so l0 (bp)).f1)) = false := dF cJ
             clear cJ
             have H' := aM H
             clear H
             have p268 : 0 ≤ (x9_1 : Int) := oD z2
             have q268 : x9_1 < (l0.length : Int) := oD z2
             obtain ⟨ad268, e268, hx268_0, hx268_1, hx268_2⟩ := at_T34 bH.out x9_1 p268 q268
             cases e268
             replace hx268_0 := hC_ HB.out hx268_0
             replace hx268_1 := hC_ HB.out hx268_1
             replace hx268_2 := hC_ HB.out hx268_2
             replace p268 := eq_true p268
             replace q268 := eq_true q268
             go_wp2_with (first | ((with_reducible refine ay (N := 6) rfl ?_); refine bE_ (N := 6) (cs := #[.int .i64 0, .int .i64 0, .string ⟨#[]⟩]) (t := 34) (h := ?_); intro aT hg w23 hbox hb; have aQ := aM (hbox); have dS := aM ((zg_ : w.heap.size ≤ aT)); have dU := aM ((zg_ : w.heap.size ≤ aT)); replace HB := aM (ap z9 hb); clear hb hbox hg; obtain ⟨fp, fo, fm, e9, e8, e7⟩ := cc3 aQ.out) | (go_at_call 32; (with_reducible refine (spec_l5Mark.calls k1 ((so l0 x9_1).f0) ((so l0 x9_1).f1) ((so l0 x9_1).f2) a1 true _ A6.out).mono ?_); rintro e w25 ⟨rfl, hb⟩; replace aQ := aM (ae (g := aT) (o := .cells #[.int .i64 ((so l0 x9_1).f0), .int .i64 ((so l0 x9_1).f1), .string ((so l0 x9_1).f2)] 34 (0, 0)) z21 hb); replace HB := aM (ap z12 hb); (try clear hb); have p271 : 0 ≤ ((bp) : Int) := oD z2; have q271 : (bp) < (l0.length : Int) := oD z2; obtain ⟨ad271, e271, hx271_0, hx271_1, hx271_2⟩ := at_T34 bH.out (bp) p271 q271; obtain rfl : ad268 = ad271 := (by injection e271); replace hx271_0 := hC_ HB.out hx271_0; replace hx271_1 := hC_ HB.out hx271_1; replace hx271_2 := hC_ HB.out hx271_2; replace p271 := eq_true p271; replace q271 := eq_true q271; obtain ⟨eK, eJ, eI, eB, eA, ez⟩ := cc3 aQ.out; have p272 : 0 ≤ ((bp) : Int) := oD z2; have q272 : (bp) < (l0.length : Int) := oD z2; obtain ⟨ad272, e272, hx272_0, hx272_1, hx272_2⟩ := at_T34 bH.out (bp) p272 q272; obtain rfl : ad268 = ad272 := (by injection e272); replace hx272_0 := hC_ HB.out hx272_0; replace hx272_1 := hC_ HB.out hx272_1; replace hx272_2 := hC_ HB.out hx272_2; replace p272 := eq_true p272; replace q272 := eq_true q272; have p273 : 0 ≤ ((bp) : Int) := oD z2; have q273 : (bp) < (l0.length : Int) := oD z2; obtain ⟨ad273, e273, hx273_0, hx273_1, hx273_2⟩ := at_T34 bH.out (bp) p273 q273; obtain rfl : ad268 = ad273 := (by injection e273); replace hx273_0 := hC_ HB.out hx273_0; replace hx273_1 := hC_ HB.out hx273_1; replace hx273_2 := hC_ HB.out hx273_2; replace p273 := eq_true p273; replace q273 := eq_true q273))
             all_goals (try (exfalso; rename_i h_; rw [c17b0] at h_; cases h_; done))
             repeat (go_quiet (fail); try go_wp2_with (first | ((with_reducible refine ay (N := 6) rfl ?_); refine bE_ (N := 6) (cs := #[.int .i64 0, .int .i64 0, .string ⟨#[]⟩]) (t := 34) (h := ?_); intro aT hg w23 hbox hb; have aQ := aM (hbox); have dS := aM ((zg_ : w.heap.size ≤ aT)); have dU := aM ((zg_ : w.heap.size ≤ aT)); replace HB := aM (ap z9 hb); clear hb hbox hg; obtain ⟨fp, fo, fm, e9, e8, e7⟩ := cc3 aQ.out) | (go_at_call 32; (with_reducible refine (spec_l5Mark.calls k1 ((so l0 x9_1).f0) ((so l0 x9_1).f1) ((so l0 x9_1).f2) a1 true _ A6.out).mono ?_); rintro e w25 ⟨rfl, hb⟩; replace aQ := aM (ae (g := aT) (o := .cells #[.int .i64 ((so l0 x9_1).f0), .int .i64 ((so l0 x9_1).f1), .string ((so l0 x9_1).f2)] 34 (0, 0)) z21 hb); replace HB := aM (ap z12 hb); (try clear hb); have p271 : 0 ≤ ((bp) : Int) := oD z2; have q271 : (bp) < (l0.length : Int) := oD z2; obtain ⟨ad271, e271, hx271_0, hx271_1, hx271_2⟩ := at_T34 bH.out (bp) p271 q271; obtain rfl : ad268 = ad271 := (by injection e271); replace hx271_0 := hC_ HB.out hx271_0; replace hx271_1 := hC_ HB.out hx271_1; replace hx271_2 := hC_ HB.out hx271_2; replace p271 := eq_true p271; replace q271 := eq_true q271; obtain ⟨eK, eJ, eI, eB, eA, ez⟩ := cc3 aQ.out; have p272 : 0 ≤ ((bp) : Int) := oD z2; have q272 : (bp) < (l0.length : Int) := oD z2; obtain ⟨ad272, e272, hx272_0, hx272_1, hx272_2⟩ := at_T34 bH.out (bp) p272 q272; obtain rfl : ad268 = ad272 := (by injection e272); replace hx272_0 := hC_ HB.out hx272_0; replace hx272_1 := hC_ HB.out hx272_1; replace hx272_2 := hC_ HB.out hx272_2; replace p272 := eq_true p272; replace q272 := eq_true q272; have p273 : 0 ≤ ((bp) : Int) := oD z2; have q273 : (bp) < (l0.length : Int) := oD z2; obtain ⟨ad273, e273, hx273_0, hx273_1, hx273_2⟩ := at_T34 bH.out (bp) p273 q273; obtain rfl : ad268 = ad273 := (by injection e273); replace hx273_0 := hC_ HB.out hx273_0; replace hx273_1 := hC_ HB.out hx273_1; replace hx273_2 := hC_ HB.out hx273_2; replace p273 := eq_true p273; replace q273 := eq_true q273)))
             all_goals (try (exfalso; rename_i h_; rw [c17b0] at h_; cases h_; done))
             go_roundg k1
             case measure => have := HK1.out; omega
             case rel => exact ⟨(wrap64 (x9_1 + 1)), z1, (by first | exact H' | (simp only [ep]; exact H') | (simp only [← ep]; exact H')), ⟨y0⟩, ⟨y25⟩⟩
           ·rw [if_neg cA] at H
            have c17b0 : (((so l0 (bp)).f2).toList == ((so l0 x9_1).f2).toList) = false := qF cA
            have c17g5 := qF (Ne.symm (beq_eq_false_iff_ne.mp c17b0))
            have c17g1 := bl_tot1 c12b0 c17b0
            have c17b1 : (((so l0 (bp)).f2).toList != ((so l0 x9_1).f2).toList) = true := nT cA
            have H' := aM H
            clear H
            have p268 : 0 ≤ (x9_1 : Int) := oD z2
            have q268 : x9_1 < (l0.length : Int) := oD z2
            obtain ⟨ad268, e268, hx268_0, hx268_1, hx268_2⟩ := at_T34 bH.out x9_1 p268 q268
            cases e268
            replace hx268_0 := hC_ HB.out hx268_0
            replace hx268_1 := hC_ HB.out hx268_1
            replace hx268_2 := hC_ HB.out hx268_2
            replace p268 := eq_true p268
            replace q268 := eq_true q268
            go_wp2_with (first | ((with_reducible refine ay (N := 6) rfl ?_); refine bE_ (N := 6) (cs := #[.int .i64 0, .int .i64 0, .string ⟨#[]⟩]) (t := 34) (h := ?_); intro aT hg w27 hbox hb; have aQ := aM (hbox); have dS := aM ((zg_ : w.heap.size ≤ aT)); have dU := aM ((zg_ : w.heap.size ≤ aT)); replace HB := aM (ap z9 hb); clear hb hbox hg; obtain ⟨eH, eG, eF, ey, ex, ew⟩ := cc3 aQ.out) | (go_at_call 32; (with_reducible refine (spec_l5Mark.calls k1 ((so l0 x9_1).f0) ((so l0 x9_1).f1) ((so l0 x9_1).f2) a1 true _ A6.out).mono ?_); rintro e w29 ⟨rfl, hb⟩; replace aQ := aM (ae (g := aT) (o := .cells #[.int .i64 ((so l0 x9_1).f0), .int .i64 ((so l0 x9_1).f1), .string ((so l0 x9_1).f2)] 34 (0, 0)) z21 hb); replace HB := aM (ap z12 hb); (try clear hb); have p271 : 0 ≤ ((bp) : Int) := oD z2; have q271 : (bp) < (l0.length : Int) := oD z2; obtain ⟨ad271, e271, hx271_0, hx271_1, hx271_2⟩ := at_T34 bH.out (bp) p271 q271; obtain rfl : ad268 = ad271 := (by injection e271); replace hx271_0 := hC_ HB.out hx271_0; replace hx271_1 := hC_ HB.out hx271_1; replace hx271_2 := hC_ HB.out hx271_2; replace p271 := eq_true p271; replace q271 := eq_true q271; obtain ⟨fl, fk, fj, e6, e5, e4⟩ := cc3 aQ.out; have p272 : 0 ≤ ((bp) : Int) := oD z2; have q272 : (bp) < (l0.length : Int) := oD z2; obtain ⟨ad272, e272, hx272_0, hx272_1, hx272_2⟩ := at_T34 bH.out (bp) p272 q272; obtain rfl : ad268 = ad272 := (by injection e272); replace hx272_0 := hC_ HB.out hx272_0; replace hx272_1 := hC_ HB.out hx272_1; replace hx272_2 := hC_ HB.out hx272_2; replace p272 := eq_true p272; replace q272 := eq_true q272))
            all_goals (try (exfalso; rename_i h_; rw [c17b0] at h_; cases h_; done))
            repeat (go_quiet (fail); try go_wp2_with (first | ((with_reducible refine ay (N := 6) rfl ?_); refine bE_ (N := 6) (cs := #[.int .i64 0, .int .i64 0, .string ⟨#[]⟩]) (t := 34) (h := ?_); intro aT hg w27 hbox hb; have aQ := aM (hbox); have dS := aM ((zg_ : w.heap.size ≤ aT)); have dU := aM ((zg_ : w.heap.size ≤ aT)); replace HB := aM (ap z9 hb); clear hb hbox hg; obtain ⟨eH, eG, eF, ey, ex, ew⟩ := cc3 aQ.out) | (go_at_call 32; (with_reducible refine (spec_l5Mark.calls k1 ((so l0 x9_1).f0) ((so l0 x9_1).f1) ((so l0 x9_1).f2) a1 true _ A6.out).mono ?_); rintro e w29 ⟨rfl, hb⟩; replace aQ := aM (ae (g := aT) (o := .cells #[.int .i64 ((so l0 x9_1).f0), .int .i64 ((so l0 x9_1).f1), .string ((so l0 x9_1).f2)] 34 (0, 0)) z21 hb); replace HB := aM (ap z12 hb); (try clear hb); have p271 : 0 ≤ ((bp) : Int) := oD z2; have q271 : (bp) < (l0.length : Int) := oD z2; obtain ⟨ad271, e271, hx271_0, hx271_1, hx271_2⟩ := at_T34 bH.out (bp) p271 q271; obtain rfl : ad268 = ad271 := (by injection e271); replace hx271_0 := hC_ HB.out hx271_0; replace hx271_1 := hC_ HB.out hx271_1; replace hx271_2 := hC_ HB.out hx271_2; replace p271 := eq_true p271; replace q271 := eq_true q271; obtain ⟨fl, fk, fj, e6, e5, e4⟩ := cc3 aQ.out; have p272 : 0 ≤ ((bp) : Int) := oD z2; have q272 : (bp) < (l0.length : Int) := oD z2; obtain ⟨ad272, e272, hx272_0, hx272_1, hx272_2⟩ := at_T34 bH.out (bp) p272 q272; obtain rfl : ad268 = ad272 := (by injection e272); replace hx272_0 := hC_ HB.out hx272_0; replace hx272_1 := hC_ HB.out hx272_1; replace hx272_2 := hC_ HB.out hx272_2; replace p272 := eq_true p272; replace q272 := eq_true q272)))
            all_goals (try (exfalso; rename_i h_; rw [c17b0] at h_; cases h_; done))
            go_roundg k1
            case measure => have := HK1.out; omega
            case rel => exact ⟨(wrap64 (x9_1 + 1)), z1, (by first | exact H' | (simp only [ep]; exact H') | (simp only [← ep]; exact H')), ⟨y0⟩, ⟨y25⟩⟩
         ·rw [if_neg b4] at H
          exact absurd H (by simp)
        ·rw [if_neg cq] at H
         exact absurd H (by simp)
       ·rw [if_neg c8] at H
        have c8b0 : decide (0 < x9_1) = false := dF c8
        clear c8
        have H' := aM H
        clear H
        have p268 : 0 ≤ (x9_1 : Int) := oD z2
        have q268 : x9_1 < (l0.length : Int) := oD z2
        obtain ⟨ad268, e268, hx268_0, hx268_1, hx268_2⟩ := at_T34 bH.out x9_1 p268 q268
        cases e268
        replace hx268_0 := hC_ HB.out hx268_0
        replace hx268_1 := hC_ HB.out hx268_1
        replace hx268_2 := hC_ HB.out hx268_2
        replace p268 := eq_true p268
        replace q268 := eq_true q268
        go_wp2_with (first | ((with_reducible refine ay (N := 6) rfl ?_); refine bE_ (N := 6) (cs := #[.int .i64 0, .int .i64 0, .string ⟨#[]⟩]) (t := 34) (h := ?_); intro aT hg w31 hbox hb; have aQ := aM (hbox); have dS := aM ((zg_ : w.heap.size ≤ aT)); have dU := aM ((zg_ : w.heap.size ≤ aT)); replace HB := aM (ap z9 hb); clear hb hbox hg; obtain ⟨m0, mZ, mY, mF, mE, mD⟩ := cc3 aQ.out) | (go_at_call 32; (with_reducible refine (spec_l5Mark.calls k1 ((so l0 x9_1).f0) ((so l0 x9_1).f1) ((so l0 x9_1).f2) a1 true _ A6.out).mono ?_); rintro e w33 ⟨rfl, hb⟩; replace aQ := aM (ae (g := aT) (o := .cells #[.int .i64 ((so l0 x9_1).f0), .int .i64 ((so l0 x9_1).f1), .string ((so l0 x9_1).f2)] 34 (0, 0)) z21 hb); replace HB := aM (ap z12 hb); (try clear hb)))
        repeat (go_quiet (fail); try go_wp2_with (first | ((with_reducible refine ay (N := 6) rfl ?_); refine bE_ (N := 6) (cs := #[.int .i64 0, .int .i64 0, .string ⟨#[]⟩]) (t := 34) (h := ?_); intro aT hg w31 hbox hb; have aQ := aM (hbox); have dS := aM ((zg_ : w.heap.size ≤ aT)); have dU := aM ((zg_ : w.heap.size ≤ aT)); replace HB := aM (ap z9 hb); clear hb hbox hg; obtain ⟨m0, mZ, mY, mF, mE, mD⟩ := cc3 aQ.out) | (go_at_call 32; (with_reducible refine (spec_l5Mark.calls k1 ((so l0 x9_1).f0) ((so l0 x9_1).f1) ((so l0 x9_1).f2) a1 true _ A6.out).mono ?_); rintro e w33 ⟨rfl, hb⟩; replace aQ := aM (ae (g := aT) (o := .cells #[.int .i64 ((so l0 x9_1).f0), .int .i64 ((so l0 x9_1).f1), .string ((so l0 x9_1).f2)] 34 (0, 0)) z21 hb); replace HB := aM (ap z12 hb); (try clear hb))))
        go_roundg k1
        case measure => have := HK1.out; omega
        case rel => exact ⟨(wrap64 (x9_1 + 1)), z1, H', ⟨y0⟩, ⟨y25⟩⟩
      ·replace c7 := Bool.eq_false_iff.mpr c7
       subst c7
       rw [if_neg nF_] at H
       obtain rfl := sI H
       have p268 : 0 ≤ (x9_1 : Int) := oD z2
       have q268 : x9_1 < (l0.length : Int) := oD z2
       obtain ⟨ad268, e268, hx268_0, hx268_1, hx268_2⟩ := at_T34 bH.out x9_1 p268 q268
       cases e268
       replace hx268_0 := hC_ HB.out hx268_0
       replace hx268_1 := hC_ HB.out hx268_1
       replace hx268_2 := hC_ HB.out hx268_2
       replace p268 := eq_true p268
       replace q268 := eq_true q268
       go_wp2_with (first | ((with_reducible refine ay (N := 6) rfl ?_); refine bE_ (N := 6) (cs := #[.int .i64 0, .int .i64 0, .string ⟨#[]⟩]) (t := 34) (h := ?_); intro aT hg w34 hbox hb; have aQ := aM (hbox); have dS := aM ((zg_ : w.heap.size ≤ aT)); have dU := aM ((zg_ : w.heap.size ≤ aT)); replace HB := aM (ap z9 hb); clear hb hbox hg; obtain ⟨jd, jc, jb, i3, i2, i1⟩ := cc3 aQ.out) | (go_at_call 32; (with_reducible refine (spec_l5Mark.calls k1 ((so l0 x9_1).f0) ((so l0 x9_1).f1) ((so l0 x9_1).f2) a1 false _ A6.out).mono ?_); rintro e w36 ⟨rfl, hb⟩; replace aQ := aM (ae (g := aT) (o := .cells #[.int .i64 ((so l0 x9_1).f0), .int .i64 ((so l0 x9_1).f1), .string ((so l0 x9_1).f2)] 34 (0, 0)) z21 hb); replace HB := aM (ap z12 hb); (try clear hb)))
       repeat (go_quiet (fail); try go_wp2_with (first | ((with_reducible refine ay (N := 6) rfl ?_); refine bE_ (N := 6) (cs := #[.int .i64 0, .int .i64 0, .string ⟨#[]⟩]) (t := 34) (h := ?_); intro aT hg w34 hbox hb; have aQ := aM (hbox); have dS := aM ((zg_ : w.heap.size ≤ aT)); have dU := aM ((zg_ : w.heap.size ≤ aT)); replace HB := aM (ap z9 hb); clear hb hbox hg; obtain ⟨jd, jc, jb, i3, i2, i1⟩ := cc3 aQ.out) | (go_at_call 32; (with_reducible refine (spec_l5Mark.calls k1 ((so l0 x9_1).f0) ((so l0 x9_1).f1) ((so l0 x9_1).f2) a1 false _ A6.out).mono ?_); rintro e w36 ⟨rfl, hb⟩; replace aQ := aM (ae (g := aT) (o := .cells #[.int .i64 ((so l0 x9_1).f0), .int .i64 ((so l0 x9_1).f1), .string ((so l0 x9_1).f2)] 34 (0, 0)) z21 hb); replace HB := aM (ap z12 hb); (try clear hb))))
       go_ret
       exact ⟨y5, y25⟩
     ·rw [if_neg c5] at H
      exact absurd H (by simp)
    ·rw [if_neg c4] at H
     exact absurd H (by simp)
   ·rw [if_neg c3] at H
    have c3b0 : decide (x9_1 < (l0.length : Int)) = false := dF c3
    clear c3
    by_cases gM : (l0.length : Int) ≤ 40
    ·rw [if_pos gM] at H
     have c37b0 : decide ((l0.length : Int) ≤ 40) = true := dT gM
     have c37b1 : decide (l0.length ≤ 40) = true := dT (by omega)
     clear gM
     obtain ⟨ov, tG, H⟩ := oA_ H
     try dsimp only at H
     obtain rfl := sI H
     go_wp2_with (first | (go_at_call 46; (with_reducible refine (spec_l1In.calls a1 0 300 ov _ tG.out).mono ?_); rintro e w' ⟨rfl, ⟨nd, rfl⟩⟩; (try exact dD_)))
     repeat (go_quiet (first | (go_at_call 46; (with_reducible refine (spec_l1In.calls a1 0 300 ov _ tG.out).mono ?_); rintro e w' ⟨rfl, ⟨nd, rfl⟩⟩; (try exact dD_))); try go_wp2_with (first | (go_at_call 46; (with_reducible refine (spec_l1In.calls a1 0 300 ov _ tG.out).mono ?_); rintro e w' ⟨rfl, ⟨nd, rfl⟩⟩; (try exact dD_))))
     go_ret
     exact ⟨y5, y6⟩
    ·rw [if_neg gM] at H
     have c37b0 : decide ((l0.length : Int) ≤ 40) = false := dF gM
     have c37b1 : decide (l0.length ≤ 40) = false := dF (by omega)
     clear gM
     obtain rfl := sI H
     go_wp2
     repeat (go_quiet (fail); try go_wp2)
     go_ret
     exact ⟨y5, y6⟩

/-! ### spec_l5Add: function 27 -/
mutual
def spec_l5Add.l0 : Nat → List (S34) → Bool → List (S34) → Int → Int → Int → Int → ByteArray → Option ((List (S34)))
 | 0, _, _, _, _, _, _, _, _ => none
 | k + 1, x5, x6, x9, x10, x11, x275000, x275001, x275002 => if x11 < x10 then (if 0 ≤ x11 then (if x11 < (x9.length : Int) then (if (Op.bytesLess (((so x9 x11).f2).toList) x275002.toList) = true then (spec_l5Add.j1 k x5 x6 x9 x10 x11 true x275000 x275001 x275002 ((so x9 x11).f0) ((so x9 x11).f1) ((so x9 x11).f2)) else (if ((so x9 x11).f2).toList = x275002.toList then (spec_l5Add.j1 k x5 x6 x9 x10 x11 (decide (((so x9 x11).f1) < x275000)) x275000 x275001 x275002 ((so x9 x11).f0) ((so x9 x11).f1) ((so x9 x11).f2)) else (spec_l5Add.j1 k x5 x6 x9 x10 x11 false x275000 x275001 x275002 ((so x9 x11).f0) ((so x9 x11).f1) ((so x9 x11).f2)))) else (none)) else (none)) else (if x6 = true then (some x5) else (if x5.length < 4398046511104 then (some (x5 ++ [(⟨x275000, x275001, x275002⟩ : S34)])) else (none)))
def spec_l5Add.j1 : Nat → List (S34) → Bool → List (S34) → Int → Int → Bool → Int → Int → ByteArray → Int → Int → ByteArray → Option ((List (S34)))
 | 0, _, _, _, _, _, _, _, _, _, _, _, _ => none
 | k + 1, x5, x6, x9, x10, x11, x31, x275000, x275001, x275002, x280000, x280001, x280002 => if x31 = true then (if x5.length < 4398046511104 then (spec_l5Add.l0 k (x5 ++ [(⟨x280000, x280001, x280002⟩ : S34)]) x6 x9 x10 (wrap64 (x11 + 1)) x275000 x275001 x275002) else (none)) else (if (Op.bytesLess x275002.toList x280002.toList) = true then (spec_l5Add.j2 k x5 x6 x9 x10 x11 true x275000 x275001 x275002 x280000 x280001 x280002) else (spec_l5Add.j2 k x5 x6 x9 x10 x11 (decide (x280000 > x275001)) x275000 x275001 x275002 x280000 x280001 x280002))
def spec_l5Add.j2 : Nat → List (S34) → Bool → List (S34) → Int → Int → Bool → Int → Int → ByteArray → Int → Int → ByteArray → Option ((List (S34)))
 | 0, _, _, _, _, _, _, _, _, _, _, _, _ => none
 | k + 1, x5, x6, x9, x10, x11, x55, x275000, x275001, x275002, x280000, x280001, x280002 => if x55 = true then (if x6 = true then (if x5.length < 4398046511104 then (spec_l5Add.l0 k (x5 ++ [(⟨x280000, x280001, x280002⟩ : S34)]) x6 x9 x10 (wrap64 (x11 + 1)) x275000 x275001 x275002) else (none)) else (if x5.length < 4398046511104 then ((some (x5 ++ [(⟨x275000, x275001, x275002⟩ : S34)] : List (S34))).bind fun y286 => (if y286.length < 4398046511104 then (spec_l5Add.l0 k (y286 ++ [(⟨x280000, x280001, x280002⟩ : S34)]) true x9 x10 (wrap64 (x11 + 1)) x275000 x275001 x275002) else (none))) else (none))) else (if x280000 < x275000 then (if x280001 > x275001 then (spec_l5Add.l0 k x5 x6 x9 x10 (wrap64 (x11 + 1)) x280000 x280001 x275002) else (spec_l5Add.l0 k x5 x6 x9 x10 (wrap64 (x11 + 1)) x280000 x275001 x275002)) else (if x280001 > x275001 then (spec_l5Add.l0 k x5 x6 x9 x10 (wrap64 (x11 + 1)) x275000 x280001 x275002) else (spec_l5Add.l0 k x5 x6 x9 x10 (wrap64 (x11 + 1)) x275000 x275001 x275002)))
end
def spec_l5Add.f (k : Nat) (l0 : List (S34)) (a1_0 : Int) (a1_1 : Int) (a1_2 : ByteArray) : Option ((List (S34))) := spec_l5Add.l0 k ([] : List (S34)) false l0 (l0.length : Int) 0 a1_0 a1_1 a1_2
theorem spec_l5Add.mono_l : ∀ k, (∀ y0 y1 y2 y3 y4 y5 y6 y7, LeO (spec_l5Add.l0 k y0 y1 y2 y3 y4 y5 y6 y7) (spec_l5Add.l0 (k + 1) y0 y1 y2 y3 y4 y5 y6 y7)) ∧ (∀ y0 y1 y2 y3 y4 y5 y6 y7 y8 y9 y10 y11, LeO (spec_l5Add.j1 k y0 y1 y2 y3 y4 y5 y6 y7 y8 y9 y10 y11) (spec_l5Add.j1 (k + 1) y0 y1 y2 y3 y4 y5 y6 y7 y8 y9 y10 y11)) ∧ (∀ y0 y1 y2 y3 y4 y5 y6 y7 y8 y9 y10 y11, LeO (spec_l5Add.j2 k y0 y1 y2 y3 y4 y5 y6 y7 y8 y9 y10 y11) (spec_l5Add.j2 (k + 1) y0 y1 y2 y3 y4 y5 y6 y7 y8 y9 y10 y11))
 | 0 => ⟨fun _ _ _ _ _ _ _ _ r h => by simp [spec_l5Add.l0] at h, fun _ _ _ _ _ _ _ _ _ _ _ _ r h => by simp [spec_l5Add.j1] at h, fun _ _ _ _ _ _ _ _ _ _ _ _ r h => by simp [spec_l5Add.j2] at h⟩
 | k + 1 => by
  obtain ⟨ih0, ih1, ih2⟩ := spec_l5Add.mono_l k
  refine ⟨?_, ?_, ?_⟩
  ·intro y0 y1 y2 y3 y4 y5 y6 y7
   unfold spec_l5Add.l0
   with_reducible repeat' first | exact ih0 _ _ _ _ _ _ _ _ | exact ih1 _ _ _ _ _ _ _ _ _ _ _ _ | exact ih2 _ _ _ _ _ _ _ _ _ _ _ _ | exact lR_ _ | exact lN_ _ | refine lI_ ?_ ?_ | refine lB_ ?_ fun _ => ?_
  ·intro y0 y1 y2 y3 y4 y5 y6 y7 y8 y9 y10 y11
   unfold spec_l5Add.j1
   with_reducible repeat' first | exact ih0 _ _ _ _ _ _ _ _ | exact ih1 _ _ _ _ _ _ _ _ _ _ _ _ | exact ih2 _ _ _ _ _ _ _ _ _ _ _ _ | exact lR_ _ | exact lN_ _ | refine lI_ ?_ ?_ | refine lB_ ?_ fun _ => ?_
  ·intro y0 y1 y2 y3 y4 y5 y6 y7 y8 y9 y10 y11
   unfold spec_l5Add.j2
   with_reducible repeat' first | exact ih0 _ _ _ _ _ _ _ _ | exact ih1 _ _ _ _ _ _ _ _ _ _ _ _ | exact ih2 _ _ _ _ _ _ _ _ _ _ _ _ | exact lR_ _ | exact lN_ _ | refine lI_ ?_ ?_ | refine lB_ ?_ fun _ => ?_
theorem spec_l5Add.mono : ∀ a0 a1 a2 a3 k, LeO (spec_l5Add.f k a0 a1 a2 a3) (spec_l5Add.f (k + 1) a0 a1 a2 a3) := by
 intro a0 a1 a2 a3 k
 obtain ⟨ih0, ih1, ih2⟩ := spec_l5Add.mono_l k
 unfold spec_l5Add.f
 with_reducible repeat' first | exact ih0 _ _ _ _ _ _ _ _ | exact ih1 _ _ _ _ _ _ _ _ _ _ _ _ | exact ih2 _ _ _ _ _ _ _ _ _ _ _ _ | exact lR_ _ | exact lN_ _ | refine lI_ ?_ ?_ | refine lB_ ?_ fun _ => ?_
theorem spec_l5Add.calls (k : Nat) (A0 : Option Addr) (c0 : Nat) (l0 : List (S34)) (a1_0 : Int) (a1_1 : Int) (a1_2 : ByteArray) (r : List (S34)) (w : World) (hr0 : Kd.C k34 w A0 l0.length l0) (hc0 : l0.length ≤ c0) (h : spec_l5Add.f k l0 a1_0 a1_1 a1_2 = some r) :
  Calls Try.prog 27 #[.slice A0 l0.length c0, .agg #[.int .i64 a1_0, .int .i64 a1_1, .string a1_2]] w fun e w' => ∃ v0_ : Value, e = .returned (v0_) ∧ Kd.R k34 34 w' w.heap.size (fun _ => True) v0_ r ∧ Below w.heap.size w w' := by
 have hu34 := Try.underlying34
 have bH := aM hr0
 have cH := aM hc0
 clear hr0 hc0
 have HB := aM (Below.refl w.heap.size w)
 have H : (spec_l5Add.l0 k ([] : List (S34)) false l0 (l0.length : Int) 0 a1_0 a1_1 a1_2) = some r := h
 clear h
 have H' := aM H
 clear H
 go_enter Try.func27, Try.ntmps27
 go_wp2_with (first | ((with_reducible refine ay (N := 3) rfl ?_); refine bE_ (N := 3) (cs := #[.int .i64 a1_0, .int .i64 a1_1, .string a1_2]) (t := 34) (h := ?_); intro bn hg w3 hbox hb; have bh := aM (hbox); have GW274 := aM ((zg_ : w.heap.size ≤ bn)); have iR := aM ((zg_ : w.heap.size ≤ bn)); replace HB := aM (ap z9 hb); clear hb hbox hg))
 go_loopg [5, 6, 11] k (fun kq v5 v6 v11 w' => ∃ (x5_1 : List (S34)) (x6_1 : Bool) (x11_1 : Int) (x275000_1 : Int) (x275001_1 : Int), v6 = .bool x6_1 ∧ v11 = .int .i64 x11_1 ∧ Aside0 (spec_l5Add.l0 kq x5_1 x6_1 l0 (l0.length : Int) x11_1 x275000_1 x275001_1 a1_2 = some r) ∧ Aside0 (kq ≤ k) ∧ Aside0 (Kd.R k34 34 w' w.heap.size (fun k_ => k_ ≠ bn) v5 x5_1) ∧ Aside0 (w'.heap[bn]? = some (.cells #[.int .i64 x275000_1, .int .i64 x275001_1, .string a1_2] 34 (0, 0))) ∧ Aside0 (Below w.heap.size w w'))
 case atStart => exact ⟨(([] : List (S34))), (false), (0), (a1_0), (a1_1), z1, z1, H', ⟨Nat.le_refl _⟩, ⟨y29⟩, ⟨y15⟩, ⟨zb_⟩⟩
 case round =>
  clear H'
  obtain ⟨x5_1, x6_1, x11_1, x275000_1, x275001_1, rfl, rfl, HA, HK1, bi, bh, HB⟩ := hrel
  cases gk with
  | zero => exact absurd HA.out (by simp [spec_l5Add.l0])
  | succ k1 =>
   have H := HA.out
   clear HA
   simp only [spec_l5Add.l0] at H
   by_cases c4 : x11_1 < (l0.length : Int)
   ·rw [if_pos c4] at H
    have c4b0 : decide (x11_1 < (l0.length : Int)) = true := dT c4
    clear c4
    by_cases c5 : 0 ≤ x11_1
    ·rw [if_pos c5] at H
     have c5b0 : decide (0 ≤ x11_1) = true := dT c5
     clear c5
     by_cases c6 : x11_1 < (l0.length : Int)
     ·rw [if_pos c6] at H
      have c6b0 : decide (x11_1 < (l0.length : Int)) = true := dT c6
      clear c6
      have qP := aM H
      clear H
      have p278 : 0 ≤ (x11_1 : Int) := oD z2
      have q278 : x11_1 < (l0.length : Int) := oD z2
      obtain ⟨ad278, e278, hx278_0, hx278_1, hx278_2⟩ := at_T34 bH.out x11_1 p278 q278
      cases e278
      replace hx278_0 := hC_ HB.out hx278_0
      replace hx278_1 := hC_ HB.out hx278_1
      replace hx278_2 := hC_ HB.out hx278_2
      replace p278 := eq_true p278
      replace q278 := eq_true q278
      go_upto_region 10 with (first | ((with_reducible refine ay (N := 8) rfl ?_); refine bE_ (N := 8) (cs := #[.int .i64 0, .int .i64 0, .string ⟨#[]⟩]) (t := 34) (h := ?_); intro bq hg w8 hbox hb; replace bi := aM (af (Kd.R_elderB z3 bq (Nat.le_of_eq hg.symm)) hb); have a6 := aM (hbox); have GW279 := aM ((zg2_ : w.heap.size ≤ bq)); have GE279 := aM ((zg2_ : w.heap.size ≤ bq)); replace HB := aM (ap zb_ hb); have ca := aM ((by rw [hg]; exact Nat.ne_of_lt (blk_lt (g := bn) (o := .cells #[.int .i64 x275000_1, .int .i64 x275001_1, .string a1_2] 34 (0, 0)) z6) : bn ≠ bq)); have b9 := aM ((by rw [hg]; exact Nat.ne_of_gt (blk_lt (g := bn) (o := .cells #[.int .i64 x275000_1, .int .i64 x275001_1, .string a1_2] 34 (0, 0)) z6) : bq ≠ bn)); replace bh := aM (bK_ bh.out hb); clear hb hbox hg; have hnb9 := b9.out; have hnc9 := ca.out; obtain ⟨cG, cF, cE, cD, cC, cB⟩ := cc3 a6.out))
      (try simp only [Act.put, sA, sB, sC])
      go_cut [31] (fun v31 wc => ∃ (kq : Nat) (x31_6 : Bool), v31 = .bool x31_6 ∧ Aside0 (spec_l5Add.j1 kq x5_1 x6_1 l0 (l0.length : Int) x11_1 x31_6 x275000_1 x275001_1 a1_2 ((so l0 x11_1).f0) ((so l0 x11_1).f1) ((so l0 x11_1).f2) = some r) ∧ Aside0 (kq ≤ k1) ∧ Aside0 (Kd.R k34 34 wc w.heap.size (fun k_ => k_ ≠ bn ∧ k_ ≠ bq) u5 x5_1) ∧ Aside0 (wc.heap[bn]? = some (.cells #[.int .i64 x275000_1, .int .i64 x275001_1, .string a1_2] 34 (0, 0))) ∧ Aside0 (wc.heap[bq]? = some (.cells #[.int .i64 ((so l0 x11_1).f0), .int .i64 ((so l0 x11_1).f1), .string ((so l0 x11_1).f2)] 34 (0, 0))) ∧ Aside0 (Below w.heap.size w wc))
      case first =>
       have H := qP.out
       clear qP
       by_cases b4 : (Op.bytesLess (((so l0 x11_1).f2).toList) a1_2.toList) = true
       ·rw [if_pos b4] at H
        have c11b0 : (Op.bytesLess (((so l0 x11_1).f2).toList) a1_2.toList) = true := b4
        have c11g1 := bl_asym c11b0
        have c11g2 := bl_ne c11b0
        have c11g3 := bl_ne' c11b0
        have c11g4 := qF c11g2
        have c11g5 := qF c11g3
        clear b4
        (first | rw [c11b0] | (simp only [i64_w, i32_w]; rw [c11b0]) | skip)
        have H' := aM H
        clear H
        have hnb12 := b9.out
        have hnc12 := ca.out
        obtain ⟨il, ik, ij, hV, hU, hP⟩ := cc3 a6.out
        obtain ⟨cz, cy, cx, cw, cv, cu⟩ := cc3 bh.out
        go_wp2
        go_meet
        case rel => exact ⟨_, (true), z1, H', ⟨y3⟩, ⟨y41⟩, ⟨y44⟩, ⟨y46⟩, ⟨y35⟩⟩
       ·rw [if_neg b4] at H
        have c11b0 : (Op.bytesLess (((so l0 x11_1).f2).toList) a1_2.toList) = false := by simpa using b4
        have c11g6 := bl_or c11b0
        have c11g7 := bl_or2 c11b0
        clear b4
        (first | rw [c11b0] | (simp only [i64_w, i32_w]; rw [c11b0]) | skip)
        by_cases ce : ((so l0 x11_1).f2).toList = a1_2.toList
        ·rw [if_pos ce] at H
         have c15b0 : (((so l0 x11_1).f2).toList == a1_2.toList) = true := qT ce
         have c15g2 := bl_eq2 c15b0
         have c15b1 : (((so l0 x11_1).f2).toList != a1_2.toList) = false := nF ce
         clear ce
         have H' := aM H
         clear H
         have hnb16 := b9.out
         have hnc16 := ca.out
         obtain ⟨m4, m3, m2, mI, mH, mG⟩ := cc3 a6.out
         obtain ⟨fx, fw, fv, ff, fe, fd⟩ := cc3 bh.out
         go_wp2
         all_goals (try (exfalso; rename_i h_; rw [c15b0] at h_; cases h_; done))
         go_meet
         case rel => exact ⟨_, (decide (((so l0 x11_1).f1) < x275000_1)), z1, H', ⟨y3⟩, ⟨y41⟩, ⟨y44⟩, ⟨y46⟩, ⟨y35⟩⟩
        ·rw [if_neg ce] at H
         have c15b0 : (((so l0 x11_1).f2).toList == a1_2.toList) = false := qF ce
         have c15g5 := qF (Ne.symm (beq_eq_false_iff_ne.mp c15b0))
         have c15g1 := bl_tot2 c11b0 c15b0
         have c15b1 : (((so l0 x11_1).f2).toList != a1_2.toList) = true := nT ce
         have H' := aM H
         clear H
         have hnb19 := b9.out
         have hnc19 := ca.out
         obtain ⟨eg, ef, ee, d7, d6, d5⟩ := cc3 a6.out
         obtain ⟨fu, ft, fq, fc, fb, fa⟩ := cc3 bh.out
         go_wp2
         all_goals (try (exfalso; rename_i h_; rw [c15b0] at h_; cases h_; done))
         go_meet
         case rel => exact ⟨_, (false), z1, H', ⟨y3⟩, ⟨y41⟩, ⟨y44⟩, ⟨y46⟩, ⟨y35⟩⟩
      case rest =>
       clear qP
       try clear c2
       try clear p2
       try clear c4
       try clear c4b0
       try clear c5
       try clear c5b0
       try clear c6
       try clear c6b0
       try clear cG
       try clear cF
       try clear cE
       try clear cD
       try clear cC
       try clear cB
       try clear hx278_0
       try clear hx278_1
       try clear hx278_2
       try clear p2
       try clear p278
       try clear q278
       obtain ⟨kq, x31_6, rfl, HA, fE, bi, bh, a6, HB⟩ := hcut
       cases kq with
       | zero => exact absurd HA.out (by simp [spec_l5Add.j1])
       | succ kj6 =>
        have H := HA.out
        clear HA
        simp only [spec_l5Add.j1] at H
        by_cases fK : x31_6 = true
        ·subst fK
         rw [if_pos rfl] at H
         by_cases fz : x5_1.length < 4398046511104
         ·rw [if_pos fz] at H
          have LMc23 := aM fz
          clear fz
          obtain ⟨y280, hy280⟩ : ∃ y_ : List (S34), y_ = (x5_1 ++ [(⟨((so l0 x11_1).f0), ((so l0 x11_1).f1), ((so l0 x11_1).f2)⟩ : S34)]) := ⟨_, rfl⟩
          replace H : (spec_l5Add.l0 kj6 y280 x6_1 l0 (l0.length : Int) (wrap64 (x11_1 + 1)) x275000_1 x275001_1 a1_2) = some r := zh_ hy280
          have Ny280 := aM hy280
          clear hy280
          have H' := aM H
          clear H
          have hnb24 := b9.out
          have hnc24 := ca.out
          obtain ⟨ed, ec, eb, d4, d3, d2⟩ := cc3 a6.out
          go_wp2_with (first | ((with_reducible refine gate_builtin (b := .append) (xs := #[.tmp 51, .tmp 53]) rfl ?_); at_builtin; refine aE k34 (w0 := w) w.heap.size rfl (.tmp 51) (.tmp 53) 24 34 (.agg #[(.int .i64 0), (.int .i64 0), (.string ⟨#[]⟩)]) 32 rfl Try.underlying24 info34 rfl (by decide) (by omega) u5 x5_1 (⟨((so l0 x11_1).f0), ((so l0 x11_1).f1), ((so l0 x11_1).f2)⟩ : S34) [.int .i64 ((so l0 x11_1).f0), .int .i64 ((so l0 x11_1).f1), .string ((so l0 x11_1).f2)] (fun k_ => k_ ≠ bn ∧ k_ ≠ bq) (fun _ => False) rfl rfl ?aP (fun _ hk => hk.elim) ?aF ?aO ?aB ?aS ?aL ?_; (case aP => exact k34_mkM _ _ _ (⟨((so l0 x11_1).f0), ((so l0 x11_1).f1), ((so l0 x11_1).f2)⟩ : S34)); (case aB => exact z18); (case aF => exact (fun k_ hk => ⟨Kd.freshB (g := bn) (o := .cells #[.int .i64 x275000_1, .int .i64 x275001_1, .string a1_2] 34 (0, 0)) z6 k_ hk, Kd.freshB (g := bq) (o := .cells #[.int .i64 ((so l0 x11_1).f0), .int .i64 ((so l0 x11_1).f1), .string ((so l0 x11_1).f2)] 34 (0, 0)) (kB_ a6.out) k_ hk⟩)); (case aO => exact z3); (case aS => exact (aq z18)); (case aL => have := LMc23.out; omega); intro v281 w26 ho hb hg hat; rw [← Ny280.out] at ho; replace bh := aM (blk_grown (g := bn) (o := .cells #[.int .i64 x275000_1, .int .i64 x275001_1, .string a1_2] 34 (0, 0)) z6 hg (Kd.R_away bi.out (fun _ hk => hk.1))); replace a6 := aM (blk_grown (g := bq) (o := .cells #[.int .i64 ((so l0 x11_1).f0), .int .i64 ((so l0 x11_1).f1), .string ((so l0 x11_1).f2)] 34 (0, 0)) (kB_ a6.out) hg (Kd.R_away bi.out (fun _ hk => hk.2))); replace HB := aM hb; have HO282 := aM (ho); clear bi; clear ho hb hg hat))
          go_roundg kj6
          case measure => have := HK1.out; have := fE.out; omega
          case rel => exact ⟨(y280), (x6_1), (wrap64 (x11_1 + 1)), (x275000_1), (x275001_1), z1, z1, H', ⟨by have := HK1.out; have := fE.out; omega⟩, ⟨kM_ HO282.out (fun _ hk => hk.1)⟩, ⟨y15⟩, ⟨y35⟩⟩
         ·rw [if_neg fz] at H
          exact absurd H (by simp)
        ·replace fK := Bool.eq_false_iff.mpr fK
         subst fK
         rw [if_neg nF_] at H
         have qW := aM H
         clear H
         go_upto_region 12 with (fail)
         go_cut [55] (fun v55 wc => ∃ (kq : Nat) (x55_26 : Bool), v55 = .bool x55_26 ∧ Aside0 (spec_l5Add.j2 kq x5_1 x6_1 l0 (l0.length : Int) x11_1 x55_26 x275000_1 x275001_1 a1_2 ((so l0 x11_1).f0) ((so l0 x11_1).f1) ((so l0 x11_1).f2) = some r) ∧ Aside0 (kq ≤ kj6) ∧ Aside0 (Kd.R k34 34 wc w.heap.size (fun k_ => k_ ≠ bn ∧ k_ ≠ bq) u5 x5_1) ∧ Aside0 (wc.heap[bn]? = some (.cells #[.int .i64 x275000_1, .int .i64 x275001_1, .string a1_2] 34 (0, 0))) ∧ Aside0 (wc.heap[bq]? = some (.cells #[.int .i64 ((so l0 x11_1).f0), .int .i64 ((so l0 x11_1).f1), .string ((so l0 x11_1).f2)] 34 (0, 0))) ∧ Aside0 (Below w.heap.size w wc))
         case first =>
          have H := qW.out
          clear qW
          by_cases gH : (Op.bytesLess a1_2.toList ((so l0 x11_1).f2).toList) = true
          ·rw [if_pos gH] at H
           have c28b0 : (Op.bytesLess a1_2.toList ((so l0 x11_1).f2).toList) = true := gH
           have c28g1 := bl_asym c28b0
           have c28g2 := bl_ne c28b0
           have c28g3 := bl_ne' c28b0
           have c28g4 := qF c28g2
           have c28g5 := qF c28g3
           clear gH
           (first | rw [c28b0] | (simp only [i64_w, i32_w]; rw [c28b0]) | skip)
           have H' := aM H
           clear H
           have hnb29 := b9.out
           have hnc29 := ca.out
           obtain ⟨fl, fk, fj, e6, e5, e4⟩ := cc3 a6.out
           obtain ⟨gz, gy, gx, gl, gj, gi⟩ := cc3 bh.out
           go_wp2
           go_meet
           case rel => exact ⟨_, (true), z1, H', ⟨by have := HK1.out; have := fE.out; first | omega | exact Nat.le_refl _⟩, ⟨y9⟩, ⟨y15⟩, ⟨kB_ a6.out⟩, ⟨y35⟩⟩
          ·rw [if_neg gH] at H
           have c28b0 : (Op.bytesLess a1_2.toList ((so l0 x11_1).f2).toList) = false := by simpa using gH
           have c28g6 := bl_or c28b0
           have c28g7 := bl_or2 c28b0
           clear gH
           (first | rw [c28b0] | (simp only [i64_w, i32_w]; rw [c28b0]) | skip)
           have H' := aM H
           clear H
           have hnb32 := b9.out
           have hnc32 := ca.out
           obtain ⟨mX, mW, mV, mC, mB, mA⟩ := cc3 a6.out
           obtain ⟨mU, mT, mS, mz, my, mw⟩ := cc3 bh.out
           go_wp2
           go_meet
           case rel => exact ⟨_, (decide (((so l0 x11_1).f0) > x275001_1)), z1, H', ⟨by have := HK1.out; have := fE.out; first | omega | exact Nat.le_refl _⟩, ⟨y9⟩, ⟨y15⟩, ⟨kB_ a6.out⟩, ⟨y35⟩⟩
         case rest =>
          clear qW
          try clear c2
          try clear p2
          try clear c4
          try clear c4b0
          try clear c5
          try clear c5b0
          try clear c6
          try clear c6b0
          try clear fK
          try clear cG
          try clear cF
          try clear cE
          try clear cD
          try clear cC
          try clear cB
          try clear hx278_0
          try clear hx278_1
          try clear hx278_2
          try clear p2
          try clear p278
          try clear q278
          obtain ⟨kq, x55_26, rfl, HA, iW, bi, bh, a6, HB⟩ := hcut
          cases kq with
          | zero => exact absurd HA.out (by simp [spec_l5Add.j2])
          | succ kj26 =>
           have H := HA.out
           clear HA
           simp only [spec_l5Add.j2] at H
           by_cases nK : x55_26 = true
           ·subst nK
            rw [if_pos rfl] at H
            by_cases iM : x6_1 = true
            ·subst iM
             rw [if_pos rfl] at H
             by_cases gM : x5_1.length < 4398046511104
             ·rw [if_pos gM] at H
              have LMc37 := aM gM
              clear gM
              obtain ⟨y283, hy283⟩ : ∃ y_ : List (S34), y_ = (x5_1 ++ [(⟨((so l0 x11_1).f0), ((so l0 x11_1).f1), ((so l0 x11_1).f2)⟩ : S34)]) := ⟨_, rfl⟩
              replace H : (spec_l5Add.l0 kj26 y283 true l0 (l0.length : Int) (wrap64 (x11_1 + 1)) x275000_1 x275001_1 a1_2) = some r := zh_ hy283
              have Ny283 := aM hy283
              clear hy283
              have H' := aM H
              clear H
              have hnb38 := b9.out
              have hnc38 := ca.out
              obtain ⟨cU, cT, cS, cR, cQ, cP⟩ := cc3 a6.out
              go_wp2_with (first | ((with_reducible refine gate_builtin (b := .append) (xs := #[.tmp 74, .tmp 76]) rfl ?_); at_builtin; refine aE k34 (w0 := w) w.heap.size rfl (.tmp 74) (.tmp 76) 24 34 (.agg #[(.int .i64 0), (.int .i64 0), (.string ⟨#[]⟩)]) 32 rfl Try.underlying24 info34 rfl (by decide) (by omega) u5 x5_1 (⟨((so l0 x11_1).f0), ((so l0 x11_1).f1), ((so l0 x11_1).f2)⟩ : S34) [.int .i64 ((so l0 x11_1).f0), .int .i64 ((so l0 x11_1).f1), .string ((so l0 x11_1).f2)] (fun k_ => k_ ≠ bn ∧ k_ ≠ bq) (fun _ => False) rfl rfl ?aP (fun _ hk => hk.elim) ?aF ?aO ?aB ?aS ?aL ?_; (case aP => exact k34_mkM _ _ _ (⟨((so l0 x11_1).f0), ((so l0 x11_1).f1), ((so l0 x11_1).f2)⟩ : S34)); (case aB => exact z18); (case aF => exact (fun k_ hk => ⟨Kd.freshB (g := bn) (o := .cells #[.int .i64 x275000_1, .int .i64 x275001_1, .string a1_2] 34 (0, 0)) z6 k_ hk, Kd.freshB (g := bq) (o := .cells #[.int .i64 ((so l0 x11_1).f0), .int .i64 ((so l0 x11_1).f1), .string ((so l0 x11_1).f2)] 34 (0, 0)) (kB_ a6.out) k_ hk⟩)); (case aO => exact z3); (case aS => exact (aq z18)); (case aL => have := LMc37.out; omega); intro v284 w40 ho hb hg hat; rw [← Ny283.out] at ho; replace bh := aM (blk_grown (g := bn) (o := .cells #[.int .i64 x275000_1, .int .i64 x275001_1, .string a1_2] 34 (0, 0)) z6 hg (Kd.R_away bi.out (fun _ hk => hk.1))); replace a6 := aM (blk_grown (g := bq) (o := .cells #[.int .i64 ((so l0 x11_1).f0), .int .i64 ((so l0 x11_1).f1), .string ((so l0 x11_1).f2)] 34 (0, 0)) (kB_ a6.out) hg (Kd.R_away bi.out (fun _ hk => hk.2))); replace HB := aM hb; have HO285 := aM (ho); clear bi; clear ho hb hg hat))
              go_roundg kj26
              case measure => have := HK1.out; have := fE.out; have := iW.out; omega
              case rel => exact ⟨(y283), (true), (wrap64 (x11_1 + 1)), (x275000_1), (x275001_1), z1, z1, H', ⟨by have := HK1.out; have := fE.out; have := iW.out; omega⟩, ⟨kM_ HO285.out (fun _ hk => hk.1)⟩, ⟨y15⟩, ⟨y35⟩⟩
             ·rw [if_neg gM] at H
              exact absurd H (by simp)
            ·replace iM := Bool.eq_false_iff.mpr iM
             subst iM
             rw [if_neg nF_] at H
             by_cases m8 : x5_1.length < 4398046511104
             ·rw [if_pos m8] at H
              have LMc41 := aM m8
              clear m8
              obtain ⟨y286, hy286⟩ : ∃ y_ : List (S34), y_ = (x5_1 ++ [(⟨x275000_1, x275001_1, a1_2⟩ : S34)]) := ⟨_, rfl⟩
              replace H : (if y286.length < 4398046511104 then (spec_l5Add.l0 kj26 (y286 ++ [(⟨((so l0 x11_1).f0), ((so l0 x11_1).f1), ((so l0 x11_1).f2)⟩ : S34)]) true l0 (l0.length : Int) (wrap64 (x11_1 + 1)) x275000_1 x275001_1 a1_2) else (none)) = some r := zh_ hy286
              have Ny286 := aM hy286
              clear hy286
              by_cases pn : y286.length < 4398046511104
              ·rw [if_pos pn] at H
               have LMc42 := aM pn
               clear pn
               obtain ⟨y289, hy289⟩ : ∃ y_ : List (S34), y_ = (y286 ++ [(⟨((so l0 x11_1).f0), ((so l0 x11_1).f1), ((so l0 x11_1).f2)⟩ : S34)]) := ⟨_, rfl⟩
               replace H : (spec_l5Add.l0 kj26 y289 true l0 (l0.length : Int) (wrap64 (x11_1 + 1)) x275000_1 x275001_1 a1_2) = some r := zh_ hy289
               have Ny289 := aM hy289
               clear hy289
               have H' := aM H
               clear H
               have hnb43 := ca.out
               have hnc43 := b9.out
               obtain ⟨hcz44_0, hcz44_1, hcz44_2, hfz44_0, hfz44_1, hfz44_2⟩ := cc3 bh.out
               go_wp2_with (first | ((with_reducible refine gate_builtin (b := .append) (xs := #[.tmp 70, .tmp 72]) rfl ?_); at_builtin; refine aE k34 (w0 := w) w.heap.size rfl (.tmp 70) (.tmp 72) 24 34 (.agg #[(.int .i64 0), (.int .i64 0), (.string ⟨#[]⟩)]) 32 rfl Try.underlying24 info34 rfl (by decide) (by omega) u5 x5_1 (⟨x275000_1, x275001_1, a1_2⟩ : S34) [.int .i64 x275000_1, .int .i64 x275001_1, .string a1_2] (fun k_ => k_ ≠ bn ∧ k_ ≠ bq) (fun _ => False) rfl rfl ?aP (fun _ hk => hk.elim) ?aF ?aO ?aB ?aS ?aL ?_; (case aP => exact k34_mkM _ _ _ (⟨x275000_1, x275001_1, a1_2⟩ : S34)); (case aB => exact z18); (case aF => exact (fun k_ hk => ⟨Kd.freshB (g := bn) (o := .cells #[.int .i64 x275000_1, .int .i64 x275001_1, .string a1_2] 34 (0, 0)) z6 k_ hk, Kd.freshB (g := bq) (o := .cells #[.int .i64 ((so l0 x11_1).f0), .int .i64 ((so l0 x11_1).f1), .string ((so l0 x11_1).f2)] 34 (0, 0)) (kB_ a6.out) k_ hk⟩)); (case aO => exact z3); (case aS => exact (aq z18)); (case aL => have := LMc41.out; omega); intro v287 w45 ho hb hg hat; rw [← Ny286.out] at ho; replace bh := aM (blk_grown (g := bn) (o := .cells #[.int .i64 x275000_1, .int .i64 x275001_1, .string a1_2] 34 (0, 0)) z6 hg (Kd.R_away bi.out (fun _ hk => hk.1))); replace a6 := aM (blk_grown (g := bq) (o := .cells #[.int .i64 ((so l0 x11_1).f0), .int .i64 ((so l0 x11_1).f1), .string ((so l0 x11_1).f2)] 34 (0, 0)) (kB_ a6.out) hg (Kd.R_away bi.out (fun _ hk => hk.2))); replace HB := aM hb; have nh := aM (ho); clear bi; clear ho hb hg hat; obtain ⟨hcz46_0, hcz46_1, hcz46_2, hfz46_0, hfz46_1, hfz46_2⟩ := cc3 a6.out) | ((with_reducible refine gate_builtin (b := .append) (xs := #[.tmp 74, .tmp 76]) rfl ?_); at_builtin; refine aE k34 (w0 := w) w.heap.size rfl (.tmp 74) (.tmp 76) 24 34 (.agg #[(.int .i64 0), (.int .i64 0), (.string ⟨#[]⟩)]) 32 rfl Try.underlying24 info34 rfl (by decide) (by omega) v287 y286 (⟨((so l0 x11_1).f0), ((so l0 x11_1).f1), ((so l0 x11_1).f2)⟩ : S34) [.int .i64 ((so l0 x11_1).f0), .int .i64 ((so l0 x11_1).f1), .string ((so l0 x11_1).f2)] (fun k_ => k_ ≠ bn ∧ k_ ≠ bq) (fun _ => False) rfl rfl ?aP (fun _ hk => hk.elim) ?aF ?aO ?aB ?aS ?aL ?_; (case aP => exact k34_mkM _ _ _ (⟨((so l0 x11_1).f0), ((so l0 x11_1).f1), ((so l0 x11_1).f2)⟩ : S34)); (case aB => exact z18); (case aF => exact (fun k_ hk => ⟨Kd.freshB (g := bn) (o := .cells #[.int .i64 x275000_1, .int .i64 x275001_1, .string a1_2] 34 (0, 0)) z6 k_ hk, Kd.freshB (g := bq) (o := .cells #[.int .i64 ((so l0 x11_1).f0), .int .i64 ((so l0 x11_1).f1), .string ((so l0 x11_1).f2)] 34 (0, 0)) (kB_ a6.out) k_ hk⟩)); (case aO => exact (kR_ nh.out)); (case aS => exact (aq z18)); (case aL => have := LMc42.out; omega); intro v290 w47 ho hb hg hat; rw [← Ny289.out] at ho; replace bh := aM (blk_grown (g := bn) (o := .cells #[.int .i64 x275000_1, .int .i64 x275001_1, .string a1_2] 34 (0, 0)) z6 hg (Kd.R_away nh.out (fun _ hk => hk.1))); replace a6 := aM (blk_grown (g := bq) (o := .cells #[.int .i64 ((so l0 x11_1).f0), .int .i64 ((so l0 x11_1).f1), .string ((so l0 x11_1).f2)] 34 (0, 0)) (kB_ a6.out) hg (Kd.R_away nh.out (fun _ hk => hk.2))); replace HB := aM hb; have HO291 := aM (ho); clear nh; clear ho hb hg hat))
               go_roundg kj26
               case measure => have := HK1.out; have := fE.out; have := iW.out; omega
               case rel => exact ⟨(y289), (true), (wrap64 (x11_1 + 1)), (x275000_1), (x275001_1), z1, z1, H', ⟨by have := HK1.out; have := fE.out; have := iW.out; omega⟩, ⟨kM_ HO291.out (fun _ hk => hk.1)⟩, ⟨y15⟩, ⟨y35⟩⟩
              ·rw [if_neg pn] at H
               exact absurd H (by simp)
             ·rw [if_neg m8] at H
              exact absurd H (by simp)
           ·replace nK := Bool.eq_false_iff.mpr nK
            subst nK
            rw [if_neg nF_] at H
            by_cases jr : ((so l0 x11_1).f0) < x275000_1
            ·rw [if_pos jr] at H
             have c48b0 : decide (((so l0 x11_1).f0) < x275000_1) = true := dT jr
             clear jr
             by_cases lW : ((so l0 x11_1).f1) > x275001_1
             ·rw [if_pos lW] at H
              have c49b0 : decide (x275001_1 < ((so l0 x11_1).f1)) = true := dT lW
              clear lW
              have H' := aM H
              clear H
              have hnb50 := b9.out
              have hnc50 := ca.out
              obtain ⟨hcz51_0, hcz51_1, hcz51_2, hfz51_0, hfz51_1, hfz51_2⟩ := cc3 a6.out
              obtain ⟨hcz52_0, hcz52_1, hcz52_2, hfz52_0, hfz52_1, hfz52_2⟩ := cc3 bh.out
              go_wp2
              go_roundg kj26
              case measure => have := HK1.out; have := fE.out; have := iW.out; omega
              case rel => exact ⟨(x5_1), (x6_1), (wrap64 (x11_1 + 1)), (((so l0 x11_1).f0)), (((so l0 x11_1).f1)), z1, z1, H', ⟨by have := HK1.out; have := fE.out; have := iW.out; omega⟩, ⟨by (with_reducible repeat (first | apply ac | apply ab | apply aa)); exact ag (ai (p := ⟨bn, 1, none⟩) (ai (p := ⟨bn, 0, none⟩) (ag bi.out (fun k_ hk => (⟨hk, hk.1⟩ : _ ∧ k_ ≠ bn))) (fun _ hk => hk.2) (.int .i64 ((so l0 x11_1).f0))) (fun _ hk => hk.2) (.int .i64 ((so l0 x11_1).f1))) (fun _ hk => hk.1.1)⟩, ⟨by (with_reducible repeat (first | refine ak ?_ _ | refine aj ?_ | refine al ?_ _)); refine am (cs := #[.int .i64 ((so l0 x11_1).f0), .int .i64 x275001_1, .string a1_2]) ?_ 1 _ rfl; (with_reducible repeat (first | refine ak ?_ _ | refine aj ?_ | refine al ?_ _)); refine am (cs := #[.int .i64 x275000_1, .int .i64 x275001_1, .string a1_2]) ?_ 0 _ rfl; (with_reducible repeat (first | refine ak ?_ _ | refine aj ?_ | refine al ?_ _)); exact bh.out⟩, ⟨y35⟩⟩
             ·rw [if_neg lW] at H
              have c49b0 : decide (x275001_1 < ((so l0 x11_1).f1)) = false := dF lW
              clear lW
              have H' := aM H
              clear H
              have hnb53 := b9.out
              have hnc53 := ca.out
              obtain ⟨ea, d9, d8, d1, dZ, dY⟩ := cc3 a6.out
              obtain ⟨hcz55_0, hcz55_1, hcz55_2, hfz55_0, hfz55_1, hfz55_2⟩ := cc3 bh.out
              go_wp2
              go_roundg kj26
              case measure => have := HK1.out; have := fE.out; have := iW.out; omega
              case rel => exact ⟨(x5_1), (x6_1), (wrap64 (x11_1 + 1)), (((so l0 x11_1).f0)), (x275001_1), z1, z1, H', ⟨by have := HK1.out; have := fE.out; have := iW.out; omega⟩, ⟨by (with_reducible repeat (first | apply ac | apply ab | apply aa)); exact ag (ai (p := ⟨bn, 0, none⟩) (ag bi.out (fun k_ hk => (⟨hk, hk.1⟩ : _ ∧ k_ ≠ bn))) (fun _ hk => hk.2) (.int .i64 ((so l0 x11_1).f0))) (fun _ hk => hk.1.1)⟩, ⟨by (with_reducible repeat (first | refine ak ?_ _ | refine aj ?_ | refine al ?_ _)); refine am (cs := #[.int .i64 x275000_1, .int .i64 x275001_1, .string a1_2]) ?_ 0 _ rfl; (with_reducible repeat (first | refine ak ?_ _ | refine aj ?_ | refine al ?_ _)); exact bh.out⟩, ⟨y35⟩⟩
            ·rw [if_neg jr] at H
             have c48b0 : decide (((so l0 x11_1).f0) < x275000_1) = false := dF jr
             clear jr
             by_cases rj : ((so l0 x11_1).f1) > x275001_1
             ·rw [if_pos rj] at H
              have c56b0 : decide (x275001_1 < ((so l0 x11_1).f1)) = true := dT rj
              clear rj
              have H' := aM H
              clear H
              have hnb57 := b9.out
              have hnc57 := ca.out
              obtain ⟨hcz58_0, hcz58_1, hcz58_2, hfz58_0, hfz58_1, hfz58_2⟩ := cc3 a6.out
              obtain ⟨gw, gv, gu, gh, gg, gf⟩ := cc3 bh.out
              go_wp2
              go_roundg kj26
              case measure => have := HK1.out; have := fE.out; have := iW.out; omega
              case rel => exact ⟨(x5_1), (x6_1), (wrap64 (x11_1 + 1)), (x275000_1), (((so l0 x11_1).f1)), z1, z1, H', ⟨by have := HK1.out; have := fE.out; have := iW.out; omega⟩, ⟨by (with_reducible repeat (first | apply ac | apply ab | apply aa)); exact ag (ai (p := ⟨bn, 1, none⟩) (ag bi.out (fun k_ hk => (⟨hk, hk.1⟩ : _ ∧ k_ ≠ bn))) (fun _ hk => hk.2) (.int .i64 ((so l0 x11_1).f1))) (fun _ hk => hk.1.1)⟩, ⟨by (with_reducible repeat (first | refine ak ?_ _ | refine aj ?_ | refine al ?_ _)); refine am (cs := #[.int .i64 x275000_1, .int .i64 x275001_1, .string a1_2]) ?_ 1 _ rfl; (with_reducible repeat (first | refine ak ?_ _ | refine aj ?_ | refine al ?_ _)); exact bh.out⟩, ⟨y35⟩⟩
             ·rw [if_neg rj] at H
              have c56b0 : decide (x275001_1 < ((so l0 x11_1).f1)) = false := dF rj
              clear rj
              have H' := aM H
              clear H
              have hnb60 := b9.out
              have hnc60 := ca.out
              obtain ⟨hcz61_0, hcz61_1, hcz61_2, hfz61_0, hfz61_1, hfz61_2⟩ := cc3 a6.out
              obtain ⟨hcz62_0, hcz62_1, hcz62_2, hfz62_0, hfz62_1, hfz62_2⟩ := cc3 bh.out
              go_wp2
              go_roundg kj26
              case measure => have := HK1.out; have := fE.out; have := iW.out; omega
              case rel => exact ⟨(x5_1), (x6_1), (wrap64 (x11_1 + 1)), (x275000_1), (x275001_1), z1, z1, H', ⟨by have := HK1.out; have := fE.out; have := iW.out; omega⟩, ⟨kM_ bi.out (fun _ hk => hk.1)⟩, ⟨y15⟩, ⟨y35⟩⟩
     ·rw [if_neg c6] at H
      exact absurd H (by simp)
    ·rw [if_neg c5] at H
     exact absurd H (by simp)
   ·rw [if_neg c4] at H
    have c4b0 : decide (x11_1 < (l0.length : Int)) = false := dF c4
    clear c4
    by_cases ly : x6_1 = true
    ·subst ly
     rw [if_pos rfl] at H
     obtain rfl := sI H
     go_wp2
     go_ret
     exact ⟨_, y5, by (with_reducible repeat (first | apply ac | apply ab | apply aa)); exact ag bi.out (fun _ hk => trivial), zb_⟩
    ·replace ly := Bool.eq_false_iff.mpr ly
     subst ly
     rw [if_neg nF_] at H
     by_cases lU : x5_1.length < 4398046511104
     ·rw [if_pos lU] at H
      have LMc64 := aM lU
      clear lU
      obtain ⟨y275, hy275⟩ : ∃ y_ : List (S34), y_ = (x5_1 ++ [(⟨x275000_1, x275001_1, a1_2⟩ : S34)]) := ⟨_, rfl⟩
      replace H : (some y275) = some r := zh_ hy275
      have Ny275 := aM hy275
      clear hy275
      obtain rfl := sI H
      obtain ⟨gs, gr, gq, gc, gb, ga⟩ := cc3 bh.out
      go_wp2_with (first | ((with_reducible refine gate_builtin (b := .append) (xs := #[.tmp 81, .tmp 83]) rfl ?_); at_builtin; refine aE k34 (w0 := w) w.heap.size rfl (.tmp 81) (.tmp 83) 24 34 (.agg #[(.int .i64 0), (.int .i64 0), (.string ⟨#[]⟩)]) 32 rfl Try.underlying24 info34 rfl (by decide) (by omega) u5 x5_1 (⟨x275000_1, x275001_1, a1_2⟩ : S34) [.int .i64 x275000_1, .int .i64 x275001_1, .string a1_2] (fun k_ => k_ ≠ bn) (fun _ => False) rfl rfl ?aP (fun _ hk => hk.elim) ?aF ?aO ?aB ?aS ?aL ?_; (case aP => exact k34_mkM _ _ _ (⟨x275000_1, x275001_1, a1_2⟩ : S34)); (case aB => exact zb_); (case aF => exact (fun k_ hk => Kd.freshB (g := bn) (o := .cells #[.int .i64 x275000_1, .int .i64 x275001_1, .string a1_2] 34 (0, 0)) z6 k_ hk)); (case aO => exact z3); (case aS => exact (aq zb_)); (case aL => have := LMc64.out; omega); intro v276 w66 ho hb hg hat; rw [← Ny275.out] at ho; replace bh := aM (blk_grown (g := bn) (o := .cells #[.int .i64 x275000_1, .int .i64 x275001_1, .string a1_2] 34 (0, 0)) z6 hg (Kd.R_away bi.out (fun _ hk => hk))); replace HB := aM hb; have HO277 := aM (ho); clear bi; clear ho hb hg hat))
      go_ret
      exact ⟨_, y5, by (with_reducible repeat (first | apply ac | apply ab | apply aa)); exact ag HO277.out (fun _ hk => trivial), zb_⟩
     ·rw [if_neg lU] at H
      exact absurd H (by simp)

/-! ### spec_AddMark: function 12 -/
def spec_AddMark.j0 : Nat → List (S34) → Bool → Int → Int → ByteArray → Option ((List (S34)) × Bool)
 | 0, _, _, _, _, _ => none
 | k + 1, x0, x18, x293000, x293001, x293002 => if x18 = true then (some (([] : List (S34)), false)) else ((spec_l5Add.f k x0 x293000 x293001 x293002).bind fun ka => (if (ka.length : Int) > 40 then (some (([] : List (S34)), false)) else (some (ka, true))))
def spec_AddMark.f (k : Nat) (l0 : List (S34)) (a1 : Int) (a2_0 : Int) (a2_1 : Int) (a2_2 : ByteArray) : Option ((List (S34)) × Bool) := (spec_GoodMarks.f k l0 a1).bind fun ou => (if ou = true then ((spec_l5Mark.f k a2_0 a2_1 a2_2 a1).bind fun nz => (spec_AddMark.j0 k l0 (!nz) a2_0 a2_1 a2_2)) else (spec_AddMark.j0 k l0 true a2_0 a2_1 a2_2))
theorem spec_AddMark.mono_l : ∀ k, (∀ y0 y1 y2 y3 y4, LeO (spec_AddMark.j0 k y0 y1 y2 y3 y4) (spec_AddMark.j0 (k + 1) y0 y1 y2 y3 y4))
 | 0 => fun _ _ _ _ _ r h => by simp [spec_AddMark.j0] at h
 | k + 1 => by
  have ih0 := spec_AddMark.mono_l k
  ·intro y0 y1 y2 y3 y4
   unfold spec_AddMark.j0
   with_reducible repeat' first | exact ih0 _ _ _ _ _ | exact spec_GoodMarks.mono _ _ _ | exact spec_l5Add.mono _ _ _ _ _ | exact spec_l5Mark.mono _ _ _ _ _ | exact lR_ _ | exact lN_ _ | refine lI_ ?_ ?_ | refine lB_ ?_ fun _ => ?_
theorem spec_AddMark.mono : ∀ a0 a1 a2 a3 a4 k, LeO (spec_AddMark.f k a0 a1 a2 a3 a4) (spec_AddMark.f (k + 1) a0 a1 a2 a3 a4) := by
 intro a0 a1 a2 a3 a4 k
 have ih0 := spec_AddMark.mono_l k
 unfold spec_AddMark.f
 with_reducible repeat' first | exact ih0 _ _ _ _ _ | exact spec_GoodMarks.mono _ _ _ | exact spec_l5Add.mono _ _ _ _ _ | exact spec_l5Mark.mono _ _ _ _ _ | exact lR_ _ | exact lN_ _ | refine lI_ ?_ ?_ | refine lB_ ?_ fun _ => ?_
theorem spec_AddMark.calls (k : Nat) (A0 : Option Addr) (c0 : Nat) (l0 : List (S34)) (a1 : Int) (a2_0 : Int) (a2_1 : Int) (a2_2 : ByteArray) (r1 : List (S34)) (r2 : Bool) (w : World) (hr0 : Kd.C k34 w A0 l0.length l0) (hc0 : l0.length ≤ c0) (h : spec_AddMark.f k l0 a1 a2_0 a2_1 a2_2 = some (r1, r2)) :
  Calls Try.prog 12 #[.slice A0 l0.length c0, .int .i64 a1, .agg #[.int .i64 a2_0, .int .i64 a2_1, .string a2_2]] w fun e w' => ∃ v0_ : Value, e = .returned (.tuple #[v0_, .bool r2]) ∧ Kd.R k34 34 w' w.heap.size (fun _ => True) v0_ r1 ∧ Below w.heap.size w w' := by
 have hu34 := Try.underlying34
 have bH := aM hr0
 have cH := aM hc0
 clear hr0 hc0
 have HB := aM (Below.refl w.heap.size w)
 have H : ((spec_GoodMarks.f k l0 a1).bind fun ou => (if ou = true then ((spec_l5Mark.f k a2_0 a2_1 a2_2 a1).bind fun nz => (spec_AddMark.j0 k l0 (!nz) a2_0 a2_1 a2_2)) else (spec_AddMark.j0 k l0 true a2_0 a2_1 a2_2))) = some (r1, r2) := h
 clear h
 have iJ := aM H
 clear H
 go_enter Try.func12, Try.ntmps12
 go_upto_region 1 with (first | ((with_reducible refine ay (N := 5) rfl ?_); refine bE_ (N := 5) (cs := #[.int .i64 a2_0, .int .i64 a2_1, .string a2_2]) (t := 34) (h := ?_); intro dy hg w5 hbox hb; have bV := aM (hbox); have GW292 := aM ((zg_ : w.heap.size ≤ dy)); have jU := aM ((zg_ : w.heap.size ≤ dy)); replace HB := aM (ap z9 hb); clear hb hbox hg))
 (try simp only [Act.put, sA, sB, sC])
 go_cut [18] (fun v18 wc => ∃ (kq : Nat) (x18_3 : Bool), v18 = .bool x18_3 ∧ Aside0 (spec_AddMark.j0 kq l0 x18_3 a2_0 a2_1 a2_2 = some (r1, r2)) ∧ Aside0 (kq ≤ k) ∧ Aside0 (wc.heap[dy]? = some (.cells #[.int .i64 a2_0, .int .i64 a2_1, .string a2_2] 34 (0, 0))) ∧ Aside0 (Below w.heap.size w wc))
 case first =>
  have H := iJ.out
  clear iJ
  obtain ⟨ou, A6, H⟩ := oA_ H
  try dsimp only at H
  by_cases c7 : ou = true
  ·subst c7
   rw [if_pos rfl] at H
   obtain ⟨nz, A8, H⟩ := oA_ H
   try dsimp only at H
   have H' := aM H
   clear H
   go_wp2_with (first | ((with_reducible refine ax (f := 25) rfl ?_); refine aC (some 11) rfl rfl Try.func25 z0 rfl #[.slice A0 l0.length c0, .int .i64 a1] rfl z10 ?_; (with_reducible refine (spec_GoodMarks.calls k _ _ l0 a1 true _ ?side1 ?side2 A6.out).mono ?_); (case side1 => exact y64); (case side2 => exact y51); rintro e w9 ⟨rfl, hb⟩; refine ⟨_, rfl, ?_⟩; replace bV := aM (ae (g := dy) (o := .cells #[.int .i64 a2_0, .int .i64 a2_1, .string a2_2] 34 (0, 0)) (kB_ bV.out) hb); replace HB := aM (ap zb_ hb); (try clear hb); obtain ⟨cG, cF, cE, cD, cC, cB⟩ := cc3 bV.out) | (go_at_call 32; (with_reducible refine (spec_l5Mark.calls k a2_0 a2_1 a2_2 a1 nz _ A8.out).mono ?_); rintro e w11 ⟨rfl, hb⟩; replace bV := aM (ae (g := dy) (o := .cells #[.int .i64 a2_0, .int .i64 a2_1, .string a2_2] 34 (0, 0)) (kB_ bV.out) hb); replace HB := aM (ap zb_ hb); (try clear hb)))
   go_meet
   case rel => exact ⟨_, (!nz), z1, H', ⟨y1⟩, ⟨kB_ bV.out⟩, ⟨y26⟩⟩
  ·replace c7 := Bool.eq_false_iff.mpr c7
   subst c7
   rw [if_neg nF_] at H
   have H' := aM H
   clear H
   go_wp2_with (first | ((with_reducible refine ax (f := 25) rfl ?_); refine aC (some 11) rfl rfl Try.func25 z0 rfl #[.slice A0 l0.length c0, .int .i64 a1] rfl z10 ?_; (with_reducible refine (spec_GoodMarks.calls k _ _ l0 a1 false _ ?side1 ?side2 A6.out).mono ?_); (case side1 => exact y64); (case side2 => exact y51); rintro e w12 ⟨rfl, hb⟩; refine ⟨_, rfl, ?_⟩; replace bV := aM (ae (g := dy) (o := .cells #[.int .i64 a2_0, .int .i64 a2_1, .string a2_2] 34 (0, 0)) (kB_ bV.out) hb); replace HB := aM (ap zb_ hb); (try clear hb)))
   go_meet
   case rel => exact ⟨_, (true), z1, H', ⟨y1⟩, ⟨kB_ bV.out⟩, ⟨y26⟩⟩
 case rest =>
  clear iJ
  obtain ⟨kq, x18_3, rfl, HA, jh, bV, HB⟩ := hcut
  cases kq with
  | zero => exact absurd HA.out (by simp [spec_AddMark.j0])
  | succ kj3 =>
   have H := HA.out
   clear HA
   simp only [spec_AddMark.j0] at H
   by_cases bU : x18_3 = true
   ·subst bU
    rw [if_pos rfl] at H
    simp only [Option.some.injEq, Prod.mk.injEq] at H
    obtain ⟨rfl, rfl⟩ := H
    go_wp2
    go_ret2
    exact ⟨_, y5, y29, y26⟩
   ·replace bU := Bool.eq_false_iff.mpr bU
    subst bU
    rw [if_neg nF_] at H
    obtain ⟨ka, j5, H⟩ := oA_ H
    try dsimp only at H
    by_cases ce : (ka.length : Int) > 40
    ·rw [if_pos ce] at H
     have c15b0 : decide (40 < (ka.length : Int)) = true := dT ce
     have c15b1 : decide (40 < ka.length) = true := dT (by omega)
     clear ce
     simp only [Option.some.injEq, Prod.mk.injEq] at H
     obtain ⟨rfl, rfl⟩ := H
     obtain ⟨jg, jf, je, i6, i5, i4⟩ := cc3 bV.out
     go_wp2_with (first | ((with_reducible refine ax (f := 27) rfl ?_); refine aC (some 21) rfl rfl Try.func27 z0 rfl #[.slice A0 l0.length c0, .agg #[.int .i64 a2_0, .int .i64 a2_1, .string a2_2]] rfl z10 ?_; (with_reducible refine (spec_l5Add.calls kj3 _ _ l0 a2_0 a2_1 a2_2 ka _ ?side1 ?side2 j5.out).mono ?_); (case side1 => exact y64); (case side2 => exact y51); rintro e w17 ⟨v296, rfl, ho0, hb⟩; refine ⟨_, rfl, ?_⟩; have ng := aM (aD (Kd.R_newB ho0 (g := dy) (o := .cells #[.int .i64 a2_0, .int .i64 a2_1, .string a2_2] 34 (0, 0)) (kB_ bV.out)) (aq zb_)); replace bV := aM (ae (g := dy) (o := .cells #[.int .i64 a2_0, .int .i64 a2_1, .string a2_2] 34 (0, 0)) (kB_ bV.out) hb); replace HB := aM (ap zb_ hb); (try clear hb); (try clear ho0); obtain ⟨Ao18, co18, eo18⟩ := Kd.R_slice ng.out; subst eo18))
     go_ret2
     exact ⟨_, y5, y29, y26⟩
    ·rw [if_neg ce] at H
     have c15b0 : decide (40 < (ka.length : Int)) = false := dF ce
     have c15b1 : decide (40 < ka.length) = false := dF (by omega)
     clear ce
     simp only [Option.some.injEq, Prod.mk.injEq] at H
     obtain ⟨rfl, rfl⟩ := H
     obtain ⟨ld, lc, lb, kT, kR, kQ⟩ := cc3 bV.out
     go_wp2_with (first | ((with_reducible refine ax (f := 27) rfl ?_); refine aC (some 21) rfl rfl Try.func27 z0 rfl #[.slice A0 l0.length c0, .agg #[.int .i64 a2_0, .int .i64 a2_1, .string a2_2]] rfl z10 ?_; (with_reducible refine (spec_l5Add.calls kj3 _ _ l0 a2_0 a2_1 a2_2 ka _ ?side1 ?side2 j5.out).mono ?_); (case side1 => exact y64); (case side2 => exact y51); rintro e w20 ⟨v296, rfl, ho0, hb⟩; refine ⟨_, rfl, ?_⟩; have ng := aM (aD (Kd.R_newB ho0 (g := dy) (o := .cells #[.int .i64 a2_0, .int .i64 a2_1, .string a2_2] 34 (0, 0)) (kB_ bV.out)) (aq zb_)); replace bV := aM (ae (g := dy) (o := .cells #[.int .i64 a2_0, .int .i64 a2_1, .string a2_2] 34 (0, 0)) (kB_ bV.out) hb); replace HB := aM (ap zb_ hb); (try clear hb); (try clear ho0); obtain ⟨Ao21, qK, eo21⟩ := Kd.R_slice ng.out; subst eo21))
     go_ret2
     exact ⟨_, y5, by (with_reducible repeat (first | apply ac | apply ab | apply aa)); exact ag ng.out (fun _ hk => trivial), y26⟩

/-! ### spec_l1Cur_marks: function 18 -/
mutual
def spec_l1Cur_marks.l0 : Nat → Int → List (S34) → Int → List Int → Int → Int → Option ((List (S34)) × Int × Int)
 | 0, _, _, _, _, _, _ => none
 | k + 1, x1, x5, x6, x1000, x1001, x1002 => if x6 > 0 then (spec_l1Cur_marks.j1 k x1 x5 x6 (decide (x1 > 0)) x1000 x1001 x1002) else (spec_l1Cur_marks.j1 k x1 x5 x6 false x1000 x1001 x1002)
def spec_l1Cur_marks.j1 : Nat → Int → List (S34) → Int → Bool → List Int → Int → Int → Option ((List (S34)) × Int × Int)
 | 0, _, _, _, _, _, _, _ => none
 | k + 1, x1, x5, x6, x16, x1000, x1001, x1002 => if x16 = true then ((spec_l1Cur_pick.f x1000 x1001 x1002 x1).bind fun kj => ((spec_l1Cur_pick.f x1000 kj.2.1 kj.2.2 5).bind fun nc => ((spec_l1Cur_of.f x1000 nc.2.1 nc.2.2 (([(⟨#[98, 111, 108, 100]⟩ : ByteArray), (⟨#[101, 109]⟩ : ByteArray), (⟨#[99, 111, 100, 101]⟩ : ByteArray)] : List ByteArray))).bind fun eQ => (if (wrap64 ((wrap64 (kj.1 + 1)) + nc.1)) > x1 then ((spec_AddMark.f k x5 x1 kj.1 x1 eQ.1).bind fun oX => (spec_l1Cur_marks.l0 k x1 oX.1 (wrap64 (x6 - 1)) x1000 eQ.2.1 eQ.2.2)) else ((spec_AddMark.f k x5 x1 kj.1 (wrap64 ((wrap64 (kj.1 + 1)) + nc.1)) eQ.1).bind fun oW => (spec_l1Cur_marks.l0 k x1 oW.1 (wrap64 (x6 - 1)) x1000 eQ.2.1 eQ.2.2)))))) else (if (x5.length : Int) > 0 then ((spec_l1Cur_one.f x1000 x1001 x1002 20).bind fun lG => (if lG.1 = true then ((spec_l1Cur_pick.f x1000 lG.2.1 lG.2.2 9).bind fun oV => (if 0 < (x5.length : Int) then (some ((x5.set (0 : Int).toNat (⟨(so x5 0).f0, oV.1, (so x5 0).f2⟩ : S34)), oV.2.1, oV.2.2)) else (none))) else (some (x5, lG.2.1, lG.2.2)))) else (some (x5, x1001, x1002)))
end
def spec_l1Cur_marks.f (k : Nat) (s0_0 : List Int) (s0_1 : Int) (s0_2 : Int) (a1 : Int) : Option ((List (S34)) × Int × Int) := (spec_l1Cur_pick.f s0_0 s0_1 s0_2 6).bind fun jw => (spec_l1Cur_marks.l0 k a1 ([] : List (S34)) jw.1 s0_0 jw.2.1 jw.2.2)
theorem spec_l1Cur_marks.mono_l : ∀ k, (∀ y0 y1 y2 y3 y4 y5, LeO (spec_l1Cur_marks.l0 k y0 y1 y2 y3 y4 y5) (spec_l1Cur_marks.l0 (k + 1) y0 y1 y2 y3 y4 y5)) ∧ (∀ y0 y1 y2 y3 y4 y5 y6, LeO (spec_l1Cur_marks.j1 k y0 y1 y2 y3 y4 y5 y6) (spec_l1Cur_marks.j1 (k + 1) y0 y1 y2 y3 y4 y5 y6))
 | 0 => ⟨fun _ _ _ _ _ _ r h => by simp [spec_l1Cur_marks.l0] at h, fun _ _ _ _ _ _ _ r h => by simp [spec_l1Cur_marks.j1] at h⟩
 | k + 1 => by
  obtain ⟨ih0, ih1⟩ := spec_l1Cur_marks.mono_l k
  refine ⟨?_, ?_⟩
  ·intro y0 y1 y2 y3 y4 y5
   unfold spec_l1Cur_marks.l0
   with_reducible repeat' first | exact ih0 _ _ _ _ _ _ | exact ih1 _ _ _ _ _ _ _ | exact spec_AddMark.mono _ _ _ _ _ _ | exact lR_ _ | exact lN_ _ | refine lI_ ?_ ?_ | refine lB_ ?_ fun _ => ?_
  ·intro y0 y1 y2 y3 y4 y5 y6
   unfold spec_l1Cur_marks.j1
   with_reducible repeat' first | exact ih0 _ _ _ _ _ _ | exact ih1 _ _ _ _ _ _ _ | exact spec_AddMark.mono _ _ _ _ _ _ | exact lR_ _ | exact lN_ _ | refine lI_ ?_ ?_ | refine lB_ ?_ fun _ => ?_
theorem spec_l1Cur_marks.mono : ∀ a0 a1 a2 a3 k, LeO (spec_l1Cur_marks.f k a0 a1 a2 a3) (spec_l1Cur_marks.f (k + 1) a0 a1 a2 a3) := by
 intro a0 a1 a2 a3 k
 obtain ⟨ih0, ih1⟩ := spec_l1Cur_marks.mono_l k
 unfold spec_l1Cur_marks.f
 with_reducible repeat' first | exact ih0 _ _ _ _ _ _ | exact ih1 _ _ _ _ _ _ _ | exact spec_AddMark.mono _ _ _ _ _ _ | exact lR_ _ | exact lN_ _ | refine lI_ ?_ ?_ | refine lB_ ?_ fun _ => ?_
theorem spec_l1Cur_marks.calls (k : Nat) (g : Nat) (s0_0 : List Int) (s0_1 : Int) (s0_2 : Int) (a1 : Int) (r1 : List (S34)) (r2 : Int) (r3 : Int) (w0 w : World) (hI : IsS48 w0 w g s0_0 s0_1 s0_2) (hB : Below w0.heap.size w0 w) (h : spec_l1Cur_marks.f k s0_0 s0_1 s0_2 a1 = some (r1, r2, r3)) :
  Calls Try.prog 18 #[.pointer (some ⟨g, 0, none⟩), .int .i64 a1] w fun e w' => ∃ v0_ : Value, e = .returned (v0_) ∧ Kd.R k34 34 w' w.heap.size (fun _ => True) v0_ r1 ∧ IsS48 w0 w' g s0_0 r2 r3 ∧ Below w0.heap.size w0 w' ∧ KeepBut w w' g none := by
 have hu34 := Try.underlying34
 have HI0 := aM hI
 have HK := aM (KeepBut.refl w g none)
 have HL := aM hB.size
 clear hI
 have HW0 := aM hB.size
 have HB := aM hB
 clear hB
 have H : ((spec_l1Cur_pick.f s0_0 s0_1 s0_2 6).bind fun jw => (spec_l1Cur_marks.l0 k a1 ([] : List (S34)) jw.1 s0_0 jw.2.1 jw.2.2)) = some (r1, r2, r3) := h
 clear h
 obtain ⟨⟨rM, rL, rK⟩, A3, H⟩ := oA_ H
 try dsimp only at H
 have H' := aM H
 clear H
 go_enter Try.func18, Try.ntmps18
 go_wp2_with (first | ((with_reducible refine ax (f := 29) rfl ?_); refine aC (some 10) rfl rfl Try.func29 z0 rfl #[.pointer (some ⟨g, 0, none⟩), .int .i64 6] rfl z10 ?_; (with_reducible refine (spec_l1Cur_pick.calls g s0_0 s0_1 s0_2 6 rM rL rK w0 _ ?side1 ?side2 A3.out).mono ?_); (case side1 => exact y68); (case side2 => exact y54); rintro e w4 ⟨rfl, hi, hb, hk⟩; refine ⟨_, rfl, ?_⟩; replace HK := aM (KeepBut.trans z11 hk (.inl rfl)); replace HB := aM hb; replace HI0 := aM hi; (try clear hb hk hi); (try clear cj)))
 go_loopg [5, 6] k (fun kq v5 v6 w' => ∃ (x5_1 : List (S34)) (x6_1 : Int) (x1001_1 : Int) (x1002_1 : Int), v6 = .int .i64 x6_1 ∧ Aside0 (spec_l1Cur_marks.l0 kq a1 x5_1 x6_1 s0_0 x1001_1 x1002_1 = some (r1, r2, r3)) ∧ Aside0 (kq ≤ k) ∧ Aside0 (Kd.R k34 34 w' w.heap.size (fun _ => True) v5 x5_1) ∧ Aside0 (IsS48 w0 w' g s0_0 x1001_1 x1002_1) ∧ Aside0 (KeepBut w w' g none) ∧ Aside0 (Below w0.heap.size w0 w'))
 case atStart => exact ⟨(([] : List (S34))), (rM), (rL), (rK), z1, H', ⟨Nat.le_refl _⟩, ⟨y29⟩, ⟨y37⟩, ⟨y33⟩, ⟨y30⟩⟩
 case round =>
  clear H'
  obtain ⟨x5_1, x6_1, x1001_1, x1002_1, rfl, HA, HK1, bi, HI0, HK, HB⟩ := hrel
  cases gk with
  | zero => exact absurd HA.out (by simp [spec_l1Cur_marks.l0])
  | succ k1 =>
   have H := HA.out
   clear HA
   simp only [spec_l1Cur_marks.l0] at H
   have mg := aM H
   clear H
   go_upto_region 3 with (fail)
   go_cut [16] (fun v16 wc => ∃ (kq : Nat) (x16_4 : Bool), v16 = .bool x16_4 ∧ Aside0 (spec_l1Cur_marks.j1 kq a1 x5_1 x6_1 x16_4 s0_0 x1001_1 x1002_1 = some (r1, r2, r3)) ∧ Aside0 (kq ≤ k1) ∧ Aside0 (Kd.R k34 34 wc w.heap.size (fun _ => True) u5 x5_1) ∧ Aside0 (IsS48 w0 wc g s0_0 x1001_1 x1002_1) ∧ Aside0 (KeepBut w wc g none) ∧ Aside0 (Below w0.heap.size w0 wc))
   case first =>
    have H := mg.out
    clear mg
    by_cases c6 : x6_1 > 0
    ·rw [if_pos c6] at H
     have c6b0 : decide (0 < x6_1) = true := dT c6
     clear c6
     (first | rw [c6b0] | (simp only [i64_w, i32_w]; rw [c6b0]) | skip)
     have H' := aM H
     clear H
     go_wp2
     go_meet
     case rel => exact ⟨_, (decide (a1 > 0)), z1, H', ⟨y3⟩, ⟨y9⟩, ⟨y37⟩, ⟨y33⟩, ⟨y30⟩⟩
    ·rw [if_neg c6] at H
     have c6b0 : decide (0 < x6_1) = false := dF c6
     clear c6
     (first | rw [c6b0] | (simp only [i64_w, i32_w]; rw [c6b0]) | skip)
     have H' := aM H
     clear H
     go_wp2
     go_meet
     case rel => exact ⟨_, (false), z1, H', ⟨y3⟩, ⟨y9⟩, ⟨y37⟩, ⟨y33⟩, ⟨y30⟩⟩
   case rest =>
    clear mg
    try clear c1
    try clear c2
    try clear p2
    try clear p2
    obtain ⟨kq, x16_4, rfl, HA, kn, bi, HI0, HK, HB⟩ := hcut
    cases kq with
    | zero => exact absurd HA.out (by simp [spec_l1Cur_marks.j1])
    | succ kj4 =>
     have H := HA.out
     clear HA
     simp only [spec_l1Cur_marks.j1] at H
     by_cases c7 : x16_4 = true
     ·subst c7
      rw [if_pos rfl] at H
      obtain ⟨⟨bJ, ny, nx⟩, A8, H⟩ := oA_ H
      try dsimp only at H
      obtain ⟨⟨cX, kA, kz⟩, A9, H⟩ := oA_ H
      try dsimp only at H
      obtain ⟨y307, hy307⟩ : ∃ y_ : List ByteArray, y_ = (([(⟨#[98, 111, 108, 100]⟩ : ByteArray), (⟨#[101, 109]⟩ : ByteArray), (⟨#[99, 111, 100, 101]⟩ : ByteArray)] : List ByteArray)) := ⟨_, rfl⟩
      replace H : ((spec_l1Cur_of.f s0_0 kA kz y307).bind fun eQ => (if (wrap64 ((wrap64 (bJ + 1)) + cX)) > a1 then ((spec_AddMark.f kj4 x5_1 a1 bJ a1 eQ.1).bind fun oX => (spec_l1Cur_marks.l0 kj4 a1 oX.1 (wrap64 (x6_1 - 1)) s0_0 eQ.2.1 eQ.2.2)) else ((spec_AddMark.f kj4 x5_1 a1 bJ (wrap64 ((wrap64 (bJ + 1)) + cX)) eQ.1).bind fun oW => (spec_l1Cur_marks.l0 kj4 a1 oW.1 (wrap64 (x6_1 - 1)) s0_0 eQ.2.1 eQ.2.2)))) = some (r1, r2, r3) := zh_ hy307
      have Ny307 := aM hy307
      clear hy307
      obtain ⟨⟨dn, j9, j8⟩, iA, H⟩ := oA_ H
      try dsimp only at H
      by_cases b4 : (wrap64 ((wrap64 (bJ + 1)) + cX)) > a1
      ·rw [if_pos b4] at H
       have c11b0 : decide (a1 < (wrap64 ((wrap64 (bJ + 1)) + cX))) = true := dT b4
       clear b4
       obtain ⟨⟨rJ, t317⟩, pZ, H⟩ := oA_ H
       try dsimp only at H
       have H' := aM H
       clear H
       go_wp2_with (first | ((with_reducible refine ax (f := 29) rfl ?_); refine aC (some 21) rfl rfl Try.func29 z0 rfl #[.pointer (some ⟨g, 0, none⟩), .int .i64 a1] rfl z10 ?_; (with_reducible refine (spec_l1Cur_pick.calls g s0_0 x1001_1 x1002_1 a1 bJ ny nx w0 _ ?side1 ?side2 A8.out).mono ?_); (case side1 => exact y68); (case side2 => exact y54); rintro e w13 ⟨rfl, hi, hb, hk⟩; refine ⟨_, rfl, ?_⟩; replace bi := aM (ag (Kd.R_keep (IsS48.apart (show IsS48 w0 _ g s0_0 x1001_1 x1002_1 from ziHI0_) z3 (by decide)) hk (fun _ h => h.2)) (fun _ h => h.1)); replace HK := aM (KeepBut.trans z11 hk (.inl rfl)); replace HB := aM hb; replace HI0 := aM hi; (try clear hb hk hi); (try clear cj)) | ((with_reducible refine ax (f := 29) rfl ?_); refine aC (some 26) rfl rfl Try.func29 z0 rfl #[.pointer (some ⟨g, 0, none⟩), .int .i64 5] rfl z10 ?_; (with_reducible refine (spec_l1Cur_pick.calls g s0_0 ny nx 5 cX kA kz w0 _ ?side1 ?side2 A9.out).mono ?_); (case side1 => exact y68); (case side2 => exact y54); rintro e w14 ⟨rfl, hi, hb, hk⟩; refine ⟨_, rfl, ?_⟩; replace bi := aM (ag (Kd.R_keep (IsS48.apart (show IsS48 w0 _ g s0_0 ny nx from ziHI0_) z3 (by decide)) hk (fun _ h => h.2)) (fun _ h => h.1)); replace HK := aM (KeepBut.trans z11 hk (.inl rfl)); replace HB := aM hb; replace HI0 := aM hi; (try clear hb hk hi); (try clear cj)) | ((with_reducible refine ay (N := 29) rfl ?_); refine Kd.R_lit Kd.string _ 9 ?hg (N := 29) ?hd (xs := ([(⟨#[98, 111, 108, 100]⟩ : ByteArray), (⟨#[101, 109]⟩ : ByteArray), (⟨#[99, 111, 100, 101]⟩ : ByteArray)] : List ByteArray)) (inner := [.string (⟨#[98, 111, 108, 100]⟩ : ByteArray), .string (⟨#[101, 109]⟩ : ByteArray), .string (⟨#[99, 111, 100, 101]⟩ : ByteArray)]) (ok := fun _ => True) (okp := fun _ => True) ?hr ?hp (fun _ hk => hk) trivial (Below.refl _ _) (Nat.le_refl _) (by simp) ?_; (case hd => rfl); (case hg => rfl); (case hr => first | (go_simp; done) | (go_simp; rfl)); (case hp => exact (Reps.one (show Kd.M Kd.string _ _ _ (⟨#[98, 111, 108, 100]⟩ : ByteArray) [.string (⟨#[98, 111, 108, 100]⟩ : ByteArray)] from rfl) (Reps.one (show Kd.M Kd.string _ _ _ (⟨#[101, 109]⟩ : ByteArray) [.string (⟨#[101, 109]⟩ : ByteArray)] from rfl) (Reps.one (show Kd.M Kd.string _ _ _ (⟨#[99, 111, 100, 101]⟩ : ByteArray) [.string (⟨#[99, 111, 100, 101]⟩ : ByteArray)] from rfl) (Reps.none _ _))))); intro v308 w15 ho16 hb hg_ hnew_; clear hg_ hnew_; (first | rw [← Ny307.out] at ho16 | (simp only [Int.reduceToNat] at ho16; rw [← Ny307.out] at ho16)); replace bi := aM (af z3 hb); have cm := aM (aD ho16 (keep_size (w := w) (g := g) (row := none) z11)); replace HK := aM (KeepBut.trans z11 (KeepBut.of_below hb g none) (.inl rfl)); replace HB := aM (ap z16 hb); replace HI0 := aM (IsS48.below z19 hb); clear hb ho16; obtain ⟨sS, qL, eo17⟩ := Kd.R_slice cm.out; subst eo17) | ((with_reducible refine ax (f := 30) rfl ?_); refine aC (some 30) rfl rfl Try.func30 z0 rfl #[.pointer (some ⟨g, 0, none⟩), .slice sS y307.length qL] rfl z10 ?_; (with_reducible refine (spec_l1Cur_of.calls g s0_0 kA kz _ _ y307 dn j9 j8 w0 _ ?side1 ?side2 ?side3 ?side4 ?side5 iA.out).mono ?_); (case side1 => exact y68); (case side2 => exact y54); (case side3 => exact y61); (case side4 => exact (ah cm.out).2.1); (case side5 => exact far_slice (IsS48.own_ne HI0.out cm.out (by decide))); rintro e w18 ⟨rfl, hi, hb, hk⟩; refine ⟨_, rfl, ?_⟩; replace bi := aM (ag (Kd.R_keep (IsS48.apart (show IsS48 w0 _ g s0_0 kA kz from ziHI0_) z3 (by decide)) hk (fun _ h => h.2)) (fun _ h => h.1)); replace cm := aM (ag (Kd.R_keep (IsS48.apart (show IsS48 w0 _ g s0_0 kA kz from ziHI0_) (kR_ cm.out) (by decide)) hk (fun _ h => h.2)) (fun _ h => h.1)); replace HK := aM (KeepBut.trans z11 hk (.inl rfl)); replace HB := aM hb; replace HI0 := aM hi; (try clear hb hk hi); (try clear cj)) | ((with_reducible refine ay (N := 8) rfl ?_); refine bE_ (N := 8) (cs := #[.int .i64 0, .int .i64 0, .string ⟨#[]⟩]) (t := 34) (h := ?_); intro bc hg w19 hbox hb; replace bi := aM (af (Kd.R_elderB z3 bc (Nat.le_of_eq hg.symm)) hb); replace cm := aM (af (kR_ cm.out) hb); replace HB := aM (ap z16 hb); have cI := aM (hbox); have jQ := aM ((by rw [hg]; exact (keep_size (w := w) (g := g) (row := none) z11) : w.heap.size ≤ bc)); have lQ := aM ((Nat.le_trans HW0.out (by rw [hg]; exact (keep_size (w := w) (g := g) (row := none) z11) : w.heap.size ≤ bc) : w0.heap.size ≤ bc)); replace HK := aM (KeepBut.trans z11 (KeepBut.of_below hb g none) (.inl rfl)); have fA := aM ((by rw [hg]; exact Nat.ne_of_lt (IsS48.lt (show IsS48 w0 _ g s0_0 j9 j8 from ziHI0_)) : g ≠ bc)); have lg := aM ((by rw [hg]; exact Nat.ne_of_gt (IsS48.lt (show IsS48 w0 _ g s0_0 j9 j8 from ziHI0_)) : bc ≠ g)); replace HI0 := aM (IsS48.below z19 hb); clear hb hbox hg; have hnb20 := lg.out; have hnc20 := fA.out; obtain ⟨fu, ft, fq, fc, fb, fa⟩ := cc3 cI.out; obtain ⟨rg, pE, eo22⟩ := Kd.R_slice bi.out; subst eo22; have HX9 : Aside0 ((((((w19.setCell ⟨bc, 0, none⟩ (.int .i64 bJ)).setCell ⟨bc, 1, none⟩ (.int .i64 (wrap64 ((wrap64 (bJ + 1)) + cX)))).setCell ⟨bc, 2, none⟩ (.string dn)).setCell ⟨bc, 1, none⟩ (.int .i64 a1))).heap[bc]? = some (.cells #[.int .i64 bJ, .int .i64 a1, .string dn] 34 (0, 0))) := ⟨(by (with_reducible repeat (first | refine ak ?_ _ | refine aj ?_ | refine al ?_ _)); refine am (cs := #[.int .i64 bJ, .int .i64 (wrap64 ((wrap64 (bJ + 1)) + cX)), .string dn]) ?_ 1 _ rfl; (with_reducible repeat (first | refine ak ?_ _ | refine aj ?_ | refine al ?_ _)); refine am (cs := #[.int .i64 bJ, .int .i64 (wrap64 ((wrap64 (bJ + 1)) + cX)), .string ⟨#[]⟩]) ?_ 2 _ rfl; (with_reducible repeat (first | refine ak ?_ _ | refine aj ?_ | refine al ?_ _)); refine am (cs := #[.int .i64 bJ, .int .i64 0, .string ⟨#[]⟩]) ?_ 1 _ rfl; (with_reducible repeat (first | refine ak ?_ _ | refine aj ?_ | refine al ?_ _)); refine am (cs := #[.int .i64 0, .int .i64 0, .string ⟨#[]⟩]) ?_ 0 _ rfl; (with_reducible repeat (first | refine ak ?_ _ | refine aj ?_ | refine al ?_ _)); exact cI.out)⟩; have hcy9_0 : (((((w19.setCell ⟨bc, 0, none⟩ (.int .i64 bJ)).setCell ⟨bc, 1, none⟩ (.int .i64 (wrap64 ((wrap64 (bJ + 1)) + cX)))).setCell ⟨bc, 2, none⟩ (.string dn)).setCell ⟨bc, 1, none⟩ (.int .i64 a1))).cell? ⟨bc, 0, none⟩ = some (.int .i64 bJ) := (bC HX9.out 0).trans rfl; have hcy9_1 : (((((w19.setCell ⟨bc, 0, none⟩ (.int .i64 bJ)).setCell ⟨bc, 1, none⟩ (.int .i64 (wrap64 ((wrap64 (bJ + 1)) + cX)))).setCell ⟨bc, 2, none⟩ (.string dn)).setCell ⟨bc, 1, none⟩ (.int .i64 a1))).cell? ⟨bc, 1, none⟩ = some (.int .i64 a1) := (bC HX9.out 1).trans rfl; have hcy9_2 : (((((w19.setCell ⟨bc, 0, none⟩ (.int .i64 bJ)).setCell ⟨bc, 1, none⟩ (.int .i64 (wrap64 ((wrap64 (bJ + 1)) + cX)))).setCell ⟨bc, 2, none⟩ (.string dn)).setCell ⟨bc, 1, none⟩ (.int .i64 a1))).cell? ⟨bc, 2, none⟩ = some (.string dn) := (bC HX9.out 2).trans rfl) | ((with_reducible refine ax (f := 12) rfl ?_); refine aC (some 42) rfl rfl Try.func12 z0 rfl #[.slice rg x5_1.length pE, .int .i64 a1, .agg #[.int .i64 bJ, .int .i64 a1, .string dn]] rfl z10 ?_; (with_reducible refine (spec_AddMark.calls kj4 _ _ x5_1 a1 bJ a1 dn rJ t317 _ ?side1 ?side2 pZ.out).mono ?_); (case side1 => refine (ah (e := 34) (base := w.heap.size) (ok := fun k_ => (True ∧ k_ ≠ bc)) (n := x5_1.length) (c := pE) ?_).2.2; exact (by (with_reducible repeat (first | apply ac | apply ab | apply aa)); exact (ag (ai (p := ⟨bc, 1, none⟩) (ai (p := ⟨bc, 2, none⟩) (ai (p := ⟨bc, 1, none⟩) (ai (p := ⟨bc, 0, none⟩) (ag bi.out (fun k_ hk => (⟨hk, hk.2⟩ : _ ∧ k_ ≠ bc))) (fun _ hk => hk.2) (.int .i64 bJ)) (fun _ hk => hk.2) (.int .i64 (wrap64 ((wrap64 (bJ + 1)) + cX)))) (fun _ hk => hk.2) (.string dn)) (fun _ hk => hk.2) (.int .i64 a1)) (fun _ h_ => h_.1)))); (case side2 => exact (ah bi.out).2.1); rintro e w23 ⟨v315, rfl, ho0, hb⟩; refine ⟨_, rfl, ?_⟩; replace cm := aM (af (by (with_reducible repeat (first | apply ac | apply ab | apply aa)); exact (ag (ai (p := ⟨bc, 1, none⟩) (ai (p := ⟨bc, 2, none⟩) (ai (p := ⟨bc, 1, none⟩) (ai (p := ⟨bc, 0, none⟩) (Kd.R_types cm.out cI.out (by decide)) (fun _ hk => hk.2) (.int .i64 bJ)) (fun _ hk => hk.2) (.int .i64 (wrap64 ((wrap64 (bJ + 1)) + cX)))) (fun _ hk => hk.2) (.string dn)) (fun _ hk => hk.2) (.int .i64 a1)) (fun _ h_ => h_.1))) hb); have HO316 := aM (aD (Kd.R_newB (Kd.R_new' ho0 (Kd.R_lt (by (with_reducible repeat (first | apply ac | apply ab | apply aa)); exact (ag (ai (p := ⟨bc, 1, none⟩) (ai (p := ⟨bc, 2, none⟩) (ai (p := ⟨bc, 1, none⟩) (ai (p := ⟨bc, 0, none⟩) (ag bi.out (fun k_ hk => (⟨hk, hk.2⟩ : _ ∧ k_ ≠ bc))) (fun _ hk => hk.2) (.int .i64 bJ)) (fun _ hk => hk.2) (.int .i64 (wrap64 ((wrap64 (bJ + 1)) + cX)))) (fun _ hk => hk.2) (.string dn)) (fun _ hk => hk.2) (.int .i64 a1)) (fun _ h_ => h_.1))))) (g := bc) (o := .cells #[.int .i64 bJ, .int .i64 a1, .string dn] 34 (0, 0)) (by (with_reducible repeat (first | refine ak ?_ _ | refine aj ?_ | refine al ?_ _)); refine am (cs := #[.int .i64 bJ, .int .i64 (wrap64 ((wrap64 (bJ + 1)) + cX)), .string dn]) ?_ 1 _ rfl; (with_reducible repeat (first | refine ak ?_ _ | refine aj ?_ | refine al ?_ _)); refine am (cs := #[.int .i64 bJ, .int .i64 (wrap64 ((wrap64 (bJ + 1)) + cX)), .string ⟨#[]⟩]) ?_ 2 _ rfl; (with_reducible repeat (first | refine ak ?_ _ | refine aj ?_ | refine al ?_ _)); refine am (cs := #[.int .i64 bJ, .int .i64 0, .string ⟨#[]⟩]) ?_ 1 _ rfl; (with_reducible repeat (first | refine ak ?_ _ | refine aj ?_ | refine al ?_ _)); refine am (cs := #[.int .i64 0, .int .i64 0, .string ⟨#[]⟩]) ?_ 0 _ rfl; (with_reducible repeat (first | refine ak ?_ _ | refine aj ?_ | refine al ?_ _)); exact cI.out)) (keep_size (w := w) (g := g) (row := none) (by repeat (first | (with_reducible first | exact HK.out | apply KeepBut.set_ | apply keep_drewN | apply keep_drew | apply keep_alloc | refine keep_far ?_ jQ.out _) | exact HK.out)))); replace bi := aM (Kd.R_elder' (by (with_reducible repeat (first | apply ac | apply ab | apply aa)); exact (ag (ai (p := ⟨bc, 1, none⟩) (ai (p := ⟨bc, 2, none⟩) (ai (p := ⟨bc, 1, none⟩) (ai (p := ⟨bc, 0, none⟩) (ag bi.out (fun k_ hk => (⟨hk, hk.2⟩ : _ ∧ k_ ≠ bc))) (fun _ hk => hk.2) (.int .i64 bJ)) (fun _ hk => hk.2) (.int .i64 (wrap64 ((wrap64 (bJ + 1)) + cX)))) (fun _ hk => hk.2) (.string dn)) (fun _ hk => hk.2) (.int .i64 a1)) (fun _ h_ => h_.1))) (Kd.R_base ho0) hb); replace cI := aM (ae (g := bc) (o := .cells #[.int .i64 bJ, .int .i64 a1, .string dn] 34 (0, 0)) (by (with_reducible repeat (first | refine ak ?_ _ | refine aj ?_ | refine al ?_ _)); refine am (cs := #[.int .i64 bJ, .int .i64 (wrap64 ((wrap64 (bJ + 1)) + cX)), .string dn]) ?_ 1 _ rfl; (with_reducible repeat (first | refine ak ?_ _ | refine aj ?_ | refine al ?_ _)); refine am (cs := #[.int .i64 bJ, .int .i64 (wrap64 ((wrap64 (bJ + 1)) + cX)), .string ⟨#[]⟩]) ?_ 2 _ rfl; (with_reducible repeat (first | refine ak ?_ _ | refine aj ?_ | refine al ?_ _)); refine am (cs := #[.int .i64 bJ, .int .i64 0, .string ⟨#[]⟩]) ?_ 1 _ rfl; (with_reducible repeat (first | refine ak ?_ _ | refine aj ?_ | refine al ?_ _)); refine am (cs := #[.int .i64 0, .int .i64 0, .string ⟨#[]⟩]) ?_ 0 _ rfl; (with_reducible repeat (first | refine ak ?_ _ | refine aj ?_ | refine al ?_ _)); exact cI.out) hb); replace HK := aM (KeepBut.trans (by repeat (first | (with_reducible first | exact HK.out | apply KeepBut.set_ | apply keep_drewN | apply keep_drew | apply keep_alloc | refine keep_far ?_ jQ.out _) | exact HK.out)) (KeepBut.of_below hb g none) (.inl rfl)); replace HB := aM (ap (by repeat (first | (with_reducible first | exact HB.out | apply bA | apply pD | apply bD | refine ao ?_ (IsS48.ge HI0.out) | refine ao ?_ lQ.out) | exact HB.out)) hb); replace HI0 := aM (IsS48.below (show IsS48 w0 ((((w19.setCell ⟨bc, 0, none⟩ (.int .i64 bJ)).setCell ⟨bc, 1, none⟩ (.int .i64 (wrap64 ((wrap64 (bJ + 1)) + cX)))).setCell ⟨bc, 2, none⟩ (.string dn)).setCell ⟨bc, 1, none⟩ (.int .i64 a1)) g s0_0 j9 j8 from by (try simp only [Int.add_zero]); repeat (first | (with_reducible first | exact HI0.out | apply IsS48.alloc | apply IsS48.drewN | apply IsS48.drew | apply IsS48.set_1 | apply IsS48.set_2 | refine IsS48.far ?_ fA.out _) | exact HI0.out)) hb); (try clear hb); (try clear ho0)))
       go_roundg kj4
       case measure => have := HK1.out; have := kn.out; omega
       case rel => exact ⟨(rJ), (wrap64 (x6_1 - 1)), (j9), (j8), z1, H', ⟨by have := HK1.out; have := kn.out; omega⟩, ⟨kM_ HO316.out (fun _ hk => trivial)⟩, ⟨by (try simp only [Int.add_zero]); repeat (first | (with_reducible first | exact HI0.out | apply IsS48.alloc | apply IsS48.drewN | apply IsS48.drew | apply IsS48.set_1 | apply IsS48.set_2 | refine IsS48.far ?_ fA.out _) | exact HI0.out)⟩, ⟨by repeat (first | (with_reducible first | exact HK.out | apply KeepBut.set_ | apply keep_drewN | apply keep_drew | apply keep_alloc | refine keep_far ?_ jQ.out _) | exact HK.out)⟩, ⟨by repeat (first | (with_reducible first | exact HB.out | apply bA | apply pD | apply bD | refine ao ?_ (IsS48.ge HI0.out) | refine ao ?_ lQ.out) | exact HB.out)⟩⟩
      ·rw [if_neg b4] at H
       have c11b0 : decide (a1 < (wrap64 ((wrap64 (bJ + 1)) + cX))) = false := dF b4
       clear b4
       obtain ⟨⟨rI, t321⟩, tH, H⟩ := oA_ H
       try dsimp only at H
       have H' := aM H
       clear H
       go_wp2_with (first | ((with_reducible refine ax (f := 29) rfl ?_); refine aC (some 21) rfl rfl Try.func29 z0 rfl #[.pointer (some ⟨g, 0, none⟩), .int .i64 a1] rfl z10 ?_; (with_reducible refine (spec_l1Cur_pick.calls g s0_0 x1001_1 x1002_1 a1 bJ ny nx w0 _ ?side1 ?side2 A8.out).mono ?_); (case side1 => exact y68); (case side2 => exact y54); rintro e w25 ⟨rfl, hi, hb, hk⟩; refine ⟨_, rfl, ?_⟩; replace bi := aM (ag (Kd.R_keep (IsS48.apart (show IsS48 w0 _ g s0_0 x1001_1 x1002_1 from ziHI0_) z3 (by decide)) hk (fun _ h => h.2)) (fun _ h => h.1)); replace HK := aM (KeepBut.trans z11 hk (.inl rfl)); replace HB := aM hb; replace HI0 := aM hi; (try clear hb hk hi); (try clear cj)) | ((with_reducible refine ax (f := 29) rfl ?_); refine aC (some 26) rfl rfl Try.func29 z0 rfl #[.pointer (some ⟨g, 0, none⟩), .int .i64 5] rfl z10 ?_; (with_reducible refine (spec_l1Cur_pick.calls g s0_0 ny nx 5 cX kA kz w0 _ ?side1 ?side2 A9.out).mono ?_); (case side1 => exact y68); (case side2 => exact y54); rintro e w26 ⟨rfl, hi, hb, hk⟩; refine ⟨_, rfl, ?_⟩; replace bi := aM (ag (Kd.R_keep (IsS48.apart (show IsS48 w0 _ g s0_0 ny nx from ziHI0_) z3 (by decide)) hk (fun _ h => h.2)) (fun _ h => h.1)); replace HK := aM (KeepBut.trans z11 hk (.inl rfl)); replace HB := aM hb; replace HI0 := aM hi; (try clear hb hk hi); (try clear cj)) | ((with_reducible refine ay (N := 29) rfl ?_); refine Kd.R_lit Kd.string _ 9 ?hg (N := 29) ?hd (xs := ([(⟨#[98, 111, 108, 100]⟩ : ByteArray), (⟨#[101, 109]⟩ : ByteArray), (⟨#[99, 111, 100, 101]⟩ : ByteArray)] : List ByteArray)) (inner := [.string (⟨#[98, 111, 108, 100]⟩ : ByteArray), .string (⟨#[101, 109]⟩ : ByteArray), .string (⟨#[99, 111, 100, 101]⟩ : ByteArray)]) (ok := fun _ => True) (okp := fun _ => True) ?hr ?hp (fun _ hk => hk) trivial (Below.refl _ _) (Nat.le_refl _) (by simp) ?_; (case hd => rfl); (case hg => rfl); (case hr => first | (go_simp; done) | (go_simp; rfl)); (case hp => exact (Reps.one (show Kd.M Kd.string _ _ _ (⟨#[98, 111, 108, 100]⟩ : ByteArray) [.string (⟨#[98, 111, 108, 100]⟩ : ByteArray)] from rfl) (Reps.one (show Kd.M Kd.string _ _ _ (⟨#[101, 109]⟩ : ByteArray) [.string (⟨#[101, 109]⟩ : ByteArray)] from rfl) (Reps.one (show Kd.M Kd.string _ _ _ (⟨#[99, 111, 100, 101]⟩ : ByteArray) [.string (⟨#[99, 111, 100, 101]⟩ : ByteArray)] from rfl) (Reps.none _ _))))); intro v308 w27 ho28 hb hg_ hnew_; clear hg_ hnew_; (first | rw [← Ny307.out] at ho28 | (simp only [Int.reduceToNat] at ho28; rw [← Ny307.out] at ho28)); replace bi := aM (af z3 hb); have cm := aM (aD ho28 (keep_size (w := w) (g := g) (row := none) z11)); replace HK := aM (KeepBut.trans z11 (KeepBut.of_below hb g none) (.inl rfl)); replace HB := aM (ap z16 hb); replace HI0 := aM (IsS48.below z19 hb); clear hb ho28; obtain ⟨Ao29, co29, eo29⟩ := Kd.R_slice cm.out; subst eo29) | ((with_reducible refine ax (f := 30) rfl ?_); refine aC (some 30) rfl rfl Try.func30 z0 rfl #[.pointer (some ⟨g, 0, none⟩), .slice Ao29 y307.length co29] rfl z10 ?_; (with_reducible refine (spec_l1Cur_of.calls g s0_0 kA kz _ _ y307 dn j9 j8 w0 _ ?side1 ?side2 ?side3 ?side4 ?side5 iA.out).mono ?_); (case side1 => exact y68); (case side2 => exact y54); (case side3 => exact y61); (case side4 => exact (ah cm.out).2.1); (case side5 => exact far_slice (IsS48.own_ne HI0.out cm.out (by decide))); rintro e w30 ⟨rfl, hi, hb, hk⟩; refine ⟨_, rfl, ?_⟩; replace bi := aM (ag (Kd.R_keep (IsS48.apart (show IsS48 w0 _ g s0_0 kA kz from ziHI0_) z3 (by decide)) hk (fun _ h => h.2)) (fun _ h => h.1)); replace cm := aM (ag (Kd.R_keep (IsS48.apart (show IsS48 w0 _ g s0_0 kA kz from ziHI0_) (kR_ cm.out) (by decide)) hk (fun _ h => h.2)) (fun _ h => h.1)); replace HK := aM (KeepBut.trans z11 hk (.inl rfl)); replace HB := aM hb; replace HI0 := aM hi; (try clear hb hk hi); (try clear cj)) | ((with_reducible refine ay (N := 8) rfl ?_); refine bE_ (N := 8) (cs := #[.int .i64 0, .int .i64 0, .string ⟨#[]⟩]) (t := 34) (h := ?_); intro bc hg w31 hbox hb; replace bi := aM (af (Kd.R_elderB z3 bc (Nat.le_of_eq hg.symm)) hb); replace cm := aM (af (kR_ cm.out) hb); replace HB := aM (ap z16 hb); have cI := aM (hbox); have jQ := aM ((by rw [hg]; exact (keep_size (w := w) (g := g) (row := none) z11) : w.heap.size ≤ bc)); have lQ := aM ((Nat.le_trans HW0.out (by rw [hg]; exact (keep_size (w := w) (g := g) (row := none) z11) : w.heap.size ≤ bc) : w0.heap.size ≤ bc)); replace HK := aM (KeepBut.trans z11 (KeepBut.of_below hb g none) (.inl rfl)); have fA := aM ((by rw [hg]; exact Nat.ne_of_lt (IsS48.lt (show IsS48 w0 _ g s0_0 j9 j8 from ziHI0_)) : g ≠ bc)); have lg := aM ((by rw [hg]; exact Nat.ne_of_gt (IsS48.lt (show IsS48 w0 _ g s0_0 j9 j8 from ziHI0_)) : bc ≠ g)); replace HI0 := aM (IsS48.below z19 hb); clear hb hbox hg; have hnb32 := lg.out; have hnc32 := fA.out; obtain ⟨mX, mW, mV, mC, mB, mA⟩ := cc3 cI.out; obtain ⟨pI, oI, eo34⟩ := Kd.R_slice bi.out; subst eo34) | ((with_reducible refine ax (f := 12) rfl ?_); refine aC (some 42) rfl rfl Try.func12 z0 rfl #[.slice pI x5_1.length oI, .int .i64 a1, .agg #[.int .i64 bJ, .int .i64 (wrap64 ((wrap64 (bJ + 1)) + cX)), .string dn]] rfl z10 ?_; (with_reducible refine (spec_AddMark.calls kj4 _ _ x5_1 a1 bJ (wrap64 ((wrap64 (bJ + 1)) + cX)) dn rI t321 _ ?side1 ?side2 tH.out).mono ?_); (case side1 => refine (ah (e := 34) (base := w.heap.size) (ok := fun k_ => (True ∧ k_ ≠ bc)) (n := x5_1.length) (c := oI) ?_).2.2; exact (by (with_reducible repeat (first | apply ac | apply ab | apply aa)); exact (ag (ai (p := ⟨bc, 2, none⟩) (ai (p := ⟨bc, 1, none⟩) (ai (p := ⟨bc, 0, none⟩) (ag bi.out (fun k_ hk => (⟨hk, hk.2⟩ : _ ∧ k_ ≠ bc))) (fun _ hk => hk.2) (.int .i64 bJ)) (fun _ hk => hk.2) (.int .i64 (wrap64 ((wrap64 (bJ + 1)) + cX)))) (fun _ hk => hk.2) (.string dn)) (fun _ h_ => h_.1)))); (case side2 => exact (ah bi.out).2.1); rintro e w35 ⟨v319, rfl, ho0, hb⟩; refine ⟨_, rfl, ?_⟩; replace cm := aM (af (by (with_reducible repeat (first | apply ac | apply ab | apply aa)); exact (ag (ai (p := ⟨bc, 2, none⟩) (ai (p := ⟨bc, 1, none⟩) (ai (p := ⟨bc, 0, none⟩) (Kd.R_types cm.out cI.out (by decide)) (fun _ hk => hk.2) (.int .i64 bJ)) (fun _ hk => hk.2) (.int .i64 (wrap64 ((wrap64 (bJ + 1)) + cX)))) (fun _ hk => hk.2) (.string dn)) (fun _ h_ => h_.1))) hb); have HO320 := aM (aD (Kd.R_newB (Kd.R_new' ho0 (Kd.R_lt (by (with_reducible repeat (first | apply ac | apply ab | apply aa)); exact (ag (ai (p := ⟨bc, 2, none⟩) (ai (p := ⟨bc, 1, none⟩) (ai (p := ⟨bc, 0, none⟩) (ag bi.out (fun k_ hk => (⟨hk, hk.2⟩ : _ ∧ k_ ≠ bc))) (fun _ hk => hk.2) (.int .i64 bJ)) (fun _ hk => hk.2) (.int .i64 (wrap64 ((wrap64 (bJ + 1)) + cX)))) (fun _ hk => hk.2) (.string dn)) (fun _ h_ => h_.1))))) (g := bc) (o := .cells #[.int .i64 bJ, .int .i64 (wrap64 ((wrap64 (bJ + 1)) + cX)), .string dn] 34 (0, 0)) (by (with_reducible repeat (first | refine ak ?_ _ | refine aj ?_ | refine al ?_ _)); refine am (cs := #[.int .i64 bJ, .int .i64 (wrap64 ((wrap64 (bJ + 1)) + cX)), .string ⟨#[]⟩]) ?_ 2 _ rfl; (with_reducible repeat (first | refine ak ?_ _ | refine aj ?_ | refine al ?_ _)); refine am (cs := #[.int .i64 bJ, .int .i64 0, .string ⟨#[]⟩]) ?_ 1 _ rfl; (with_reducible repeat (first | refine ak ?_ _ | refine aj ?_ | refine al ?_ _)); refine am (cs := #[.int .i64 0, .int .i64 0, .string ⟨#[]⟩]) ?_ 0 _ rfl; (with_reducible repeat (first | refine ak ?_ _ | refine aj ?_ | refine al ?_ _)); exact cI.out)) (keep_size (w := w) (g := g) (row := none) (by repeat (first | (with_reducible first | exact HK.out | apply KeepBut.set_ | apply keep_drewN | apply keep_drew | apply keep_alloc | refine keep_far ?_ jQ.out _) | exact HK.out)))); replace bi := aM (Kd.R_elder' (by (with_reducible repeat (first | apply ac | apply ab | apply aa)); exact (ag (ai (p := ⟨bc, 2, none⟩) (ai (p := ⟨bc, 1, none⟩) (ai (p := ⟨bc, 0, none⟩) (ag bi.out (fun k_ hk => (⟨hk, hk.2⟩ : _ ∧ k_ ≠ bc))) (fun _ hk => hk.2) (.int .i64 bJ)) (fun _ hk => hk.2) (.int .i64 (wrap64 ((wrap64 (bJ + 1)) + cX)))) (fun _ hk => hk.2) (.string dn)) (fun _ h_ => h_.1))) (Kd.R_base ho0) hb); replace cI := aM (ae (g := bc) (o := .cells #[.int .i64 bJ, .int .i64 (wrap64 ((wrap64 (bJ + 1)) + cX)), .string dn] 34 (0, 0)) (by (with_reducible repeat (first | refine ak ?_ _ | refine aj ?_ | refine al ?_ _)); refine am (cs := #[.int .i64 bJ, .int .i64 (wrap64 ((wrap64 (bJ + 1)) + cX)), .string ⟨#[]⟩]) ?_ 2 _ rfl; (with_reducible repeat (first | refine ak ?_ _ | refine aj ?_ | refine al ?_ _)); refine am (cs := #[.int .i64 bJ, .int .i64 0, .string ⟨#[]⟩]) ?_ 1 _ rfl; (with_reducible repeat (first | refine ak ?_ _ | refine aj ?_ | refine al ?_ _)); refine am (cs := #[.int .i64 0, .int .i64 0, .string ⟨#[]⟩]) ?_ 0 _ rfl; (with_reducible repeat (first | refine ak ?_ _ | refine aj ?_ | refine al ?_ _)); exact cI.out) hb); replace HK := aM (KeepBut.trans (by repeat (first | (with_reducible first | exact HK.out | apply KeepBut.set_ | apply keep_drewN | apply keep_drew | apply keep_alloc | refine keep_far ?_ jQ.out _) | exact HK.out)) (KeepBut.of_below hb g none) (.inl rfl)); replace HB := aM (ap (by repeat (first | (with_reducible first | exact HB.out | apply bA | apply pD | apply bD | refine ao ?_ (IsS48.ge HI0.out) | refine ao ?_ lQ.out) | exact HB.out)) hb); replace HI0 := aM (IsS48.below (show IsS48 w0 (((w31.setCell ⟨bc, 0, none⟩ (.int .i64 bJ)).setCell ⟨bc, 1, none⟩ (.int .i64 (wrap64 ((wrap64 (bJ + 1)) + cX)))).setCell ⟨bc, 2, none⟩ (.string dn)) g s0_0 j9 j8 from by (try simp only [Int.add_zero]); repeat (first | (with_reducible first | exact HI0.out | apply IsS48.alloc | apply IsS48.drewN | apply IsS48.drew | apply IsS48.set_1 | apply IsS48.set_2 | refine IsS48.far ?_ fA.out _) | exact HI0.out)) hb); (try clear hb); (try clear ho0)))
       go_roundg kj4
       case measure => have := HK1.out; have := kn.out; omega
       case rel => exact ⟨(rI), (wrap64 (x6_1 - 1)), (j9), (j8), z1, H', ⟨by have := HK1.out; have := kn.out; omega⟩, ⟨kM_ HO320.out (fun _ hk => trivial)⟩, ⟨by (try simp only [Int.add_zero]); repeat (first | (with_reducible first | exact HI0.out | apply IsS48.alloc | apply IsS48.drewN | apply IsS48.drew | apply IsS48.set_1 | apply IsS48.set_2 | refine IsS48.far ?_ fA.out _) | exact HI0.out)⟩, ⟨by repeat (first | (with_reducible first | exact HK.out | apply KeepBut.set_ | apply keep_drewN | apply keep_drew | apply keep_alloc | refine keep_far ?_ jQ.out _) | exact HK.out)⟩, ⟨by repeat (first | (with_reducible first | exact HB.out | apply bA | apply pD | apply bD | refine ao ?_ (IsS48.ge HI0.out) | refine ao ?_ lQ.out) | exact HB.out)⟩⟩
     ·replace c7 := Bool.eq_false_iff.mpr c7
      subst c7
      rw [if_neg nF_] at H
      by_cases iM : (x5_1.length : Int) > 0
      ·rw [if_pos iM] at H
       have c36b0 : decide (0 < (x5_1.length : Int)) = true := dT iM
       have c36b1 : decide (0 < x5_1.length) = true := dT (by omega)
       clear iM
       obtain ⟨⟨t322, pt, pr⟩, tK, H⟩ := oA_ H
       try dsimp only at H
       by_cases m9 : t322 = true
       ·subst m9
        rw [if_pos rfl] at H
        obtain ⟨⟨nw, rH, rG⟩, A39, H⟩ := oA_ H
        try dsimp only at H
        by_cases qN : 0 < (x5_1.length : Int)
        ·rw [if_pos qN] at H
         have c40b0 : decide (0 < (x5_1.length : Int)) = true := dT qN
         have c40b1 : decide (0 < x5_1.length) = true := dT (by omega)
         clear qN
         obtain ⟨y328, hy328⟩ : ∃ y_ : List (S34), y_ = (x5_1.set (0 : Int).toNat (⟨(so x5_1 0).f0, nw, (so x5_1 0).f2⟩ : S34)) := ⟨_, rfl⟩
         replace H : (some (y328, rH, rG)) = some (r1, r2, r3) := zh_ hy328
         have Ny328 := aM hy328
         clear hy328
         simp only [Option.some.injEq, Prod.mk.injEq] at H
         obtain ⟨rfl, rfl, rfl⟩ := H
         obtain ⟨rb, oH, eo42⟩ := Kd.R_slice bi.out
         subst eo42
         go_wp2_with (first | (go_at_call 36; (with_reducible refine (spec_l1Cur_one.calls g s0_0 x1001_1 x1002_1 20 true pt pr w0 _ ?side1 ?side2 tK.out).mono ?_); (case side1 => exact y68); (case side2 => exact y54); rintro e w43 ⟨rfl, hi, hb, hk⟩; replace bi := aM (ag (Kd.R_keep (IsS48.apart (show IsS48 w0 _ g s0_0 x1001_1 x1002_1 from ziHI0_) z3 (by decide)) hk (fun _ h => h.2)) (fun _ h => h.1)); replace HK := aM (KeepBut.trans z11 hk (.inl rfl)); replace HB := aM hb; replace HI0 := aM hi; (try clear hb hk hi); (try clear cj)) | ((with_reducible refine ax (f := 29) rfl ?_); refine aC (some 54) rfl rfl Try.func29 z0 rfl #[.pointer (some ⟨g, 0, none⟩), .int .i64 9] rfl z10 ?_; (with_reducible refine (spec_l1Cur_pick.calls g s0_0 pt pr 9 nw rH rG w0 _ ?side1 ?side2 A39.out).mono ?_); (case side1 => exact y68); (case side2 => exact y54); rintro e w44 ⟨rfl, hi, hb, hk⟩; refine ⟨_, rfl, ?_⟩; replace bi := aM (ag (Kd.R_keep (IsS48.apart (show IsS48 w0 _ g s0_0 pt pr from ziHI0_) z3 (by decide)) hk (fun _ h => h.2)) (fun _ h => h.1)); replace HK := aM (KeepBut.trans z11 hk (.inl rfl)); replace HB := aM hb; replace HI0 := aM hi; (try clear hb hk hi); (try clear cj); have p41 : 0 ≤ (0 : Int) := (by omega); have q41 : (0 : Int) < ((x5_1.length : Int) : Int) := oD z2; have qi41 : (0 < x5_1.length) = True := eq_true (by omega); obtain ⟨go41, co41, eo41, sv, gl41, cl41, HG41⟩ := Kd.R_form bi.out (by omega); (first | cases eo41 | (injection eo41 with ea_ en_ ec_; (first | subst ea_ | (injection ea_ with ea_; subst ea_)); subst ec_; clear en_)); have GB41 := aM sv; have GG41 := aM HG41; clear sv gl41 HG41; obtain ⟨ce41, hcl41, hM41, hcc41, hfr41⟩ := Kd.R_elem bi.out z34 (0 : Int) p41 q41; obtain rfl := k34_openM hM41; have hx41_0 : w44.cell? ⟨go41, (0 : Int).toNat * 3, none⟩ = some (.int .i64 ((so x5_1 0).f0)) := hcc41 0 _ rfl; have hx41_1 : w44.cell? ⟨go41, (0 : Int).toNat * 3 + 1, none⟩ = some (.int .i64 ((so x5_1 0).f1)) := hcc41 1 _ rfl; have hx41_2 : w44.cell? ⟨go41, (0 : Int).toNat * 3 + 2, none⟩ = some (.string ((so x5_1 0).f2)) := hcc41 2 _ rfl; have hf41_0 : w44.frozen? ⟨go41, (0 : Int).toNat * 3, none⟩ = false := hfr41 0; have hf41_1 : w44.frozen? ⟨go41, (0 : Int).toNat * 3 + 1, none⟩ = false := hfr41 1; have hf41_2 : w44.frozen? ⟨go41, (0 : Int).toNat * 3 + 2, none⟩ = false := hfr41 2; clear hcl41 hcc41 hfr41; (try clear hM41); (try rw [show ((0 : Int)).toNat = 0 from rfl] at hx41_0); (try simp only [Nat.reduceMul, Nat.zero_mul, Nat.zero_add, Nat.reduceAdd] at hx41_0); (try rw [show ((0 : Int)).toNat = 0 from rfl] at hf41_0); (try simp only [Nat.reduceMul, Nat.zero_mul, Nat.zero_add, Nat.reduceAdd] at hf41_0); (try rw [show ((0 : Int)).toNat = 0 from rfl] at hx41_1); (try simp only [Nat.reduceMul, Nat.zero_mul, Nat.zero_add, Nat.reduceAdd] at hx41_1); (try rw [show ((0 : Int)).toNat = 0 from rfl] at hf41_1); (try simp only [Nat.reduceMul, Nat.zero_mul, Nat.zero_add, Nat.reduceAdd] at hf41_1); (try rw [show ((0 : Int)).toNat = 0 from rfl] at hx41_2); (try simp only [Nat.reduceMul, Nat.zero_mul, Nat.zero_add, Nat.reduceAdd] at hx41_2); (try rw [show ((0 : Int)).toNat = 0 from rfl] at hf41_2); (try simp only [Nat.reduceMul, Nat.zero_mul, Nat.zero_add, Nat.reduceAdd] at hf41_2); replace p41 := eq_true p41; replace q41 := eq_true q41; have HX45 := aM (show Kd.R k34 34 w44 w.heap.size (fun _ => True) (.slice (some ⟨go41, 0, none⟩) x5_1.length oH) x5_1 from z3); obtain ⟨ce45, hcl45, hM45, hcc45, hfr45⟩ := Kd.R_elem HX45.out z34 (0 : Int) (by omega) (by have h_ : (0 : Int) < ((x5_1.length : Int) : Int) := oD z2; first | exact h_ | (have e_ := (ah bi.out).1; omega) | simpa using h_); obtain rfl := k34_openM hM45; have HP45 := Kd.R_seg HX45.out (0 : Int) (by omega) (by have h_ : (0 : Int) < ((x5_1.length : Int) : Int) := oD z2; first | exact h_ | (have e_ := (ah bi.out).1; omega) | simpa using h_) (seg := [.int .i64 nw]) (j := 1) hcl45 hcc45 (show 2 ≤ 3 from by decide) (x' := (⟨(so x5_1 0).f0, nw, (so x5_1 0).f2⟩ : S34)) (k34_mkM _ _ _ (⟨(so x5_1 0).f0, nw, (so x5_1 0).f2⟩ : S34) ) (fun _ hk => hk); have hx45_1 := hcc45 1 _ rfl; (try simp only [show (k34).sz = 3 from rfl, Nat.mul_one, Nat.add_zero] at hx45_1); (try rw [show ((0 : Int)).toNat = 0 from rfl] at hx45_1); (try simp only [Nat.reduceMul, Nat.zero_mul, Nat.zero_add, Nat.reduceAdd] at hx45_1); have hf45_1 := hfr45 1; (try simp only [show (k34).sz = 3 from rfl, Nat.mul_one, Nat.add_zero] at hf45_1); (try rw [show ((0 : Int)).toNat = 0 from rfl] at hf45_1); (try simp only [Nat.reduceMul, Nat.zero_mul, Nat.zero_add, Nat.reduceAdd] at hf45_1); clear hcl45 hcc45 hfr45; (try clear hM45)) | ((with_reducible refine gate_store (t := 3) (p := 56) rfl ?_); refine store_event (t := 3) (p := 56) (v := ?vo_w46) (w1 := (w44.setCell ⟨go41, 1, none⟩ (.int .i64 nw))) ?hg ?ho ?hn ?hr ?_; (case ho => rfl); (case hg => rfl); (case hn => rfl); (case hr => first | (go_simp; done) | (go_simp; rfl) | ((try simp only [Int.toNat_natCast] at *); go_simp; first | done | rfl)); intro w46 hw; have hg : w44.grownBy w46 (some go41) := (by rw [hw]; exact HP45.2); have hp_ : Kd.R k34 34 w46 w.heap.size (fun _ => True) (.slice (some ⟨go41, 0, none⟩) x5_1.length oH) y328 := (by rw [hw, Ny328.out]; exact HP45.1); clear HP45; replace HI0 := aM (IsS48.grown z19 hg (IsS48.own_ne HI0.out bi.out (by decide))); replace HB := aM ((by rw [hw]; exact ao (HB.out) (Nat.le_trans HL.out GB41.out) : Below w0.heap.size w0 w46)); replace HK := aM (KeepBut.trans z11 (KeepBut.of_grown hg g) (Kd.R_base2 bi.out)); replace bi := aM (hp_); clear hg hw hp_))
         go_ret
         exact ⟨_, y5, y9, y37, y30, y33⟩
        ·rw [if_neg qN] at H
         exact absurd H (by simp)
       ·replace m9 := Bool.eq_false_iff.mpr m9
        subst m9
        rw [if_neg nF_] at H
        simp only [Option.some.injEq, Prod.mk.injEq] at H
        obtain ⟨rfl, rfl, rfl⟩ := H
        obtain ⟨Ao47, co47, eo47⟩ := Kd.R_slice bi.out
        subst eo47
        go_wp2_with (first | (go_at_call 36; (with_reducible refine (spec_l1Cur_one.calls g s0_0 x1001_1 x1002_1 20 false pt pr w0 _ ?side1 ?side2 tK.out).mono ?_); (case side1 => exact y68); (case side2 => exact y54); rintro e w48 ⟨rfl, hi, hb, hk⟩; replace bi := aM (ag (Kd.R_keep (IsS48.apart (show IsS48 w0 _ g s0_0 x1001_1 x1002_1 from ziHI0_) z3 (by decide)) hk (fun _ h => h.2)) (fun _ h => h.1)); replace HK := aM (KeepBut.trans z11 hk (.inl rfl)); replace HB := aM hb; replace HI0 := aM hi; (try clear hb hk hi); (try clear cj)))
        go_ret
        exact ⟨_, y5, y9, y37, y30, y33⟩
      ·rw [if_neg iM] at H
       have c36b0 : decide (0 < (x5_1.length : Int)) = false := dF iM
       have c36b1 : decide (0 < x5_1.length) = false := dF (by omega)
       clear iM
       simp only [Option.some.injEq, Prod.mk.injEq] at H
       obtain ⟨rfl, rfl, rfl⟩ := H
       obtain ⟨Ao49, co49, eo49⟩ := Kd.R_slice bi.out
       subst eo49
       go_wp2
       go_ret
       exact ⟨_, y5, y9, y37, y30, y33⟩

/-! ### spec_DrawMoveMarks: function 4 -/
def spec_DrawMoveMarks.f (k : Nat) (l0 : List Int) : Option ((List (S68)) × (List (S34))) := (spec_l1Cur_op.f k l0 0 0).bind fun el => ((spec_l3Sizes.f k el.1).bind fun lF => (if lF.1 > 1000 then ((spec_l1Cur_marks.f k l0 el.2.1 el.2.2 10).bind fun oU => (some (el.1, oU.1))) else ((spec_l1Cur_marks.f k l0 el.2.1 el.2.2 lF.1).bind fun oT => (some (el.1, oT.1)))))
theorem spec_DrawMoveMarks.mono : ∀ a0 k, LeO (spec_DrawMoveMarks.f k a0) (spec_DrawMoveMarks.f (k + 1) a0) := by
 intro a0 k
 unfold spec_DrawMoveMarks.f
 with_reducible repeat' first | exact spec_l1Cur_marks.mono _ _ _ _ _ | exact spec_l1Cur_op.mono _ _ _ _ | exact spec_l3Sizes.mono _ _ | exact lR_ _ | exact lN_ _ | refine lI_ ?_ ?_ | refine lB_ ?_ fun _ => ?_
theorem spec_DrawMoveMarks.calls (k : Nat) (A0 : Option Addr) (c0 : Nat) (l0 : List Int) (r1 : List (S68)) (r2 : List (S34)) (w : World) (hr0 : Kd.C (Kd.int .u8) w A0 l0.length l0) (hc0 : l0.length ≤ c0) (h : spec_DrawMoveMarks.f k l0 = some (r1, r2)) :
  Calls Try.prog 4 #[.slice A0 l0.length c0] w fun e w' => ∃ v0_ v1_ : Value, e = .returned (.tuple #[v0_, v1_]) ∧ Kd.R k68 68 w' w.heap.size (fun _ => True) v0_ r1 ∧ Kd.R k34 34 w' w.heap.size (fun _ => True) v1_ r2 ∧ Below w.heap.size w w' := by
 have hu48 := Try.underlying48
 have bH := aM hr0
 have cH := aM hc0
 clear hr0 hc0
 have HB := aM (Below.refl w.heap.size w)
 have H : ((spec_l1Cur_op.f k l0 0 0).bind fun el => ((spec_l3Sizes.f k el.1).bind fun lF => (if lF.1 > 1000 then ((spec_l1Cur_marks.f k l0 el.2.1 el.2.2 10).bind fun oU => (some (el.1, oU.1))) else ((spec_l1Cur_marks.f k l0 el.2.1 el.2.2 lF.1).bind fun oT => (some (el.1, oT.1)))))) = some (r1, r2) := h
 clear h
 obtain ⟨⟨nv, nu, nt⟩, A2, H⟩ := oA_ H
 try dsimp only at H
 obtain ⟨⟨l7, rF⟩, A3, H⟩ := oA_ H
 try dsimp only at H
 by_cases c4 : l7 > 1000
 ·rw [if_pos c4] at H
  have c4b0 : decide (1000 < l7) = true := dT c4
  clear c4
  obtain ⟨⟨t337, t340, t341⟩, A5, H⟩ := oA_ H
  try dsimp only at H
  simp only [Option.some.injEq, Prod.mk.injEq] at H
  obtain ⟨rfl, rfl⟩ := H
  go_enter Try.func4, Try.ntmps4
  go_wp2_with (first | ((with_reducible refine ay (N := 10) rfl ?_); refine bE_ (N := 10) (cs := #[.slice A0 l0.length c0, .int .i64 0, .int .u64 0]) (t := 48) (h := ?_); intro ek hg w6 hbox hb; have jW := aM (hbox); have GW329 := aM ((zg_ : w.heap.size ≤ ek)); have pd := aM ((zg_ : w.heap.size ≤ ek)); replace HB := aM (ap z9 hb); clear hb hbox hg) | ((with_reducible refine ax (f := 16) rfl ?_); refine aC (some 12) rfl rfl Try.func16 z0 rfl #[.pointer (some ⟨ek, 0, none⟩)] rfl z10 ?_; (with_reducible refine (spec_l1Cur_op.calls k ek l0 0 0 nv nu nt w _ ?side1 ?side2 A2.out).mono ?_); (case side1 => exact ⟨_, _, by (with_reducible repeat (first | refine ak ?_ _ | refine aj ?_ | refine al ?_ _)); exact jW.out, pd.out, bH.out⟩); (case side2 => exact y62); rintro e w7 ⟨v331, rfl, ho0, hi, hb, hk⟩; refine ⟨_, rfl, ?_⟩; have df := aM (aD ho0 (aq (by repeat (first | (with_reducible first | exact HB.out | apply bA | apply pD | apply bD | refine ao ?_ (IsS48.ge HI329.out)) | exact HB.out)))); replace HB := aM hb; have HI329 := aM (hi); (try clear hb hk hi); (try clear ho0); (try clear jW); obtain ⟨Ao8, co8, eo8⟩ := Kd.R_slice df.out; subst eo8) | ((with_reducible refine ax (f := 17) rfl ?_); refine aC (some 15) rfl rfl Try.func17 z0 rfl #[.slice Ao8 nv.length co8] rfl z10 ?_; (with_reducible refine (spec_l3Sizes.calls k _ _ nv l7 rF _ ?side1 ?side2 A3.out).mono ?_); (case side1 => exact y63); (case side2 => exact (ah df.out).2.1); rintro e w9 ⟨rfl, hb⟩; refine ⟨_, rfl, ?_⟩; replace df := aM (af (kR_ df.out) hb); replace HB := aM (ap (by repeat (first | (with_reducible first | exact HB.out | apply bA | apply pD | apply bD | refine ao ?_ (IsS48.ge HI329.out)) | exact HB.out)) hb); replace HI329 := aM (IsS48.below ziHI329_ hb); (try clear hb)) | ((with_reducible refine ax (f := 18) rfl ?_); refine aC (some 23) rfl rfl Try.func18 z0 rfl #[.pointer (some ⟨ek, 0, none⟩), .int .i64 10] rfl z10 ?_; (with_reducible refine (spec_l1Cur_marks.calls k ek l0 nu nt 10 t337 t340 t341 w _ ?side1 ?side2 A5.out).mono ?_); (case side1 => exact y69); (case side2 => exact y62); rintro e w10 ⟨v338, rfl, ho0, hi, hb, hk⟩; refine ⟨_, rfl, ?_⟩; replace df := aM (ag (Kd.R_keep (IsS48.apart (show IsS48 w _ ek l0 nu nt from ziHI329_) (kR_ df.out) (by decide)) hk (fun _ h => h.2)) (fun _ h => h.1)); have HO339 := aM (aD ho0 (aq (by repeat (first | (with_reducible first | exact HB.out | apply bA | apply pD | apply bD | refine ao ?_ (IsS48.ge HI329.out)) | exact HB.out)))); replace HB := aM hb; replace HI329 := aM (hi); (try clear hb hk hi); (try clear ho0); (try clear jW)))
  go_ret2
  exact ⟨_, _, y5, by (with_reducible repeat (first | apply ac | apply ab | apply aa)); exact df.out, by (with_reducible repeat (first | apply ac | apply ab | apply aa)); exact HO339.out, by repeat (first | (with_reducible first | exact HB.out | apply bA | apply pD | apply bD | refine ao ?_ (IsS48.ge HI329.out)) | exact HB.out)⟩
 ·rw [if_neg c4] at H
  have c4b0 : decide (1000 < l7) = false := dF c4
  clear c4
  obtain ⟨⟨t342, t345, t346⟩, pJ, H⟩ := oA_ H
  try dsimp only at H
  simp only [Option.some.injEq, Prod.mk.injEq] at H
  obtain ⟨rfl, rfl⟩ := H
  go_enter Try.func4, Try.ntmps4
  go_wp2_with (first | ((with_reducible refine ay (N := 10) rfl ?_); refine bE_ (N := 10) (cs := #[.slice A0 l0.length c0, .int .i64 0, .int .u64 0]) (t := 48) (h := ?_); intro ek hg w12 hbox hb; have jW := aM (hbox); have GW329 := aM ((zg_ : w.heap.size ≤ ek)); have pd := aM ((zg_ : w.heap.size ≤ ek)); replace HB := aM (ap z9 hb); clear hb hbox hg) | ((with_reducible refine ax (f := 16) rfl ?_); refine aC (some 12) rfl rfl Try.func16 z0 rfl #[.pointer (some ⟨ek, 0, none⟩)] rfl z10 ?_; (with_reducible refine (spec_l1Cur_op.calls k ek l0 0 0 nv nu nt w _ ?side1 ?side2 A2.out).mono ?_); (case side1 => exact ⟨_, _, by (with_reducible repeat (first | refine ak ?_ _ | refine aj ?_ | refine al ?_ _)); exact jW.out, pd.out, bH.out⟩); (case side2 => exact y62); rintro e w13 ⟨v331, rfl, ho0, hi, hb, hk⟩; refine ⟨_, rfl, ?_⟩; have df := aM (aD ho0 (aq (by repeat (first | (with_reducible first | exact HB.out | apply bA | apply pD | apply bD | refine ao ?_ (IsS48.ge HI329.out)) | exact HB.out)))); replace HB := aM hb; have HI329 := aM (hi); (try clear hb hk hi); (try clear ho0); (try clear jW); obtain ⟨Ao14, sK, eo14⟩ := Kd.R_slice df.out; subst eo14) | ((with_reducible refine ax (f := 17) rfl ?_); refine aC (some 15) rfl rfl Try.func17 z0 rfl #[.slice Ao14 nv.length sK] rfl z10 ?_; (with_reducible refine (spec_l3Sizes.calls k _ _ nv l7 rF _ ?side1 ?side2 A3.out).mono ?_); (case side1 => exact y63); (case side2 => exact (ah df.out).2.1); rintro e w15 ⟨rfl, hb⟩; refine ⟨_, rfl, ?_⟩; replace df := aM (af (kR_ df.out) hb); replace HB := aM (ap (by repeat (first | (with_reducible first | exact HB.out | apply bA | apply pD | apply bD | refine ao ?_ (IsS48.ge HI329.out)) | exact HB.out)) hb); replace HI329 := aM (IsS48.below ziHI329_ hb); (try clear hb)) | ((with_reducible refine ax (f := 18) rfl ?_); refine aC (some 23) rfl rfl Try.func18 z0 rfl #[.pointer (some ⟨ek, 0, none⟩), .int .i64 l7] rfl z10 ?_; (with_reducible refine (spec_l1Cur_marks.calls k ek l0 nu nt l7 t342 t345 t346 w _ ?side1 ?side2 pJ.out).mono ?_); (case side1 => exact y69); (case side2 => exact y62); rintro e w16 ⟨v343, rfl, ho0, hi, hb, hk⟩; refine ⟨_, rfl, ?_⟩; replace df := aM (ag (Kd.R_keep (IsS48.apart (show IsS48 w _ ek l0 nu nt from ziHI329_) (kR_ df.out) (by decide)) hk (fun _ h => h.2)) (fun _ h => h.1)); have HO344 := aM (aD ho0 (aq (by repeat (first | (with_reducible first | exact HB.out | apply bA | apply pD | apply bD | refine ao ?_ (IsS48.ge HI329.out)) | exact HB.out)))); replace HB := aM hb; replace HI329 := aM (hi); (try clear hb hk hi); (try clear ho0); (try clear jW)))
  go_ret2
  exact ⟨_, _, y5, by (with_reducible repeat (first | apply ac | apply ab | apply aa)); exact df.out, by (with_reducible repeat (first | apply ac | apply ab | apply aa)); exact HO344.out, by repeat (first | (with_reducible first | exact HB.out | apply bA | apply pD | apply bD | refine ao ?_ (IsS48.ge HI329.out)) | exact HB.out)⟩

/-! ### impl_isStyle: function 33 -/
def impl_isStyle.l0 : Nat → ByteArray → Int → Int → Option (Bool)
 | 0, _, _, _ => none
 | k + 1, x0, x5, x6 => if x6 < x5 then (if 0 ≤ x6 then (if x6 < (x0.size : Int) then (if (bt x0 x6) < 97 then (some false) else (if (bt x0 x6) > 122 then (some false) else (impl_isStyle.l0 k x0 x5 (wrap64 (x6 + 1))))) else (none)) else (none)) else (if x0.toList = ([] : List UInt8) then (some false) else (some (decide ((x0.size : Int) ≤ 8))))
def impl_isStyle.f (k : Nat) (a0 : ByteArray) : Option (Bool) := impl_isStyle.l0 k a0 (a0.size : Int) 0
theorem impl_isStyle.mono_l : ∀ k, (∀ y0 y1 y2, LeO (impl_isStyle.l0 k y0 y1 y2) (impl_isStyle.l0 (k + 1) y0 y1 y2))
 | 0 => fun _ _ _ r h => by simp [impl_isStyle.l0] at h
 | k + 1 => by
  have ih0 := impl_isStyle.mono_l k
  ·intro y0 y1 y2
   unfold impl_isStyle.l0
   with_reducible repeat' first | exact ih0 _ _ _ | exact lR_ _ | exact lN_ _ | refine lI_ ?_ ?_ | refine lB_ ?_ fun _ => ?_
theorem impl_isStyle.mono : ∀ a0 k, LeO (impl_isStyle.f k a0) (impl_isStyle.f (k + 1) a0) := by
 intro a0 k
 have ih0 := impl_isStyle.mono_l k
 unfold impl_isStyle.f
 with_reducible repeat' first | exact ih0 _ _ _ | exact lR_ _ | exact lN_ _ | refine lI_ ?_ ?_ | refine lB_ ?_ fun _ => ?_
theorem impl_isStyle.calls (k : Nat) (a0 : ByteArray) (r : Bool) (w : World) (h : impl_isStyle.f k a0 = some r) :
  Calls Try.prog 33 #[.string a0] w fun e w' => e = .returned (.bool r) ∧ Drawn0 w w' := by
 have H : (impl_isStyle.l0 k a0 (a0.size : Int) 0) = some r := h
 clear h
 have H' := aM H
 clear H
 go_enter Try.func33, Try.ntmps33
 go_wp2
 go_loopg [6] k (fun kq v6 w' => ∃ (x6_1 : Int), v6 = .int .i64 x6_1 ∧ Aside0 (impl_isStyle.l0 kq a0 (a0.size : Int) x6_1 = some r) ∧ Aside0 (kq ≤ k) ∧ Drawn0 w w')
 case atStart => exact ⟨(0), z1, H', ⟨Nat.le_refl _⟩, y4⟩
 case round =>
  clear H'
  obtain ⟨x6_1, rfl, HA, HK1, ⟨m1, rfl⟩⟩ := hrel
  cases gk with
  | zero => exact absurd HA.out (by simp [impl_isStyle.l0])
  | succ k1 =>
   have H := HA.out
   clear HA
   simp only [impl_isStyle.l0] at H
   by_cases c2 : x6_1 < (a0.size : Int)
   ·rw [if_pos c2] at H
    have c2b0 : decide (x6_1 < (a0.size : Int)) = true := dT c2
    clear c2
    by_cases c3 : 0 ≤ x6_1
    ·rw [if_pos c3] at H
     have c3b0 : decide (0 ≤ x6_1) = true := dT c3
     clear c3
     by_cases c4 : x6_1 < (a0.size : Int)
     ·rw [if_pos c4] at H
      have c4b0 : decide (x6_1 < (a0.size : Int)) = true := dT c4
      clear c4
      by_cases c6 : (bt a0 x6_1) < 97
      ·rw [if_pos c6] at H
       have c6b0 : decide ((bt a0 x6_1) < 97) = true := dT c6
       clear c6
       obtain rfl := sI H
       have p5 : 0 ≤ (x6_1 : Int) := oD z2
       have q5 : x6_1 < (a0.size : Int) := oD z2
       have hx5 := bt_at a0 x6_1
       replace p5 := eq_true p5
       replace q5 := eq_true q5
       go_wp2
       go_ret
       exact ⟨y2, y4⟩
      ·rw [if_neg c6] at H
       have c6b0 : decide ((bt a0 x6_1) < 97) = false := dF c6
       clear c6
       by_cases c8 : (bt a0 x6_1) > 122
       ·rw [if_pos c8] at H
        have c8b0 : decide (122 < (bt a0 x6_1)) = true := dT c8
        clear c8
        obtain rfl := sI H
        have p5 : 0 ≤ (x6_1 : Int) := oD z2
        have q5 : x6_1 < (a0.size : Int) := oD z2
        have hx5 := bt_at a0 x6_1
        replace p5 := eq_true p5
        replace q5 := eq_true q5
        have p7 : 0 ≤ (x6_1 : Int) := oD z2
        have q7 : x6_1 < (a0.size : Int) := oD z2
        have hx7 := bt_at a0 x6_1
        replace p7 := eq_true p7
        replace q7 := eq_true q7
        go_wp2
        go_ret
        exact ⟨y2, y4⟩
       ·rw [if_neg c8] at H
        have c8b0 : decide (122 < (bt a0 x6_1)) = false := dF c8
        clear c8
        have H' := aM H
        clear H
        have p5 : 0 ≤ (x6_1 : Int) := oD z2
        have q5 : x6_1 < (a0.size : Int) := oD z2
        have hx5 := bt_at a0 x6_1
        replace p5 := eq_true p5
        replace q5 := eq_true q5
        have p7 : 0 ≤ (x6_1 : Int) := oD z2
        have q7 : x6_1 < (a0.size : Int) := oD z2
        have hx7 := bt_at a0 x6_1
        replace p7 := eq_true p7
        replace q7 := eq_true q7
        go_wp2
        go_roundg k1
        case measure => have := HK1.out; omega
        case rel => exact ⟨(wrap64 (x6_1 + 1)), z1, H', ⟨y0⟩, y4⟩
     ·rw [if_neg c4] at H
      exact absurd H (by simp)
    ·rw [if_neg c3] at H
     exact absurd H (by simp)
   ·rw [if_neg c2] at H
    have c2b0 : decide (x6_1 < (a0.size : Int)) = false := dF c2
    clear c2
    by_cases c9 : a0.toList = ([] : List UInt8)
    ·rw [if_pos c9] at H
     have c9b0 : (a0.toList == ([] : List UInt8)) = true := qT c9
     have c9b1 : (a0.toList != ([] : List UInt8)) = false := nF c9
     have c9b8 : (!a0.toList.isEmpty) = false := by have h_ := c9b1; revert h_; cases a0.toList <;> simp
     clear c9
     obtain rfl := sI H
     go_wp2
     all_goals (try (exfalso; rename_i h_; rw [c9b0] at h_; cases h_; done))
     go_ret
     exact ⟨y2, y4⟩
    ·rw [if_neg c9] at H
     have c9b0 : (a0.toList == ([] : List UInt8)) = false := qF c9
     have c9b1 : (a0.toList != ([] : List UInt8)) = true := nT c9
     have c9b8 : (!a0.toList.isEmpty) = true := by have h_ := c9b1; revert h_; cases a0.toList <;> simp
     obtain rfl := sI H
     go_wp2
     all_goals (try (exfalso; rename_i h_; rw [c9b0] at h_; cases h_; done))
     go_ret
     exact ⟨y2, y4⟩

/-! ### impl_isMark: function 28 -/
def impl_isMark.f (k : Nat) (a0_0 : Int) (a0_1 : Int) (a0_2 : ByteArray) (a1 : Int) : Option (Bool) := if a0_0 ≥ 0 then (if a0_0 < a0_1 then (if a0_1 ≤ a1 then ((impl_isStyle.f k a0_2).bind fun ot => (some ot)) else (some false)) else (some false)) else (some false)
theorem impl_isMark.mono : ∀ a0 a1 a2 a3 k, LeO (impl_isMark.f k a0 a1 a2 a3) (impl_isMark.f (k + 1) a0 a1 a2 a3) := by
 intro a0 a1 a2 a3 k
 unfold impl_isMark.f
 with_reducible repeat' first | exact impl_isStyle.mono _ _ | exact lR_ _ | exact lN_ _ | refine lI_ ?_ ?_ | refine lB_ ?_ fun _ => ?_
theorem impl_isMark.calls (k : Nat) (a0_0 : Int) (a0_1 : Int) (a0_2 : ByteArray) (a1 : Int) (r : Bool) (w : World) (h : impl_isMark.f k a0_0 a0_1 a0_2 a1 = some r) :
  Calls Try.prog 28 #[.agg #[.int .i64 a0_0, .int .i64 a0_1, .string a0_2], .int .i64 a1] w fun e w' => e = .returned (.bool r) ∧ Below w.heap.size w w' := by
 have hu34 := Try.underlying34
 have HB := aM (Below.refl w.heap.size w)
 have H : (if a0_0 ≥ 0 then (if a0_0 < a0_1 then (if a0_1 ≤ a1 then ((impl_isStyle.f k a0_2).bind fun ot => (some ot)) else (some false)) else (some false)) else (some false)) = some r := h
 clear h
 by_cases c3 : a0_0 ≥ 0
 ·rw [if_pos c3] at H
  have c3b0 : decide (0 ≤ a0_0) = true := dT c3
  clear c3
  by_cases c4 : a0_0 < a0_1
  ·rw [if_pos c4] at H
   have c4b0 : decide (a0_0 < a0_1) = true := dT c4
   clear c4
   by_cases c5 : a0_1 ≤ a1
   ·rw [if_pos c5] at H
    have c5b0 : decide (a0_1 ≤ a1) = true := dT c5
    clear c5
    obtain ⟨ot, A6, H⟩ := oA_ H
    try dsimp only at H
    obtain rfl := sI H
    go_enter Try.func28, Try.ntmps28
    go_wp2_with (first | ((with_reducible refine ay (N := 2) rfl ?_); refine bE_ (N := 2) (cs := #[.int .i64 a0_0, .int .i64 a0_1, .string a0_2]) (t := 34) (h := ?_); intro cK hg w7 hbox hb; have co := aM (hbox); have o8 := aM ((zg_ : w.heap.size ≤ cK)); have jT := aM ((zg_ : w.heap.size ≤ cK)); replace HB := aM (ap z9 hb); clear hb hbox hg; obtain ⟨fi, fh, fg, fO, e3, e1⟩ := cc3 co.out) | (go_at_call 33; (with_reducible refine (impl_isStyle.calls k a0_2 ot _ A6.out).mono ?_); rintro e w' ⟨rfl, ⟨nd, rfl⟩⟩))
    go_ret
    exact ⟨y5, zb_⟩
   ·rw [if_neg c5] at H
    have c5b0 : decide (a0_1 ≤ a1) = false := dF c5
    clear c5
    obtain rfl := sI H
    go_enter Try.func28, Try.ntmps28
    go_wp2_with (first | ((with_reducible refine ay (N := 2) rfl ?_); refine bE_ (N := 2) (cs := #[.int .i64 a0_0, .int .i64 a0_1, .string a0_2]) (t := 34) (h := ?_); intro cK hg w9 hbox hb; have co := aM (hbox); have o8 := aM ((zg_ : w.heap.size ≤ cK)); have jT := aM ((zg_ : w.heap.size ≤ cK)); replace HB := aM (ap z9 hb); clear hb hbox hg; obtain ⟨cG, cF, cE, cD, cC, cB⟩ := cc3 co.out))
    go_ret
    exact ⟨y5, zb_⟩
  ·rw [if_neg c4] at H
   have c4b0 : decide (a0_0 < a0_1) = false := dF c4
   clear c4
   obtain rfl := sI H
   go_enter Try.func28, Try.ntmps28
   go_wp2_with (first | ((with_reducible refine ay (N := 2) rfl ?_); refine bE_ (N := 2) (cs := #[.int .i64 a0_0, .int .i64 a0_1, .string a0_2]) (t := 34) (h := ?_); intro cK hg w11 hbox hb; have co := aM (hbox); have o8 := aM ((zg_ : w.heap.size ≤ cK)); have jT := aM ((zg_ : w.heap.size ≤ cK)); replace HB := aM (ap z9 hb); clear hb hbox hg; obtain ⟨gC, gB, gA, gp, gn, gm⟩ := cc3 co.out))
   go_ret
   exact ⟨y5, zb_⟩
 ·rw [if_neg c3] at H
  have c3b0 : decide (0 ≤ a0_0) = false := dF c3
  clear c3
  obtain rfl := sI H
  go_enter Try.func28, Try.ntmps28
  go_wp2_with (first | ((with_reducible refine ay (N := 2) rfl ?_); refine bE_ (N := 2) (cs := #[.int .i64 a0_0, .int .i64 a0_1, .string a0_2]) (t := 34) (h := ?_); intro cK hg w13 hbox hb; have co := aM (hbox); have o8 := aM ((zg_ : w.heap.size ≤ cK)); have jT := aM ((zg_ : w.heap.size ≤ cK)); replace HB := aM (ap z9 hb); clear hb hbox hg; obtain ⟨cz, cy, cx, cw, cv, cu⟩ := cc3 co.out))
  go_ret
  exact ⟨y5, zb_⟩

end Go.Proofs.Ytjbllgdehpomiaa.AFnMarks
