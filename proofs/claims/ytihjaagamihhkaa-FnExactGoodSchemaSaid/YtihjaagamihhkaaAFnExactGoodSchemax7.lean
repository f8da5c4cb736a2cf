-- this session's own text: written by wip/tools/ownprint.py over the kit's print
import Derived.SizedLaws
import Derived.Deep.Slices
import Derived.Deep.Fields
import Derived.ChangeSame
import Derived.Test.YtihjaagamihhkaaAFnExactGoodSchemax0
import Derived.Test.YtihjaagamihhkaaAFnExactGoodSchemax1
import Derived.Test.YtihjaagamihhkaaAFnExactGoodSchemax3
import Derived.Test.YtihjaagamihhkaaAFnExactGoodSchemax4
import Derived.Test.YtihjaagamihhkaaAFnExactGoodSchemax6
namespace Go.Proofs.Ytihjaagamihhkaa.AFnExactGoodSchema
open Go.RowKit Go.Proofs.YtihjaagamihhkaaW.PrintWords Go.Proofs.YtihjaagamihhkaaW.PrintLast Go.Proofs.YtihjaagamihhkaaW.PrintMore
attribute [local go_sem] max2_int min2_int max_two min_two max_three min_three max_four min_four   -- for this text's walks alone
set_option linter.unusedVariables false
set_option linter.unusedSimpArgs false

/-! ### laws_eqRule: function 23 -/
def laws_eqRule.f (a0_0 : ByteArray) (a0_1 : ByteArray) (a1_0 : ByteArray) (a1_1 : ByteArray) : Option (Bool) := if a0_0.toList = a1_0.toList then (if a0_1.toList = a1_1.toList then (some true) else (some false)) else (some false)
set_option maxHeartbeats 8000000 in
set_option maxRecDepth 100000 in
theorem laws_eqRule.calls (a0_0 : ByteArray) (a0_1 : ByteArray) (a1_0 : ByteArray) (a1_1 : ByteArray) (r : Bool) (w : World) (h : laws_eqRule.f a0_0 a0_1 a1_0 a1_1 = some r) :
  Calls Try.prog 23 #[.agg #[.string a0_0, .string a0_1], .agg #[.string a1_0, .string a1_1]] w fun e w' => e = .returned (.bool r) ∧ Below w.heap.size w w' := by
 have hu38 := Try.underlying38
 have HB := aM (Below.refl w.heap.size w)
 have H : (if a0_0.toList = a1_0.toList then (if a0_1.toList = a1_1.toList then (some true) else (some false)) else (some false)) = some r := h
 clear h
 by_cases c3 : a0_0.toList = a1_0.toList
 ·rw [if_pos c3] at H
  have c3b0 : (a0_0.toList == a1_0.toList) = true := qT c3
  have c3b1 : (a0_0.toList != a1_0.toList) = false := nF c3
  clear c3
  by_cases c4 : a0_1.toList = a1_1.toList
  ·rw [if_pos c4] at H
   have c4b0 : (a0_1.toList == a1_1.toList) = true := qT c4
   have c4b1 : (a0_1.toList != a1_1.toList) = false := nF c4
   clear c4
   obtain rfl := sI H
   go_enter Try.func23, Try.ntmps23
   go_wp2_with (first | ((with_reducible refine ar (N := 2) rfl ?_); refine au ?hg (N := 2) ?hd (cs := #[.string a0_0, .string a0_1]) (t := 38) ?hr ?_; (case hd => rfl); (case hg => rfl); (case hr => first | (go_simp; done) | (go_simp; rfl)); intro aK hg w5 hbox hb; have aA := aM (ak z6 hb); have aC := aM (hbox); have aE := aM ((by rw [hg]; exact (al z6) : w.heap.size ≤ aK)); have aI := aM ((by rw [hg]; exact (al z6) : w.heap.size ≤ aK)); clear HB; have HB := aA; have aN := aC; have b5 := aE; have a3 := aI; clear aA aC aE aI; clear hb hbox hg) | ((with_reducible refine ar (N := 3) rfl ?_); refine au ?hg (N := 3) ?hd (cs := #[.string a1_0, .string a1_1]) (t := 38) ?hr ?_; (case hd => rfl); (case hg => rfl); (case hr => first | (go_simp; done) | (go_simp; rfl)); intro aQ hg w6 hbox hb; have aA := aM (ae (g := aK) (o := .cells #[.string a0_0, .string a0_1] 38 (0, 0)) (by (with_reducible repeat (first | refine ah ?_ _ | refine ag ?_ | refine ai ?_ _)); exact aN.out) hb); have aC := aM (ak (by repeat (first | (with_reducible first | exact HB.out | apply bA | apply pD | apply bD | refine aj ?_ a3.out) | exact HB.out)) hb); have aE := aM (hbox); have aI := aM ((by rw [hg]; exact (al (by repeat (first | (with_reducible first | exact HB.out | apply bA | apply pD | apply bD | refine aj ?_ a3.out) | exact HB.out))) : w.heap.size ≤ aQ)); have bK := aM ((by rw [hg]; exact (al (by repeat (first | (with_reducible first | exact HB.out | apply bA | apply pD | apply bD | refine aj ?_ a3.out) | exact HB.out))) : w.heap.size ≤ aQ)); have bJ := aM ((by rw [hg]; exact Nat.ne_of_lt (blk_lt (g := aK) (o := .cells #[.string a0_0, .string a0_1] 38 (0, 0)) (by (with_reducible repeat (first | refine ah ?_ _ | refine ag ?_ | refine ai ?_ _)); exact aN.out)) : aK ≠ aQ)); have bI := aM ((by rw [hg]; exact Nat.ne_of_gt (blk_lt (g := aK) (o := .cells #[.string a0_0, .string a0_1] 38 (0, 0)) (by (with_reducible repeat (first | refine ah ?_ _ | refine ag ?_ | refine ai ?_ _)); exact aN.out)) : aQ ≠ aK)); clear aN; clear HB; have aN := aA; have HB := aC; have a4 := aE; have b4 := aI; have bB := bK; have a9 := bJ; have a8 := bI; clear aA aC aE aI bK bJ bI; clear hb hbox hg; have hnb7 := a9.out; have hnc7 := a8.out; have hcz8_0 : w6.cell? ⟨aK, 0, none⟩ = some (.string a0_0) := (bC aN.out 0).trans rfl; have hcz8_1 : w6.cell? ⟨aK, 1, none⟩ = some (.string a0_1) := (bC aN.out 1).trans rfl; have hfz8_0 := bF aN.out 0; have hfz8_1 := bF aN.out 1; have hcz9_0 : w6.cell? ⟨aQ, 0, none⟩ = some (.string a1_0) := (bC a4.out 0).trans rfl; have hcz9_1 : w6.cell? ⟨aQ, 1, none⟩ = some (.string a1_1) := (bC a4.out 1).trans rfl; have hfz9_0 := bF a4.out 0; have hfz9_1 := bF a4.out 1))
   all_goals (try (exfalso; rename_i h_; rw [c3b0] at h_; cases h_; done))
   all_goals (try (exfalso; rename_i h_; rw [c4b0] at h_; cases h_; done))
   go_ret
   exact ⟨y2, by repeat (first | (with_reducible first | exact HB.out | apply bA | apply pD | apply bD | refine aj ?_ a3.out | refine aj ?_ bB.out) | exact HB.out)⟩
  ·rw [if_neg c4] at H
   have c4b0 : (a0_1.toList == a1_1.toList) = false := qF c4
   have c4b1 : (a0_1.toList != a1_1.toList) = true := nT c4
   obtain rfl := sI H
   go_enter Try.func23, Try.ntmps23
   go_wp2_with (first | ((with_reducible refine ar (N := 2) rfl ?_); refine au ?hg (N := 2) ?hd (cs := #[.string a0_0, .string a0_1]) (t := 38) ?hr ?_; (case hd => rfl); (case hg => rfl); (case hr => first | (go_simp; done) | (go_simp; rfl)); intro aK hg w10 hbox hb; have aA := aM (ak z6 hb); have aC := aM (hbox); have aE := aM ((by rw [hg]; exact (al z6) : w.heap.size ≤ aK)); have aI := aM ((by rw [hg]; exact (al z6) : w.heap.size ≤ aK)); clear HB; have HB := aA; have aN := aC; have b5 := aE; have a3 := aI; clear aA aC aE aI; clear hb hbox hg) | ((with_reducible refine ar (N := 3) rfl ?_); refine au ?hg (N := 3) ?hd (cs := #[.string a1_0, .string a1_1]) (t := 38) ?hr ?_; (case hd => rfl); (case hg => rfl); (case hr => first | (go_simp; done) | (go_simp; rfl)); intro aQ hg w11 hbox hb; have aA := aM (ae (g := aK) (o := .cells #[.string a0_0, .string a0_1] 38 (0, 0)) (by (with_reducible repeat (first | refine ah ?_ _ | refine ag ?_ | refine ai ?_ _)); exact aN.out) hb); have aC := aM (ak (by repeat (first | (with_reducible first | exact HB.out | apply bA | apply pD | apply bD | refine aj ?_ a3.out) | exact HB.out)) hb); have aE := aM (hbox); have aI := aM ((by rw [hg]; exact (al (by repeat (first | (with_reducible first | exact HB.out | apply bA | apply pD | apply bD | refine aj ?_ a3.out) | exact HB.out))) : w.heap.size ≤ aQ)); have bK := aM ((by rw [hg]; exact (al (by repeat (first | (with_reducible first | exact HB.out | apply bA | apply pD | apply bD | refine aj ?_ a3.out) | exact HB.out))) : w.heap.size ≤ aQ)); have bJ := aM ((by rw [hg]; exact Nat.ne_of_lt (blk_lt (g := aK) (o := .cells #[.string a0_0, .string a0_1] 38 (0, 0)) (by (with_reducible repeat (first | refine ah ?_ _ | refine ag ?_ | refine ai ?_ _)); exact aN.out)) : aK ≠ aQ)); have bI := aM ((by rw [hg]; exact Nat.ne_of_gt (blk_lt (g := aK) (o := .cells #[.string a0_0, .string a0_1] 38 (0, 0)) (by (with_reducible repeat (first | refine ah ?_ _ | refine ag ?_ | refine ai ?_ _)); exact aN.out)) : aQ ≠ aK)); clear aN; clear HB; have aN := aA; have HB := aC; have a4 := aE; have b4 := aI; have bB := bK; have a9 := bJ; have a8 := bI; clear aA aC aE aI bK bJ bI; clear hb hbox hg; have hnb12 := a9.out; have hnc12 := a8.out; have hcz13_0 : w11.cell? ⟨aK, 0, none⟩ = some (.string a0_0) := (bC aN.out 0).trans rfl; have hcz13_1 : w11.cell? ⟨aK, 1, none⟩ = some (.string a0_1) := (bC aN.out 1).trans rfl; have hfz13_0 := bF aN.out 0; have hfz13_1 := bF aN.out 1; have hcz14_0 : w11.cell? ⟨aQ, 0, none⟩ = some (.string a1_0) := (bC a4.out 0).trans rfl; have hcz14_1 : w11.cell? ⟨aQ, 1, none⟩ = some (.string a1_1) := (bC a4.out 1).trans rfl; have hfz14_0 := bF a4.out 0; have hfz14_1 := bF a4.out 1))
   all_goals (try (exfalso; rename_i h_; rw [c3b0] at h_; cases h_; done))
   all_goals (try (exfalso; rename_i h_; rw [c4b0] at h_; cases h_; done))
   go_ret
   exact ⟨y2, by repeat (first | (with_reducible first | exact HB.out | apply bA | apply pD | apply bD | refine aj ?_ a3.out | refine aj ?_ bB.out) | exact HB.out)⟩
 ·rw [if_neg c3] at H
  have c3b0 : (a0_0.toList == a1_0.toList) = false := qF c3
  have c3b1 : (a0_0.toList != a1_0.toList) = true := nT c3
  obtain rfl := sI H
  go_enter Try.func23, Try.ntmps23
  go_wp2_with (first | ((with_reducible refine ar (N := 2) rfl ?_); refine au ?hg (N := 2) ?hd (cs := #[.string a0_0, .string a0_1]) (t := 38) ?hr ?_; (case hd => rfl); (case hg => rfl); (case hr => first | (go_simp; done) | (go_simp; rfl)); intro aK hg w15 hbox hb; have aA := aM (ak z6 hb); have aC := aM (hbox); have aE := aM ((by rw [hg]; exact (al z6) : w.heap.size ≤ aK)); have aI := aM ((by rw [hg]; exact (al z6) : w.heap.size ≤ aK)); clear HB; have HB := aA; have aN := aC; have b5 := aE; have a3 := aI; clear aA aC aE aI; clear hb hbox hg) | ((with_reducible refine ar (N := 3) rfl ?_); refine au ?hg (N := 3) ?hd (cs := #[.string a1_0, .string a1_1]) (t := 38) ?hr ?_; (case hd => rfl); (case hg => rfl); (case hr => first | (go_simp; done) | (go_simp; rfl)); intro aQ hg w16 hbox hb; have aA := aM (ae (g := aK) (o := .cells #[.string a0_0, .string a0_1] 38 (0, 0)) (by (with_reducible repeat (first | refine ah ?_ _ | refine ag ?_ | refine ai ?_ _)); exact aN.out) hb); have aC := aM (ak (by repeat (first | (with_reducible first | exact HB.out | apply bA | apply pD | apply bD | refine aj ?_ a3.out) | exact HB.out)) hb); have aE := aM (hbox); have aI := aM ((by rw [hg]; exact (al (by repeat (first | (with_reducible first | exact HB.out | apply bA | apply pD | apply bD | refine aj ?_ a3.out) | exact HB.out))) : w.heap.size ≤ aQ)); have bK := aM ((by rw [hg]; exact (al (by repeat (first | (with_reducible first | exact HB.out | apply bA | apply pD | apply bD | refine aj ?_ a3.out) | exact HB.out))) : w.heap.size ≤ aQ)); have bJ := aM ((by rw [hg]; exact Nat.ne_of_lt (blk_lt (g := aK) (o := .cells #[.string a0_0, .string a0_1] 38 (0, 0)) (by (with_reducible repeat (first | refine ah ?_ _ | refine ag ?_ | refine ai ?_ _)); exact aN.out)) : aK ≠ aQ)); have bI := aM ((by rw [hg]; exact Nat.ne_of_gt (blk_lt (g := aK) (o := .cells #[.string a0_0, .string a0_1] 38 (0, 0)) (by (with_reducible repeat (first | refine ah ?_ _ | refine ag ?_ | refine ai ?_ _)); exact aN.out)) : aQ ≠ aK)); clear aN; clear HB; have aN := aA; have HB := aC; have a4 := aE; have b4 := aI; have bB := bK; have a9 := bJ; have a8 := bI; clear aA aC aE aI bK bJ bI; clear hb hbox hg; have hnb17 := a9.out; have hnc17 := a8.out; have hcz18_0 : w16.cell? ⟨aK, 0, none⟩ = some (.string a0_0) := (bC aN.out 0).trans rfl; have hcz18_1 : w16.cell? ⟨aK, 1, none⟩ = some (.string a0_1) := (bC aN.out 1).trans rfl; have hfz18_0 := bF aN.out 0; have hfz18_1 := bF aN.out 1; have hcz19_0 : w16.cell? ⟨aQ, 0, none⟩ = some (.string a1_0) := (bC a4.out 0).trans rfl; have hcz19_1 : w16.cell? ⟨aQ, 1, none⟩ = some (.string a1_1) := (bC a4.out 1).trans rfl; have hfz19_0 := bF a4.out 0; have hfz19_1 := bF a4.out 1))
  all_goals (try (exfalso; rename_i h_; rw [c3b0] at h_; cases h_; done))
  go_ret
  exact ⟨y2, by repeat (first | (with_reducible first | exact HB.out | apply bA | apply pD | apply bD | refine aj ?_ a3.out | refine aj ?_ bB.out) | exact HB.out)⟩

/-! ### laws_eqRuleS: function 10 -/
def laws_eqRuleS.l0 : Nat → List (S38) → List (S38) → Int → Option (Bool)
 | 0, _, _, _ => none
 | k + 1, x0, x1, x5 => if x5 < (x0.length : Int) then (if 0 ≤ x5 then (if x5 < (x1.length : Int) then ((laws_eqRule.f ((rd_T38 x0 x5).f0) ((rd_T38 x0 x5).f1) ((rd_T38 x1 x5).f0) ((rd_T38 x1 x5).f1)).bind fun ca => (if ca = true then (laws_eqRuleS.l0 k x0 x1 (wrap64 (x5 + 1))) else (some false))) else (none)) else (none)) else (some true)
def laws_eqRuleS.f (k : Nat) (l0 : List (S38)) (l1 : List (S38)) : Option (Bool) := if (l0.length : Int) = (l1.length : Int) then (laws_eqRuleS.l0 k l0 l1 0) else (some false)
theorem laws_eqRuleS.mono_l : ∀ k, (∀ y0 y1 y2, LeO (laws_eqRuleS.l0 k y0 y1 y2) (laws_eqRuleS.l0 (k + 1) y0 y1 y2))
 | 0 => fun _ _ _ r h => by simp [laws_eqRuleS.l0] at h
 | k + 1 => by
  have ih0 := laws_eqRuleS.mono_l k
  ·intro y0 y1 y2
   unfold laws_eqRuleS.l0
   repeat' first
   | (with_reducible exact ih0 _ _ _)
   | (with_reducible exact LeO.refl _)
   | (with_reducible exact LeO.none _)
   | (with_reducible refine LeO.ite ?_ ?_)
   | (with_reducible refine LeO.bind ?_ (fun _ => ?_))
   | exact ih0 _ _ _
   | exact LeO.none _
   | refine LeO.ite ?_ ?_
   | refine LeO.bind ?_ (fun _ => ?_)
theorem laws_eqRuleS.mono : ∀ a0 a1 k, LeO (laws_eqRuleS.f k a0 a1) (laws_eqRuleS.f (k + 1) a0 a1) := by
 intro a0 a1 k
 have ih0 := laws_eqRuleS.mono_l k
 unfold laws_eqRuleS.f
 repeat' first
   | (with_reducible exact ih0 _ _ _)
   | (with_reducible exact LeO.refl _)
   | (with_reducible exact LeO.none _)
   | (with_reducible refine LeO.ite ?_ ?_)
   | (with_reducible refine LeO.bind ?_ (fun _ => ?_))
   | exact ih0 _ _ _
   | exact LeO.none _
   | refine LeO.ite ?_ ?_
   | refine LeO.bind ?_ (fun _ => ?_)
def laws_eqRuleS.T6 : Bool × List (List Nat × List Nat) := (true, [([], []), ([], []), ([0, 1], [0, 1]), ([2], [2]), ([], []), ([], []), ([4, 5], [4, 5]), ([6], [6]), ([3, 7], [3, 7]), ([8], [8])])
def laws_eqRuleS.B6 : List Nat := [0, 0, 3, 7, 0, 0, 48, 112, 255, 511]
theorem laws_eqRuleS.tab6 : rtab .any (opsOf Try.f10 6) = laws_eqRuleS.T6 := by kernel_rfl
theorem laws_eqRuleS.bits6 : waitsOk laws_eqRuleS.T6.2 laws_eqRuleS.B6 = true := by kernel_rfl
set_option maxHeartbeats 8000000 in
set_option maxRecDepth 100000 in
theorem laws_eqRuleS.calls (k : Nat) (A0 : Option Addr) (c0 : Nat) (l0 : List (S38)) (A1 : Option Addr) (c1 : Nat) (l1 : List (S38)) (r : Bool) (w : World) (hr0 : Kd.C k38 w A0 l0.length l0) (hc0 : l0.length ≤ c0) (hr1 : Kd.C k38 w A1 l1.length l1) (hc1 : l1.length ≤ c1) (h : laws_eqRuleS.f k l0 l1 = some r) :
  Calls Try.prog 10 #[.slice A0 l0.length c0, .slice A1 l1.length c1] w fun e w' => e = .returned (.bool r) ∧ Below w.heap.size w w' := by
 have hu38 := Try.underlying38
 have aX := aM hr0
 have bz := aM hc0
 clear hr0 hc0
 have ct := aM hr1
 have HC1 := aM hc1
 clear hr1 hc1
 have HB := aM (Below.refl w.heap.size w)
 have H : (if (l0.length : Int) = (l1.length : Int) then (laws_eqRuleS.l0 k l0 l1 0) else (some false)) = some r := h
 clear h
 by_cases c3 : (l0.length : Int) = (l1.length : Int)
 ·rw [if_pos c3] at H
  have c3b0 : ((l0.length : Int) == (l1.length : Int)) = true := qT c3
  have c3b1 : ((l0.length : Int) != (l1.length : Int)) = false := nF c3
  have c3b2 : (l0.length == l1.length) = true := by first | simpa using c3 | (simp at c3 ⊢; omega)
  clear c3
  have H' := aM H
  clear H
  go_enter Try.func10, Try.ntmps10
  go_wp2
  go_loopg [5] k (fun kq v5 w' => ∃ (x5_1 : Int), v5 = .int .i64 x5_1 ∧ Aside0 (laws_eqRuleS.l0 kq l0 l1 x5_1 = some r) ∧ Aside0 (kq ≤ k) ∧ Aside0 (Below w.heap.size w w'))
  case atStart => exact ⟨(0), (by first | rfl | (simp; done) | (simp [*]; done)), H', ⟨Nat.le_refl _⟩, ⟨y3⟩⟩
  case round =>
   clear H'
   try clear c1
   try clear p2
   try clear c3
   try clear c3b0
   try clear c3b1
   try clear c3b2
   obtain ⟨x5_1, rfl, HA, HK1, HB⟩ := hrel
   cases gk with
   | zero => exact absurd HA.out (by simp [laws_eqRuleS.l0])
   | succ k1 =>
    have H := HA.out
    clear HA
    simp only [laws_eqRuleS.l0] at H
    by_cases c4 : x5_1 < (l0.length : Int)
    ·rw [if_pos c4] at H
     have c4b0 : decide (x5_1 < (l0.length : Int)) = true := dT c4
     clear c4
     by_cases c5 : 0 ≤ x5_1
     ·rw [if_pos c5] at H
      have c5b0 : decide (0 ≤ x5_1) = true := dT c5
      clear c5
      by_cases c6 : x5_1 < (l1.length : Int)
      ·rw [if_pos c6] at H
       have c6b0 : decide (x5_1 < (l1.length : Int)) = true := dT c6
       clear c6
       replace H := oB H
       obtain ⟨ca, b7, H⟩ := H
       try dsimp only at H
       have A7 := aM b7
       clear b7
       by_cases c8 : ca = true
       ·subst c8
        rw [if_pos rfl] at H
        have H' := aM H
        clear H
        try go_wp2
        have aA := aM (bD HB.out)
        clear HB
        have HB := aA
        clear aA
        have p155 : 0 ≤ (x5_1 : Int) := oD z1
        have q155 : x5_1 < (l0.length : Int) := oD z1
        obtain ⟨ad155, e155, hx155_0, hx155_1⟩ := at_T38 aX.out x5_1 p155 q155
        have hw155_1 := hx155_1
        have hw155_0 := hx155_0
        cases e155
        replace hx155_0 := (HB.out.cell (World.block_lt_of_cell? w _ hx155_0)).trans hx155_0
        replace hx155_1 := (HB.out.cell (World.block_lt_of_cell? w _ hx155_1)).trans hx155_1
        replace p155 := eq_true p155
        replace q155 := eq_true q155
        have p156 : 0 ≤ (x5_1 : Int) := oD z1
        have q156 : x5_1 < (l1.length : Int) := oD z1
        obtain ⟨ad156, e156, hx156_0, hx156_1⟩ := at_T38 ct.out x5_1 p156 q156
        have hw156_1 := hx156_1
        have hw156_0 := hx156_0
        cases e156
        replace hx156_0 := (HB.out.cell (World.block_lt_of_cell? w _ hx156_0)).trans hx156_0
        replace hx156_1 := (HB.out.cell (World.block_lt_of_cell? w _ hx156_1)).trans hx156_1
        replace p156 := eq_true p156
        replace q156 := eq_true q156
        refine start_ (n := 10) (S := fun w' => w'.cell? (ad155.add ((x5_1).toNat * 2)) = some (.string ((rd_T38 l0 x5_1).f0)) ∧ w'.cell? ⟨(ad155.add ((x5_1).toNat * 2)).block, (ad155.add ((x5_1).toNat * 2)).off + 1, none⟩ = some (.string ((rd_T38 l0 x5_1).f1)) ∧ w'.cell? (ad156.add ((x5_1).toNat * 2)) = some (.string ((rd_T38 l1 x5_1).f0)) ∧ w'.cell? ⟨(ad156.add ((x5_1).toNat * 2)).block, (ad156.add ((x5_1).toNat * 2)).off + 1, none⟩ = some (.string ((rd_T38 l1 x5_1).f1))) (ds := []) #[false, false, false, false, false, false, false, false, false, false] z0 rfl rfl ⟨((HB.out.cell (World.block_lt_of_cell? w _ hw155_0)).trans hw155_0), ((HB.out.cell (World.block_lt_of_cell? w _ hw155_1)).trans hw155_1), ((HB.out.cell (World.block_lt_of_cell? w _ hw156_0)).trans hw156_0), ((HB.out.cell (World.block_lt_of_cell? w _ hw156_1)).trans hw156_1)⟩ (fun hHeld => ?_); refine with_tabW laws_eqRuleS.tab6 laws_eqRuleS.bits6 (fun HT_ HW_ => ?_)
        generalize wr.drew = w9 at HB hx155_0 hx155_1 hx156_0 hx156_1 hHeld ⊢
        refine pA 0 17 ?_
        refine pA 1 18 ?_
        refine pA 2 19 ?_
        refine pA 4 21 ?_
        refine pA 5 22 ?_
        refine pA 6 23 ?_
        refine tA 3 20 ?_ (hy := by rintro w' ⟨s0, s1, s2, s3⟩; go_simp; with_reducible rfl)
        refine tA 7 24 ?_ (hy := by rintro w' ⟨s0, s1, s2, s3⟩; go_simp; with_reducible rfl)
        refine one_ (i := 8) (N := some 25) #[true, true, true, true, true, true, true, true, true, false] rfl rfl (one_of HT_.out z0) (by decide) (fun K hK => ?_)
        refine goes_ Try.func23 z0 rfl #[.agg #[.string ((rd_T38 l0 x5_1).f0), .string ((rd_T38 l0 x5_1).f1)], .agg #[.string ((rd_T38 l1 x5_1).f0), .string ((rd_T38 l1 x5_1).f1)]] (by rfl) rfl rfl z7 ?_
        with_reducible refine (laws_eqRule.calls ((rd_T38 l0 x5_1).f0) ((rd_T38 l0 x5_1).f1) ((rd_T38 l1 x5_1).f0) ((rd_T38 l1 x5_1).f1) true _ A7.out).mono ?_
        rintro e w10 ⟨rfl, hb⟩
        refine ⟨_, rfl, ?_⟩
        have aA := aM (ak z6 hb)
        clear HB
        have HB := aA
        clear aA
        (try clear hb)
        (try clear hb2)
        (try clear hk)
        (try clear hi)
        refine hK.out _ _ ⟨((HB.out.cell (World.block_lt_of_cell? w _ hw155_0)).trans hw155_0), ((HB.out.cell (World.block_lt_of_cell? w _ hw155_1)).trans hw155_1), ((HB.out.cell (World.block_lt_of_cell? w _ hw156_0)).trans hw156_0), ((HB.out.cell (World.block_lt_of_cell? w _ hw156_1)).trans hw156_1)⟩ (fun hHeld => ?_)
        clear hK K
        refine norm_ (a' := ?_) ?_ ?_
        rotate_left
        ·show Act.put _ (some 25) _ = _
         simp only [Act.put, sA, sB, sC, i64_w, i32_w]
         rfl
        refine pA 9 26 ?_
        refine done_ (done_of HT_.out z0) ?_
        try go_wp2
        go_roundg k1
        case measure => have := HK1.out; omega
        case rel => exact ⟨(wrap64 (x5_1 + 1)), (by first | rfl | (simp; done) | (simp [*]; done)), H', ⟨by have := HK1.out; omega⟩, ⟨y3⟩⟩
       ·replace c8 := Bool.eq_false_iff.mpr c8
        subst c8
        rw [if_neg (show ¬ (false = true) by decide)] at H
        obtain rfl := sI H
        try go_wp2
        have aA := aM (bD HB.out)
        clear HB
        have HB := aA
        clear aA
        have p155 : 0 ≤ (x5_1 : Int) := oD z1
        have q155 : x5_1 < (l0.length : Int) := oD z1
        obtain ⟨ad155, e155, hx155_0, hx155_1⟩ := at_T38 aX.out x5_1 p155 q155
        have hw155_1 := hx155_1
        have hw155_0 := hx155_0
        cases e155
        replace hx155_0 := (HB.out.cell (World.block_lt_of_cell? w _ hx155_0)).trans hx155_0
        replace hx155_1 := (HB.out.cell (World.block_lt_of_cell? w _ hx155_1)).trans hx155_1
        replace p155 := eq_true p155
        replace q155 := eq_true q155
        have p156 : 0 ≤ (x5_1 : Int) := oD z1
        have q156 : x5_1 < (l1.length : Int) := oD z1
        obtain ⟨ad156, e156, hx156_0, hx156_1⟩ := at_T38 ct.out x5_1 p156 q156
        have hw156_1 := hx156_1
        have hw156_0 := hx156_0
        cases e156
        replace hx156_0 := (HB.out.cell (World.block_lt_of_cell? w _ hx156_0)).trans hx156_0
        replace hx156_1 := (HB.out.cell (World.block_lt_of_cell? w _ hx156_1)).trans hx156_1
        replace p156 := eq_true p156
        replace q156 := eq_true q156
        refine start_ (n := 10) (S := fun w' => w'.cell? (ad155.add ((x5_1).toNat * 2)) = some (.string ((rd_T38 l0 x5_1).f0)) ∧ w'.cell? ⟨(ad155.add ((x5_1).toNat * 2)).block, (ad155.add ((x5_1).toNat * 2)).off + 1, none⟩ = some (.string ((rd_T38 l0 x5_1).f1)) ∧ w'.cell? (ad156.add ((x5_1).toNat * 2)) = some (.string ((rd_T38 l1 x5_1).f0)) ∧ w'.cell? ⟨(ad156.add ((x5_1).toNat * 2)).block, (ad156.add ((x5_1).toNat * 2)).off + 1, none⟩ = some (.string ((rd_T38 l1 x5_1).f1))) (ds := []) #[false, false, false, false, false, false, false, false, false, false] z0 rfl rfl ⟨((HB.out.cell (World.block_lt_of_cell? w _ hw155_0)).trans hw155_0), ((HB.out.cell (World.block_lt_of_cell? w _ hw155_1)).trans hw155_1), ((HB.out.cell (World.block_lt_of_cell? w _ hw156_0)).trans hw156_0), ((HB.out.cell (World.block_lt_of_cell? w _ hw156_1)).trans hw156_1)⟩ (fun hHeld => ?_); refine with_tabW laws_eqRuleS.tab6 laws_eqRuleS.bits6 (fun HT_ HW_ => ?_)
        generalize wr.drew = w11 at HB hx155_0 hx155_1 hx156_0 hx156_1 hHeld ⊢
        refine pA 0 17 ?_
        refine pA 1 18 ?_
        refine pA 2 19 ?_
        refine pA 4 21 ?_
        refine pA 5 22 ?_
        refine pA 6 23 ?_
        refine tA 3 20 ?_ (hy := by rintro w' ⟨s0, s1, s2, s3⟩; go_simp; with_reducible rfl)
        refine tA 7 24 ?_ (hy := by rintro w' ⟨s0, s1, s2, s3⟩; go_simp; with_reducible rfl)
        refine one_ (i := 8) (N := some 25) #[true, true, true, true, true, true, true, true, true, false] rfl rfl (one_of HT_.out z0) (by decide) (fun K hK => ?_)
        refine goes_ Try.func23 z0 rfl #[.agg #[.string ((rd_T38 l0 x5_1).f0), .string ((rd_T38 l0 x5_1).f1)], .agg #[.string ((rd_T38 l1 x5_1).f0), .string ((rd_T38 l1 x5_1).f1)]] (by rfl) rfl rfl z7 ?_
        with_reducible refine (laws_eqRule.calls ((rd_T38 l0 x5_1).f0) ((rd_T38 l0 x5_1).f1) ((rd_T38 l1 x5_1).f0) ((rd_T38 l1 x5_1).f1) false _ A7.out).mono ?_
        rintro e w12 ⟨rfl, hb⟩
        refine ⟨_, rfl, ?_⟩
        have aA := aM (ak z6 hb)
        clear HB
        have HB := aA
        clear aA
        (try clear hb)
        (try clear hb2)
        (try clear hk)
        (try clear hi)
        refine hK.out _ _ ⟨((HB.out.cell (World.block_lt_of_cell? w _ hw155_0)).trans hw155_0), ((HB.out.cell (World.block_lt_of_cell? w _ hw155_1)).trans hw155_1), ((HB.out.cell (World.block_lt_of_cell? w _ hw156_0)).trans hw156_0), ((HB.out.cell (World.block_lt_of_cell? w _ hw156_1)).trans hw156_1)⟩ (fun hHeld => ?_)
        clear hK K
        refine norm_ (a' := ?_) ?_ ?_
        rotate_left
        ·show Act.put _ (some 25) _ = _
         simp only [Act.put, sA, sB, sC, i64_w, i32_w]
         rfl
        refine pA 9 26 ?_
        refine done_ (done_of HT_.out z0) ?_
        try go_wp2
        go_ret
        exact ⟨y2, y3⟩
      ·rw [if_neg c6] at H
       exact absurd H (by simp)
     ·rw [if_neg c5] at H
      exact absurd H (by simp)
    ·rw [if_neg c4] at H
     have c4b0 : decide (x5_1 < (l0.length : Int)) = false := dF c4
     clear c4
     obtain rfl := sI H
     go_wp2
     go_ret
     exact ⟨y2, y3⟩
 ·rw [if_neg c3] at H
  have c3b0 : ((l0.length : Int) == (l1.length : Int)) = false := qF c3
  have c3b1 : ((l0.length : Int) != (l1.length : Int)) = true := nT c3
  have c3b2 : (l0.length == l1.length) = false := by first | simpa using c3 | (simp at c3 ⊢; omega)
  obtain rfl := sI H
  go_enter Try.func10, Try.ntmps10
  go_wp2
  go_ret
  exact ⟨y2, y3⟩

/-! ### laws_FnExactGoodSchema: function 3 -/
def laws_FnExactGoodSchema.f (k : Nat) (l0 : List (S37)) : Option (Bool) := (laws_szRuleS.f k l0 1048576).bind fun bq => (if bq < 0 then (some true) else ((laws_toRuleS.f k l0).bind fun bh => ((spec_GoodSchema.f k bh).bind fun bg => ((laws_toRuleS.f k l0).bind fun bb => ((impl_GoodSchema.f k bb).bind fun bf => (if (bf != bg) = true then (some false) else ((laws_toRuleS.f k l0).bind fun bw => ((laws_eqRuleS.f k bb bw).bind fun bQ => (if bQ = true then (some true) else (some false))))))))))
theorem laws_FnExactGoodSchema.mono : ∀ a0 k, LeO (laws_FnExactGoodSchema.f k a0) (laws_FnExactGoodSchema.f (k + 1) a0) := by
 intro a0 k
 unfold laws_FnExactGoodSchema.f
 repeat' first
   | (with_reducible exact impl_GoodSchema.mono _ _)
   | (with_reducible exact laws_eqRuleS.mono _ _ _)
   | (with_reducible exact laws_szRuleS.mono _ _ _)
   | (with_reducible exact laws_toRuleS.mono _ _)
   | (with_reducible exact spec_GoodSchema.mono _ _)
   | (with_reducible exact LeO.refl _)
   | (with_reducible exact LeO.none _)
   | (with_reducible refine LeO.ite ?_ ?_)
   | (with_reducible refine LeO.bind ?_ (fun _ => ?_))
   | exact impl_GoodSchema.mono _ _
   | exact laws_eqRuleS.mono _ _ _
   | exact laws_szRuleS.mono _ _ _
   | exact laws_toRuleS.mono _ _
   | exact spec_GoodSchema.mono _ _
   | exact LeO.none _
   | refine LeO.ite ?_ ?_
   | refine LeO.bind ?_ (fun _ => ?_)
set_option maxHeartbeats 8000000 in
set_option maxRecDepth 100000 in
theorem laws_FnExactGoodSchema.calls (k : Nat) (A0 : Option Addr) (c0 : Nat) (l0 : List (S37)) (r : Bool) (HRT : Aside0 (r = true)) (w : World) (hr0 : Kd.C k37 w A0 l0.length l0) (hc0 : l0.length ≤ c0) (h : laws_FnExactGoodSchema.f k l0 = some r) :
  Calls Try.prog 3 #[.slice A0 l0.length c0] w fun e w' => e = .returned (.bool r) ∧ Below w.heap.size w w' := by
 have aX := aM hr0
 have bz := aM hc0
 clear hr0 hc0
 have HB := aM (Below.refl w.heap.size w)
 have H : ((laws_szRuleS.f k l0 1048576).bind fun bq => (if bq < 0 then (some true) else ((laws_toRuleS.f k l0).bind fun bh => ((spec_GoodSchema.f k bh).bind fun bg => ((laws_toRuleS.f k l0).bind fun bb => ((impl_GoodSchema.f k bb).bind fun bf => (if (bf != bg) = true then (some false) else ((laws_toRuleS.f k l0).bind fun bw => ((laws_eqRuleS.f k bb bw).bind fun bQ => (if bQ = true then (some true) else (some false))))))))))) = some r := h
 clear h
 replace H := oB H
 obtain ⟨bq, cE, H⟩ := H
 try dsimp only at H
 have A2 := aM cE
 clear cE
 by_cases c3 : bq < 0
 ·rw [if_pos c3] at H
  have c3b0 : decide (bq < 0) = true := dT c3
  clear c3
  first | (cases H.trans (congrArg some HRT.out); done) | skip
  all_goals
   obtain rfl := sI H
   go_enter Try.func3, Try.ntmps3
   go_wp2_with (first | ((with_reducible refine aq (f := 6) rfl ?_); refine goesL_ (some 9) rfl rfl Try.func6 z0 rfl #[.slice A0 l0.length c0, .int .i64 1048576] rfl z7 ?_; (with_reducible refine (laws_szRuleS.calls k _ _ l0 1048576 bq _ ?side1 ?side2 A2.out).mono ?_); (case side1 => repeat (first | exact aX.out | (with_reducible refine am ?_ _) | (with_reducible refine ao ?_ _) | (with_reducible refine ap ?_))); (case side2 => exact bz.out); rintro e w4 ⟨rfl, hb⟩; refine ⟨_, rfl, ?_⟩; have aA := aM (ak z6 hb); clear HB; have HB := aA; clear aA; (try clear hb); (try clear hb2); (try clear hk); (try clear hi)))
   go_ret
   exact ⟨y2, y3⟩
 ·rw [if_neg c3] at H
  have c3b0 : decide (bq < 0) = false := dF c3
  clear c3
  replace H := oB H
  obtain ⟨bh, b9, H⟩ := H
  try dsimp only at H
  have A5 := aM b9
  clear b9
  replace H := oB H
  obtain ⟨bg, b8, H⟩ := H
  try dsimp only at H
  have A6 := aM b8
  clear b8
  replace H := oB H
  obtain ⟨bb, b7, H⟩ := H
  try dsimp only at H
  have A7 := aM b7
  clear b7
  replace H := oB H
  obtain ⟨bf, cx, H⟩ := H
  try dsimp only at H
  have A8 := aM cx
  clear cx
  by_cases c9 : (bf != bg) = true
  ·rw [if_pos c9] at H
   have c9b0 : (bf != bg) = true := c9
   (try (have c9b1 : decide (bf = bg) = false := by simpa using c9))
   (try (have c9b2 : (bf == bg) = false := by simpa using c9))
   (try (have c9b3 : ¬ (bf = bg) := by simpa using c9))
   clear c9
   first | (cases H.trans (congrArg some HRT.out); done) | skip
   all_goals
    obtain rfl := sI H
    go_enter Try.func3, Try.ntmps3
    go_wp2_with (first | ((with_reducible refine aq (f := 6) rfl ?_); refine goesL_ (some 9) rfl rfl Try.func6 z0 rfl #[.slice A0 l0.length c0, .int .i64 1048576] rfl z7 ?_; (with_reducible refine (laws_szRuleS.calls k _ _ l0 1048576 bq _ ?side1 ?side2 A2.out).mono ?_); (case side1 => repeat (first | exact aX.out | (with_reducible refine am ?_ _) | (with_reducible refine ao ?_ _) | (with_reducible refine ap ?_))); (case side2 => exact bz.out); rintro e w10 ⟨rfl, hb⟩; refine ⟨_, rfl, ?_⟩; have aA := aM (ak z6 hb); clear HB; have HB := aA; clear aA; (try clear hb); (try clear hb2); (try clear hk); (try clear hi)) | ((with_reducible refine aq (f := 8) rfl ?_); refine goesL_ (some 13) rfl rfl Try.func8 z0 rfl #[.slice A0 l0.length c0] rfl z7 ?_; (with_reducible refine (laws_toRuleS.calls k _ _ l0 bh _ ?side1 ?side2 A5.out).mono ?_); (case side1 => repeat (first | exact (Kd.C_below aX.out HB.out) | (with_reducible refine am ?_ _) | (with_reducible refine ao ?_ _) | (with_reducible refine ap ?_))); (case side2 => exact bz.out); rintro e w11 ⟨v160, rfl, ho0, hb⟩; refine ⟨_, rfl, ?_⟩; have aA := aM (Kd.R_lower ho0 (al z6)); have aC := aM (ak z6 hb); clear HB; have aH := aA; have HB := aC; clear aA aC; (try clear hb); (try clear hb2); (try clear hk); (try clear hi); (try clear ho0); obtain ⟨Ao12, co12, eo12⟩ := Kd.R_slice aH.out; subst eo12) | ((with_reducible refine aq (f := 7) rfl ?_); refine goesL_ (some 14) rfl rfl Try.func7 z0 rfl #[.slice Ao12 bh.length co12] rfl z7 ?_; (with_reducible refine (spec_GoodSchema.calls k _ _ bh bg _ ?side1 ?side2 A6.out).mono ?_); (case side1 => repeat (first | exact (af aH.out).2.2 | (with_reducible refine am ?_ _) | (with_reducible refine ao ?_ _) | (with_reducible refine ap ?_))); (case side2 => exact (af aH.out).2.1); rintro e w13 ⟨rfl, hb⟩; refine ⟨_, rfl, ?_⟩; have aA := aM (Kd.R_below z2 hb); have aC := aM (ak z6 hb); clear aH; clear HB; have aH := aA; have HB := aC; clear aA aC; (try clear hb); (try clear hb2); (try clear hk); (try clear hi)) | ((with_reducible refine aq (f := 8) rfl ?_); refine goesL_ (some 16) rfl rfl Try.func8 z0 rfl #[.slice A0 l0.length c0] rfl z7 ?_; (with_reducible refine (laws_toRuleS.calls k _ _ l0 bb _ ?side1 ?side2 A7.out).mono ?_); (case side1 => repeat (first | exact (Kd.C_below aX.out HB.out) | (with_reducible refine am ?_ _) | (with_reducible refine ao ?_ _) | (with_reducible refine ap ?_))); (case side2 => exact bz.out); rintro e w14 ⟨v164, rfl, ho0, hb⟩; refine ⟨_, rfl, ?_⟩; have aA := aM (Kd.R_elder' z2 (Kd.R_base ho0) hb); have aC := aM (Kd.R_lower (Kd.R_new' ho0 (Kd.R_lt z2)) (al z6)); have aE := aM (ak z6 hb); clear aH; clear HB; have aH := aA; have aG := aC; have HB := aE; clear aA aC aE; (try clear hb); (try clear hb2); (try clear hk); (try clear hi); (try clear ho0); obtain ⟨Ao15, co15, eo15⟩ := Kd.R_slice aG.out; subst eo15) | ((with_reducible refine aq (f := 9) rfl ?_); refine goesL_ (some 18) rfl rfl Try.func9 z0 rfl #[.slice Ao15 bb.length co15] rfl z7 ?_; (with_reducible refine (impl_GoodSchema.calls k _ _ bb bf _ ?side1 ?side2 A8.out).mono ?_); (case side1 => repeat (first | exact (af aG.out).2.2 | (with_reducible refine am ?_ _) | (with_reducible refine ao ?_ _) | (with_reducible refine ap ?_))); (case side2 => exact (af aG.out).2.1); rintro e w16 ⟨rfl, hb⟩; refine ⟨_, rfl, ?_⟩; have aA := aM (Kd.R_below z2 hb); have aC := aM (Kd.R_below (by (with_reducible repeat (first | apply ac | apply ab | apply aa)); exact aG.out) hb); have aE := aM (ak z6 hb); clear aH; clear aG; clear HB; have aH := aA; have aG := aC; have HB := aE; clear aA aC aE; (try clear hb); (try clear hb2); (try clear hk); (try clear hi)))
    go_ret
    exact ⟨y2, y3⟩
  ·rw [if_neg c9] at H
   have c9b0 : (bf != bg) = false := by simpa using c9
   (try (have c9b1 : decide (bf = bg) = true := by simpa using c9))
   (try (have c9b2 : (bf == bg) = true := by simpa using c9))
   clear c9
   replace H := oB H
   obtain ⟨bw, cG, H⟩ := H
   try dsimp only at H
   have cU := aM cG
   clear cG
   replace H := oB H
   obtain ⟨bQ, cF, H⟩ := H
   try dsimp only at H
   have cT := aM cF
   clear cF
   by_cases cL : bQ = true
   ·subst cL
    rw [if_pos rfl] at H
    first | (cases H.trans (congrArg some HRT.out); done) | skip
    all_goals
     obtain rfl := sI H
     go_enter Try.func3, Try.ntmps3
     go_wp2_with (first | ((with_reducible refine aq (f := 6) rfl ?_); refine goesL_ (some 9) rfl rfl Try.func6 z0 rfl #[.slice A0 l0.length c0, .int .i64 1048576] rfl z7 ?_; (with_reducible refine (laws_szRuleS.calls k _ _ l0 1048576 bq _ ?side1 ?side2 A2.out).mono ?_); (case side1 => repeat (first | exact aX.out | (with_reducible refine am ?_ _) | (with_reducible refine ao ?_ _) | (with_reducible refine ap ?_))); (case side2 => exact bz.out); rintro e w20 ⟨rfl, hb⟩; refine ⟨_, rfl, ?_⟩; have aA := aM (ak z6 hb); clear HB; have HB := aA; clear aA; (try clear hb); (try clear hb2); (try clear hk); (try clear hi)) | ((with_reducible refine aq (f := 8) rfl ?_); refine goesL_ (some 13) rfl rfl Try.func8 z0 rfl #[.slice A0 l0.length c0] rfl z7 ?_; (with_reducible refine (laws_toRuleS.calls k _ _ l0 bh _ ?side1 ?side2 A5.out).mono ?_); (case side1 => repeat (first | exact (Kd.C_below aX.out HB.out) | (with_reducible refine am ?_ _) | (with_reducible refine ao ?_ _) | (with_reducible refine ap ?_))); (case side2 => exact bz.out); rintro e w21 ⟨v160, rfl, ho0, hb⟩; refine ⟨_, rfl, ?_⟩; have aA := aM (Kd.R_lower ho0 (al z6)); have aC := aM (ak z6 hb); clear HB; have aH := aA; have HB := aC; clear aA aC; (try clear hb); (try clear hb2); (try clear hk); (try clear hi); (try clear ho0); obtain ⟨Ao22, co22, eo22⟩ := Kd.R_slice aH.out; subst eo22) | ((with_reducible refine aq (f := 7) rfl ?_); refine goesL_ (some 14) rfl rfl Try.func7 z0 rfl #[.slice Ao22 bh.length co22] rfl z7 ?_; (with_reducible refine (spec_GoodSchema.calls k _ _ bh bg _ ?side1 ?side2 A6.out).mono ?_); (case side1 => repeat (first | exact (af aH.out).2.2 | (with_reducible refine am ?_ _) | (with_reducible refine ao ?_ _) | (with_reducible refine ap ?_))); (case side2 => exact (af aH.out).2.1); rintro e w23 ⟨rfl, hb⟩; refine ⟨_, rfl, ?_⟩; have aA := aM (Kd.R_below z2 hb); have aC := aM (ak z6 hb); clear aH; clear HB; have aH := aA; have HB := aC; clear aA aC; (try clear hb); (try clear hb2); (try clear hk); (try clear hi)) | ((with_reducible refine aq (f := 8) rfl ?_); refine goesL_ (some 16) rfl rfl Try.func8 z0 rfl #[.slice A0 l0.length c0] rfl z7 ?_; (with_reducible refine (laws_toRuleS.calls k _ _ l0 bb _ ?side1 ?side2 A7.out).mono ?_); (case side1 => repeat (first | exact (Kd.C_below aX.out HB.out) | (with_reducible refine am ?_ _) | (with_reducible refine ao ?_ _) | (with_reducible refine ap ?_))); (case side2 => exact bz.out); rintro e w24 ⟨v164, rfl, ho0, hb⟩; refine ⟨_, rfl, ?_⟩; have aA := aM (Kd.R_elder' z2 (Kd.R_base ho0) hb); have aC := aM (Kd.R_lower (Kd.R_new' ho0 (Kd.R_lt z2)) (al z6)); have aE := aM (ak z6 hb); clear aH; clear HB; have aH := aA; have aG := aC; have HB := aE; clear aA aC aE; (try clear hb); (try clear hb2); (try clear hk); (try clear hi); (try clear ho0); obtain ⟨cw, cq, eo25⟩ := Kd.R_slice aG.out; subst eo25) | ((with_reducible refine aq (f := 9) rfl ?_); refine goesL_ (some 18) rfl rfl Try.func9 z0 rfl #[.slice cw bb.length cq] rfl z7 ?_; (with_reducible refine (impl_GoodSchema.calls k _ _ bb bf _ ?side1 ?side2 A8.out).mono ?_); (case side1 => repeat (first | exact (af aG.out).2.2 | (with_reducible refine am ?_ _) | (with_reducible refine ao ?_ _) | (with_reducible refine ap ?_))); (case side2 => exact (af aG.out).2.1); rintro e w26 ⟨rfl, hb⟩; refine ⟨_, rfl, ?_⟩; have aA := aM (Kd.R_below z2 hb); have aC := aM (Kd.R_below (by (with_reducible repeat (first | apply ac | apply ab | apply aa)); exact aG.out) hb); have aE := aM (ak z6 hb); clear aH; clear aG; clear HB; have aH := aA; have aG := aC; have HB := aE; clear aA aC aE; (try clear hb); (try clear hb2); (try clear hk); (try clear hi)) | ((with_reducible refine aq (f := 8) rfl ?_); refine goesL_ (some 24) rfl rfl Try.func8 z0 rfl #[.slice A0 l0.length c0] rfl z7 ?_; (with_reducible refine (laws_toRuleS.calls k _ _ l0 bw _ ?side1 ?side2 cU.out).mono ?_); (case side1 => repeat (first | exact (Kd.C_below aX.out HB.out) | (with_reducible refine am ?_ _) | (with_reducible refine ao ?_ _) | (with_reducible refine ap ?_))); (case side2 => exact bz.out); rintro e w27 ⟨v168, rfl, ho0, hb⟩; refine ⟨_, rfl, ?_⟩; have aA := aM (Kd.R_elder' z2 (Kd.R_base ho0) hb); have aC := aM (Kd.R_elder' (by (with_reducible repeat (first | apply ac | apply ab | apply aa)); exact aG.out) (Kd.R_base ho0) hb); have aE := aM (Kd.R_lower (Kd.R_new' (Kd.R_new' ho0 (Kd.R_lt z2)) (Kd.R_lt (by (with_reducible repeat (first | apply ac | apply ab | apply aa)); exact aG.out))) (al z6)); have aI := aM (ak z6 hb); clear aH; clear aG; clear HB; have aH := aA; have aG := aC; have ba := aE; have HB := aI; clear aA aC aE aI; (try clear hb); (try clear hb2); (try clear hk); (try clear hi); (try clear ho0); obtain ⟨Ao28, co28, eo28⟩ := Kd.R_slice ba.out; subst eo28) | ((with_reducible refine aq (f := 10) rfl ?_); refine goesL_ (some 25) rfl rfl Try.func10 z0 rfl #[.slice cw bb.length cq, .slice Ao28 bw.length co28] rfl z7 ?_; (with_reducible refine (laws_eqRuleS.calls k _ _ bb _ _ bw true _ ?side1 ?side2 ?side3 ?side4 cT.out).mono ?_); (case side1 => repeat (first | exact (af aG.out).2.2 | (with_reducible refine am ?_ _) | (with_reducible refine ao ?_ _) | (with_reducible refine ap ?_))); (case side2 => exact (af aG.out).2.1); (case side3 => repeat (first | exact (af ba.out).2.2 | (with_reducible refine am ?_ _) | (with_reducible refine ao ?_ _) | (with_reducible refine ap ?_))); (case side4 => exact (af ba.out).2.1); rintro e w29 ⟨rfl, hb⟩; refine ⟨_, rfl, ?_⟩; have aA := aM (Kd.R_below z2 hb); have aC := aM (Kd.R_below (by (with_reducible repeat (first | apply ac | apply ab | apply aa)); exact aG.out) hb); have aE := aM (Kd.R_below (by (with_reducible repeat (first | apply ac | apply ab | apply aa)); exact ba.out) hb); have aI := aM (ak z6 hb); clear aH; clear aG; clear ba; clear HB; have aH := aA; have aG := aC; have ba := aE; have HB := aI; clear aA aC aE aI; (try clear hb); (try clear hb2); (try clear hk); (try clear hi)))
     go_ret
     exact ⟨y2, y3⟩
   ·replace cL := Bool.eq_false_iff.mpr cL
    subst cL
    rw [if_neg (show ¬ (false = true) by decide)] at H
    first | (cases H.trans (congrArg some HRT.out); done) | skip
    all_goals
     obtain rfl := sI H
     go_enter Try.func3, Try.ntmps3
     go_wp2_with (first | ((with_reducible refine aq (f := 6) rfl ?_); refine goesL_ (some 9) rfl rfl Try.func6 z0 rfl #[.slice A0 l0.length c0, .int .i64 1048576] rfl z7 ?_; (with_reducible refine (laws_szRuleS.calls k _ _ l0 1048576 bq _ ?side1 ?side2 A2.out).mono ?_); (case side1 => repeat (first | exact aX.out | (with_reducible refine am ?_ _) | (with_reducible refine ao ?_ _) | (with_reducible refine ap ?_))); (case side2 => exact bz.out); rintro e w30 ⟨rfl, hb⟩; refine ⟨_, rfl, ?_⟩; have aA := aM (ak z6 hb); clear HB; have HB := aA; clear aA; (try clear hb); (try clear hb2); (try clear hk); (try clear hi)) | ((with_reducible refine aq (f := 8) rfl ?_); refine goesL_ (some 13) rfl rfl Try.func8 z0 rfl #[.slice A0 l0.length c0] rfl z7 ?_; (with_reducible refine (laws_toRuleS.calls k _ _ l0 bh _ ?side1 ?side2 A5.out).mono ?_); (case side1 => repeat (first | exact (Kd.C_below aX.out HB.out) | (with_reducible refine am ?_ _) | (with_reducible refine ao ?_ _) | (with_reducible refine ap ?_))); (case side2 => exact bz.out); rintro e w31 ⟨v160, rfl, ho0, hb⟩; refine ⟨_, rfl, ?_⟩; have aA := aM (Kd.R_lower ho0 (al z6)); have aC := aM (ak z6 hb); clear HB; have aH := aA; have HB := aC; clear aA aC; (try clear hb); (try clear hb2); (try clear hk); (try clear hi); (try clear ho0); obtain ⟨Ao32, co32, eo32⟩ := Kd.R_slice aH.out; subst eo32) | ((with_reducible refine aq (f := 7) rfl ?_); refine goesL_ (some 14) rfl rfl Try.func7 z0 rfl #[.slice Ao32 bh.length co32] rfl z7 ?_; (with_reducible refine (spec_GoodSchema.calls k _ _ bh bg _ ?side1 ?side2 A6.out).mono ?_); (case side1 => repeat (first | exact (af aH.out).2.2 | (with_reducible refine am ?_ _) | (with_reducible refine ao ?_ _) | (with_reducible refine ap ?_))); (case side2 => exact (af aH.out).2.1); rintro e w33 ⟨rfl, hb⟩; refine ⟨_, rfl, ?_⟩; have aA := aM (Kd.R_below z2 hb); have aC := aM (ak z6 hb); clear aH; clear HB; have aH := aA; have HB := aC; clear aA aC; (try clear hb); (try clear hb2); (try clear hk); (try clear hi)) | ((with_reducible refine aq (f := 8) rfl ?_); refine goesL_ (some 16) rfl rfl Try.func8 z0 rfl #[.slice A0 l0.length c0] rfl z7 ?_; (with_reducible refine (laws_toRuleS.calls k _ _ l0 bb _ ?side1 ?side2 A7.out).mono ?_); (case side1 => repeat (first | exact (Kd.C_below aX.out HB.out) | (with_reducible refine am ?_ _) | (with_reducible refine ao ?_ _) | (with_reducible refine ap ?_))); (case side2 => exact bz.out); rintro e w34 ⟨v164, rfl, ho0, hb⟩; refine ⟨_, rfl, ?_⟩; have aA := aM (Kd.R_elder' z2 (Kd.R_base ho0) hb); have aC := aM (Kd.R_lower (Kd.R_new' ho0 (Kd.R_lt z2)) (al z6)); have aE := aM (ak z6 hb); clear aH; clear HB; have aH := aA; have aG := aC; have HB := aE; clear aA aC aE; (try clear hb); (try clear hb2); (try clear hk); (try clear hi); (try clear ho0); obtain ⟨cu, cp, eo35⟩ := Kd.R_slice aG.out; subst eo35) | ((with_reducible refine aq (f := 9) rfl ?_); refine goesL_ (some 18) rfl rfl Try.func9 z0 rfl #[.slice cu bb.length cp] rfl z7 ?_; (with_reducible refine (impl_GoodSchema.calls k _ _ bb bf _ ?side1 ?side2 A8.out).mono ?_); (case side1 => repeat (first | exact (af aG.out).2.2 | (with_reducible refine am ?_ _) | (with_reducible refine ao ?_ _) | (with_reducible refine ap ?_))); (case side2 => exact (af aG.out).2.1); rintro e w36 ⟨rfl, hb⟩; refine ⟨_, rfl, ?_⟩; have aA := aM (Kd.R_below z2 hb); have aC := aM (Kd.R_below (by (with_reducible repeat (first | apply ac | apply ab | apply aa)); exact aG.out) hb); have aE := aM (ak z6 hb); clear aH; clear aG; clear HB; have aH := aA; have aG := aC; have HB := aE; clear aA aC aE; (try clear hb); (try clear hb2); (try clear hk); (try clear hi)) | ((with_reducible refine aq (f := 8) rfl ?_); refine goesL_ (some 24) rfl rfl Try.func8 z0 rfl #[.slice A0 l0.length c0] rfl z7 ?_; (with_reducible refine (laws_toRuleS.calls k _ _ l0 bw _ ?side1 ?side2 cU.out).mono ?_); (case side1 => repeat (first | exact (Kd.C_below aX.out HB.out) | (with_reducible refine am ?_ _) | (with_reducible refine ao ?_ _) | (with_reducible refine ap ?_))); (case side2 => exact bz.out); rintro e w37 ⟨v168, rfl, ho0, hb⟩; refine ⟨_, rfl, ?_⟩; have aA := aM (Kd.R_elder' z2 (Kd.R_base ho0) hb); have aC := aM (Kd.R_elder' (by (with_reducible repeat (first | apply ac | apply ab | apply aa)); exact aG.out) (Kd.R_base ho0) hb); have aE := aM (Kd.R_lower (Kd.R_new' (Kd.R_new' ho0 (Kd.R_lt z2)) (Kd.R_lt (by (with_reducible repeat (first | apply ac | apply ab | apply aa)); exact aG.out))) (al z6)); have aI := aM (ak z6 hb); clear aH; clear aG; clear HB; have aH := aA; have aG := aC; have ba := aE; have HB := aI; clear aA aC aE aI; (try clear hb); (try clear hb2); (try clear hk); (try clear hi); (try clear ho0); obtain ⟨Ao38, co38, eo38⟩ := Kd.R_slice ba.out; subst eo38) | ((with_reducible refine aq (f := 10) rfl ?_); refine goesL_ (some 25) rfl rfl Try.func10 z0 rfl #[.slice cu bb.length cp, .slice Ao38 bw.length co38] rfl z7 ?_; (with_reducible refine (laws_eqRuleS.calls k _ _ bb _ _ bw false _ ?side1 ?side2 ?side3 ?side4 cT.out).mono ?_); (case side1 => repeat (first | exact (af aG.out).2.2 | (with_reducible refine am ?_ _) | (with_reducible refine ao ?_ _) | (with_reducible refine ap ?_))); (case side2 => exact (af aG.out).2.1); (case side3 => repeat (first | exact (af ba.out).2.2 | (with_reducible refine am ?_ _) | (with_reducible refine ao ?_ _) | (with_reducible refine ap ?_))); (case side4 => exact (af ba.out).2.1); rintro e w39 ⟨rfl, hb⟩; refine ⟨_, rfl, ?_⟩; have aA := aM (Kd.R_below z2 hb); have aC := aM (Kd.R_below (by (with_reducible repeat (first | apply ac | apply ab | apply aa)); exact aG.out) hb); have aE := aM (Kd.R_below (by (with_reducible repeat (first | apply ac | apply ab | apply aa)); exact ba.out) hb); have aI := aM (ak z6 hb); clear aH; clear aG; clear ba; clear HB; have aH := aA; have aG := aC; have ba := aE; have HB := aI; clear aA aC aE aI; (try clear hb); (try clear hb2); (try clear hk); (try clear hi)))
     go_ret
     exact ⟨y2, y3⟩

/-! ### What an argument's reading gives: a value of its kind -/
section
open Go.ChangeShapes Go.WideShapes Go.Deep
/-- A value of type t, as an argument's reading has it, is of kind d, and G if the argument's weights are within reach. -/
structure Opens (P : Program) (t : TypeId) {α : Type} (d : Kd α) (G : α → Prop) : Prop where
 out : ∀ {H : Type} {enc : TypeId × Value → H} {w : World} {base : Nat} {spare : Nat → Bool} {held : Bool} {fuel : Nat} {cs : List Value} {x : DataW H × List MemPlace},
  DataW.trod enc P w base spare held fuel t cs = some x → ∃ a, d.K w a cs ∧ ((x.1.weights P t).all (· ≤ reachBytes) = true → G a)
/-- The same for fields in line, from a cell on. -/
structure OpensL (P : Program) (fs : List Field) (off : Nat) {α : Type} (d : Kd α) (G : α → Prop) : Prop where
 out : ∀ {H : Type} {enc : TypeId × Value → H} {w : World} {base : Nat} {spare : Nat → Bool} {held : Bool} {n : Nat} {cs : List Value} {xs : List (DataW H × List MemPlace)},
  cs.length = off + d.sz → xs.length = fs.length → (∀ (i : Nat) (f : Field), fs[i]? = some f → DataW.trod enc P w base spare held n f.type ((cs.drop f.offset).take (P.cellsOf f.type)) = xs[i]?) →
  ∃ a, d.K w a (cs.drop off) ∧ ((DataW.weightsEach P (fs.map (·.type)) (xs.map (·.1))).all (· ≤ reachBytes) = true → G a)
theorem reach_eq : reachBytes = 140737488351232 := by first | rfl | decide
theorem opens_int {P : Program} {t : TypeId} {k : IntKind} (ht : P.underlying t = some (.int k)) : Opens P t (Kd.int k) (fun n => (Lit.int k n).wf = true) := by
 constructor
 intro H enc w base spare held fuel cs x h
 obtain ⟨n, rfl, rfl, hw⟩ := DataW.trod_int ht h
 exact ⟨n, rfl, fun _ => hw⟩
theorem opens_bool {P : Program} {t : TypeId} (ht : P.underlying t = some .bool) : Opens P t Kd.bool (fun _ => True) := by
 constructor
 intro H enc w base spare held fuel cs x h
 obtain ⟨n, rfl, _⟩ := DataW.trod_bool ht h
 exact ⟨n, rfl, fun _ => trivial⟩
theorem opens_string {P : Program} {t : TypeId} (ht : P.underlying t = some .string) : Opens P t Kd.string (fun s => s.size ≤ 140737488351232) := by
 constructor
 intro H enc w base spare held fuel cs x h
 obtain ⟨s, rfl, rfl, _⟩ := DataW.trod_string ht h
 refine ⟨s, rfl, fun hw => ?_⟩
 simp only [DataW.weights, List.all_cons, List.all_nil, Bool.and_true, decide_eq_true_eq, Array.length_toList] at hw
 rw [reach_eq] at hw
 exact hw
theorem weightsAll_mem {H : Type} {P : Program} {e : TypeId} : ∀ {ds : List (DataW H)} {d : DataW H}, d ∈ ds → (DataW.weightsAll P e ds).all (· ≤ reachBytes) = true → (d.weights P e).all (· ≤ reachBytes) = true
 | _ :: _, _, .head _, h => by
  simp only [DataW.weightsAll, List.all_append, Bool.and_eq_true] at h
  exact h.1
 | _ :: _, _, .tail _ hm, h => by
  simp only [DataW.weightsAll, List.all_append, Bool.and_eq_true] at h
  exact weightsAll_mem hm h.2
theorem opens_list {α : Type} (Q : Nat → α → Prop) (n : Nat) (h : ∀ i, i < n → ∃ a, Q i a) : ∃ l : List α, l.length = n ∧ ∀ i a, l[i]? = some a → Q i a := by
 induction n with
 | zero => exact ⟨[], rfl, fun i a hi => by simp at hi⟩
 | succ n ih =>
  obtain ⟨l, hl, hq⟩ := ih (fun i hi => h i (by omega))
  obtain ⟨a, ha⟩ := h n (by omega)
  refine ⟨l ++ [a], by simp [hl], fun i b hi => ?_⟩
  by_cases hin : i < n
  ·rw [List.getElem?_append_left (by omega)] at hi
   exact hq i b hi
  ·obtain ⟨hlt, _⟩ := List.getElem?_eq_some_iff.1 hi
   have e : i = l.length := by simp at hlt; omega
   subst e
   rw [List.getElem?_append_right (Nat.le_refl _)] at hi
   simp at hi
   subst hi
   rw [hl]
   exact ha
theorem opens_slice {P : Program} {t e : TypeId} {α : Type} {d : Kd α} {G : α → Prop} {B : Nat} (q : Nat) (ht : P.underlying t = some (.slice e)) (hc : P.cellsOf e = d.sz) (hB : P.bytesOf e = B) (he : Opens P e d G) :
  Opens P t (Kd.slice q d) (fun l => l.length ≤ maxLen ∧ l.length * B ≤ 140737488351232 ∧ ∀ x ∈ l, G x) := by
 constructor
 intro H enc w base spare held fuel cs x h
 rcases open_slice ht h with ⟨rfl, rfl⟩ | ⟨a, len, cap, m, n, D, Pl, rfl, hb, hl, hm, hmm, rfl, hi⟩
 ·exact ⟨[], ⟨none, 0, rfl, Nat.le_refl _, Kd.C_nil _ _⟩, fun _ => ⟨Nat.zero_le _, by simp, fun x hx => by simp at hx⟩⟩
 ·have hlm : len ≤ m := by rw [hmm]; split <;> omega
  obtain ⟨l, hll, hlq⟩ := opens_list (fun i a_ => ∃ cs', w.cells? base (a.add (i * P.cellsOf e)) (P.cellsOf e) = some cs' ∧ d.K w a_ cs' ∧ (((D i).weights P e).all (· ≤ reachBytes) = true → G a_)) len (fun i hil => by
   obtain ⟨cs', hc1, ht1⟩ := hi i (by omega)
   obtain ⟨a_, hk, hg⟩ := he.out ht1
   exact ⟨a_, cs', hc1, hk, hg⟩)
  refine ⟨l, ⟨some a, cap, by rw [hll], by omega, ⟨rfl, ?_, fun _ => ⟨a, rfl, fun j p hj => ?_⟩⟩⟩, fun hw => ?_⟩
  ·rw [hll]
   have hmx : maxLen ≤ 9223372036854775807 := by first | decide | (unfold maxLen; omega)
   omega
  ·obtain ⟨cs', hc1, hk, _⟩ := hlq j p hj
   obtain ⟨_, hcl, hat⟩ := World.cells?_some hc1
   refine ⟨cs', d.K_len hk, hk, fun i u hu => ?_⟩
   obtain ⟨hlt, _⟩ := List.getElem?_eq_some_iff.1 hu
   have := hat i (by omega)
   rw [← Go.Deep.add_add, ← hc, this, hu]
  ·simp only [DataW.weights, ht, List.all_cons, List.all_append, Bool.and_eq_true, decide_eq_true_eq, List.length_map, List.length_range] at hw
   obtain ⟨hw1, hw2, _⟩ := hw
   rw [reach_eq, hB] at hw1
   refine ⟨by omega, ?_, fun x hx => ?_⟩
   ·rw [hll]
    exact Nat.le_trans (Nat.mul_le_mul_right _ (by omega)) hw1
   ·obtain ⟨j, hj⟩ := List.getElem?_of_mem hx
    obtain ⟨cs', _, _, hg⟩ := hlq j x hj
    obtain ⟨hlt, _⟩ := List.getElem?_eq_some_iff.1 hj
    exact hg (weightsAll_mem (List.mem_map.2 ⟨j, List.mem_range.2 (by omega), rfl⟩) hw2)
theorem opensL_one {P : Program} {f : Field} {off : Nat} {α : Type} {d : Kd α} {G : α → Prop} (ho : f.offset = off) (hc : P.cellsOf f.type = d.sz) (h : Opens P f.type d G) : OpensL P [f] off d G := by
 constructor
 intro H enc w base spare held n cs xs hl hx hr
 match xs, hx with
 | [x], _ =>
  have h0 := hr 0 f rfl
  rw [ho, hc, List.take_of_length_le (by rw [List.length_drop]; omega)] at h0
  obtain ⟨a, hk, hg⟩ := h.out h0
  refine ⟨a, hk, fun hw => hg ?_⟩
  simpa [DataW.weightsEach] using hw
theorem opensL_cons {P : Program} {f : Field} {fs : List Field} {off : Nat} {α β : Type} {d : Kd α} {d' : Kd β} {G : α → Prop} {G' : β → Prop} (ho : f.offset = off) (hc : P.cellsOf f.type = d.sz) (h : Opens P f.type d G) (h' : OpensL P fs (off + d.sz) d' G') :
  OpensL P (f :: fs) off (Kd.pair d d') (fun p => G p.1 ∧ G' p.2) := by
 constructor
 intro H enc w base spare held n cs xs hl hx hr
 match xs, hx with
 | x :: xs, hx =>
  have hl' : cs.length = off + (d.sz + d'.sz) := hl
  have h0 := hr 0 f rfl
  rw [ho, hc] at h0
  obtain ⟨a, hk, hg⟩ := h.out h0
  obtain ⟨b, hk', hg'⟩ := h'.out (enc := enc) (w := w) (base := base) (spare := spare) (held := held) (n := n) (cs := cs) (xs := xs) (by omega) (by simpa using hx) (fun i g hi => by simpa using hr (i + 1) g (by simpa using hi))
  refine ⟨(a, b), ⟨_, _, ?_, hk, hk'⟩, fun hw => ?_⟩
  ·rw [← List.drop_drop, List.take_append_drop]
  ·simp only [List.map_cons, DataW.weightsEach, List.all_append, Bool.and_eq_true] at hw
   exact ⟨hg hw.1, hg' hw.2⟩
theorem opens_struct {P : Program} {t : TypeId} {fs : Array Field} {α : Type} {d : Kd α} {G : α → Prop} (ht : P.underlying t = some (.struct fs)) (hc : P.cellsOf t = d.sz) (h : OpensL P fs.toList 0 d G) : Opens P t d G := by
 constructor
 intro H enc w base spare held fuel cs x hx
 obtain ⟨xs, n, _, rfl, hl, hxl, hr⟩ := DataW.trod_struct ht hx
 obtain ⟨a, hk, hg⟩ := h.out (enc := enc) (w := w) (base := base) (spare := spare) (held := held) (n := n) (cs := cs) (xs := xs) (by omega) (by simpa using hxl) (fun i f hi => hr i f (by simpa using hi))
 refine ⟨a, hk, fun hw => hg ?_⟩
 simpa [DataW.weights, ht] using hw
theorem opens_iso {P : Program} {t : TypeId} {α β : Type} {d : Kd α} {G : α → Prop} {f : β → α} (g : α → β) (hf : ∀ a, f (g a) = a) (h : Opens P t d G) : Opens P t (Kd.iso d f) (fun b => G (f b)) := by
 constructor
 intro H enc w base spare held fuel cs x hx
 obtain ⟨a, hk, hg⟩ := h.out hx
 refine ⟨g a, ?_, fun hw => ?_⟩
 ·show d.K w (f (g a)) cs
  rw [hf]
  exact hk
 ·show G (f (g a))
  rw [hf]
  exact hg hw
theorem Opens.imp {P : Program} {t : TypeId} {α : Type} {d : Kd α} {G G' : α → Prop} (h : Opens P t d G) (hG : ∀ a, G a → G' a) : Opens P t d G' := by
 constructor
 intro H enc w base spare held fuel cs x hx
 obtain ⟨a, hk, hg⟩ := h.out hx
 exact ⟨a, hk, fun hw => hG a (hg hw)⟩
/-- The j-th argument, out of the row's own weights. -/
theorem sized_any {H : Type} {P : Program} {ts : List TypeId} {ds : List (DataW H)} (h : (DataW.weightsEach P ts ds).all (· ≤ reachBytes) = true) {j : Nat} {t : TypeId} {d : DataW H} (ht : ts[j]? = some t) (hd : ds[j]? = some d) : (d.weights P t).all (· ≤ reachBytes) = true :=
 List.all_eq_true.2 fun n hn => List.all_eq_true.1 h n (DataW.weights_mem_each ht hd n hn)
end
def G_T37 (x : S37) : Prop := (x.f0.size ≤ 140737488351232) ∧ (x.f1.size ≤ 140737488351232)
set_option maxRecDepth 100000 in
theorem opens_T37 : Opens Try.prog 37 k37 G_T37 := opens_iso (fun p => ⟨p.1, p.2⟩) (fun _ => rfl) (opens_struct Try.underlying37 z0 (opensL_cons rfl z0 (opens_string Try.underlying9) (opensL_one rfl z0 (opens_string Try.underlying9))))

/-- THE ONE PURE STATEMENT of laws_FnExactGoodSchema: yours. -/
def laws_FnExactGoodSchema.Pure : Prop := ∀ (l0 : List (S37)), (l0.length ≤ maxLen ∧ l0.length * 32 ≤ 140737488351232 ∧ ∀ x2_ ∈ l0, G_T37 x2_) → ∃ k, laws_FnExactGoodSchema.f k l0 = some true
theorem laws_FnExactGoodSchema.walk (P : laws_FnExactGoodSchema.Pure) (A0 : Option Addr) (c0 : Nat) (l0 : List (S37)) (w : World) (hr0 : Kd.C k37 w A0 l0.length l0) (hc0 : l0.length ≤ c0) (hG0 : l0.length ≤ maxLen ∧ l0.length * 32 ≤ 140737488351232 ∧ ∀ x2_ ∈ l0, G_T37 x2_) :
  Calls Try.prog 3 #[.slice A0 l0.length c0] w fun e w' => e = .returned (.bool true) ∧ Below w.heap.size w w' := by
 obtain ⟨k, h⟩ := P l0 hG0
 refine (laws_FnExactGoodSchema.calls k _ _ l0 true ⟨rfl⟩ w hr0 hc0 h).mono ?_
 rintro e w' ⟨rfl, hd⟩
 exact ⟨rfl, hd⟩

end Go.Proofs.Ytihjaagamihhkaa.AFnExactGoodSchema
