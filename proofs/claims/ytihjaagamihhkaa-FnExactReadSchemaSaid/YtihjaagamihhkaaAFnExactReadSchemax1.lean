-- this session's own text: written by wip/tools/ownprint.py over the kit's print
import Derived.Test.YtihjaagamihhkaaAFnExactReadSchemax0
namespace Go.Proofs.Ytihjaagamihhkaa.AFnExactReadSchema
open Go.RowKit Go.Proofs.YtihjaagamihhkaaW.PrintWords Go.Proofs.YtihjaagamihhkaaW.PrintLast Go.Proofs.YtihjaagamihhkaaW.PrintMore
attribute [local go_sem] max2_int min2_int max_two min_two max_three min_three max_four min_four   -- for this text's walks alone
set_option linter.unusedVariables false
set_option linter.unusedSimpArgs false

/-! ### laws_eqRule: function 23 -/
def laws_eqRule.f (a0_0 : ByteArray) (a0_1 : ByteArray) (a1_0 : ByteArray) (a1_1 : ByteArray) : Option (Bool) := if a0_0.toList = a1_0.toList then (if a0_1.toList = a1_1.toList then (some true) else (some false)) else (some false)
set_option maxHeartbeats 8000000 in
set_option maxRecDepth 100000 in
theorem laws_eqRule.calls (a0_0 : ByteArray) (a0_1 : ByteArray) (a1_0 : ByteArray) (a1_1 : ByteArray) (r : Bool) (w : World) (h : laws_eqRule.f a0_0 a0_1 a1_0 a1_1 = some r) :
  Calls Try.prog 23 #[.agg #[.string a0_0, .string a0_1], .agg #[.string a1_0, .string a1_1]] w fun e w' => e = .returned (.bool r) ∧ Below w.heap.size w w' := by
 have hu38 := Try.underlying38
 have HB := aM (Below.refl w.heap.size w)
 have H : (if a0_0.toList = a1_0.toList then (if a0_1.toList = a1_1.toList then (some true) else (some false)) else (some false)) = some r := h
 clear h
 by_cases c3 : a0_0.toList = a1_0.toList
 ·rw [if_pos c3] at H
  have c3b0 : (a0_0.toList == a1_0.toList) = true := qT c3
  have c3b1 : (a0_0.toList != a1_0.toList) = false := nF c3
  clear c3
  by_cases c4 : a0_1.toList = a1_1.toList
  ·rw [if_pos c4] at H
   have c4b0 : (a0_1.toList == a1_1.toList) = true := qT c4
   have c4b1 : (a0_1.toList != a1_1.toList) = false := nF c4
   clear c4
   obtain rfl := sI H
   go_enter Try.func23, Try.ntmps23
   go_wp2_with (first | ((with_reducible refine ar (N := 2) rfl ?_); refine au ?hg (N := 2) ?hd (cs := #[.string a0_0, .string a0_1]) (t := 38) ?hr ?_; (case hd => rfl); (case hg => rfl); (case hr => first | (go_simp; done) | (go_simp; rfl)); intro aJ hg w5 hbox hb; have aA := aM (al z6 hb); have aC := aM (hbox); have aG := aM ((by rw [hg]; exact (am z6) : w.heap.size ≤ aJ)); have aN := aM ((by rw [hg]; exact (am z6) : w.heap.size ≤ aJ)); clear HB; have HB := aA; have aK := aC; have cL := aG; have a8 := aN; clear aA aC aG aN; clear hb hbox hg) | ((with_reducible refine ar (N := 3) rfl ?_); refine au ?hg (N := 3) ?hd (cs := #[.string a1_0, .string a1_1]) (t := 38) ?hr ?_; (case hd => rfl); (case hg => rfl); (case hr => first | (go_simp; done) | (go_simp; rfl)); intro aR hg w6 hbox hb; have aA := aM (ae (g := aJ) (o := .cells #[.string a0_0, .string a0_1] 38 (0, 0)) (by (with_reducible repeat (first | refine ai ?_ _ | refine ah ?_ | refine aj ?_ _)); exact aK.out) hb); have aC := aM (al (by repeat (first | (with_reducible first | exact HB.out | apply bA | apply pD | apply bD | refine ak ?_ a8.out) | exact HB.out)) hb); have aG := aM (hbox); have aN := aM ((by rw [hg]; exact (am (by repeat (first | (with_reducible first | exact HB.out | apply bA | apply pD | apply bD | refine ak ?_ a8.out) | exact HB.out))) : w.heap.size ≤ aR)); have cG := aM ((by rw [hg]; exact (am (by repeat (first | (with_reducible first | exact HB.out | apply bA | apply pD | apply bD | refine ak ?_ a8.out) | exact HB.out))) : w.heap.size ≤ aR)); have cF := aM ((by rw [hg]; exact Nat.ne_of_lt (blk_lt (g := aJ) (o := .cells #[.string a0_0, .string a0_1] 38 (0, 0)) (by (with_reducible repeat (first | refine ai ?_ _ | refine ah ?_ | refine aj ?_ _)); exact aK.out)) : aJ ≠ aR)); have cE := aM ((by rw [hg]; exact Nat.ne_of_gt (blk_lt (g := aJ) (o := .cells #[.string a0_0, .string a0_1] 38 (0, 0)) (by (with_reducible repeat (first | refine ai ?_ _ | refine ah ?_ | refine aj ?_ _)); exact aK.out)) : aR ≠ aJ)); clear aK; clear HB; have aK := aA; have HB := aC; have a9 := aG; have cK := aN; have b2 := cG; have bc := cF; have bb := cE; clear aA aC aG aN cG cF cE; clear hb hbox hg; have hnb7 := bc.out; have hnc7 := bb.out; have hcz8_0 : w6.cell? ⟨aJ, 0, none⟩ = some (.string a0_0) := (bC aK.out 0).trans rfl; have hcz8_1 : w6.cell? ⟨aJ, 1, none⟩ = some (.string a0_1) := (bC aK.out 1).trans rfl; have hfz8_0 := bF aK.out 0; have hfz8_1 := bF aK.out 1; have hcz9_0 : w6.cell? ⟨aR, 0, none⟩ = some (.string a1_0) := (bC a9.out 0).trans rfl; have hcz9_1 : w6.cell? ⟨aR, 1, none⟩ = some (.string a1_1) := (bC a9.out 1).trans rfl; have hfz9_0 := bF a9.out 0; have hfz9_1 := bF a9.out 1))
   all_goals (try (exfalso; rename_i h_; rw [c3b0] at h_; cases h_; done))
   all_goals (try (exfalso; rename_i h_; rw [c4b0] at h_; cases h_; done))
   go_ret
   exact ⟨y2, by repeat (first | (with_reducible first | exact HB.out | apply bA | apply pD | apply bD | refine ak ?_ a8.out | refine ak ?_ b2.out) | exact HB.out)⟩
  ·rw [if_neg c4] at H
   have c4b0 : (a0_1.toList == a1_1.toList) = false := qF c4
   have c4b1 : (a0_1.toList != a1_1.toList) = true := nT c4
   obtain rfl := sI H
   go_enter Try.func23, Try.ntmps23
   go_wp2_with (first | ((with_reducible refine ar (N := 2) rfl ?_); refine au ?hg (N := 2) ?hd (cs := #[.string a0_0, .string a0_1]) (t := 38) ?hr ?_; (case hd => rfl); (case hg => rfl); (case hr => first | (go_simp; done) | (go_simp; rfl)); intro aJ hg w10 hbox hb; have aA := aM (al z6 hb); have aC := aM (hbox); have aG := aM ((by rw [hg]; exact (am z6) : w.heap.size ≤ aJ)); have aN := aM ((by rw [hg]; exact (am z6) : w.heap.size ≤ aJ)); clear HB; have HB := aA; have aK := aC; have cL := aG; have a8 := aN; clear aA aC aG aN; clear hb hbox hg) | ((with_reducible refine ar (N := 3) rfl ?_); refine au ?hg (N := 3) ?hd (cs := #[.string a1_0, .string a1_1]) (t := 38) ?hr ?_; (case hd => rfl); (case hg => rfl); (case hr => first | (go_simp; done) | (go_simp; rfl)); intro aR hg w11 hbox hb; have aA := aM (ae (g := aJ) (o := .cells #[.string a0_0, .string a0_1] 38 (0, 0)) (by (with_reducible repeat (first | refine ai ?_ _ | refine ah ?_ | refine aj ?_ _)); exact aK.out) hb); have aC := aM (al (by repeat (first | (with_reducible first | exact HB.out | apply bA | apply pD | apply bD | refine ak ?_ a8.out) | exact HB.out)) hb); have aG := aM (hbox); have aN := aM ((by rw [hg]; exact (am (by repeat (first | (with_reducible first | exact HB.out | apply bA | apply pD | apply bD | refine ak ?_ a8.out) | exact HB.out))) : w.heap.size ≤ aR)); have cG := aM ((by rw [hg]; exact (am (by repeat (first | (with_reducible first | exact HB.out | apply bA | apply pD | apply bD | refine ak ?_ a8.out) | exact HB.out))) : w.heap.size ≤ aR)); have cF := aM ((by rw [hg]; exact Nat.ne_of_lt (blk_lt (g := aJ) (o := .cells #[.string a0_0, .string a0_1] 38 (0, 0)) (by (with_reducible repeat (first | refine ai ?_ _ | refine ah ?_ | refine aj ?_ _)); exact aK.out)) : aJ ≠ aR)); have cE := aM ((by rw [hg]; exact Nat.ne_of_gt (blk_lt (g := aJ) (o := .cells #[.string a0_0, .string a0_1] 38 (0, 0)) (by (with_reducible repeat (first | refine ai ?_ _ | refine ah ?_ | refine aj ?_ _)); exact aK.out)) : aR ≠ aJ)); clear aK; clear HB; have aK := aA; have HB := aC; have a9 := aG; have cK := aN; have b2 := cG; have bc := cF; have bb := cE; clear aA aC aG aN cG cF cE; clear hb hbox hg; have hnb12 := bc.out; have hnc12 := bb.out; have hcz13_0 : w11.cell? ⟨aJ, 0, none⟩ = some (.string a0_0) := (bC aK.out 0).trans rfl; have hcz13_1 : w11.cell? ⟨aJ, 1, none⟩ = some (.string a0_1) := (bC aK.out 1).trans rfl; have hfz13_0 := bF aK.out 0; have hfz13_1 := bF aK.out 1; have hcz14_0 : w11.cell? ⟨aR, 0, none⟩ = some (.string a1_0) := (bC a9.out 0).trans rfl; have hcz14_1 : w11.cell? ⟨aR, 1, none⟩ = some (.string a1_1) := (bC a9.out 1).trans rfl; have hfz14_0 := bF a9.out 0; have hfz14_1 := bF a9.out 1))
   all_goals (try (exfalso; rename_i h_; rw [c3b0] at h_; cases h_; done))
   all_goals (try (exfalso; rename_i h_; rw [c4b0] at h_; cases h_; done))
   go_ret
   exact ⟨y2, by repeat (first | (with_reducible first | exact HB.out | apply bA | apply pD | apply bD | refine ak ?_ a8.out | refine ak ?_ b2.out) | exact HB.out)⟩
 ·rw [if_neg c3] at H
  have c3b0 : (a0_0.toList == a1_0.toList) = false := qF c3
  have c3b1 : (a0_0.toList != a1_0.toList) = true := nT c3
  obtain rfl := sI H
  go_enter Try.func23, Try.ntmps23
  go_wp2_with (first | ((with_reducible refine ar (N := 2) rfl ?_); refine au ?hg (N := 2) ?hd (cs := #[.string a0_0, .string a0_1]) (t := 38) ?hr ?_; (case hd => rfl); (case hg => rfl); (case hr => first | (go_simp; done) | (go_simp; rfl)); intro aJ hg w15 hbox hb; have aA := aM (al z6 hb); have aC := aM (hbox); have aG := aM ((by rw [hg]; exact (am z6) : w.heap.size ≤ aJ)); have aN := aM ((by rw [hg]; exact (am z6) : w.heap.size ≤ aJ)); clear HB; have HB := aA; have aK := aC; have cL := aG; have a8 := aN; clear aA aC aG aN; clear hb hbox hg) | ((with_reducible refine ar (N := 3) rfl ?_); refine au ?hg (N := 3) ?hd (cs := #[.string a1_0, .string a1_1]) (t := 38) ?hr ?_; (case hd => rfl); (case hg => rfl); (case hr => first | (go_simp; done) | (go_simp; rfl)); intro aR hg w16 hbox hb; have aA := aM (ae (g := aJ) (o := .cells #[.string a0_0, .string a0_1] 38 (0, 0)) (by (with_reducible repeat (first | refine ai ?_ _ | refine ah ?_ | refine aj ?_ _)); exact aK.out) hb); have aC := aM (al (by repeat (first | (with_reducible first | exact HB.out | apply bA | apply pD | apply bD | refine ak ?_ a8.out) | exact HB.out)) hb); have aG := aM (hbox); have aN := aM ((by rw [hg]; exact (am (by repeat (first | (with_reducible first | exact HB.out | apply bA | apply pD | apply bD | refine ak ?_ a8.out) | exact HB.out))) : w.heap.size ≤ aR)); have cG := aM ((by rw [hg]; exact (am (by repeat (first | (with_reducible first | exact HB.out | apply bA | apply pD | apply bD | refine ak ?_ a8.out) | exact HB.out))) : w.heap.size ≤ aR)); have cF := aM ((by rw [hg]; exact Nat.ne_of_lt (blk_lt (g := aJ) (o := .cells #[.string a0_0, .string a0_1] 38 (0, 0)) (by (with_reducible repeat (first | refine ai ?_ _ | refine ah ?_ | refine aj ?_ _)); exact aK.out)) : aJ ≠ aR)); have cE := aM ((by rw [hg]; exact Nat.ne_of_gt (blk_lt (g := aJ) (o := .cells #[.string a0_0, .string a0_1] 38 (0, 0)) (by (with_reducible repeat (first | refine ai ?_ _ | refine ah ?_ | refine aj ?_ _)); exact aK.out)) : aR ≠ aJ)); clear aK; clear HB; have aK := aA; have HB := aC; have a9 := aG; have cK := aN; have b2 := cG; have bc := cF; have bb := cE; clear aA aC aG aN cG cF cE; clear hb hbox hg; have hnb17 := bc.out; have hnc17 := bb.out; have hcz18_0 : w16.cell? ⟨aJ, 0, none⟩ = some (.string a0_0) := (bC aK.out 0).trans rfl; have hcz18_1 : w16.cell? ⟨aJ, 1, none⟩ = some (.string a0_1) := (bC aK.out 1).trans rfl; have hfz18_0 := bF aK.out 0; have hfz18_1 := bF aK.out 1; have hcz19_0 : w16.cell? ⟨aR, 0, none⟩ = some (.string a1_0) := (bC a9.out 0).trans rfl; have hcz19_1 : w16.cell? ⟨aR, 1, none⟩ = some (.string a1_1) := (bC a9.out 1).trans rfl; have hfz19_0 := bF a9.out 0; have hfz19_1 := bF a9.out 1))
  all_goals (try (exfalso; rename_i h_; rw [c3b0] at h_; cases h_; done))
  go_ret
  exact ⟨y2, by repeat (first | (with_reducible first | exact HB.out | apply bA | apply pD | apply bD | refine ak ?_ a8.out | refine ak ?_ b2.out) | exact HB.out)⟩

/-! ### laws_eqRuleS: function 10 -/
def laws_eqRuleS.l0 : Nat → List (S38) → List (S38) → Int → Option (Bool)
 | 0, _, _, _ => none
 | k + 1, x0, x1, x5 => if x5 < (x0.length : Int) then (if 0 ≤ x5 then (if x5 < (x1.length : Int) then ((laws_eqRule.f ((rd_T38 x0 x5).f0) ((rd_T38 x0 x5).f1) ((rd_T38 x1 x5).f0) ((rd_T38 x1 x5).f1)).bind fun cW => (if cW = true then (laws_eqRuleS.l0 k x0 x1 (wrap64 (x5 + 1))) else (some false))) else (none)) else (none)) else (some true)
def laws_eqRuleS.f (k : Nat) (l0 : List (S38)) (l1 : List (S38)) : Option (Bool) := if (l0.length : Int) = (l1.length : Int) then (laws_eqRuleS.l0 k l0 l1 0) else (some false)
theorem laws_eqRuleS.mono_l : ∀ k, (∀ y0 y1 y2, LeO (laws_eqRuleS.l0 k y0 y1 y2) (laws_eqRuleS.l0 (k + 1) y0 y1 y2))
 | 0 => fun _ _ _ r h => by simp [laws_eqRuleS.l0] at h
 | k + 1 => by
  have ih0 := laws_eqRuleS.mono_l k
  ·intro y0 y1 y2
   unfold laws_eqRuleS.l0
   repeat' first
   | (with_reducible exact ih0 _ _ _)
   | (with_reducible exact LeO.refl _)
   | (with_reducible exact LeO.none _)
   | (with_reducible refine LeO.ite ?_ ?_)
   | (with_reducible refine LeO.bind ?_ (fun _ => ?_))
   | exact ih0 _ _ _
   | exact LeO.none _
   | refine LeO.ite ?_ ?_
   | refine LeO.bind ?_ (fun _ => ?_)
theorem laws_eqRuleS.mono : ∀ a0 a1 k, LeO (laws_eqRuleS.f k a0 a1) (laws_eqRuleS.f (k + 1) a0 a1) := by
 intro a0 a1 k
 have ih0 := laws_eqRuleS.mono_l k
 unfold laws_eqRuleS.f
 repeat' first
   | (with_reducible exact ih0 _ _ _)
   | (with_reducible exact LeO.refl _)
   | (with_reducible exact LeO.none _)
   | (with_reducible refine LeO.ite ?_ ?_)
   | (with_reducible refine LeO.bind ?_ (fun _ => ?_))
   | exact ih0 _ _ _
   | exact LeO.none _
   | refine LeO.ite ?_ ?_
   | refine LeO.bind ?_ (fun _ => ?_)
def laws_eqRuleS.T6 : Bool × List (List Nat × List Nat) := (true, [([], []), ([], []), ([0, 1], [0, 1]), ([2], [2]), ([], []), ([], []), ([4, 5], [4, 5]), ([6], [6]), ([3, 7], [3, 7]), ([8], [8])])
def laws_eqRuleS.B6 : List Nat := [0, 0, 3, 7, 0, 0, 48, 112, 255, 511]
theorem laws_eqRuleS.tab6 : rtab .any (opsOf Try.f10 6) = laws_eqRuleS.T6 := by kernel_rfl
theorem laws_eqRuleS.bits6 : waitsOk laws_eqRuleS.T6.2 laws_eqRuleS.B6 = true := by kernel_rfl
set_option maxHeartbeats 8000000 in
set_option maxRecDepth 100000 in
theorem laws_eqRuleS.calls (k : Nat) (A0 : Option Addr) (c0 : Nat) (l0 : List (S38)) (A1 : Option Addr) (c1 : Nat) (l1 : List (S38)) (r : Bool) (w : World) (hr0 : Kd.C k38 w A0 l0.length l0) (hc0 : l0.length ≤ c0) (hr1 : Kd.C k38 w A1 l1.length l1) (hc1 : l1.length ≤ c1) (h : laws_eqRuleS.f k l0 l1 = some r) :
  Calls Try.prog 10 #[.slice A0 l0.length c0, .slice A1 l1.length c1] w fun e w' => e = .returned (.bool r) ∧ Below w.heap.size w w' := by
 have hu38 := Try.underlying38
 have bh := aM hr0
 have dR := aM hc0
 clear hr0 hc0
 have dp := aM hr1
 have HC1 := aM hc1
 clear hr1 hc1
 have HB := aM (Below.refl w.heap.size w)
 have H : (if (l0.length : Int) = (l1.length : Int) then (laws_eqRuleS.l0 k l0 l1 0) else (some false)) = some r := h
 clear h
 by_cases c3 : (l0.length : Int) = (l1.length : Int)
 ·rw [if_pos c3] at H
  have c3b0 : ((l0.length : Int) == (l1.length : Int)) = true := qT c3
  have c3b1 : ((l0.length : Int) != (l1.length : Int)) = false := nF c3
  have c3b2 : (l0.length == l1.length) = true := by first | simpa using c3 | (simp at c3 ⊢; omega)
  clear c3
  have H' := aM H
  clear H
  go_enter Try.func10, Try.ntmps10
  go_wp2
  go_loopg [5] k (fun kq v5 w' => ∃ (x5_1 : Int), v5 = .int .i64 x5_1 ∧ Aside0 (laws_eqRuleS.l0 kq l0 l1 x5_1 = some r) ∧ Aside0 (kq ≤ k) ∧ Aside0 (Below w.heap.size w w'))
  case atStart => exact ⟨(0), z1, H', ⟨Nat.le_refl _⟩, ⟨y3⟩⟩
  case round =>
   clear H'
   try clear c1
   try clear p2
   try clear c3
   try clear c3b0
   try clear c3b1
   try clear c3b2
   obtain ⟨x5_1, rfl, HA, HK1, HB⟩ := hrel
   cases gk with
   | zero => exact absurd HA.out (by simp [laws_eqRuleS.l0])
   | succ k1 =>
    have H := HA.out
    clear HA
    simp only [laws_eqRuleS.l0] at H
    by_cases c4 : x5_1 < (l0.length : Int)
    ·rw [if_pos c4] at H
     have c4b0 : decide (x5_1 < (l0.length : Int)) = true := dT c4
     clear c4
     by_cases c5 : 0 ≤ x5_1
     ·rw [if_pos c5] at H
      have c5b0 : decide (0 ≤ x5_1) = true := dT c5
      clear c5
      by_cases c6 : x5_1 < (l1.length : Int)
      ·rw [if_pos c6] at H
       have c6b0 : decide (x5_1 < (l1.length : Int)) = true := dT c6
       clear c6
       replace H := oB H
       obtain ⟨cW, cw, H⟩ := H
       try dsimp only at H
       have A7 := aM cw
       clear cw
       by_cases c8 : cW = true
       ·subst c8
        rw [if_pos rfl] at H
        have H' := aM H
        clear H
        try go_wp2
        have aA := aM (bD HB.out)
        clear HB
        have HB := aA
        clear aA
        have p103 : 0 ≤ (x5_1 : Int) := oD z2
        have q103 : x5_1 < (l0.length : Int) := oD z2
        obtain ⟨ad103, e103, hx103_0, hx103_1⟩ := at_T38 bh.out x5_1 p103 q103
        have hw103_1 := hx103_1
        have hw103_0 := hx103_0
        cases e103
        replace hx103_0 := (HB.out.cell (World.block_lt_of_cell? w _ hx103_0)).trans hx103_0
        replace hx103_1 := (HB.out.cell (World.block_lt_of_cell? w _ hx103_1)).trans hx103_1
        replace p103 := eq_true p103
        replace q103 := eq_true q103
        have p104 : 0 ≤ (x5_1 : Int) := oD z2
        have q104 : x5_1 < (l1.length : Int) := oD z2
        obtain ⟨ad104, e104, hx104_0, hx104_1⟩ := at_T38 dp.out x5_1 p104 q104
        have hw104_1 := hx104_1
        have hw104_0 := hx104_0
        cases e104
        replace hx104_0 := (HB.out.cell (World.block_lt_of_cell? w _ hx104_0)).trans hx104_0
        replace hx104_1 := (HB.out.cell (World.block_lt_of_cell? w _ hx104_1)).trans hx104_1
        replace p104 := eq_true p104
        replace q104 := eq_true q104
        refine start_ (n := 10) (S := fun w' => w'.cell? (ad103.add ((x5_1).toNat * 2)) = some (.string ((rd_T38 l0 x5_1).f0)) ∧ w'.cell? ⟨(ad103.add ((x5_1).toNat * 2)).block, (ad103.add ((x5_1).toNat * 2)).off + 1, none⟩ = some (.string ((rd_T38 l0 x5_1).f1)) ∧ w'.cell? (ad104.add ((x5_1).toNat * 2)) = some (.string ((rd_T38 l1 x5_1).f0)) ∧ w'.cell? ⟨(ad104.add ((x5_1).toNat * 2)).block, (ad104.add ((x5_1).toNat * 2)).off + 1, none⟩ = some (.string ((rd_T38 l1 x5_1).f1))) (ds := []) #[false, false, false, false, false, false, false, false, false, false] z0 rfl rfl ⟨((HB.out.cell (World.block_lt_of_cell? w _ hw103_0)).trans hw103_0), ((HB.out.cell (World.block_lt_of_cell? w _ hw103_1)).trans hw103_1), ((HB.out.cell (World.block_lt_of_cell? w _ hw104_0)).trans hw104_0), ((HB.out.cell (World.block_lt_of_cell? w _ hw104_1)).trans hw104_1)⟩ (fun hHeld => ?_); refine with_tabW laws_eqRuleS.tab6 laws_eqRuleS.bits6 (fun HT_ HW_ => ?_)
        generalize wr.drew = w9 at HB hx103_0 hx103_1 hx104_0 hx104_1 hHeld ⊢
        refine pA 0 17 ?_
        refine pA 1 18 ?_
        refine pA 2 19 ?_
        refine pA 4 21 ?_
        refine pA 5 22 ?_
        refine pA 6 23 ?_
        refine tA 3 20 ?_ (hy := by rintro w' ⟨s0, s1, s2, s3⟩; go_simp; with_reducible rfl)
        refine tA 7 24 ?_ (hy := by rintro w' ⟨s0, s1, s2, s3⟩; go_simp; with_reducible rfl)
        refine one_ (i := 8) (N := some 25) #[true, true, true, true, true, true, true, true, true, false] rfl rfl (one_of HT_.out z0) (by decide) (fun K hK => ?_)
        refine goes_ Try.func23 z0 rfl #[.agg #[.string ((rd_T38 l0 x5_1).f0), .string ((rd_T38 l0 x5_1).f1)], .agg #[.string ((rd_T38 l1 x5_1).f0), .string ((rd_T38 l1 x5_1).f1)]] (by rfl) rfl rfl z7 ?_
        with_reducible refine (laws_eqRule.calls ((rd_T38 l0 x5_1).f0) ((rd_T38 l0 x5_1).f1) ((rd_T38 l1 x5_1).f0) ((rd_T38 l1 x5_1).f1) true _ A7.out).mono ?_
        rintro e w10 ⟨rfl, hb⟩
        refine ⟨_, rfl, ?_⟩
        have aA := aM (al z6 hb)
        clear HB
        have HB := aA
        clear aA
        (try clear hb)
        (try clear hb2)
        (try clear hk)
        (try clear hi)
        refine hK.out _ _ ⟨((HB.out.cell (World.block_lt_of_cell? w _ hw103_0)).trans hw103_0), ((HB.out.cell (World.block_lt_of_cell? w _ hw103_1)).trans hw103_1), ((HB.out.cell (World.block_lt_of_cell? w _ hw104_0)).trans hw104_0), ((HB.out.cell (World.block_lt_of_cell? w _ hw104_1)).trans hw104_1)⟩ (fun hHeld => ?_)
        clear hK K
        refine norm_ (a' := ?_) ?_ ?_
        rotate_left
        ·show Act.put _ (some 25) _ = _
         simp only [Act.put, sA, sB, sC, i64_w, i32_w]
         rfl
        refine pA 9 26 ?_
        refine done_ (done_of HT_.out z0) ?_
        try go_wp2
        go_roundg k1
        case measure => have := HK1.out; omega
        case rel => exact ⟨(wrap64 (x5_1 + 1)), z1, H', ⟨by have := HK1.out; omega⟩, ⟨y3⟩⟩
       ·replace c8 := Bool.eq_false_iff.mpr c8
        subst c8
        rw [if_neg (show ¬ (false = true) by decide)] at H
        obtain rfl := sI H
        try go_wp2
        have aA := aM (bD HB.out)
        clear HB
        have HB := aA
        clear aA
        have p103 : 0 ≤ (x5_1 : Int) := oD z2
        have q103 : x5_1 < (l0.length : Int) := oD z2
        obtain ⟨ad103, e103, hx103_0, hx103_1⟩ := at_T38 bh.out x5_1 p103 q103
        have hw103_1 := hx103_1
        have hw103_0 := hx103_0
        cases e103
        replace hx103_0 := (HB.out.cell (World.block_lt_of_cell? w _ hx103_0)).trans hx103_0
        replace hx103_1 := (HB.out.cell (World.block_lt_of_cell? w _ hx103_1)).trans hx103_1
        replace p103 := eq_true p103
        replace q103 := eq_true q103
        have p104 : 0 ≤ (x5_1 : Int) := oD z2
        have q104 : x5_1 < (l1.length : Int) := oD z2
        obtain ⟨ad104, e104, hx104_0, hx104_1⟩ := at_T38 dp.out x5_1 p104 q104
        have hw104_1 := hx104_1
        have hw104_0 := hx104_0
        cases e104
        replace hx104_0 := (HB.out.cell (World.block_lt_of_cell? w _ hx104_0)).trans hx104_0
        replace hx104_1 := (HB.out.cell (World.block_lt_of_cell? w _ hx104_1)).trans hx104_1
        replace p104 := eq_true p104
        replace q104 := eq_true q104
        refine start_ (n := 10) (S := fun w' => w'.cell? (ad103.add ((x5_1).toNat * 2)) = some (.string ((rd_T38 l0 x5_1).f0)) ∧ w'.cell? ⟨(ad103.add ((x5_1).toNat * 2)).block, (ad103.add ((x5_1).toNat * 2)).off + 1, none⟩ = some (.string ((rd_T38 l0 x5_1).f1)) ∧ w'.cell? (ad104.add ((x5_1).toNat * 2)) = some (.string ((rd_T38 l1 x5_1).f0)) ∧ w'.cell? ⟨(ad104.add ((x5_1).toNat * 2)).block, (ad104.add ((x5_1).toNat * 2)).off + 1, none⟩ = some (.string ((rd_T38 l1 x5_1).f1))) (ds := []) #[false, false, false, false, false, false, false, false, false, false] z0 rfl rfl ⟨((HB.out.cell (World.block_lt_of_cell? w _ hw103_0)).trans hw103_0), ((HB.out.cell (World.block_lt_of_cell? w _ hw103_1)).trans hw103_1), ((HB.out.cell (World.block_lt_of_cell? w _ hw104_0)).trans hw104_0), ((HB.out.cell (World.block_lt_of_cell? w _ hw104_1)).trans hw104_1)⟩ (fun hHeld => ?_); refine with_tabW laws_eqRuleS.tab6 laws_eqRuleS.bits6 (fun HT_ HW_ => ?_)
        generalize wr.drew = w11 at HB hx103_0 hx103_1 hx104_0 hx104_1 hHeld ⊢
        refine pA 0 17 ?_
        refine pA 1 18 ?_
        refine pA 2 19 ?_
        refine pA 4 21 ?_
        refine pA 5 22 ?_
        refine pA 6 23 ?_
        refine tA 3 20 ?_ (hy := by rintro w' ⟨s0, s1, s2, s3⟩; go_simp; with_reducible rfl)
        refine tA 7 24 ?_ (hy := by rintro w' ⟨s0, s1, s2, s3⟩; go_simp; with_reducible rfl)
        refine one_ (i := 8) (N := some 25) #[true, true, true, true, true, true, true, true, true, false] rfl rfl (one_of HT_.out z0) (by decide) (fun K hK => ?_)
        refine goes_ Try.func23 z0 rfl #[.agg #[.string ((rd_T38 l0 x5_1).f0), .string ((rd_T38 l0 x5_1).f1)], .agg #[.string ((rd_T38 l1 x5_1).f0), .string ((rd_T38 l1 x5_1).f1)]] (by rfl) rfl rfl z7 ?_
        with_reducible refine (laws_eqRule.calls ((rd_T38 l0 x5_1).f0) ((rd_T38 l0 x5_1).f1) ((rd_T38 l1 x5_1).f0) ((rd_T38 l1 x5_1).f1) false _ A7.out).mono ?_
        rintro e w12 ⟨rfl, hb⟩
        refine ⟨_, rfl, ?_⟩
        have aA := aM (al z6 hb)
        clear HB
        have HB := aA
        clear aA
        (try clear hb)
        (try clear hb2)
        (try clear hk)
        (try clear hi)
        refine hK.out _ _ ⟨((HB.out.cell (World.block_lt_of_cell? w _ hw103_0)).trans hw103_0), ((HB.out.cell (World.block_lt_of_cell? w _ hw103_1)).trans hw103_1), ((HB.out.cell (World.block_lt_of_cell? w _ hw104_0)).trans hw104_0), ((HB.out.cell (World.block_lt_of_cell? w _ hw104_1)).trans hw104_1)⟩ (fun hHeld => ?_)
        clear hK K
        refine norm_ (a' := ?_) ?_ ?_
        rotate_left
        ·show Act.put _ (some 25) _ = _
         simp only [Act.put, sA, sB, sC, i64_w, i32_w]
         rfl
        refine pA 9 26 ?_
        refine done_ (done_of HT_.out z0) ?_
        try go_wp2
        go_ret
        exact ⟨y2, y3⟩
      ·rw [if_neg c6] at H
       exact absurd H (by simp)
     ·rw [if_neg c5] at H
      exact absurd H (by simp)
    ·rw [if_neg c4] at H
     have c4b0 : decide (x5_1 < (l0.length : Int)) = false := dF c4
     clear c4
     obtain rfl := sI H
     go_wp2
     go_ret
     exact ⟨y2, y3⟩
 ·rw [if_neg c3] at H
  have c3b0 : ((l0.length : Int) == (l1.length : Int)) = false := qF c3
  have c3b1 : ((l0.length : Int) != (l1.length : Int)) = true := nT c3
  have c3b2 : (l0.length == l1.length) = false := by first | simpa using c3 | (simp at c3 ⊢; omega)
  obtain rfl := sI H
  go_enter Try.func10, Try.ntmps10
  go_wp2
  go_ret
  exact ⟨y2, y3⟩

/-! ### spec_l1Open: function 27 -/
def spec_l1Open.f (a0 : Int) : Option (Bool) := if a0 ≥ 65 then (some (decide (a0 ≤ 70))) else (some false)
set_option maxHeartbeats 8000000 in
set_option maxRecDepth 100000 in
theorem spec_l1Open.calls (a0 : Int) (r : Bool) (w : World) (h : spec_l1Open.f a0 = some r) :
  Calls Try.prog 27 #[.int .u8 a0] w fun e w' => e = .returned (.bool r) ∧ Drawn0 w w' := by
 have H : (if a0 ≥ 65 then (some (decide (a0 ≤ 70))) else (some false)) = some r := h
 clear h
 by_cases c2 : a0 ≥ 65
 ·rw [if_pos c2] at H
  have c2b0 : decide (65 ≤ a0) = true := dT c2
  clear c2
  obtain rfl := sI H
  go_enter Try.func27, Try.ntmps27
  go_wp2
  go_ret
  exact ⟨y0, y1⟩
 ·rw [if_neg c2] at H
  have c2b0 : decide (65 ≤ a0) = false := dF c2
  clear c2
  obtain rfl := sI H
  go_enter Try.func27, Try.ntmps27
  go_wp2
  go_ret
  exact ⟨y0, y1⟩

/-! ### spec_l1Name: function 18 -/
def spec_l1Name.f (a0 : ByteArray) : Option (Bool) := if (a0.size : Int) = 1 then (if 0 < (a0.size : Int) then ((spec_l1Open.f (bt a0 0)).bind fun ck => (some ck)) else (none)) else (some false)
set_option maxHeartbeats 8000000 in
set_option maxRecDepth 100000 in
theorem spec_l1Name.calls (a0 : ByteArray) (r : Bool) (w : World) (h : spec_l1Name.f a0 = some r) :
  Calls Try.prog 18 #[.string a0] w fun e w' => e = .returned (.bool r) ∧ Drawn0 w w' := by
 have H : (if (a0.size : Int) = 1 then (if 0 < (a0.size : Int) then ((spec_l1Open.f (bt a0 0)).bind fun ck => (some ck)) else (none)) else (some false)) = some r := h
 clear h
 by_cases c2 : (a0.size : Int) = 1
 ·rw [if_pos c2] at H
  have c2b0 : ((a0.size : Int) == 1) = true := qT c2
  have c2b1 : ((a0.size : Int) != 1) = false := nF c2
  clear c2
  by_cases c3 : 0 < (a0.size : Int)
  ·rw [if_pos c3] at H
   have c3b0 : decide (0 < (a0.size : Int)) = true := dT c3
   have c3b1 : decide (0 < a0.size) = true := dT (by omega)
   clear c3
   replace H := oB H
   obtain ⟨ck, cM, H⟩ := H
   try dsimp only at H
   have A5 := aM cM
   clear cM
   obtain rfl := sI H
   have p4 : 0 ≤ (0 : Int) := (by omega)
   have q4 : 0 < a0.size := (by have : (0 : Int) < (a0.size : Int) := oD z2; omega)
   have hx4 : ∀ h : 0 < a0.size, ((a0[0]'h).toNat : Int) = bt a0 0 := bt_at a0 0
   clear p4
   have qi4 : (0 < (a0.size : Int)) = True := eq_true (oD z2)
   replace q4 := eq_true q4
   go_enter Try.func18, Try.ntmps18
   go_wp2_with (first | (go_at_call 27; (with_reducible refine (spec_l1Open.calls (bt a0 0) ck _ A5.out).mono ?_); rintro e w' ⟨rfl, ⟨nd, rfl⟩⟩))
   go_ret
   exact ⟨y0, y1⟩
  ·rw [if_neg c3] at H
   exact absurd H (by simp)
 ·rw [if_neg c2] at H
  have c2b0 : ((a0.size : Int) == 1) = false := qF c2
  have c2b1 : ((a0.size : Int) != 1) = true := nT c2
  obtain rfl := sI H
  go_enter Try.func18, Try.ntmps18
  go_wp2
  go_ret
  exact ⟨y0, y1⟩

/-- A state of type 57 at block g of W; what its slices lead to came in by w0. -/
def IsS57 (w0 W : World) (g : Nat) (f0 : ByteArray) (f1 : Int) (f2 : Bool) (f3 : Int) : Prop := W.heap[g]? = some (.cells #[.string f0, .int .i64 f1, .bool f2, .int .i64 f3] 57 (0, 0)) ∧ w0.heap.size ≤ g
theorem IsS57.grown {w0 W : World} {g : Nat} {f0 : ByteArray} {f1 : Int} {f2 : Bool} {f3 : Int} {W1 : World} {row : Option Nat} (h : IsS57 w0 W g f0 f1 f2 f3) (hw : W.grownBy W1 row) (hne : some g ≠ row) : IsS57 w0 W1 g f0 f1 f2 f3 := by
 obtain ⟨hb, hg⟩ := h
 exact ⟨blk_grown hb hw hne, hg⟩
theorem IsS57.own_neN {w0 W : World} {g : Nat} {f0 : ByteArray} {f1 : Int} {f2 : Bool} {f3 : Int} {α : Type} {d : Kd α} {e : Nat} {base : Nat} {ok : Nat → Prop} {v : Value} {xs : List α} (h : IsS57 w0 W g f0 f1 f2 f3) (ho : Kd.N d e W base ok v xs) (ht : e ≠ 57) : some g ≠ v.ownBlock := by
 obtain ⟨hb, hg⟩ := h
 exact Kd.N_ne ho hb ht
theorem IsS57.fresh {w0 W : World} {g : Nat} {f0 : ByteArray} {f1 : Int} {f2 : Bool} {f3 : Int} (h : IsS57 w0 W g f0 f1 f2 f3) : ∀ k, W.heap.size ≤ k → k ≠ g := by
 obtain ⟨hb, hg⟩ := h
 exact Kd.freshB hb
theorem IsS57.kept {w0 W : World} {g : Nat} {f0 : ByteArray} {f1 : Int} {f2 : Bool} {f3 : Int} {W1 : World} {S : Nat → Prop} (h : IsS57 w0 W g f0 f1 f2 f3) (hk : Kept W W1 S) (hne : ¬ S g) : IsS57 w0 W1 g f0 f1 f2 f3 := by
 obtain ⟨hb, hg⟩ := h
 exact ⟨blk_kept hb hk hne, hg⟩
theorem IsS57.below {w0 W : World} {g : Nat} {f0 : ByteArray} {f1 : Int} {f2 : Bool} {f3 : Int} {W1 : World} (h : IsS57 w0 W g f0 f1 f2 f3) (hw : Below W.heap.size W W1) : IsS57 w0 W1 g f0 f1 f2 f3 := h.grown (grown_of_below hw none) (by simp)
theorem IsS57.alloc {w0 W : World} {g : Nat} {f0 : ByteArray} {f1 : Int} {f2 : Bool} {f3 : Int} (h : IsS57 w0 W g f0 f1 f2 f3) (o : Obj) : IsS57 w0 (W.alloc o) g f0 f1 f2 f3 := h.below (bA (Below.refl _ _) o)
theorem IsS57.drewN {w0 W : World} {g : Nat} {f0 : ByteArray} {f1 : Int} {f2 : Bool} {f3 : Int} (h : IsS57 w0 W g f0 f1 f2 f3) (m : Nat) : IsS57 w0 (W.drewN m) g f0 f1 f2 f3 := h
theorem IsS57.drew {w0 W : World} {g : Nat} {f0 : ByteArray} {f1 : Int} {f2 : Bool} {f3 : Int} (h : IsS57 w0 W g f0 f1 f2 f3) : IsS57 w0 W.drew g f0 f1 f2 f3 := h
theorem IsS57.at_ {w0 W : World} {g : Nat} {f0 : ByteArray} {f1 : Int} {f2 : Bool} {f3 : Int} {w' : World} {m : Nat} (hq : W.drewN m = w') (h : IsS57 w0 W g f0 f1 f2 f3) : IsS57 w0 w' g f0 f1 f2 f3 := by subst hq; exact IsS57.drewN h m
theorem IsS57.apart {w0 W : World} {g : Nat} {f0 : ByteArray} {f1 : Int} {f2 : Bool} {f3 : Int} {α : Type} {d : Kd α} {e : Nat} {base : Nat} {ok : Nat → Prop} {v : Value} {xs : List α} (h : IsS57 w0 W g f0 f1 f2 f3) (ho : d.R e W base ok v xs) (ht : ∀ q, q ∈ e :: d.E → q ≠ 57) : d.R e W base (fun k => ok k ∧ k ≠ g) v xs := by
 obtain ⟨hb, hg⟩ := h
 exact Kd.R_types ho hb ht
theorem IsS57.own_ne {w0 W : World} {g : Nat} {f0 : ByteArray} {f1 : Int} {f2 : Bool} {f3 : Int} {α : Type} {d : Kd α} {e : Nat} {base : Nat} {ok : Nat → Prop} {v : Value} {xs : List α} (h : IsS57 w0 W g f0 f1 f2 f3) (ho : d.R e W base ok v xs) (ht : e ≠ 57) : some g ≠ v.ownBlock := by
 obtain ⟨hb, hg⟩ := h
 exact Kd.R_ne ho hb ht
theorem IsS57.apartQ {w0 W : World} {g : Nat} {f0 : ByteArray} {f1 : Int} {f2 : Bool} {f3 : Int} {α : Type} {d : Kd α} {e : Nat} {base : Nat} {ok : Nat → Prop} {v : Value} {xs : List α} (h : IsS57 w0 W g f0 f1 f2 f3) (ho : d.Q e W base ok v xs) (ht : ∀ q, q ∈ e :: d.E → q ≠ 57) : d.Q e W base (fun k => ok k ∧ k ≠ g) v xs := by
 obtain ⟨hb, hg⟩ := h
 exact Kd.Q_types ho hb ht
theorem IsS57.own_neQ {w0 W : World} {g : Nat} {f0 : ByteArray} {f1 : Int} {f2 : Bool} {f3 : Int} {α : Type} {d : Kd α} {e : Nat} {base : Nat} {ok : Nat → Prop} {v : Value} {xs : List α} (h : IsS57 w0 W g f0 f1 f2 f3) (ho : d.Q e W base ok v xs) (ht : e ≠ 57) : some g ≠ v.ownBlock := by
 obtain ⟨hb, hg⟩ := h
 exact Kd.Q_ne ho hb ht
theorem IsS57.apartS {w0 W : World} {g : Nat} {f0 : ByteArray} {f1 : Int} {f2 : Bool} {f3 : Int} {α : Type} {d : Kd α} {e : Nat} {base : Nat} {ok : Nat → Prop} {v : Value} {xs : List α} (h : IsS57 w0 W g f0 f1 f2 f3) (ho : d.S e W base ok v xs) (ht : ∀ q, q ∈ e :: d.E → q ≠ 57) : d.S e W base (fun k => ok k ∧ k ≠ g) v xs := by
 obtain ⟨hb, hg⟩ := h
 exact Kd.S_types ho hb ht
theorem IsS57.own_neS {w0 W : World} {g : Nat} {f0 : ByteArray} {f1 : Int} {f2 : Bool} {f3 : Int} {α : Type} {d : Kd α} {e : Nat} {base : Nat} {ok : Nat → Prop} {v : Value} {xs : List α} (h : IsS57 w0 W g f0 f1 f2 f3) (ho : d.S e W base ok v xs) (ht : e ≠ 57) : some g ≠ v.ownBlock := by
 obtain ⟨hb, hg⟩ := h
 exact Kd.S_ne ho hb ht
theorem IsS57.lt {w0 W : World} {g : Nat} {f0 : ByteArray} {f1 : Int} {f2 : Bool} {f3 : Int} (h : IsS57 w0 W g f0 f1 f2 f3) : g < W.heap.size := by
 obtain ⟨hb, hg⟩ := h
 exact blk_lt hb
theorem IsS57.ge {w0 W : World} {g : Nat} {f0 : ByteArray} {f1 : Int} {f2 : Bool} {f3 : Int} (h : IsS57 w0 W g f0 f1 f2 f3) : w0.heap.size ≤ g := by
 obtain ⟨hb, hg⟩ := h
 exact hg
theorem IsS57.ne_blk {w0 W : World} {g : Nat} {f0 : ByteArray} {f1 : Int} {f2 : Bool} {f3 : Int} {a : Nat} {cs : Array Value} {t : TypeId} {fr : Nat × Nat} (h : IsS57 w0 W g f0 f1 f2 f3) (hb2 : W.heap[a]? = some (.cells cs t fr)) (ht : t ≠ 57) : g ≠ a := by
 obtain ⟨hb, hg⟩ := h
 rintro rfl
 rw [hb] at hb2
 injection hb2 with hb2
 injection hb2 with _ ht2
 exact ht ht2.symm
theorem IsS57.far {w0 W : World} {g : Nat} {f0 : ByteArray} {f1 : Int} {f2 : Bool} {f3 : Int} {p : Addr} (h : IsS57 w0 W g f0 f1 f2 f3) (hne : g ≠ p.block) (u : Value) : IsS57 w0 (W.setCell p u) g f0 f1 f2 f3 := by
 obtain ⟨hb, hg⟩ := h
 exact ⟨blk_far hb hne u, hg⟩
theorem cellS57_0 {W : World} {g : Nat} {f0 : ByteArray} {f1 : Int} {f2 : Bool} {f3 : Int} (h : W.heap[g]? = some (.cells #[.string f0, .int .i64 f1, .bool f2, .int .i64 f3] 57 (0, 0))) : W.cell? ⟨g, 0, none⟩ = some (.string f0) := (bC h 0).trans rfl
theorem IsS57.set_0 {w0 W : World} {g : Nat} {f0 : ByteArray} {f1 : Int} {f2 : Bool} {f3 : Int} (h : IsS57 w0 W g f0 f1 f2 f3) (x : ByteArray) : IsS57 w0 (W.setCell ⟨g, 0, none⟩ (.string x)) g x f1 f2 f3 := by
 obtain ⟨hb, hg⟩ := h
 exact ⟨by simpa using blk_set hb 0 (.string x), hg⟩
theorem cellS57_1 {W : World} {g : Nat} {f0 : ByteArray} {f1 : Int} {f2 : Bool} {f3 : Int} (h : W.heap[g]? = some (.cells #[.string f0, .int .i64 f1, .bool f2, .int .i64 f3] 57 (0, 0))) : W.cell? ⟨g, 1, none⟩ = some (.int .i64 f1) := (bC h 1).trans rfl
theorem IsS57.set_1 {w0 W : World} {g : Nat} {f0 : ByteArray} {f1 : Int} {f2 : Bool} {f3 : Int} (h : IsS57 w0 W g f0 f1 f2 f3) (x : Int) : IsS57 w0 (W.setCell ⟨g, 1, none⟩ (.int .i64 x)) g f0 x f2 f3 := by
 obtain ⟨hb, hg⟩ := h
 exact ⟨by simpa using blk_set hb 1 (.int .i64 x), hg⟩
theorem cellS57_2 {W : World} {g : Nat} {f0 : ByteArray} {f1 : Int} {f2 : Bool} {f3 : Int} (h : W.heap[g]? = some (.cells #[.string f0, .int .i64 f1, .bool f2, .int .i64 f3] 57 (0, 0))) : W.cell? ⟨g, 2, none⟩ = some (.bool f2) := (bC h 2).trans rfl
theorem IsS57.set_2 {w0 W : World} {g : Nat} {f0 : ByteArray} {f1 : Int} {f2 : Bool} {f3 : Int} (h : IsS57 w0 W g f0 f1 f2 f3) (x : Bool) : IsS57 w0 (W.setCell ⟨g, 2, none⟩ (.bool x)) g f0 f1 x f3 := by
 obtain ⟨hb, hg⟩ := h
 exact ⟨by simpa using blk_set hb 2 (.bool x), hg⟩
theorem cellS57_3 {W : World} {g : Nat} {f0 : ByteArray} {f1 : Int} {f2 : Bool} {f3 : Int} (h : W.heap[g]? = some (.cells #[.string f0, .int .i64 f1, .bool f2, .int .i64 f3] 57 (0, 0))) : W.cell? ⟨g, 3, none⟩ = some (.int .i64 f3) := (bC h 3).trans rfl
theorem IsS57.set_3 {w0 W : World} {g : Nat} {f0 : ByteArray} {f1 : Int} {f2 : Bool} {f3 : Int} (h : IsS57 w0 W g f0 f1 f2 f3) (x : Int) : IsS57 w0 (W.setCell ⟨g, 3, none⟩ (.int .i64 x)) g f0 f1 f2 x := by
 obtain ⟨hb, hg⟩ := h
 exact ⟨by simpa using blk_set hb 3 (.int .i64 x), hg⟩
theorem IsS57.new (w0 W : World) (f0 : ByteArray) (f1 : Int) (f2 : Bool) (f3 : Int) (hB : Below w0.heap.size w0 W) : IsS57 w0 (W.alloc (.cells #[.string f0, .int .i64 f1, .bool f2, .int .i64 f3] 57)) W.heap.size f0 f1 f2 f3 := ⟨by simpa using heap_alloc_new W _, hB.size⟩

/-! ### spec_l6R_next: function 37 -/
def spec_l6R_next.f (s0_0 : ByteArray) (s0_1 : Int) (s0_2 : Bool) (s0_3 : Int) : Option (Int × ByteArray × Int × Bool × Int) := if s0_1 < (s0_0.size : Int) then (if 0 ≤ s0_1 then (some (bt s0_0 s0_1, s0_0, s0_1, s0_2, s0_3)) else (none)) else (some (0, s0_0, s0_1, s0_2, s0_3))
set_option maxHeartbeats 8000000 in
set_option maxRecDepth 100000 in
theorem spec_l6R_next.calls (g : Nat) (s0_0 : ByteArray) (s0_1 : Int) (s0_2 : Bool) (s0_3 : Int) (r1 : Int) (r2 : ByteArray) (r3 : Int) (r4 : Bool) (r5 : Int) (w0 w : World) (hI : IsS57 w0 w g s0_0 s0_1 s0_2 s0_3) (hB : Below w0.heap.size w0 w) (h : spec_l6R_next.f s0_0 s0_1 s0_2 s0_3 = some (r1, r2, r3, r4, r5)) :
  Calls Try.prog 37 #[.pointer (some ⟨g, 0, none⟩)] w fun e w' => e = .returned (.int .u8 r1) ∧ IsS57 w0 w' g r2 r3 r4 r5 ∧ Below w0.heap.size w0 w' ∧ KeepBut w w' g none := by
 have HI0 := aM hI
 have HK := aM (KeepBut.refl w g none)
 have HL := aM hB.size
 clear hI
 have HW0 := aM hB.size
 have HB := aM hB
 clear hB
 have H : (if s0_1 < (s0_0.size : Int) then (if 0 ≤ s0_1 then (some (bt s0_0 s0_1, s0_0, s0_1, s0_2, s0_3)) else (none)) else (some (0, s0_0, s0_1, s0_2, s0_3))) = some (r1, r2, r3, r4, r5) := h
 clear h
 by_cases c2 : s0_1 < (s0_0.size : Int)
 ·rw [if_pos c2] at H
  have c2b0 : decide (s0_1 < (s0_0.size : Int)) = true := dT c2
  clear c2
  by_cases c3 : 0 ≤ s0_1
  ·rw [if_pos c3] at H
   have c3b0 : decide (0 ≤ s0_1) = true := dT c3
   clear c3
   simp only [Option.some.injEq, Prod.mk.injEq] at H
   obtain ⟨rfl, rfl, rfl, rfl, rfl⟩ := H
   obtain ⟨HGz5, hgz5⟩ := HI0.out
   have hcz5_0 := cellS57_0 HGz5
   have hcz5_1 := cellS57_1 HGz5
   have hcz5_2 := cellS57_2 HGz5
   have hcz5_3 := cellS57_3 HGz5
   have hfz5_0 := bF HGz5 0
   have hfz5_1 := bF HGz5 1
   have hfz5_2 := bF HGz5 2
   have hfz5_3 := bF HGz5 3
   clear HGz5 hgz5
   have p4 : 0 ≤ (s0_1 : Int) := oD z2
   have q4 : s0_1 < (s0_0.size : Int) := oD z2
   have hx4 := bt_at s0_0 s0_1
   replace p4 := eq_true p4
   replace q4 := eq_true q4
   go_enter Try.func37, Try.ntmps37
   go_wp2
   repeat (go_quiet (fail); try go_wp2)
   go_ret
   exact ⟨y2, by (try simp only [Int.add_zero]); repeat (first | (with_reducible first | exact HI0.out | apply IsS57.alloc | apply IsS57.drewN | apply IsS57.drew | apply IsS57.set_0 | apply IsS57.set_1 | apply IsS57.set_2 | apply IsS57.set_3) | exact HI0.out), by repeat (first | (with_reducible first | exact HB.out | apply bA | apply pD | apply bD | refine ak ?_ (IsS57.ge HI0.out)) | exact HB.out), y11⟩
  ·rw [if_neg c3] at H
   exact absurd H (by simp)
 ·rw [if_neg c2] at H
  have c2b0 : decide (s0_1 < (s0_0.size : Int)) = false := dF c2
  clear c2
  simp only [Option.some.injEq, Prod.mk.injEq] at H
  obtain ⟨rfl, rfl, rfl, rfl, rfl⟩ := H
  obtain ⟨HGz6, hgz6⟩ := HI0.out
  have hcz6_0 := cellS57_0 HGz6
  have hcz6_1 := cellS57_1 HGz6
  have hcz6_2 := cellS57_2 HGz6
  have hcz6_3 := cellS57_3 HGz6
  have hfz6_0 := bF HGz6 0
  have hfz6_1 := bF HGz6 1
  have hfz6_2 := bF HGz6 2
  have hfz6_3 := bF HGz6 3
  clear HGz6 hgz6
  go_enter Try.func37, Try.ntmps37
  go_wp2
  repeat (go_quiet (fail); try go_wp2)
  go_ret
  exact ⟨y2, by (try simp only [Int.add_zero]); repeat (first | (with_reducible first | exact HI0.out | apply IsS57.alloc | apply IsS57.drewN | apply IsS57.drew | apply IsS57.set_0 | apply IsS57.set_1 | apply IsS57.set_2 | apply IsS57.set_3) | exact HI0.out), by repeat (first | (with_reducible first | exact HB.out | apply bA | apply pD | apply bD | refine ak ?_ (IsS57.ge HI0.out)) | exact HB.out), y11⟩

/-! ### spec_l6Symbol: function 49 -/
def spec_l6Symbol.f (a0 : Int) : Option (Bool) := (spec_l1Open.f a0).bind fun cj => (if cj = true then (some true) else (some (a0 == 116)))
set_option maxHeartbeats 8000000 in
set_option maxRecDepth 100000 in
theorem spec_l6Symbol.calls (a0 : Int) (r : Bool) (w : World) (h : spec_l6Symbol.f a0 = some r) :
  Calls Try.prog 49 #[.int .u8 a0] w fun e w' => e = .returned (.bool r) ∧ Drawn0 w w' := by
 have H : ((spec_l1Open.f a0).bind fun cj => (if cj = true then (some true) else (some (a0 == 116)))) = some r := h
 clear h
 replace H := oB H
 obtain ⟨cj, d5, H⟩ := H
 try dsimp only at H
 have A2 := aM d5
 clear d5
 by_cases c3 : cj = true
 ·subst c3
  rw [if_pos rfl] at H
  obtain rfl := sI H
  go_enter Try.func49, Try.ntmps49
  go_wp2_with (first | ((with_reducible refine aq (f := 27) rfl ?_); refine goesL_ (some 4) rfl rfl Try.func27 z0 rfl #[.int .u8 a0] rfl z7 ?_; (with_reducible refine (spec_l1Open.calls a0 true _ A2.out).mono ?_); rintro e w' ⟨rfl, ⟨nd, rfl⟩⟩; refine ⟨_, rfl, ?_⟩))
  go_ret
  exact ⟨y0, y1⟩
 ·replace c3 := Bool.eq_false_iff.mpr c3
  subst c3
  rw [if_neg (show ¬ (false = true) by decide)] at H
  obtain rfl := sI H
  go_enter Try.func49, Try.ntmps49
  go_wp2_with (first | ((with_reducible refine aq (f := 27) rfl ?_); refine goesL_ (some 4) rfl rfl Try.func27 z0 rfl #[.int .u8 a0] rfl z7 ?_; (with_reducible refine (spec_l1Open.calls a0 false _ A2.out).mono ?_); rintro e w' ⟨rfl, ⟨nd, rfl⟩⟩; refine ⟨_, rfl, ?_⟩))
  go_ret
  exact ⟨y0, y1⟩

-- NOT PRINTED: function 44 (spec_l6R_one)

-- NOT PRINTED: function 36 (spec_l6R_row)

-- NOT PRINTED: function 32 (spec_l6R_either)

/-! ### spec_l1In: function 33 -/
def spec_l1In.f (a0 : Int) (a1 : Int) (a2 : Int) : Option (Bool) := if a0 ≥ a1 then (some (decide (a0 ≤ a2))) else (some false)
set_option maxHeartbeats 8000000 in
set_option maxRecDepth 100000 in
theorem spec_l1In.calls (a0 : Int) (a1 : Int) (a2 : Int) (r : Bool) (w : World) (h : spec_l1In.f a0 a1 a2 = some r) :
  Calls Try.prog 33 #[.int .i64 a0, .int .i64 a1, .int .i64 a2] w fun e w' => e = .returned (.bool r) ∧ Drawn0 w w' := by
 have H : (if a0 ≥ a1 then (some (decide (a0 ≤ a2))) else (some false)) = some r := h
 clear h
 by_cases c4 : a0 ≥ a1
 ·rw [if_pos c4] at H
  have c4b0 : decide (a1 ≤ a0) = true := dT c4
  clear c4
  obtain rfl := sI H
  go_enter Try.func33, Try.ntmps33
  go_wp2
  go_ret
  exact ⟨y0, y1⟩
 ·rw [if_neg c4] at H
  have c4b0 : decide (a1 ≤ a0) = false := dF c4
  clear c4
  obtain rfl := sI H
  go_enter Try.func33, Try.ntmps33
  go_wp2
  go_ret
  exact ⟨y0, y1⟩

-- NOT PRINTED: function 28 (spec_l6Read)

/-! ### ex_Base.txt, by hand -/
/-! ### readers of expressions: what they answer -/
/-! expressions: what both readers answer, as plain functions -/
def symB (c : Int) : Bool := decide (65 ≤ c ∧ c ≤ 70) || decide (c = 116)
def sufB (c : Int) : Bool := decide (c = 42) || (decide (c = 63) || decide (c = 43))
def iN (s : ByteArray) : Int := if s.toList = [] then 0 else bt s 0
def iSuf : Nat → ByteArray → Option ByteArray
 | 0, _ => none
 | k + 1, s => if sufB (iN s) = true then iSuf k (s.extract 1 s.size) else some s
mutual
def iAtom : Nat → ByteArray → Int → Option (Bool × ByteArray × Int)
 | 0, _, _ => none
 | k + 1, s, n => if (symB (iN s) || (decide (iN s = 46) || (decide (iN s = 45) || decide (iN s = 33)))) = true then some (true, s.extract 1 s.size, n)
  else if iN s ≠ 40 then some (false, s, n) else if n = 19 then some (false, s, n)
  else (iParted k (s.extract 1 s.size) (wrap64 (n + 1)) 0).bind fun o => if o.1 = false then some o else if iN o.2.1 ≠ 41 then some (false, o.2.1, o.2.2) else some (true, o.2.1.extract 1 o.2.1.size, wrap64 (o.2.2 - 1))
def iRow : Nat → ByteArray → Int → Nat → Option (Bool × ByteArray × Int)
 | 0, _, _, _ => none
 | k + 1, s, n, m => if iN s ≠ 0 ∧ iN s ≠ 124 ∧ iN s ≠ 41 then (iAtom k s n).bind fun o => if o.1 = false then some o else (iSuf k o.2.1).bind fun r => if m < 1000000000000 then iRow k r o.2.2 (m + 1) else none
  else some (decide (m ≠ 0), s, n)
def iParted : Nat → ByteArray → Int → Nat → Option (Bool × ByteArray × Int)
 | 0, _, _, _ => none
 | k + 1, s, n, m => (iRow k s n 0).bind fun o => if o.1 = false then some o else if m < 1000000000000 then (if iN o.2.1 = 124 then iParted k (o.2.1.extract 1 o.2.1.size) o.2.2 (m + 1) else some o) else none
end
def sN (s : ByteArray) (a : Int) : Int := if a < (s.size : Int) then bt s a else 0
def sSuf : Nat → ByteArray → Int → Bool → Option Int
 | 0, _, _, _ => none
 | k + 1, s, a, b => if b = true then some a else if 0 ≤ a then (if sufB (sN s a) = true then sSuf k s (wrap64 (a + 1)) b else some a) else none
mutual
def sOne : Nat → ByteArray → Int → Bool → Int → Option (Int × Bool × Int)
 | 0, _, _, _, _ => none
 | k + 1, s, a, b, d => if 0 ≤ a then (if (symB (sN s a) || (decide (sN s a = 46) || (decide (sN s a = 45) || decide (sN s a = 33)))) = true then (sSuf k s (wrap64 (a + 1)) b).bind fun x => some (x, b, d)
  else if sN s a = 40 then (sEither k s (wrap64 (a + 1)) b d).bind fun o => if 0 ≤ o.1 then ((sSuf k s (wrap64 (o.1 + 1)) (o.2.1 || decide (sN s o.1 ≠ 41))).bind fun x => some (x, o.2.1 || decide (sN s o.1 ≠ 41), o.2.2)) else none
  else some (wrap64 (a + 1), true, d)) else none
def sRow : Nat → ByteArray → Int → Bool → Int → Nat → Option (Int × Bool × Int)
 | 0, _, _, _, _, _ => none
 | k + 1, s, a, b, d, m => if b = false ∧ a < (s.size : Int) then (if 0 ≤ a then (if sN s a ≠ 124 ∧ sN s a ≠ 41 then (sOne k s a b d).bind fun o => if m < 1000000000000 then sRow k s o.1 o.2.1 o.2.2 (m + 1) else none
  else some (a, b || decide (m = 0), d)) else none) else some (a, b || decide (m = 0), d)
def sRows : Nat → ByteArray → Int → Bool → Int → Nat → Option (Int × Bool × Int)
 | 0, _, _, _, _, _ => none
 | k + 1, s, a, b, d, m => if b = false then (if 0 ≤ a then (if sN s a = 124 then (sRow k s (wrap64 (a + 1)) b d 0).bind fun o => if m < 1000000000000 then sRows k s o.1 o.2.1 o.2.2 (m + 1) else none else some (a, b, d)) else none) else some (a, b, d)
def sEither : Nat → ByteArray → Int → Bool → Int → Option (Int × Bool × Int)
 | 0, _, _, _, _ => none
 | k + 1, s, a, b, d => (sRow k s a (b || decide (wrap64 (d + 1) > 20)) (wrap64 (d + 1)) 0).bind fun o => (sRows k s o.1 o.2.1 o.2.2 0).bind fun q => some (q.1, q.2.1, wrap64 (q.2.2 - 1))
end
def rU (m : Nat) : List Unit := List.replicate m ()
theorem rU_len (m : Nat) : (rU m).length = m := List.length_replicate
theorem rU_snoc (m : Nat) : rU m ++ [()] = rU (m + 1) := by unfold rU; rw [List.replicate_succ']

end Go.Proofs.Ytihjaagamihhkaa.AFnExactReadSchema
