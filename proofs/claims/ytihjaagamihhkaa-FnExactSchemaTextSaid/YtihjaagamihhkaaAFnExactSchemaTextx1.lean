-- this session's own text: written by wip/tools/ownprint.py over the kit's print
import Derived.Test.YtihjaagamihhkaaAFnExactSchemaTextx0
namespace Go.Proofs.Ytihjaagamihhkaa.AFnExactSchemaText
open Go.RowKit Go.Proofs.YtihjaagamihhkaaW.PrintWords Go.Proofs.YtihjaagamihhkaaW.PrintLast Go.Proofs.YtihjaagamihhkaaW.PrintMore
attribute [local go_sem] max2_int min2_int max_two min_two max_three min_three max_four min_four   -- for this text's walks alone
set_option linter.unusedVariables false
set_option linter.unusedSimpArgs false

/-! ### laws_szRule: function 17 -/
def laws_szRule.f (a0_0 : ByteArray) (a0_1 : ByteArray) (a1 : Int) : Option (Int) := if (wrap64 (a1 - (a0_0.size : Int))) < 0 then (some (-1)) else (if (wrap64 ((wrap64 (a1 - (a0_0.size : Int))) - (a0_1.size : Int))) < 0 then (some (-1)) else (some (wrap64 ((wrap64 (a1 - (a0_0.size : Int))) - (a0_1.size : Int)))))
set_option maxHeartbeats 8000000 in
set_option maxRecDepth 100000 in
theorem laws_szRule.calls (a0_0 : ByteArray) (a0_1 : ByteArray) (a1 : Int) (r : Int) (w : World) (h : laws_szRule.f a0_0 a0_1 a1 = some r) :
  Calls Try.prog 17 #[.agg #[.string a0_0, .string a0_1], .int .i64 a1] w fun e w' => e = .returned (.int .i64 r) ∧ Below w.heap.size w w' := by
 have hu37 := Try.underlying37
 have HB := aM (Below.refl w.heap.size w)
 have H : (if (wrap64 (a1 - (a0_0.size : Int))) < 0 then (some (-1)) else (if (wrap64 ((wrap64 (a1 - (a0_0.size : Int))) - (a0_1.size : Int))) < 0 then (some (-1)) else (some (wrap64 ((wrap64 (a1 - (a0_0.size : Int))) - (a0_1.size : Int)))))) = some r := h
 clear h
 by_cases c3 : (wrap64 (a1 - (a0_0.size : Int))) < 0
 ·rw [if_pos c3] at H
  have c3b0 : decide ((wrap64 (a1 - (a0_0.size : Int))) < 0) = true := dT c3
  clear c3
  obtain rfl := sI H
  go_enter Try.func17, Try.ntmps17
  go_wp2_with (first | ((with_reducible refine am (N := 2) rfl ?_); refine ao ?hg (N := 2) ?hd (cs := #[.string a0_0, .string a0_1]) (t := 37) ?hr ?_; (case hd => rfl); (case hg => rfl); (case hr => first | (go_simp; done) | (go_simp; rfl)); intro aT hg w4 hbox hb; have aw := aM (aj z5 hb); have ax := aM (hbox); have az := aM ((by rw [hg]; exact (ak z5) : w.heap.size ≤ aT)); have aA := aM ((by rw [hg]; exact (ak z5) : w.heap.size ≤ aT)); clear HB; have HB := aw; have aX := ax; have cm := az; have bw := aA; clear aw ax az aA; clear hb hbox hg; have hcz5_0 : w4.cell? ⟨aT, 0, none⟩ = some (.string a0_0) := (bC aX.out 0).trans rfl; have hcz5_1 : w4.cell? ⟨aT, 1, none⟩ = some (.string a0_1) := (bC aX.out 1).trans rfl; have hfz5_0 := bF aX.out 0; have hfz5_1 := bF aX.out 1))
  go_ret
  exact ⟨y2, by repeat (first | (with_reducible first | exact HB.out | apply bA | apply pD | apply bD | refine ai ?_ bw.out) | exact HB.out)⟩
 ·rw [if_neg c3] at H
  have c3b0 : decide ((wrap64 (a1 - (a0_0.size : Int))) < 0) = false := dF c3
  clear c3
  by_cases c6 : (wrap64 ((wrap64 (a1 - (a0_0.size : Int))) - (a0_1.size : Int))) < 0
  ·rw [if_pos c6] at H
   have c6b0 : decide ((wrap64 ((wrap64 (a1 - (a0_0.size : Int))) - (a0_1.size : Int))) < 0) = true := dT c6
   clear c6
   obtain rfl := sI H
   go_enter Try.func17, Try.ntmps17
   go_wp2_with (first | ((with_reducible refine am (N := 2) rfl ?_); refine ao ?hg (N := 2) ?hd (cs := #[.string a0_0, .string a0_1]) (t := 37) ?hr ?_; (case hd => rfl); (case hg => rfl); (case hr => first | (go_simp; done) | (go_simp; rfl)); intro aT hg w7 hbox hb; have aw := aM (aj z5 hb); have ax := aM (hbox); have az := aM ((by rw [hg]; exact (ak z5) : w.heap.size ≤ aT)); have aA := aM ((by rw [hg]; exact (ak z5) : w.heap.size ≤ aT)); clear HB; have HB := aw; have aX := ax; have cm := az; have bw := aA; clear aw ax az aA; clear hb hbox hg; have hcz8_0 : w7.cell? ⟨aT, 0, none⟩ = some (.string a0_0) := (bC aX.out 0).trans rfl; have hcz8_1 : w7.cell? ⟨aT, 1, none⟩ = some (.string a0_1) := (bC aX.out 1).trans rfl; have hfz8_0 := bF aX.out 0; have hfz8_1 := bF aX.out 1))
   go_ret
   exact ⟨y2, by repeat (first | (with_reducible first | exact HB.out | apply bA | apply pD | apply bD | refine ai ?_ bw.out) | exact HB.out)⟩
  ·rw [if_neg c6] at H
   have c6b0 : decide ((wrap64 ((wrap64 (a1 - (a0_0.size : Int))) - (a0_1.size : Int))) < 0) = false := dF c6
   clear c6
   obtain rfl := sI H
   go_enter Try.func17, Try.ntmps17
   go_wp2_with (first | ((with_reducible refine am (N := 2) rfl ?_); refine ao ?hg (N := 2) ?hd (cs := #[.string a0_0, .string a0_1]) (t := 37) ?hr ?_; (case hd => rfl); (case hg => rfl); (case hr => first | (go_simp; done) | (go_simp; rfl)); intro aT hg w9 hbox hb; have aw := aM (aj z5 hb); have ax := aM (hbox); have az := aM ((by rw [hg]; exact (ak z5) : w.heap.size ≤ aT)); have aA := aM ((by rw [hg]; exact (ak z5) : w.heap.size ≤ aT)); clear HB; have HB := aw; have aX := ax; have cm := az; have bw := aA; clear aw ax az aA; clear hb hbox hg; have bM : w9.cell? ⟨aT, 0, none⟩ = some (.string a0_0) := (bC aX.out 0).trans rfl; have bL : w9.cell? ⟨aT, 1, none⟩ = some (.string a0_1) := (bC aX.out 1).trans rfl; have bK := bF aX.out 0; have bJ := bF aX.out 1))
   go_ret
   exact ⟨y2, by repeat (first | (with_reducible first | exact HB.out | apply bA | apply pD | apply bD | refine ai ?_ bw.out) | exact HB.out)⟩

/-! ### laws_szRuleS: function 6 -/
def laws_szRuleS.l0 : Nat → List (S37) → Int → Int → Option (Int)
 | 0, _, _, _ => none
 | k + 1, x0, x1, x5 => if x5 < (x0.length : Int) then (if 0 ≤ x5 then ((laws_szRule.f ((rd_T37 x0 x5).f0) ((rd_T37 x0 x5).f1) x1).bind fun bn => (if bn < 0 then (some (-1)) else (laws_szRuleS.l0 k x0 bn (wrap64 (x5 + 1))))) else (none)) else (some x1)
def laws_szRuleS.f (k : Nat) (l0 : List (S37)) (a1 : Int) : Option (Int) := if (wrap64 (a1 - (l0.length : Int))) < 0 then (some (-1)) else (laws_szRuleS.l0 k l0 (wrap64 (a1 - (l0.length : Int))) 0)
theorem laws_szRuleS.mono_l : ∀ k, (∀ y0 y1 y2, LeO (laws_szRuleS.l0 k y0 y1 y2) (laws_szRuleS.l0 (k + 1) y0 y1 y2))
 | 0 => fun _ _ _ r h => by simp [laws_szRuleS.l0] at h
 | k + 1 => by
  have ih0 := laws_szRuleS.mono_l k
  ·intro y0 y1 y2
   unfold laws_szRuleS.l0
   repeat' first
   | (with_reducible exact ih0 _ _ _)
   | (with_reducible exact LeO.refl _)
   | (with_reducible exact LeO.none _)
   | (with_reducible refine LeO.ite ?_ ?_)
   | (with_reducible refine LeO.bind ?_ (fun _ => ?_))
   | exact ih0 _ _ _
   | exact LeO.none _
   | refine LeO.ite ?_ ?_
   | refine LeO.bind ?_ (fun _ => ?_)
theorem laws_szRuleS.mono : ∀ a0 a1 k, LeO (laws_szRuleS.f k a0 a1) (laws_szRuleS.f (k + 1) a0 a1) := by
 intro a0 a1 k
 have ih0 := laws_szRuleS.mono_l k
 unfold laws_szRuleS.f
 repeat' first
   | (with_reducible exact ih0 _ _ _)
   | (with_reducible exact LeO.refl _)
   | (with_reducible exact LeO.none _)
   | (with_reducible refine LeO.ite ?_ ?_)
   | (with_reducible refine LeO.bind ?_ (fun _ => ?_))
   | exact ih0 _ _ _
   | exact LeO.none _
   | refine LeO.ite ?_ ?_
   | refine LeO.bind ?_ (fun _ => ?_)
set_option maxHeartbeats 8000000 in
set_option maxRecDepth 100000 in
theorem laws_szRuleS.calls (k : Nat) (A0 : Option Addr) (c0 : Nat) (l0 : List (S37)) (a1 : Int) (r : Int) (w : World) (hr0 : Kd.C k37 w A0 l0.length l0) (hc0 : l0.length ≤ c0) (h : laws_szRuleS.f k l0 a1 = some r) :
  Calls Try.prog 6 #[.slice A0 l0.length c0, .int .i64 a1] w fun e w' => e = .returned (.int .i64 r) ∧ Below w.heap.size w w' := by
 have hu37 := Try.underlying37
 have aK := aM hr0
 have bo := aM hc0
 clear hr0 hc0
 have HB := aM (Below.refl w.heap.size w)
 have H : (if (wrap64 (a1 - (l0.length : Int))) < 0 then (some (-1)) else (laws_szRuleS.l0 k l0 (wrap64 (a1 - (l0.length : Int))) 0)) = some r := h
 clear h
 by_cases c3 : (wrap64 (a1 - (l0.length : Int))) < 0
 ·rw [if_pos c3] at H
  have c3b0 : decide ((wrap64 (a1 - (l0.length : Int))) < 0) = true := dT c3
  clear c3
  obtain rfl := sI H
  go_enter Try.func6, Try.ntmps6
  go_wp2
  go_ret
  exact ⟨y2, y3⟩
 ·rw [if_neg c3] at H
  have c3b0 : decide ((wrap64 (a1 - (l0.length : Int))) < 0) = false := dF c3
  clear c3
  have H' := aM H
  clear H
  go_enter Try.func6, Try.ntmps6
  go_wp2
  go_loopg [1, 5] k (fun kq v1 v5 w' => ∃ (x1_1 : Int) (x5_1 : Int), v1 = .int .i64 x1_1 ∧ v5 = .int .i64 x5_1 ∧ Aside0 (laws_szRuleS.l0 kq l0 x1_1 x5_1 = some r) ∧ Aside0 (kq ≤ k) ∧ Aside0 (Below w.heap.size w w'))
  case atStart => exact ⟨(wrap64 (a1 - (l0.length : Int))), (0), (by first | rfl | (simp; done) | (simp [*]; done)), (by first | rfl | (simp; done) | (simp [*]; done)), H', ⟨Nat.le_refl _⟩, ⟨y3⟩⟩
  case round =>
   clear H'
   try clear p2
   try clear c3
   try clear c3b0
   obtain ⟨x1_1, x5_1, rfl, rfl, HA, HK1, HB⟩ := hrel
   cases gk with
   | zero => exact absurd HA.out (by simp [laws_szRuleS.l0])
   | succ k1 =>
    have H := HA.out
    clear HA
    simp only [laws_szRuleS.l0] at H
    by_cases c4 : x5_1 < (l0.length : Int)
    ·rw [if_pos c4] at H
     have c4b0 : decide (x5_1 < (l0.length : Int)) = true := dT c4
     clear c4
     by_cases c5 : 0 ≤ x5_1
     ·rw [if_pos c5] at H
      have c5b0 : decide (0 ≤ x5_1) = true := dT c5
      clear c5
      replace H := oB H
      obtain ⟨bn, co, H⟩ := H
      try dsimp only at H
      have A6 := aM co
      clear co
      by_cases c7 : bn < 0
      ·rw [if_pos c7] at H
       have c7b0 : decide (bn < 0) = true := dT c7
       clear c7
       obtain rfl := sI H
       have p102 : 0 ≤ (x5_1 : Int) := oD z1
       have q102 : x5_1 < (l0.length : Int) := oD z1
       obtain ⟨ad102, e102, hx102_0, hx102_1⟩ := at_T37 aK.out x5_1 p102 q102
       cases e102
       replace hx102_0 := (HB.out.cell (World.block_lt_of_cell? w _ hx102_0)).trans hx102_0
       replace hx102_1 := (HB.out.cell (World.block_lt_of_cell? w _ hx102_1)).trans hx102_1
       replace p102 := eq_true p102
       replace q102 := eq_true q102
       go_wp2_with (first | ((with_reducible refine al (f := 17) rfl ?_); refine goesL_ (some 23) rfl rfl Try.func17 z0 rfl #[.agg #[.string ((rd_T37 l0 x5_1).f0), .string ((rd_T37 l0 x5_1).f1)], .int .i64 x1_1] rfl z6 ?_; (with_reducible refine (laws_szRule.calls ((rd_T37 l0 x5_1).f0) ((rd_T37 l0 x5_1).f1) x1_1 bn _ A6.out).mono ?_); rintro e w8 ⟨rfl, hb⟩; refine ⟨_, rfl, ?_⟩; have aw := aM (aj z5 hb); clear HB; have HB := aw; clear aw; (try clear hb); (try clear hb2); (try clear hk); (try clear hi)))
       go_ret
       exact ⟨y2, y3⟩
      ·rw [if_neg c7] at H
       have c7b0 : decide (bn < 0) = false := dF c7
       clear c7
       have H' := aM H
       clear H
       have p102 : 0 ≤ (x5_1 : Int) := oD z1
       have q102 : x5_1 < (l0.length : Int) := oD z1
       obtain ⟨ad102, e102, hx102_0, hx102_1⟩ := at_T37 aK.out x5_1 p102 q102
       cases e102
       replace hx102_0 := (HB.out.cell (World.block_lt_of_cell? w _ hx102_0)).trans hx102_0
       replace hx102_1 := (HB.out.cell (World.block_lt_of_cell? w _ hx102_1)).trans hx102_1
       replace p102 := eq_true p102
       replace q102 := eq_true q102
       go_wp2_with (first | ((with_reducible refine al (f := 17) rfl ?_); refine goesL_ (some 23) rfl rfl Try.func17 z0 rfl #[.agg #[.string ((rd_T37 l0 x5_1).f0), .string ((rd_T37 l0 x5_1).f1)], .int .i64 x1_1] rfl z6 ?_; (with_reducible refine (laws_szRule.calls ((rd_T37 l0 x5_1).f0) ((rd_T37 l0 x5_1).f1) x1_1 bn _ A6.out).mono ?_); rintro e w9 ⟨rfl, hb⟩; refine ⟨_, rfl, ?_⟩; have aw := aM (aj z5 hb); clear HB; have HB := aw; clear aw; (try clear hb); (try clear hb2); (try clear hk); (try clear hi)))
       go_roundg k1
       case measure => have := HK1.out; omega
       case rel => exact ⟨(bn), (wrap64 (x5_1 + 1)), (by first | rfl | (simp; done) | (simp [*]; done)), (by first | rfl | (simp; done) | (simp [*]; done)), H', ⟨by have := HK1.out; omega⟩, ⟨y3⟩⟩
     ·rw [if_neg c5] at H
      exact absurd H (by simp)
    ·rw [if_neg c4] at H
     have c4b0 : decide (x5_1 < (l0.length : Int)) = false := dF c4
     clear c4
     obtain rfl := sI H
     go_wp2
     go_ret
     exact ⟨y2, y3⟩

/-! ### laws_toRule: function 20 -/
def laws_toRule.f (a0_0 : ByteArray) (a0_1 : ByteArray) : Option (ByteArray × ByteArray) := some (a0_0, a0_1)
set_option maxHeartbeats 8000000 in
set_option maxRecDepth 100000 in
theorem laws_toRule.calls (a0_0 : ByteArray) (a0_1 : ByteArray) (r1 : ByteArray) (r2 : ByteArray) (w : World) (h : laws_toRule.f a0_0 a0_1 = some (r1, r2)) :
  Calls Try.prog 20 #[.agg #[.string a0_0, .string a0_1]] w fun e w' => e = .returned (.agg #[.string r1, .string r2]) ∧ Below w.heap.size w w' := by
 have hu37 := Try.underlying37
 have hu38 := Try.underlying38
 have HB := aM (Below.refl w.heap.size w)
 have H : (some (a0_0, a0_1)) = some (r1, r2) := h
 clear h
 simp only [Option.some.injEq, Prod.mk.injEq] at H
 obtain ⟨rfl, rfl⟩ := H
 go_enter Try.func20, Try.ntmps20
 go_wp2_with (first | ((with_reducible refine am (N := 1) rfl ?_); refine ao ?hg (N := 1) ?hd (cs := #[.string a0_0, .string a0_1]) (t := 37) ?hr ?_; (case hd => rfl); (case hg => rfl); (case hr => first | (go_simp; done) | (go_simp; rfl)); intro aR hg w2 hbox hb; have aw := aM (aj z5 hb); have ax := aM (hbox); have az := aM ((by rw [hg]; exact (ak z5) : w.heap.size ≤ aR)); have aA := aM ((by rw [hg]; exact (ak z5) : w.heap.size ≤ aR)); clear HB; have HB := aw; have aW := ax; have GW104 := az; have bl := aA; clear aw ax az aA; clear hb hbox hg) | ((with_reducible refine am (N := 2) rfl ?_); refine ao ?hg (N := 2) ?hd (cs := #[.string (⟨#[]⟩ : ByteArray), .string (⟨#[]⟩ : ByteArray)]) (t := 38) ?hr ?_; (case hd => rfl); (case hg => rfl); (case hr => first | (go_simp; done) | (go_simp; rfl)); intro a6 hg w3 hbox hb; have aw := aM (ae (g := aR) (o := .cells #[.string a0_0, .string a0_1] 37 (0, 0)) (by (with_reducible repeat (first | refine ag ?_ _ | refine af ?_ | refine ah ?_ _)); exact aW.out) hb); have ax := aM (aj (by repeat (first | (with_reducible first | exact HB.out | apply bA | apply pD | apply bD | refine ai ?_ bl.out) | exact HB.out)) hb); have az := aM (hbox); have aA := aM ((by rw [hg]; exact (ak (by repeat (first | (with_reducible first | exact HB.out | apply bA | apply pD | apply bD | refine ai ?_ bl.out) | exact HB.out))) : w.heap.size ≤ a6)); have bI := aM ((by rw [hg]; exact (ak (by repeat (first | (with_reducible first | exact HB.out | apply bA | apply pD | apply bD | refine ai ?_ bl.out) | exact HB.out))) : w.heap.size ≤ a6)); have bH := aM ((by rw [hg]; exact Nat.ne_of_lt (blk_lt (g := aR) (o := .cells #[.string a0_0, .string a0_1] 37 (0, 0)) (by (with_reducible repeat (first | refine ag ?_ _ | refine af ?_ | refine ah ?_ _)); exact aW.out)) : aR ≠ a6)); have bG := aM ((by rw [hg]; exact Nat.ne_of_gt (blk_lt (g := aR) (o := .cells #[.string a0_0, .string a0_1] 37 (0, 0)) (by (with_reducible repeat (first | refine ag ?_ _ | refine af ?_ | refine ah ?_ _)); exact aW.out)) : a6 ≠ aR)); clear aW; clear HB; have aW := aw; have HB := ax; have a9 := az; have GW105 := aA; have bP := bI; have NB104_105 := bH; have NB105_104 := bG; clear aw ax az aA bI bH bG; clear hb hbox hg) | ((with_reducible refine am (N := 3) rfl ?_); refine ao ?hg (N := 3) ?hd (cs := #[.string (⟨#[]⟩ : ByteArray), .string (⟨#[]⟩ : ByteArray)]) (t := 38) ?hr ?_; (case hd => rfl); (case hg => rfl); (case hr => first | (go_simp; done) | (go_simp; rfl)); intro bf hg w4 hbox hb; have aw := aM (ae (g := aR) (o := .cells #[.string a0_0, .string a0_1] 37 (0, 0)) (by (with_reducible repeat (first | refine ag ?_ _ | refine af ?_ | refine ah ?_ _)); exact aW.out) hb); have ax := aM (ae (g := a6) (o := .cells #[.string (⟨#[]⟩ : ByteArray), .string (⟨#[]⟩ : ByteArray)] 38 (0, 0)) (by (with_reducible repeat (first | refine ag ?_ _ | refine af ?_ | refine ah ?_ _)); exact a9.out) hb); have az := aM (aj (by repeat (first | (with_reducible first | exact HB.out | apply bA | apply pD | apply bD | refine ai ?_ bl.out | refine ai ?_ bP.out) | exact HB.out)) hb); have aA := aM (hbox); have bI := aM ((by rw [hg]; exact (ak (by repeat (first | (with_reducible first | exact HB.out | apply bA | apply pD | apply bD | refine ai ?_ bl.out | refine ai ?_ bP.out) | exact HB.out))) : w.heap.size ≤ bf)); have bH := aM ((by rw [hg]; exact (ak (by repeat (first | (with_reducible first | exact HB.out | apply bA | apply pD | apply bD | refine ai ?_ bl.out | refine ai ?_ bP.out) | exact HB.out))) : w.heap.size ≤ bf)); have bG := aM ((by rw [hg]; exact Nat.ne_of_lt (blk_lt (g := aR) (o := .cells #[.string a0_0, .string a0_1] 37 (0, 0)) (by (with_reducible repeat (first | refine ag ?_ _ | refine af ?_ | refine ah ?_ _)); exact aW.out)) : aR ≠ bf)); have de := aM ((by rw [hg]; exact Nat.ne_of_gt (blk_lt (g := aR) (o := .cells #[.string a0_0, .string a0_1] 37 (0, 0)) (by (with_reducible repeat (first | refine ag ?_ _ | refine af ?_ | refine ah ?_ _)); exact aW.out)) : bf ≠ aR)); have dd := aM ((by rw [hg]; exact Nat.ne_of_lt (blk_lt (g := a6) (o := .cells #[.string (⟨#[]⟩ : ByteArray), .string (⟨#[]⟩ : ByteArray)] 38 (0, 0)) (by (with_reducible repeat (first | refine ag ?_ _ | refine af ?_ | refine ah ?_ _)); exact a9.out)) : a6 ≠ bf)); have dc := aM ((by rw [hg]; exact Nat.ne_of_gt (blk_lt (g := a6) (o := .cells #[.string (⟨#[]⟩ : ByteArray), .string (⟨#[]⟩ : ByteArray)] 38 (0, 0)) (by (with_reducible repeat (first | refine ag ?_ _ | refine af ?_ | refine ah ?_ _)); exact a9.out)) : bf ≠ a6)); clear aW; clear a9; clear HB; have aW := aw; have a9 := ax; have HB := az; have bS := aA; have GW106 := bI; have GE106 := bH; have NB104_106 := bG; have NB106_104 := de; have bb := dd; have NB106_105 := dc; clear aw ax az aA bI bH bG de dd dc; clear hb hbox hg; have hnb5 := NB104_105.out; have hnc5 := NB105_104.out; have hnb6 := NB104_106.out; have hnc6 := NB106_104.out; have hcz7_0 : w4.cell? ⟨aR, 0, none⟩ = some (.string a0_0) := (bC aW.out 0).trans rfl; have hcz7_1 : w4.cell? ⟨aR, 1, none⟩ = some (.string a0_1) := (bC aW.out 1).trans rfl; have hfz7_0 := bF aW.out 0; have hfz7_1 := bF aW.out 1; have hnb8 := NB106_105.out; have hnc8 := bb.out; have hcz9_0 : w4.cell? ⟨bf, 0, none⟩ = some (.string (⟨#[]⟩ : ByteArray)) := (bC bS.out 0).trans rfl; have hcz9_1 : w4.cell? ⟨bf, 1, none⟩ = some (.string (⟨#[]⟩ : ByteArray)) := (bC bS.out 1).trans rfl; have hfz9_0 := bF bS.out 0; have hfz9_1 := bF bS.out 1; have bM : w4.cell? ⟨a6, 0, none⟩ = some (.string (⟨#[]⟩ : ByteArray)) := (bC a9.out 0).trans rfl; have bL : w4.cell? ⟨a6, 1, none⟩ = some (.string (⟨#[]⟩ : ByteArray)) := (bC a9.out 1).trans rfl; have bK := bF a9.out 0; have bJ := bF a9.out 1))
 refine bodyPost_ret (results_cell_row rfl _ _ a6 38 #[.string a0_0, .string a0_1] (0, 0) _ rfl (by (with_reducible repeat (first | refine ag ?_ _ | refine af ?_ | refine ah ?_ _)); refine blk_put (cs := #[.string a0_0, .string (⟨#[]⟩ : ByteArray)]) ?_ 1 _ rfl; (with_reducible repeat (first | refine ag ?_ _ | refine af ?_ | refine ah ?_ _)); refine blk_put (cs := #[.string (⟨#[]⟩ : ByteArray), .string (⟨#[]⟩ : ByteArray)]) ?_ 0 _ rfl; (with_reducible repeat (first | refine ag ?_ _ | refine af ?_ | refine ah ?_ _)); refine blk_far ?_ bb.out _; (with_reducible repeat (first | refine ag ?_ _ | refine af ?_ | refine ah ?_ _)); refine blk_far ?_ bb.out _; (with_reducible repeat (first | refine ag ?_ _ | refine af ?_ | refine ah ?_ _)); exact a9.out) Try.underlying38 rfl z0) rfl ?_
 exact ⟨y2, by repeat (first | (with_reducible first | exact HB.out | apply bA | apply pD | apply bD | refine ai ?_ bl.out | refine ai ?_ bP.out | refine ai ?_ GE106.out) | exact HB.out)⟩

/-! ### laws_toRuleS: function 8 -/
def laws_toRuleS.l0 : Nat → List (S37) → List (S38) → Int → Option ((List (S38)))
 | 0, _, _, _ => none
 | k + 1, x0, x3, x4 => if x4 < (x0.length : Int) then (if 0 ≤ x4 then ((laws_toRule.f ((rd_T37 x0 x4).f0) ((rd_T37 x0 x4).f1)).bind fun ch => (if x4 < (x3.length : Int) then (laws_toRuleS.l0 k x0 (x3.set (x4 : Int).toNat (⟨ch.1, ch.2⟩ : S38)) (wrap64 (x4 + 1))) else (none))) else (none)) else (some x3)
def laws_toRuleS.f (k : Nat) (l0 : List (S37)) : Option ((List (S38))) := if 0 ≤ (l0.length : Int) then (if ((l0.length : Int) : Int).toNat ≤ 8796093022208 then (laws_toRuleS.l0 k l0 (List.replicate ((l0.length : Int) : Int).toNat z38) 0) else (none)) else (none)
theorem laws_toRuleS.mono_l : ∀ k, (∀ y0 y1 y2, LeO (laws_toRuleS.l0 k y0 y1 y2) (laws_toRuleS.l0 (k + 1) y0 y1 y2))
 | 0 => fun _ _ _ r h => by simp [laws_toRuleS.l0] at h
 | k + 1 => by
  have ih0 := laws_toRuleS.mono_l k
  ·intro y0 y1 y2
   unfold laws_toRuleS.l0
   repeat' first
   | (with_reducible exact ih0 _ _ _)
   | (with_reducible exact LeO.refl _)
   | (with_reducible exact LeO.none _)
   | (with_reducible refine LeO.ite ?_ ?_)
   | (with_reducible refine LeO.bind ?_ (fun _ => ?_))
   | exact ih0 _ _ _
   | exact LeO.none _
   | refine LeO.ite ?_ ?_
   | refine LeO.bind ?_ (fun _ => ?_)
theorem laws_toRuleS.mono : ∀ a0 k, LeO (laws_toRuleS.f k a0) (laws_toRuleS.f (k + 1) a0) := by
 intro a0 k
 have ih0 := laws_toRuleS.mono_l k
 unfold laws_toRuleS.f
 repeat' first
   | (with_reducible exact ih0 _ _ _)
   | (with_reducible exact LeO.refl _)
   | (with_reducible exact LeO.none _)
   | (with_reducible refine LeO.ite ?_ ?_)
   | (with_reducible refine LeO.bind ?_ (fun _ => ?_))
   | exact ih0 _ _ _
   | exact LeO.none _
   | refine LeO.ite ?_ ?_
   | refine LeO.bind ?_ (fun _ => ?_)
set_option maxHeartbeats 8000000 in
set_option maxRecDepth 100000 in
theorem laws_toRuleS.calls (k : Nat) (A0 : Option Addr) (c0 : Nat) (l0 : List (S37)) (r : List (S38)) (w : World) (hr0 : Kd.C k37 w A0 l0.length l0) (hc0 : l0.length ≤ c0) (h : laws_toRuleS.f k l0 = some r) :
  Calls Try.prog 8 #[.slice A0 l0.length c0] w fun e w' => ∃ v0_ : Value, e = .returned (v0_) ∧ Kd.R k38 38 w' w.heap.size (fun _ => True) v0_ r ∧ Below w.heap.size w w' := by
 have hu37 := Try.underlying37
 have hu38 := Try.underlying38
 have aK := aM hr0
 have bo := aM hc0
 clear hr0 hc0
 have HB := aM (Below.refl w.heap.size w)
 have H : (if 0 ≤ (l0.length : Int) then (if ((l0.length : Int) : Int).toNat ≤ 8796093022208 then (laws_toRuleS.l0 k l0 (List.replicate ((l0.length : Int) : Int).toNat z38) 0) else (none)) else (none)) = some r := h
 clear h
 by_cases c2 : 0 ≤ (l0.length : Int)
 ·rw [if_pos c2] at H
  have c2b0 := eq_true c2
  have c2b1 : decide (0 ≤ (l0.length : Int)) = true := dT c2
  clear c2
  by_cases c3 : ((l0.length : Int) : Int).toNat ≤ 8796093022208
  ·rw [if_pos c3] at H
   have c3b0 := eq_true c3
   have c3b1 : decide (((l0.length : Int) : Int).toNat ≤ 8796093022208) = true := dT c3
   (try (have c3b1n := c3b1; simp only [Int.toNat_natCast] at c3b1n))
   clear c3
   obtain ⟨y107, hy107⟩ : ∃ y_ : List (S38), y_ = (List.replicate ((l0.length : Int) : Int).toNat z38) := ⟨_, rfl⟩
   replace H : (laws_toRuleS.l0 k l0 y107 0) = some r := by first | (rw [hy107]; with_reducible exact H) | (have H2_ := (Option.bind_some _ _).symm.trans H; rw [hy107]; with_reducible exact H2_) | (have H2_ := (Option.bind_some _ _).symm.trans H; with_reducible exact H2_) | with_reducible exact H | (rw [hy107]; exact H) | exact H
   have Ny107 := aM hy107
   clear hy107
   have H' := aM H
   clear H
   go_enter Try.func8, Try.ntmps8
   go_wp2_with (first | ((with_reducible refine am (N := 7) rfl ?_); refine Kd.R_make k38 _ 38 rfl (N := 7) rfl 25 _ _ rfl (l0.length : Int) rfl rfl Try.underlying25 (.agg #[(.string ⟨#[]⟩), (.string ⟨#[]⟩)]) 32 info38 rfl (by decide) (by omega) z38 (ok := fun _ => True) (okp := fun _ => True) (k38_mkM _ _ _ z38 ) (fun _ hk => hk) trivial (oD z1) (Nat.le_trans (Nat.mul_le_mul_right _ (oD z1 : (l0.length : Int).toNat ≤ 8796093022208)) (by omega)) (Below.refl _ _) (Nat.le_refl _) ?_; intro v108 w4 ho5 hb hg_ hnew_; clear hg_ hnew_; (first | rw [← Ny107.out] at ho5 | (simp only [Int.reduceToNat] at ho5; rw [← Ny107.out] at ho5)); have aw := aM (Kd.R_lower ho5 (ak z5)); have ax := aM (aj z5 hb); clear HB; have HO109 := aw; have HB := ax; clear aw ax; clear hb ho5))
   go_loopg [4] k (fun kq v4 w' => ∃ (x3_1 : List (S38)) (x4_1 : Int), v4 = .int .i64 x4_1 ∧ Aside0 (laws_toRuleS.l0 kq l0 x3_1 x4_1 = some r) ∧ Aside0 (kq ≤ k) ∧ Aside0 (Kd.R k38 38 w' w.heap.size (fun _ => True) v108 x3_1) ∧ Aside0 (Below w.heap.size w w'))
   case atStart => exact ⟨(y107), (0), (by first | rfl | (simp; done) | (simp [*]; done)), H', ⟨Nat.le_refl _⟩, ⟨by (with_reducible repeat (first | apply ac | apply ab | apply aa)); exact HO109.out⟩, ⟨y3⟩⟩
   case round =>
    clear H'
    try clear c2
    try clear c2b0
    try clear c2b1
    try clear p2
    try clear c3
    try clear c3b0
    try clear c3b1
    obtain ⟨x3_1, x4_1, rfl, HA, HK1, bj, HB⟩ := hrel
    cases gk with
    | zero => exact absurd HA.out (by simp [laws_toRuleS.l0])
    | succ k1 =>
     have H := HA.out
     clear HA
     simp only [laws_toRuleS.l0] at H
     by_cases c6 : x4_1 < (l0.length : Int)
     ·rw [if_pos c6] at H
      have c6b0 : decide (x4_1 < (l0.length : Int)) = true := dT c6
      clear c6
      by_cases c7 : 0 ≤ x4_1
      ·rw [if_pos c7] at H
       have c7b0 : decide (0 ≤ x4_1) = true := dT c7
       clear c7
       replace H := oB H
       obtain ⟨⟨bX, bW⟩, cK, H⟩ := H
       try dsimp only at H
       have A8 := aM cK
       clear cK
       by_cases c9 : x4_1 < (x3_1.length : Int)
       ·rw [if_pos c9] at H
        have c9b0 : decide (x4_1 < (x3_1.length : Int)) = true := dT c9
        clear c9
        obtain ⟨y113, hy113⟩ : ∃ y_ : List (S38), y_ = (x3_1.set (x4_1 : Int).toNat (⟨bX, bW⟩ : S38)) := ⟨_, rfl⟩
        replace H : (laws_toRuleS.l0 k1 l0 y113 (wrap64 (x4_1 + 1))) = some r := by first | (rw [hy113]; with_reducible exact H) | (have H2_ := (Option.bind_some _ _).symm.trans H; rw [hy113]; with_reducible exact H2_) | (have H2_ := (Option.bind_some _ _).symm.trans H; with_reducible exact H2_) | with_reducible exact H | (rw [hy113]; exact H) | exact H
        have Ny113 := aM hy113
        clear hy113
        have H' := aM H
        clear H
        have p110 : 0 ≤ (x4_1 : Int) := oD z1
        have q110 : x4_1 < (l0.length : Int) := oD z1
        obtain ⟨ad110, e110, hx110_0, hx110_1⟩ := at_T37 aK.out x4_1 p110 q110
        cases e110
        replace hx110_0 := (HB.out.cell (World.block_lt_of_cell? w _ hx110_0)).trans hx110_0
        replace hx110_1 := (HB.out.cell (World.block_lt_of_cell? w _ hx110_1)).trans hx110_1
        replace p110 := eq_true p110
        replace q110 := eq_true q110
        go_wp2_with (first | ((with_reducible refine al (f := 20) rfl ?_); refine goesL_ (some 20) rfl rfl Try.func20 z0 rfl #[.agg #[.string ((rd_T37 l0 x4_1).f0), .string ((rd_T37 l0 x4_1).f1)]] rfl z6 ?_; (with_reducible refine (laws_toRule.calls ((rd_T37 l0 x4_1).f0) ((rd_T37 l0 x4_1).f1) bX bW _ A8.out).mono ?_); rintro e w11 ⟨rfl, hb⟩; refine ⟨_, rfl, ?_⟩; have aw := aM (Kd.R_below (by (with_reducible repeat (first | apply ac | apply ab | apply aa)); exact bj.out) hb); have ax := aM (aj z5 hb); clear bj; clear HB; have bj := aw; have HB := ax; clear aw ax; (try clear hb); (try clear hb2); (try clear hk); (try clear hi); have p10 : 0 ≤ (x4_1 : Int) := oD z1; have q10 : (x4_1 : Int) < ((x3_1.length : Int) : Int) := oD z1; obtain ⟨go10, cI, eo10, cH, gl10, cl10, HG10⟩ := Kd.R_form bj.out (by omega); (first | cases eo10 | (injection eo10 with ea_ en_ ec_; (first | subst ea_ | (injection ea_ with ea_; subst ea_)); subst ec_; clear en_)); have GB10 := aM cH; have GG10 := aM HG10; clear cH gl10 HG10; obtain ⟨ce10, hcl10, hM10, hcc10, hfr10⟩ := Kd.R_elem bj.out z38 (x4_1 : Int) p10 q10; obtain rfl := k38_openM hM10; have hx10_0 : w11.cell? ⟨go10, (x4_1 : Int).toNat * 2, none⟩ = some (.string ((rd_T38 x3_1 x4_1).f0)) := hcc10 0 _ rfl; have hx10_1 : w11.cell? ⟨go10, (x4_1 : Int).toNat * 2 + 1, none⟩ = some (.string ((rd_T38 x3_1 x4_1).f1)) := hcc10 1 _ rfl; have hf10_0 : w11.frozen? ⟨go10, (x4_1 : Int).toNat * 2, none⟩ = false := hfr10 0; have hf10_1 : w11.frozen? ⟨go10, (x4_1 : Int).toNat * 2 + 1, none⟩ = false := hfr10 1; clear hcl10 hcc10 hfr10; (try clear hM10); replace p10 := eq_true p10; replace q10 := eq_true q10; have HX12 := aM (show Kd.R k38 38 w11 w.heap.size (fun _ => True) (.slice (some ⟨go10, 0, none⟩) x3_1.length cI) x3_1 from (by (with_reducible repeat (first | apply ac | apply ab | apply aa)); exact bj.out)); obtain ⟨ce12, hcl12, hM12, hcc12, hfr12⟩ := Kd.R_elem HX12.out z38 (x4_1 : Int) (oD z1) (by have h_ : (x4_1 : Int) < ((x3_1.length : Int) : Int) := oD z1; first | exact h_ | (have e_ := (Kd.R_reads' bj.out).1; omega) | simpa using h_); obtain rfl := k38_openM hM12; have HP12 := Kd.R_seg HX12.out (x4_1 : Int) (oD z1) (by have h_ : (x4_1 : Int) < ((x3_1.length : Int) : Int) := oD z1; first | exact h_ | (have e_ := (Kd.R_reads' bj.out).1; omega) | simpa using h_) (seg := [.string bX, .string bW]) (j := 0) hcl12 hcc12 (show 2 ≤ 2 from by decide) (x' := (⟨bX, bW⟩ : S38)) (k38_mkM _ _ _ (⟨bX, bW⟩ : S38) ) (fun _ hk => hk); have hx12_0 := hcc12 0 _ rfl; (try simp only [show (k38).sz = 2 from rfl, Nat.mul_one, Nat.add_zero] at hx12_0); have hf12_0 := hfr12 0; (try simp only [show (k38).sz = 2 from rfl, Nat.mul_one, Nat.add_zero] at hf12_0); have hx12_1 := hcc12 1 _ rfl; (try simp only [show (k38).sz = 2 from rfl, Nat.mul_one, Nat.add_zero] at hx12_1); have hf12_1 := hfr12 1; (try simp only [show (k38).sz = 2 from rfl, Nat.mul_one, Nat.add_zero] at hf12_1); clear hcl12 hcc12 hfr12; (try clear hM12)) | ((with_reducible refine gate_store (t := 38) (p := 21) rfl ?_); refine store_event (t := 38) (p := 21) (v := ?vo_w13) (w1 := ((w11.setCell ⟨go10, (x4_1 : Int).toNat * 2, none⟩ (.string bX)).setCell ⟨go10, (x4_1 : Int).toNat * 2 + 1, none⟩ (.string bW))) ?hg ?ho ?hn ?hr ?_; (case ho => rfl); (case hg => rfl); (case hn => rfl); (case hr => first | (go_simp; done) | (go_simp; rfl) | ((try simp only [Int.toNat_natCast] at *); go_simp; first | done | rfl)); intro w13 hw; have hg : w11.grownBy w13 (some go10) := (by rw [hw]; exact HP12.2); have hp_ : Kd.R k38 38 w13 w.heap.size (fun _ => True) (.slice (some ⟨go10, 0, none⟩) x3_1.length cI) y113 := (by rw [hw, Ny113.out]; exact HP12.1); clear HP12; have aw := aM (hp_); have ax := aM ((by rw [hw]; exact ai (ai (HB.out) GB10.out) GB10.out : Below w.heap.size w w13)); clear bj; clear HB; have bj := aw; have HB := ax; clear aw ax; clear hg hw hp_))
        go_roundg k1
        case measure => have := HK1.out; omega
        case rel => exact ⟨(y113), (wrap64 (x4_1 + 1)), (by first | rfl | (simp; done) | (simp [*]; done)), H', ⟨by have := HK1.out; omega⟩, ⟨by (with_reducible repeat (first | apply ac | apply ab | apply aa)); exact bj.out⟩, ⟨y3⟩⟩
       ·rw [if_neg c9] at H
        exact absurd H (by simp)
      ·rw [if_neg c7] at H
       exact absurd H (by simp)
     ·rw [if_neg c6] at H
      have c6b0 : decide (x4_1 < (l0.length : Int)) = false := dF c6
      clear c6
      obtain rfl := sI H
      go_wp2
      go_ret
      exact ⟨_, y2, by (with_reducible repeat (first | apply ac | apply ab | apply aa)); exact bj.out, y3⟩
  ·rw [if_neg c3] at H
   exact absurd H (by simp)
 ·rw [if_neg c2] at H
  exact absurd H (by simp)

/-! ### laws_eqRule: function 23 -/
def laws_eqRule.f (a0_0 : ByteArray) (a0_1 : ByteArray) (a1_0 : ByteArray) (a1_1 : ByteArray) : Option (Bool) := if a0_0.toList = a1_0.toList then (if a0_1.toList = a1_1.toList then (some true) else (some false)) else (some false)
set_option maxHeartbeats 8000000 in
set_option maxRecDepth 100000 in
theorem laws_eqRule.calls (a0_0 : ByteArray) (a0_1 : ByteArray) (a1_0 : ByteArray) (a1_1 : ByteArray) (r : Bool) (w : World) (h : laws_eqRule.f a0_0 a0_1 a1_0 a1_1 = some r) :
  Calls Try.prog 23 #[.agg #[.string a0_0, .string a0_1], .agg #[.string a1_0, .string a1_1]] w fun e w' => e = .returned (.bool r) ∧ Below w.heap.size w w' := by
 have hu38 := Try.underlying38
 have HB := aM (Below.refl w.heap.size w)
 have H : (if a0_0.toList = a1_0.toList then (if a0_1.toList = a1_1.toList then (some true) else (some false)) else (some false)) = some r := h
 clear h
 by_cases c3 : a0_0.toList = a1_0.toList
 ·rw [if_pos c3] at H
  have c3b0 : (a0_0.toList == a1_0.toList) = true := qT c3
  have c3b1 : (a0_0.toList != a1_0.toList) = false := nF c3
  clear c3
  by_cases c4 : a0_1.toList = a1_1.toList
  ·rw [if_pos c4] at H
   have c4b0 : (a0_1.toList == a1_1.toList) = true := qT c4
   have c4b1 : (a0_1.toList != a1_1.toList) = false := nF c4
   clear c4
   obtain rfl := sI H
   go_enter Try.func23, Try.ntmps23
   go_wp2_with (first | ((with_reducible refine am (N := 2) rfl ?_); refine ao ?hg (N := 2) ?hd (cs := #[.string a0_0, .string a0_1]) (t := 38) ?hr ?_; (case hd => rfl); (case hg => rfl); (case hr => first | (go_simp; done) | (go_simp; rfl)); intro aD hg w5 hbox hb; have aw := aM (aj z5 hb); have ax := aM (hbox); have az := aM ((by rw [hg]; exact (ak z5) : w.heap.size ≤ aD)); have aA := aM ((by rw [hg]; exact (ak z5) : w.heap.size ≤ aD)); clear HB; have HB := aw; have aE := ax; have cl := az; have aU := aA; clear aw ax az aA; clear hb hbox hg) | ((with_reducible refine am (N := 3) rfl ?_); refine ao ?hg (N := 3) ?hd (cs := #[.string a1_0, .string a1_1]) (t := 38) ?hr ?_; (case hd => rfl); (case hg => rfl); (case hr => first | (go_simp; done) | (go_simp; rfl)); intro aG hg w6 hbox hb; have aw := aM (ae (g := aD) (o := .cells #[.string a0_0, .string a0_1] 38 (0, 0)) (by (with_reducible repeat (first | refine ag ?_ _ | refine af ?_ | refine ah ?_ _)); exact aE.out) hb); have ax := aM (aj (by repeat (first | (with_reducible first | exact HB.out | apply bA | apply pD | apply bD | refine ai ?_ aU.out) | exact HB.out)) hb); have az := aM (hbox); have aA := aM ((by rw [hg]; exact (ak (by repeat (first | (with_reducible first | exact HB.out | apply bA | apply pD | apply bD | refine ai ?_ aU.out) | exact HB.out))) : w.heap.size ≤ aG)); have bI := aM ((by rw [hg]; exact (ak (by repeat (first | (with_reducible first | exact HB.out | apply bA | apply pD | apply bD | refine ai ?_ aU.out) | exact HB.out))) : w.heap.size ≤ aG)); have bH := aM ((by rw [hg]; exact Nat.ne_of_lt (blk_lt (g := aD) (o := .cells #[.string a0_0, .string a0_1] 38 (0, 0)) (by (with_reducible repeat (first | refine ag ?_ _ | refine af ?_ | refine ah ?_ _)); exact aE.out)) : aD ≠ aG)); have bG := aM ((by rw [hg]; exact Nat.ne_of_gt (blk_lt (g := aD) (o := .cells #[.string a0_0, .string a0_1] 38 (0, 0)) (by (with_reducible repeat (first | refine ag ?_ _ | refine af ?_ | refine ah ?_ _)); exact aE.out)) : aG ≠ aD)); clear aE; clear HB; have aE := aw; have HB := ax; have aV := az; have ck := aA; have bu := bI; have aZ := bH; have aY := bG; clear aw ax az aA bI bH bG; clear hb hbox hg; have hnb7 := aZ.out; have hnc7 := aY.out; have hcz8_0 : w6.cell? ⟨aD, 0, none⟩ = some (.string a0_0) := (bC aE.out 0).trans rfl; have hcz8_1 : w6.cell? ⟨aD, 1, none⟩ = some (.string a0_1) := (bC aE.out 1).trans rfl; have hfz8_0 := bF aE.out 0; have hfz8_1 := bF aE.out 1; have hcz9_0 : w6.cell? ⟨aG, 0, none⟩ = some (.string a1_0) := (bC aV.out 0).trans rfl; have hcz9_1 : w6.cell? ⟨aG, 1, none⟩ = some (.string a1_1) := (bC aV.out 1).trans rfl; have hfz9_0 := bF aV.out 0; have hfz9_1 := bF aV.out 1))
   all_goals (try (exfalso; rename_i h_; rw [c3b0] at h_; cases h_; done))
   all_goals (try (exfalso; rename_i h_; rw [c4b0] at h_; cases h_; done))
   go_ret
   exact ⟨y2, by repeat (first | (with_reducible first | exact HB.out | apply bA | apply pD | apply bD | refine ai ?_ aU.out | refine ai ?_ bu.out) | exact HB.out)⟩
  ·rw [if_neg c4] at H
   have c4b0 : (a0_1.toList == a1_1.toList) = false := qF c4
   have c4b1 : (a0_1.toList != a1_1.toList) = true := nT c4
   obtain rfl := sI H
   go_enter Try.func23, Try.ntmps23
   go_wp2_with (first | ((with_reducible refine am (N := 2) rfl ?_); refine ao ?hg (N := 2) ?hd (cs := #[.string a0_0, .string a0_1]) (t := 38) ?hr ?_; (case hd => rfl); (case hg => rfl); (case hr => first | (go_simp; done) | (go_simp; rfl)); intro aD hg w10 hbox hb; have aw := aM (aj z5 hb); have ax := aM (hbox); have az := aM ((by rw [hg]; exact (ak z5) : w.heap.size ≤ aD)); have aA := aM ((by rw [hg]; exact (ak z5) : w.heap.size ≤ aD)); clear HB; have HB := aw; have aE := ax; have cl := az; have aU := aA; clear aw ax az aA; clear hb hbox hg) | ((with_reducible refine am (N := 3) rfl ?_); refine ao ?hg (N := 3) ?hd (cs := #[.string a1_0, .string a1_1]) (t := 38) ?hr ?_; (case hd => rfl); (case hg => rfl); (case hr => first | (go_simp; done) | (go_simp; rfl)); intro aG hg w11 hbox hb; have aw := aM (ae (g := aD) (o := .cells #[.string a0_0, .string a0_1] 38 (0, 0)) (by (with_reducible repeat (first | refine ag ?_ _ | refine af ?_ | refine ah ?_ _)); exact aE.out) hb); have ax := aM (aj (by repeat (first | (with_reducible first | exact HB.out | apply bA | apply pD | apply bD | refine ai ?_ aU.out) | exact HB.out)) hb); have az := aM (hbox); have aA := aM ((by rw [hg]; exact (ak (by repeat (first | (with_reducible first | exact HB.out | apply bA | apply pD | apply bD | refine ai ?_ aU.out) | exact HB.out))) : w.heap.size ≤ aG)); have bI := aM ((by rw [hg]; exact (ak (by repeat (first | (with_reducible first | exact HB.out | apply bA | apply pD | apply bD | refine ai ?_ aU.out) | exact HB.out))) : w.heap.size ≤ aG)); have bH := aM ((by rw [hg]; exact Nat.ne_of_lt (blk_lt (g := aD) (o := .cells #[.string a0_0, .string a0_1] 38 (0, 0)) (by (with_reducible repeat (first | refine ag ?_ _ | refine af ?_ | refine ah ?_ _)); exact aE.out)) : aD ≠ aG)); have bG := aM ((by rw [hg]; exact Nat.ne_of_gt (blk_lt (g := aD) (o := .cells #[.string a0_0, .string a0_1] 38 (0, 0)) (by (with_reducible repeat (first | refine ag ?_ _ | refine af ?_ | refine ah ?_ _)); exact aE.out)) : aG ≠ aD)); clear aE; clear HB; have aE := aw; have HB := ax; have aV := az; have ck := aA; have bu := bI; have aZ := bH; have aY := bG; clear aw ax az aA bI bH bG; clear hb hbox hg; have hnb12 := aZ.out; have hnc12 := aY.out; have hcz13_0 : w11.cell? ⟨aD, 0, none⟩ = some (.string a0_0) := (bC aE.out 0).trans rfl; have hcz13_1 : w11.cell? ⟨aD, 1, none⟩ = some (.string a0_1) := (bC aE.out 1).trans rfl; have hfz13_0 := bF aE.out 0; have hfz13_1 := bF aE.out 1; have hcz14_0 : w11.cell? ⟨aG, 0, none⟩ = some (.string a1_0) := (bC aV.out 0).trans rfl; have hcz14_1 : w11.cell? ⟨aG, 1, none⟩ = some (.string a1_1) := (bC aV.out 1).trans rfl; have hfz14_0 := bF aV.out 0; have hfz14_1 := bF aV.out 1))
   all_goals (try (exfalso; rename_i h_; rw [c3b0] at h_; cases h_; done))
   all_goals (try (exfalso; rename_i h_; rw [c4b0] at h_; cases h_; done))
   go_ret
   exact ⟨y2, by repeat (first | (with_reducible first | exact HB.out | apply bA | apply pD | apply bD | refine ai ?_ aU.out | refine ai ?_ bu.out) | exact HB.out)⟩
 ·rw [if_neg c3] at H
  have c3b0 : (a0_0.toList == a1_0.toList) = false := qF c3
  have c3b1 : (a0_0.toList != a1_0.toList) = true := nT c3
  obtain rfl := sI H
  go_enter Try.func23, Try.ntmps23
  go_wp2_with (first | ((with_reducible refine am (N := 2) rfl ?_); refine ao ?hg (N := 2) ?hd (cs := #[.string a0_0, .string a0_1]) (t := 38) ?hr ?_; (case hd => rfl); (case hg => rfl); (case hr => first | (go_simp; done) | (go_simp; rfl)); intro aD hg w15 hbox hb; have aw := aM (aj z5 hb); have ax := aM (hbox); have az := aM ((by rw [hg]; exact (ak z5) : w.heap.size ≤ aD)); have aA := aM ((by rw [hg]; exact (ak z5) : w.heap.size ≤ aD)); clear HB; have HB := aw; have aE := ax; have cl := az; have aU := aA; clear aw ax az aA; clear hb hbox hg) | ((with_reducible refine am (N := 3) rfl ?_); refine ao ?hg (N := 3) ?hd (cs := #[.string a1_0, .string a1_1]) (t := 38) ?hr ?_; (case hd => rfl); (case hg => rfl); (case hr => first | (go_simp; done) | (go_simp; rfl)); intro aG hg w16 hbox hb; have aw := aM (ae (g := aD) (o := .cells #[.string a0_0, .string a0_1] 38 (0, 0)) (by (with_reducible repeat (first | refine ag ?_ _ | refine af ?_ | refine ah ?_ _)); exact aE.out) hb); have ax := aM (aj (by repeat (first | (with_reducible first | exact HB.out | apply bA | apply pD | apply bD | refine ai ?_ aU.out) | exact HB.out)) hb); have az := aM (hbox); have aA := aM ((by rw [hg]; exact (ak (by repeat (first | (with_reducible first | exact HB.out | apply bA | apply pD | apply bD | refine ai ?_ aU.out) | exact HB.out))) : w.heap.size ≤ aG)); have bI := aM ((by rw [hg]; exact (ak (by repeat (first | (with_reducible first | exact HB.out | apply bA | apply pD | apply bD | refine ai ?_ aU.out) | exact HB.out))) : w.heap.size ≤ aG)); have bH := aM ((by rw [hg]; exact Nat.ne_of_lt (blk_lt (g := aD) (o := .cells #[.string a0_0, .string a0_1] 38 (0, 0)) (by (with_reducible repeat (first | refine ag ?_ _ | refine af ?_ | refine ah ?_ _)); exact aE.out)) : aD ≠ aG)); have bG := aM ((by rw [hg]; exact Nat.ne_of_gt (blk_lt (g := aD) (o := .cells #[.string a0_0, .string a0_1] 38 (0, 0)) (by (with_reducible repeat (first | refine ag ?_ _ | refine af ?_ | refine ah ?_ _)); exact aE.out)) : aG ≠ aD)); clear aE; clear HB; have aE := aw; have HB := ax; have aV := az; have ck := aA; have bu := bI; have aZ := bH; have aY := bG; clear aw ax az aA bI bH bG; clear hb hbox hg; have hnb17 := aZ.out; have hnc17 := aY.out; have hcz18_0 : w16.cell? ⟨aD, 0, none⟩ = some (.string a0_0) := (bC aE.out 0).trans rfl; have hcz18_1 : w16.cell? ⟨aD, 1, none⟩ = some (.string a0_1) := (bC aE.out 1).trans rfl; have hfz18_0 := bF aE.out 0; have hfz18_1 := bF aE.out 1; have hcz19_0 : w16.cell? ⟨aG, 0, none⟩ = some (.string a1_0) := (bC aV.out 0).trans rfl; have hcz19_1 : w16.cell? ⟨aG, 1, none⟩ = some (.string a1_1) := (bC aV.out 1).trans rfl; have hfz19_0 := bF aV.out 0; have hfz19_1 := bF aV.out 1))
  all_goals (try (exfalso; rename_i h_; rw [c3b0] at h_; cases h_; done))
  go_ret
  exact ⟨y2, by repeat (first | (with_reducible first | exact HB.out | apply bA | apply pD | apply bD | refine ai ?_ aU.out | refine ai ?_ bu.out) | exact HB.out)⟩

/-! ### laws_eqRuleS: function 10 -/
def laws_eqRuleS.l0 : Nat → List (S38) → List (S38) → Int → Option (Bool)
 | 0, _, _, _ => none
 | k + 1, x0, x1, x5 => if x5 < (x0.length : Int) then (if 0 ≤ x5 then (if x5 < (x1.length : Int) then ((laws_eqRule.f ((rd_T38 x0 x5).f0) ((rd_T38 x0 x5).f1) ((rd_T38 x1 x5).f0) ((rd_T38 x1 x5).f1)).bind fun cz => (if cz = true then (laws_eqRuleS.l0 k x0 x1 (wrap64 (x5 + 1))) else (some false))) else (none)) else (none)) else (some true)
def laws_eqRuleS.f (k : Nat) (l0 : List (S38)) (l1 : List (S38)) : Option (Bool) := if (l0.length : Int) = (l1.length : Int) then (laws_eqRuleS.l0 k l0 l1 0) else (some false)
theorem laws_eqRuleS.mono_l : ∀ k, (∀ y0 y1 y2, LeO (laws_eqRuleS.l0 k y0 y1 y2) (laws_eqRuleS.l0 (k + 1) y0 y1 y2))
 | 0 => fun _ _ _ r h => by simp [laws_eqRuleS.l0] at h
 | k + 1 => by
  have ih0 := laws_eqRuleS.mono_l k
  ·intro y0 y1 y2
   unfold laws_eqRuleS.l0
   repeat' first
   | (with_reducible exact ih0 _ _ _)
   | (with_reducible exact LeO.refl _)
   | (with_reducible exact LeO.none _)
   | (with_reducible refine LeO.ite ?_ ?_)
   | (with_reducible refine LeO.bind ?_ (fun _ => ?_))
   | exact ih0 _ _ _
   | exact LeO.none _
   | refine LeO.ite ?_ ?_
   | refine LeO.bind ?_ (fun _ => ?_)
theorem laws_eqRuleS.mono : ∀ a0 a1 k, LeO (laws_eqRuleS.f k a0 a1) (laws_eqRuleS.f (k + 1) a0 a1) := by
 intro a0 a1 k
 have ih0 := laws_eqRuleS.mono_l k
 unfold laws_eqRuleS.f
 repeat' first
   | (with_reducible exact ih0 _ _ _)
   | (with_reducible exact LeO.refl _)
   | (with_reducible exact LeO.none _)
   | (with_reducible refine LeO.ite ?_ ?_)
   | (with_reducible refine LeO.bind ?_ (fun _ => ?_))
   | exact ih0 _ _ _
   | exact LeO.none _
   | refine LeO.ite ?_ ?_
   | refine LeO.bind ?_ (fun _ => ?_)
def laws_eqRuleS.T6 : Bool × List (List Nat × List Nat) := (true, [([], []), ([], []), ([0, 1], [0, 1]), ([2], [2]), ([], []), ([], []), ([4, 5], [4, 5]), ([6], [6]), ([3, 7], [3, 7]), ([8], [8])])
def laws_eqRuleS.B6 : List Nat := [0, 0, 3, 7, 0, 0, 48, 112, 255, 511]
theorem laws_eqRuleS.tab6 : rtab .any (opsOf Try.f10 6) = laws_eqRuleS.T6 := by kernel_rfl
theorem laws_eqRuleS.bits6 : waitsOk laws_eqRuleS.T6.2 laws_eqRuleS.B6 = true := by kernel_rfl
set_option maxHeartbeats 8000000 in
set_option maxRecDepth 100000 in
theorem laws_eqRuleS.calls (k : Nat) (A0 : Option Addr) (c0 : Nat) (l0 : List (S38)) (A1 : Option Addr) (c1 : Nat) (l1 : List (S38)) (r : Bool) (w : World) (hr0 : Kd.C k38 w A0 l0.length l0) (hc0 : l0.length ≤ c0) (hr1 : Kd.C k38 w A1 l1.length l1) (hc1 : l1.length ≤ c1) (h : laws_eqRuleS.f k l0 l1 = some r) :
  Calls Try.prog 10 #[.slice A0 l0.length c0, .slice A1 l1.length c1] w fun e w' => e = .returned (.bool r) ∧ Below w.heap.size w w' := by
 have hu38 := Try.underlying38
 have aK := aM hr0
 have bo := aM hc0
 clear hr0 hc0
 have cJ := aM hr1
 have HC1 := aM hc1
 clear hr1 hc1
 have HB := aM (Below.refl w.heap.size w)
 have H : (if (l0.length : Int) = (l1.length : Int) then (laws_eqRuleS.l0 k l0 l1 0) else (some false)) = some r := h
 clear h
 by_cases c3 : (l0.length : Int) = (l1.length : Int)
 ·rw [if_pos c3] at H
  have c3b0 : ((l0.length : Int) == (l1.length : Int)) = true := qT c3
  have c3b1 : ((l0.length : Int) != (l1.length : Int)) = false := nF c3
  have c3b2 : (l0.length == l1.length) = true := by first | simpa using c3 | (simp at c3 ⊢; omega)
  clear c3
  have H' := aM H
  clear H
  go_enter Try.func10, Try.ntmps10
  go_wp2
  go_loopg [5] k (fun kq v5 w' => ∃ (x5_1 : Int), v5 = .int .i64 x5_1 ∧ Aside0 (laws_eqRuleS.l0 kq l0 l1 x5_1 = some r) ∧ Aside0 (kq ≤ k) ∧ Aside0 (Below w.heap.size w w'))
  case atStart => exact ⟨(0), (by first | rfl | (simp; done) | (simp [*]; done)), H', ⟨Nat.le_refl _⟩, ⟨y3⟩⟩
  case round =>
   clear H'
   try clear c1
   try clear p2
   try clear c3
   try clear c3b0
   try clear c3b1
   try clear c3b2
   obtain ⟨x5_1, rfl, HA, HK1, HB⟩ := hrel
   cases gk with
   | zero => exact absurd HA.out (by simp [laws_eqRuleS.l0])
   | succ k1 =>
    have H := HA.out
    clear HA
    simp only [laws_eqRuleS.l0] at H
    by_cases c4 : x5_1 < (l0.length : Int)
    ·rw [if_pos c4] at H
     have c4b0 : decide (x5_1 < (l0.length : Int)) = true := dT c4
     clear c4
     by_cases c5 : 0 ≤ x5_1
     ·rw [if_pos c5] at H
      have c5b0 : decide (0 ≤ x5_1) = true := dT c5
      clear c5
      by_cases c6 : x5_1 < (l1.length : Int)
      ·rw [if_pos c6] at H
       have c6b0 : decide (x5_1 < (l1.length : Int)) = true := dT c6
       clear c6
       replace H := oB H
       obtain ⟨cz, cn, H⟩ := H
       try dsimp only at H
       have A7 := aM cn
       clear cn
       by_cases c8 : cz = true
       ·subst c8
        rw [if_pos rfl] at H
        have H' := aM H
        clear H
        try go_wp2
        have aw := aM (bD HB.out)
        clear HB
        have HB := aw
        clear aw
        have p116 : 0 ≤ (x5_1 : Int) := oD z1
        have q116 : x5_1 < (l0.length : Int) := oD z1
        obtain ⟨ad116, e116, hx116_0, hx116_1⟩ := at_T38 aK.out x5_1 p116 q116
        have hw116_1 := hx116_1
        have hw116_0 := hx116_0
        cases e116
        replace hx116_0 := (HB.out.cell (World.block_lt_of_cell? w _ hx116_0)).trans hx116_0
        replace hx116_1 := (HB.out.cell (World.block_lt_of_cell? w _ hx116_1)).trans hx116_1
        replace p116 := eq_true p116
        replace q116 := eq_true q116
        have p117 : 0 ≤ (x5_1 : Int) := oD z1
        have q117 : x5_1 < (l1.length : Int) := oD z1
        obtain ⟨ad117, e117, hx117_0, hx117_1⟩ := at_T38 cJ.out x5_1 p117 q117
        have hw117_1 := hx117_1
        have hw117_0 := hx117_0
        cases e117
        replace hx117_0 := (HB.out.cell (World.block_lt_of_cell? w _ hx117_0)).trans hx117_0
        replace hx117_1 := (HB.out.cell (World.block_lt_of_cell? w _ hx117_1)).trans hx117_1
        replace p117 := eq_true p117
        replace q117 := eq_true q117
        refine start_ (n := 10) (S := fun w' => w'.cell? (ad116.add ((x5_1).toNat * 2)) = some (.string ((rd_T38 l0 x5_1).f0)) ∧ w'.cell? ⟨(ad116.add ((x5_1).toNat * 2)).block, (ad116.add ((x5_1).toNat * 2)).off + 1, none⟩ = some (.string ((rd_T38 l0 x5_1).f1)) ∧ w'.cell? (ad117.add ((x5_1).toNat * 2)) = some (.string ((rd_T38 l1 x5_1).f0)) ∧ w'.cell? ⟨(ad117.add ((x5_1).toNat * 2)).block, (ad117.add ((x5_1).toNat * 2)).off + 1, none⟩ = some (.string ((rd_T38 l1 x5_1).f1))) (ds := []) #[false, false, false, false, false, false, false, false, false, false] z0 rfl rfl ⟨((HB.out.cell (World.block_lt_of_cell? w _ hw116_0)).trans hw116_0), ((HB.out.cell (World.block_lt_of_cell? w _ hw116_1)).trans hw116_1), ((HB.out.cell (World.block_lt_of_cell? w _ hw117_0)).trans hw117_0), ((HB.out.cell (World.block_lt_of_cell? w _ hw117_1)).trans hw117_1)⟩ (fun hHeld => ?_); refine with_tabW laws_eqRuleS.tab6 laws_eqRuleS.bits6 (fun HT_ HW_ => ?_)
        generalize wr.drew = w9 at HB hx116_0 hx116_1 hx117_0 hx117_1 hHeld ⊢
        refine pA 0 17 ?_
        refine pA 1 18 ?_
        refine pA 2 19 ?_
        refine pA 4 21 ?_
        refine pA 5 22 ?_
        refine pA 6 23 ?_
        refine tA 3 20 ?_ (hy := by rintro w' ⟨s0, s1, s2, s3⟩; go_simp; with_reducible rfl)
        refine tA 7 24 ?_ (hy := by rintro w' ⟨s0, s1, s2, s3⟩; go_simp; with_reducible rfl)
        refine one_ (i := 8) (N := some 25) #[true, true, true, true, true, true, true, true, true, false] rfl rfl (one_of HT_.out z0) (by decide) (fun K hK => ?_)
        refine goes_ Try.func23 z0 rfl #[.agg #[.string ((rd_T38 l0 x5_1).f0), .string ((rd_T38 l0 x5_1).f1)], .agg #[.string ((rd_T38 l1 x5_1).f0), .string ((rd_T38 l1 x5_1).f1)]] (by rfl) rfl rfl z6 ?_
        with_reducible refine (laws_eqRule.calls ((rd_T38 l0 x5_1).f0) ((rd_T38 l0 x5_1).f1) ((rd_T38 l1 x5_1).f0) ((rd_T38 l1 x5_1).f1) true _ A7.out).mono ?_
        rintro e w10 ⟨rfl, hb⟩
        refine ⟨_, rfl, ?_⟩
        have aw := aM (aj z5 hb)
        clear HB
        have HB := aw
        clear aw
        (try clear hb)
        (try clear hb2)
        (try clear hk)
        (try clear hi)
        refine hK.out _ _ ⟨((HB.out.cell (World.block_lt_of_cell? w _ hw116_0)).trans hw116_0), ((HB.out.cell (World.block_lt_of_cell? w _ hw116_1)).trans hw116_1), ((HB.out.cell (World.block_lt_of_cell? w _ hw117_0)).trans hw117_0), ((HB.out.cell (World.block_lt_of_cell? w _ hw117_1)).trans hw117_1)⟩ (fun hHeld => ?_)
        clear hK K
        refine norm_ (a' := ?_) ?_ ?_
        rotate_left
        ·show Act.put _ (some 25) _ = _
         simp only [Act.put, sA, sB, sC, i64_w, i32_w]
         rfl
        refine pA 9 26 ?_
        refine done_ (done_of HT_.out z0) ?_
        try go_wp2
        go_roundg k1
        case measure => have := HK1.out; omega
        case rel => exact ⟨(wrap64 (x5_1 + 1)), (by first | rfl | (simp; done) | (simp [*]; done)), H', ⟨by have := HK1.out; omega⟩, ⟨y3⟩⟩
       ·replace c8 := Bool.eq_false_iff.mpr c8
        subst c8
        rw [if_neg (show ¬ (false = true) by decide)] at H
        obtain rfl := sI H
        try go_wp2
        have aw := aM (bD HB.out)
        clear HB
        have HB := aw
        clear aw
        have p116 : 0 ≤ (x5_1 : Int) := oD z1
        have q116 : x5_1 < (l0.length : Int) := oD z1
        obtain ⟨ad116, e116, hx116_0, hx116_1⟩ := at_T38 aK.out x5_1 p116 q116
        have hw116_1 := hx116_1
        have hw116_0 := hx116_0
        cases e116
        replace hx116_0 := (HB.out.cell (World.block_lt_of_cell? w _ hx116_0)).trans hx116_0
        replace hx116_1 := (HB.out.cell (World.block_lt_of_cell? w _ hx116_1)).trans hx116_1
        replace p116 := eq_true p116
        replace q116 := eq_true q116
        have p117 : 0 ≤ (x5_1 : Int) := oD z1
        have q117 : x5_1 < (l1.length : Int) := oD z1
        obtain ⟨ad117, e117, hx117_0, hx117_1⟩ := at_T38 cJ.out x5_1 p117 q117
        have hw117_1 := hx117_1
        have hw117_0 := hx117_0
        cases e117
        replace hx117_0 := (HB.out.cell (World.block_lt_of_cell? w _ hx117_0)).trans hx117_0
        replace hx117_1 := (HB.out.cell (World.block_lt_of_cell? w _ hx117_1)).trans hx117_1
        replace p117 := eq_true p117
        replace q117 := eq_true q117
        refine start_ (n := 10) (S := fun w' => w'.cell? (ad116.add ((x5_1).toNat * 2)) = some (.string ((rd_T38 l0 x5_1).f0)) ∧ w'.cell? ⟨(ad116.add ((x5_1).toNat * 2)).block, (ad116.add ((x5_1).toNat * 2)).off + 1, none⟩ = some (.string ((rd_T38 l0 x5_1).f1)) ∧ w'.cell? (ad117.add ((x5_1).toNat * 2)) = some (.string ((rd_T38 l1 x5_1).f0)) ∧ w'.cell? ⟨(ad117.add ((x5_1).toNat * 2)).block, (ad117.add ((x5_1).toNat * 2)).off + 1, none⟩ = some (.string ((rd_T38 l1 x5_1).f1))) (ds := []) #[false, false, false, false, false, false, false, false, false, false] z0 rfl rfl ⟨((HB.out.cell (World.block_lt_of_cell? w _ hw116_0)).trans hw116_0), ((HB.out.cell (World.block_lt_of_cell? w _ hw116_1)).trans hw116_1), ((HB.out.cell (World.block_lt_of_cell? w _ hw117_0)).trans hw117_0), ((HB.out.cell (World.block_lt_of_cell? w _ hw117_1)).trans hw117_1)⟩ (fun hHeld => ?_); refine with_tabW laws_eqRuleS.tab6 laws_eqRuleS.bits6 (fun HT_ HW_ => ?_)
        generalize wr.drew = w11 at HB hx116_0 hx116_1 hx117_0 hx117_1 hHeld ⊢
        refine pA 0 17 ?_
        refine pA 1 18 ?_
        refine pA 2 19 ?_
        refine pA 4 21 ?_
        refine pA 5 22 ?_
        refine pA 6 23 ?_
        refine tA 3 20 ?_ (hy := by rintro w' ⟨s0, s1, s2, s3⟩; go_simp; with_reducible rfl)
        refine tA 7 24 ?_ (hy := by rintro w' ⟨s0, s1, s2, s3⟩; go_simp; with_reducible rfl)
        refine one_ (i := 8) (N := some 25) #[true, true, true, true, true, true, true, true, true, false] rfl rfl (one_of HT_.out z0) (by decide) (fun K hK => ?_)
        refine goes_ Try.func23 z0 rfl #[.agg #[.string ((rd_T38 l0 x5_1).f0), .string ((rd_T38 l0 x5_1).f1)], .agg #[.string ((rd_T38 l1 x5_1).f0), .string ((rd_T38 l1 x5_1).f1)]] (by rfl) rfl rfl z6 ?_
        with_reducible refine (laws_eqRule.calls ((rd_T38 l0 x5_1).f0) ((rd_T38 l0 x5_1).f1) ((rd_T38 l1 x5_1).f0) ((rd_T38 l1 x5_1).f1) false _ A7.out).mono ?_
        rintro e w12 ⟨rfl, hb⟩
        refine ⟨_, rfl, ?_⟩
        have aw := aM (aj z5 hb)
        clear HB
        have HB := aw
        clear aw
        (try clear hb)
        (try clear hb2)
        (try clear hk)
        (try clear hi)
        refine hK.out _ _ ⟨((HB.out.cell (World.block_lt_of_cell? w _ hw116_0)).trans hw116_0), ((HB.out.cell (World.block_lt_of_cell? w _ hw116_1)).trans hw116_1), ((HB.out.cell (World.block_lt_of_cell? w _ hw117_0)).trans hw117_0), ((HB.out.cell (World.block_lt_of_cell? w _ hw117_1)).trans hw117_1)⟩ (fun hHeld => ?_)
        clear hK K
        refine norm_ (a' := ?_) ?_ ?_
        rotate_left
        ·show Act.put _ (some 25) _ = _
         simp only [Act.put, sA, sB, sC, i64_w, i32_w]
         rfl
        refine pA 9 26 ?_
        refine done_ (done_of HT_.out z0) ?_
        try go_wp2
        go_ret
        exact ⟨y2, y3⟩
      ·rw [if_neg c6] at H
       exact absurd H (by simp)
     ·rw [if_neg c5] at H
      exact absurd H (by simp)
    ·rw [if_neg c4] at H
     have c4b0 : decide (x5_1 < (l0.length : Int)) = false := dF c4
     clear c4
     obtain rfl := sI H
     go_wp2
     go_ret
     exact ⟨y2, y3⟩
 ·rw [if_neg c3] at H
  have c3b0 : ((l0.length : Int) == (l1.length : Int)) = false := qF c3
  have c3b1 : ((l0.length : Int) != (l1.length : Int)) = true := nT c3
  have c3b2 : (l0.length == l1.length) = false := by first | simpa using c3 | (simp at c3 ⊢; omega)
  obtain rfl := sI H
  go_enter Try.func10, Try.ntmps10
  go_wp2
  go_ret
  exact ⟨y2, y3⟩

/-! ### spec_l1Open: function 27 -/
def spec_l1Open.f (a0 : Int) : Option (Bool) := if a0 ≥ 65 then (some (decide (a0 ≤ 70))) else (some false)
set_option maxHeartbeats 8000000 in
set_option maxRecDepth 100000 in
theorem spec_l1Open.calls (a0 : Int) (r : Bool) (w : World) (h : spec_l1Open.f a0 = some r) :
  Calls Try.prog 27 #[.int .u8 a0] w fun e w' => e = .returned (.bool r) ∧ Drawn0 w w' := by
 have H : (if a0 ≥ 65 then (some (decide (a0 ≤ 70))) else (some false)) = some r := h
 clear h
 by_cases c2 : a0 ≥ 65
 ·rw [if_pos c2] at H
  have c2b0 : decide (65 ≤ a0) = true := dT c2
  clear c2
  obtain rfl := sI H
  go_enter Try.func27, Try.ntmps27
  go_wp2
  go_ret
  exact ⟨y0, y1⟩
 ·rw [if_neg c2] at H
  have c2b0 : decide (65 ≤ a0) = false := dF c2
  clear c2
  obtain rfl := sI H
  go_enter Try.func27, Try.ntmps27
  go_wp2
  go_ret
  exact ⟨y0, y1⟩

/-! ### spec_l1Name: function 18 -/
def spec_l1Name.f (a0 : ByteArray) : Option (Bool) := if (a0.size : Int) = 1 then (if 0 < (a0.size : Int) then ((spec_l1Open.f (bt a0 0)).bind fun b7 => (some b7)) else (none)) else (some false)
set_option maxHeartbeats 8000000 in
set_option maxRecDepth 100000 in
theorem spec_l1Name.calls (a0 : ByteArray) (r : Bool) (w : World) (h : spec_l1Name.f a0 = some r) :
  Calls Try.prog 18 #[.string a0] w fun e w' => e = .returned (.bool r) ∧ Drawn0 w w' := by
 have H : (if (a0.size : Int) = 1 then (if 0 < (a0.size : Int) then ((spec_l1Open.f (bt a0 0)).bind fun b7 => (some b7)) else (none)) else (some false)) = some r := h
 clear h
 by_cases c2 : (a0.size : Int) = 1
 ·rw [if_pos c2] at H
  have c2b0 : ((a0.size : Int) == 1) = true := qT c2
  have c2b1 : ((a0.size : Int) != 1) = false := nF c2
  clear c2
  by_cases c3 : 0 < (a0.size : Int)
  ·rw [if_pos c3] at H
   have c3b0 : decide (0 < (a0.size : Int)) = true := dT c3
   have c3b1 : decide (0 < a0.size) = true := dT (by omega)
   clear c3
   replace H := oB H
   obtain ⟨b7, cp, H⟩ := H
   try dsimp only at H
   have A5 := aM cp
   clear cp
   obtain rfl := sI H
   have p4 : 0 ≤ (0 : Int) := (by omega)
   have q4 : 0 < a0.size := (by have : (0 : Int) < (a0.size : Int) := oD z1; omega)
   have hx4 : ∀ h : 0 < a0.size, ((a0[0]'h).toNat : Int) = bt a0 0 := bt_at a0 0
   clear p4
   have qi4 : (0 < (a0.size : Int)) = True := eq_true (oD z1)
   replace q4 := eq_true q4
   go_enter Try.func18, Try.ntmps18
   go_wp2_with (first | (go_at_call 27; (with_reducible refine (spec_l1Open.calls (bt a0 0) b7 _ A5.out).mono ?_); rintro e w' ⟨rfl, ⟨nd, rfl⟩⟩))
   go_ret
   exact ⟨y0, y1⟩
  ·rw [if_neg c3] at H
   exact absurd H (by simp)
 ·rw [if_neg c2] at H
  have c2b0 : ((a0.size : Int) == 1) = false := qF c2
  have c2b1 : ((a0.size : Int) != 1) = true := nT c2
  obtain rfl := sI H
  go_enter Try.func18, Try.ntmps18
  go_wp2
  go_ret
  exact ⟨y0, y1⟩

end Go.Proofs.Ytihjaagamihhkaa.AFnExactSchemaText
