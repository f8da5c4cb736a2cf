-- this session's own text: written by wip/tools/ownprint.py over the kit's print
import Derived.Test.YtmkenlejdaphnaaAFnExactJoinRopesx0
import Derived.Test.YtmkenlejdaphnaaAFnExactJoinRopesx5
namespace Go.Proofs.Ytmkenlejdaphnaa.AFnExactJoinRopes
open Go.RowKit Go.Proofs.YtmkenlejdaphnaaW.PrintWords Go.Proofs.YtmkenlejdaphnaaW.PrintLast Go.Proofs.YtmkenlejdaphnaaW.PrintMore
attribute [local go_sem] max2_int min2_int max_two min_two max_three min_three max_four min_four   -- for this text's walks alone
set_option linter.unusedVariables false
set_option linter.unusedSimpArgs false

/-! ### spec_GoodRope: function 15 -/
def spec_GoodRope.f (k : Nat) (l0_0 : List (S58)) : Option (Bool) := if (l0_0.length : Int) = 0 then (some true) else (if (l0_0.length : Int) ≤ 200 then ((spec_l12First.f k l0_0 (wrap64 ((l0_0.length : Int) - 1))).bind fun gS => (if gS = 0 then (if 0 ≤ (wrap64 ((l0_0.length : Int) - 1)) then (if (wrap64 ((l0_0.length : Int) - 1)) < (l0_0.length : Int) then (some (decide (((rd_T58 l0_0 (wrap64 ((l0_0.length : Int) - 1))).f3) ≤ 300))) else (none)) else (none)) else (some false))) else (some false))
theorem spec_GoodRope.mono : ∀ a0 k, LeO (spec_GoodRope.f k a0) (spec_GoodRope.f (k + 1) a0) := by
 intro a0 k
 unfold spec_GoodRope.f
 repeat' first
   | (with_reducible exact spec_l12First.mono _ _ _)
   | (with_reducible exact LeO.refl _)
   | (with_reducible exact LeO.none _)
   | (with_reducible refine LeO.ite ?_ ?_)
   | (with_reducible refine LeO.bind ?_ (fun _ => ?_))
   | exact spec_l12First.mono _ _ _
   | exact LeO.none _
   | refine LeO.ite ?_ ?_
   | refine LeO.bind ?_ (fun _ => ?_)
set_option maxHeartbeats 8000000 in
set_option maxRecDepth 100000 in
theorem spec_GoodRope.calls (k : Nat) (bm : Option Addr) (bn : Nat) (l0_0 : List (S58)) (r : Bool) (w : World) (hr0_0 : Kd.C k58 w bm l0_0.length l0_0) (hc0_0 : l0_0.length ≤ bn) (h : spec_GoodRope.f k l0_0 = some r) :
  Calls Try.prog 15 #[.agg #[.slice bm l0_0.length bn]] w fun e w' => e = .returned (.bool r) ∧ Below w.heap.size w w' := by
 have hu29 := Try.underlying29
 have du := aM hr0_0
 have dy := aM hc0_0
 clear hr0_0 hc0_0
 have HB := aM (Below.refl w.heap.size w)
 have H : (if (l0_0.length : Int) = 0 then (some true) else (if (l0_0.length : Int) ≤ 200 then ((spec_l12First.f k l0_0 (wrap64 ((l0_0.length : Int) - 1))).bind fun gS => (if gS = 0 then (if 0 ≤ (wrap64 ((l0_0.length : Int) - 1)) then (if (wrap64 ((l0_0.length : Int) - 1)) < (l0_0.length : Int) then (some (decide (((rd_T58 l0_0 (wrap64 ((l0_0.length : Int) - 1))).f3) ≤ 300))) else (none)) else (none)) else (some false))) else (some false))) = some r := h
 clear h
 by_cases c2 : (l0_0.length : Int) = 0
 ·rw [if_pos c2] at H
  have c2b0 : ((l0_0.length : Int) == 0) = true := qT c2
  have c2b1 : ((l0_0.length : Int) != 0) = false := nF c2
  clear c2
  obtain rfl := sI H
  go_enter Try.func15, Try.ntmps15
  go_wp2_with (first | ((with_reducible refine aK (N := 1) rfl ?_); refine aN ?hg (N := 1) ?hd (cs := #[.slice bm l0_0.length bn]) (t := 29) ?hr ?_; (case hd => rfl); (case hg => rfl); (case hr => first | (go_simp; done) | (go_simp; rfl)); intro dU hg w3 hbox hb; have ba := aM (ay z20 hb); have bc := aM (hbox); have bf := aM ((by rw [hg]; exact (az z20) : w.heap.size ≤ dU)); have bk := aM ((by rw [hg]; exact (az z20) : w.heap.size ≤ dU)); clear HB; have HB := ba; have dS := bc; have lg := bf; have fM := bk; clear ba bc bf bk; clear hb hbox hg; have hcz4_0 : w3.cell? ⟨dU, 0, none⟩ = some (.slice bm l0_0.length bn) := (bC dS.out 0).trans rfl; have hfz4_0 := bF dS.out 0))
  go_ret
  exact ⟨y2, by repeat (first | (with_reducible first | exact HB.out | apply bA | apply pD | apply bD | refine ax ?_ fM.out) | exact HB.out)⟩
 ·rw [if_neg c2] at H
  have c2b0 : ((l0_0.length : Int) == 0) = false := qF c2
  have c2b1 : ((l0_0.length : Int) != 0) = true := nT c2
  have c2b2 : ¬ (l0_0 = []) := fun h_ => c2 (by rw [h_]; rfl)
  by_cases c5 : (l0_0.length : Int) ≤ 200
  ·rw [if_pos c5] at H
   have c5b0 : decide ((l0_0.length : Int) ≤ 200) = true := dT c5
   have c5b1 : decide (l0_0.length ≤ 200) = true := dT (by omega)
   clear c5
   replace H := oB H
   obtain ⟨gS, lQ, H⟩ := H
   try dsimp only at H
   have A6 := aM lQ
   clear lQ
   by_cases c7 : gS = 0
   ·rw [if_pos c7] at H
    have c7b0 : (gS == 0) = true := qT c7
    have c7b1 : (gS != 0) = false := nF c7
    clear c7
    obtain ⟨kM, kX⟩ : ∃ j_ : Int, (wrap64 ((l0_0.length : Int) - 1)) = j_ := ⟨_, rfl⟩
    replace H : (if 0 ≤ (kM) then (if (kM) < (l0_0.length : Int) then (some (decide (((rd_T58 l0_0 (kM)).f3) ≤ 300))) else (none)) else (none)) = some r := by first | (rw [kX] at H; exact H) | (simp only [kX] at H ⊢; exact H)
    (try rw [kX] at A6)
    have hji8w : (IntKind.i64.wrap ((l0_0.length : Int) - 1)) = kM := (i64_w _).trans kX
    by_cases c9 : 0 ≤ (kM)
    ·rw [if_pos c9] at H
     have c9b0 : decide (0 ≤ (kM)) = true := dT c9
     clear c9
     by_cases eE : (kM) < (l0_0.length : Int)
     ·rw [if_pos eE] at H
      have c10b0 : decide ((kM) < (l0_0.length : Int)) = true := dT eE
      clear eE
      obtain rfl := sI H
      go_enter Try.func15, Try.ntmps15
      go_wp2_with (first | ((with_reducible refine aK (N := 1) rfl ?_); refine aN ?hg (N := 1) ?hd (cs := #[.slice bm l0_0.length bn]) (t := 29) ?hr ?_; (case hd => rfl); (case hg => rfl); (case hr => first | (go_simp; done) | (go_simp; rfl)); intro dU hg w11 hbox hb; have ba := aM (ay z20 hb); have bc := aM (hbox); have bf := aM ((by rw [hg]; exact (az z20) : w.heap.size ≤ dU)); have bk := aM ((by rw [hg]; exact (az z20) : w.heap.size ≤ dU)); clear HB; have HB := ba; have dS := bc; have lg := bf; have fM := bk; clear ba bc bf bk; clear hb hbox hg; have kv : w11.cell? ⟨dU, 0, none⟩ = some (.slice bm l0_0.length bn) := (bC dS.out 0).trans rfl; have j8 := bF dS.out 0) | (go_at_call 46; (with_reducible refine (spec_l12First.calls k _ _ l0_0 kM gS _ ?side1 ?side2 A6.out).mono ?_); (case side1 => repeat (first | exact (aD du.out HB.out) | (with_reducible refine aE ?_ _) | (with_reducible refine aG ?_ _) | (with_reducible refine aH ?_))); (case side2 => exact dy.out); rintro e w13 ⟨rfl, hb⟩; have ba := aM (ae (g := dU) (o := .cells #[.slice bm l0_0.length bn] 29 (0, 0)) (by (with_reducible repeat (first | refine aq ?_ _ | refine ap ?_ | refine ar ?_ _)); exact dS.out) hb); have bc := aM (ay (by repeat (first | (with_reducible first | exact HB.out | apply bA | apply pD | apply bD | refine ax ?_ fM.out) | exact HB.out)) hb); clear dS; clear HB; have dS := ba; have HB := bc; clear ba bc; (try clear hb); (try clear hb2); (try clear hk); (try clear hi); have jg : w13.cell? ⟨dU, 0, none⟩ = some (.slice bm l0_0.length bn) := (bC dS.out 0).trans rfl; have iM := bF dS.out 0; have p171 : 0 ≤ ((kM) : Int) := oD z2; have q171 : (kM) < (l0_0.length : Int) := oD z2; obtain ⟨ad171, e171, hx171_0, hx171_1, hx171_2, hx171_3, hx171_4⟩ := at_T58 du.out (kM) p171 q171; cases e171; replace hx171_0 := (HB.out.cell (World.block_lt_of_cell? w _ hx171_0)).trans hx171_0; replace hx171_1 := (HB.out.cell (World.block_lt_of_cell? w _ hx171_1)).trans hx171_1; replace hx171_2 := (HB.out.cell (World.block_lt_of_cell? w _ hx171_2)).trans hx171_2; replace hx171_3 := (HB.out.cell (World.block_lt_of_cell? w _ hx171_3)).trans hx171_3; replace hx171_4 := (HB.out.cell (World.block_lt_of_cell? w _ hx171_4)).trans hx171_4; replace p171 := eq_true p171; replace q171 := eq_true q171))
      go_ret
      exact ⟨by first | rfl | (simp [errW_none, errW_some] <;> rfl) | (simp only [← kX]; first | rfl | (simp [errW_none, errW_some] <;> rfl)) | (simp [*, errW_none, errW_some] <;> rfl), by repeat (first | (with_reducible first | exact HB.out | apply bA | apply pD | apply bD | refine ax ?_ fM.out) | exact HB.out)⟩
     ·rw [if_neg eE] at H
      exact absurd H (by simp)
    ·rw [if_neg c9] at H
     exact absurd H (by simp)
   ·rw [if_neg c7] at H
    have c7b0 : (gS == 0) = false := qF c7
    have c7b1 : (gS != 0) = true := nT c7
    obtain rfl := sI H
    go_enter Try.func15, Try.ntmps15
    go_wp2_with (first | ((with_reducible refine aK (N := 1) rfl ?_); refine aN ?hg (N := 1) ?hd (cs := #[.slice bm l0_0.length bn]) (t := 29) ?hr ?_; (case hd => rfl); (case hg => rfl); (case hr => first | (go_simp; done) | (go_simp; rfl)); intro dU hg w15 hbox hb; have ba := aM (ay z20 hb); have bc := aM (hbox); have bf := aM ((by rw [hg]; exact (az z20) : w.heap.size ≤ dU)); have bk := aM ((by rw [hg]; exact (az z20) : w.heap.size ≤ dU)); clear HB; have HB := ba; have dS := bc; have lg := bf; have fM := bk; clear ba bc bf bk; clear hb hbox hg; have hcz16_0 : w15.cell? ⟨dU, 0, none⟩ = some (.slice bm l0_0.length bn) := (bC dS.out 0).trans rfl; have hfz16_0 := bF dS.out 0) | (go_at_call 46; (with_reducible refine (spec_l12First.calls k _ _ l0_0 (wrap64 ((l0_0.length : Int) - 1)) gS _ ?side1 ?side2 A6.out).mono ?_); (case side1 => repeat (first | exact (aD du.out HB.out) | (with_reducible refine aE ?_ _) | (with_reducible refine aG ?_ _) | (with_reducible refine aH ?_))); (case side2 => exact dy.out); rintro e w17 ⟨rfl, hb⟩; have ba := aM (ae (g := dU) (o := .cells #[.slice bm l0_0.length bn] 29 (0, 0)) (by (with_reducible repeat (first | refine aq ?_ _ | refine ap ?_ | refine ar ?_ _)); exact dS.out) hb); have bc := aM (ay (by repeat (first | (with_reducible first | exact HB.out | apply bA | apply pD | apply bD | refine ax ?_ fM.out) | exact HB.out)) hb); clear dS; clear HB; have dS := ba; have HB := bc; clear ba bc; (try clear hb); (try clear hb2); (try clear hk); (try clear hi)))
    go_ret
    exact ⟨y2, by repeat (first | (with_reducible first | exact HB.out | apply bA | apply pD | apply bD | refine ax ?_ fM.out) | exact HB.out)⟩
  ·rw [if_neg c5] at H
   have c5b0 : decide ((l0_0.length : Int) ≤ 200) = false := dF c5
   have c5b1 : decide (l0_0.length ≤ 200) = false := dF (by omega)
   clear c5
   obtain rfl := sI H
   go_enter Try.func15, Try.ntmps15
   go_wp2_with (first | ((with_reducible refine aK (N := 1) rfl ?_); refine aN ?hg (N := 1) ?hd (cs := #[.slice bm l0_0.length bn]) (t := 29) ?hr ?_; (case hd => rfl); (case hg => rfl); (case hr => first | (go_simp; done) | (go_simp; rfl)); intro dU hg w18 hbox hb; have ba := aM (ay z20 hb); have bc := aM (hbox); have bf := aM ((by rw [hg]; exact (az z20) : w.heap.size ≤ dU)); have bk := aM ((by rw [hg]; exact (az z20) : w.heap.size ≤ dU)); clear HB; have HB := ba; have dS := bc; have lg := bf; have fM := bk; clear ba bc bf bk; clear hb hbox hg; have je : w18.cell? ⟨dU, 0, none⟩ = some (.slice bm l0_0.length bn) := (bC dS.out 0).trans rfl; have iK := bF dS.out 0))
   go_ret
   exact ⟨y2, by repeat (first | (with_reducible first | exact HB.out | apply bA | apply pD | apply bD | refine ax ?_ fM.out) | exact HB.out)⟩

/-! ### spec_l12Join: function 68 -/
def spec_l12Join.l0 : Nat → List (S58) → List (S58) → List (S58) → List (S58) → Int → Int → Option ((List (S58)))
 | 0, _, _, _, _, _, _ => none
 | k + 1, x0, x1, x5, x22, x23, x24 => if x24 < x23 then (if 0 ≤ x24 then (if x24 < (x22.length : Int) then (if ((rd_T58 x22 x24).f0) ≥ 0 then (if x5.length < 2932031007402 then (spec_l12Join.l0 k x0 x1 (x5 ++ [(⟨wrap64 (((rd_T58 x22 x24).f0) + (x0.length : Int)), wrap64 (((rd_T58 x22 x24).f1) + (x0.length : Int)), (rd_T58 x22 x24).f2, (rd_T58 x22 x24).f3, (rd_T58 x22 x24).f4⟩ : S58)]) x22 x23 (wrap64 (x24 + 1))) else (none)) else (if x5.length < 2932031007402 then (spec_l12Join.l0 k x0 x1 (x5 ++ [(⟨(rd_T58 x22 x24).f0, (rd_T58 x22 x24).f1, (rd_T58 x22 x24).f2, (rd_T58 x22 x24).f3, (rd_T58 x22 x24).f4⟩ : S58)]) x22 x23 (wrap64 (x24 + 1))) else (none))) else (none)) else (none)) else (if 0 ≤ (wrap64 ((x0.length : Int) - 1)) then (if (wrap64 ((x0.length : Int) - 1)) < (x0.length : Int) then (if 0 ≤ (wrap64 ((x1.length : Int) - 1)) then (if (wrap64 ((x1.length : Int) - 1)) < (x1.length : Int) then (if ((rd_T58 x1 (wrap64 ((x1.length : Int) - 1))).f4) > ((rd_T58 x0 (wrap64 ((x0.length : Int) - 1))).f4) then (if x5.length < 2932031007402 then (some (x5 ++ [(⟨wrap64 ((x0.length : Int) - 1), wrap64 ((x5.length : Int) - 1), (⟨#[]⟩ : ByteArray), wrap64 (((rd_T58 x0 (wrap64 ((x0.length : Int) - 1))).f3) + ((rd_T58 x1 (wrap64 ((x1.length : Int) - 1))).f3)), wrap64 (((rd_T58 x1 (wrap64 ((x1.length : Int) - 1))).f4) + 1)⟩ : S58)])) else (none)) else (if x5.length < 2932031007402 then (some (x5 ++ [(⟨wrap64 ((x0.length : Int) - 1), wrap64 ((x5.length : Int) - 1), (⟨#[]⟩ : ByteArray), wrap64 (((rd_T58 x0 (wrap64 ((x0.length : Int) - 1))).f3) + ((rd_T58 x1 (wrap64 ((x1.length : Int) - 1))).f3)), wrap64 (((rd_T58 x0 (wrap64 ((x0.length : Int) - 1))).f4) + 1)⟩ : S58)])) else (none))) else (none)) else (none)) else (none)) else (none))
def spec_l12Join.f (k : Nat) (l0 : List (S58)) (l1 : List (S58)) : Option ((List (S58))) := if (l0.length : Int) = 0 then (some l1) else (if (l1.length : Int) = 0 then (some l0) else ((some (([] : List (S58)) : List (S58))).bind fun y172 => (if y172.length + l0.length < 2932031007402 then (spec_l12Join.l0 k l0 l1 (y172 ++ l0) l1 (l1.length : Int) 0) else (none))))
theorem spec_l12Join.mono_l : ∀ k, (∀ y0 y1 y2 y3 y4 y5, LeO (spec_l12Join.l0 k y0 y1 y2 y3 y4 y5) (spec_l12Join.l0 (k + 1) y0 y1 y2 y3 y4 y5))
 | 0 => fun _ _ _ _ _ _ r h => by simp [spec_l12Join.l0] at h
 | k + 1 => by
  have ih0 := spec_l12Join.mono_l k
  ·intro y0 y1 y2 y3 y4 y5
   unfold spec_l12Join.l0
   repeat' first
   | (with_reducible exact ih0 _ _ _ _ _ _)
   | (with_reducible exact LeO.refl _)
   | (with_reducible exact LeO.none _)
   | (with_reducible refine LeO.ite ?_ ?_)
   | (with_reducible refine LeO.bind ?_ (fun _ => ?_))
   | exact ih0 _ _ _ _ _ _
   | exact LeO.none _
   | refine LeO.ite ?_ ?_
   | refine LeO.bind ?_ (fun _ => ?_)
theorem spec_l12Join.mono : ∀ a0 a1 k, LeO (spec_l12Join.f k a0 a1) (spec_l12Join.f (k + 1) a0 a1) := by
 intro a0 a1 k
 have ih0 := spec_l12Join.mono_l k
 unfold spec_l12Join.f
 repeat' first
   | (with_reducible exact ih0 _ _ _ _ _ _)
   | (with_reducible exact LeO.refl _)
   | (with_reducible exact LeO.none _)
   | (with_reducible refine LeO.ite ?_ ?_)
   | (with_reducible refine LeO.bind ?_ (fun _ => ?_))
   | exact ih0 _ _ _ _ _ _
   | exact LeO.none _
   | refine LeO.ite ?_ ?_
   | refine LeO.bind ?_ (fun _ => ?_)
set_option maxHeartbeats 8000000 in
set_option maxRecDepth 100000 in
theorem spec_l12Join.calls (k : Nat) (P0_ : Nat → Prop) (u9000_ : Value) (l0 : List (S58)) (P1_ : Nat → Prop) (u9001_ : Value) (l1 : List (S58)) (r : List (S58)) (w0 w : World) (hB : Below w0.heap.size w0 w) (ho0 : Kd.R k58 58 w w0.heap.size P0_ u9000_ l0) (hp0_1 : ∀ k_, P0_ k_ → ¬ P1_ k_) (ho1 : Kd.R k58 58 w w0.heap.size P1_ u9001_ l1) (hp1_0 : ∀ k_, P1_ k_ → ¬ P0_ k_) (h : spec_l12Join.f k l0 l1 = some r) :
  Calls Try.prog 68 #[u9000_, u9001_] w fun e w' => ∃ v0_ : Value, e = .returned (v0_) ∧ Kd.R k58 58 w' w0.heap.size (fun k_ => ((P0_ k_ ∨ P1_ k_) ∨ w.heap.size ≤ k_)) v0_ r ∧ Below w0.heap.size w0 w' ∧ Kept w w' (fun k_ => P0_ k_ ∨ P1_ k_) := by
 have hu58 := Try.underlying58
 have jD := aM (show Kd.R k58 58 w w0.heap.size (fun k_ => ((P0_ k_ ∨ P1_ k_) ∨ w.heap.size ≤ k_) ∧ some k_ ≠ (u9001_ : Value).ownBlock) u9000_ l0 from ag ho0 (fun k_ hk => ⟨(.inl (.inl hk)), fun e_ => hp0_1 k_ hk (ho1.1 k_ e_.symm)⟩))
 have kJ := aM (show Kd.R k58 58 w w0.heap.size (fun k_ => ((P0_ k_ ∨ P1_ k_) ∨ w.heap.size ≤ k_) ∧ some k_ ≠ (u9000_ : Value).ownBlock) u9001_ l1 from ag ho1 (fun k_ hk => ⟨(.inl (.inr hk)), fun e_ => hp1_0 k_ hk (ho0.1 k_ e_.symm)⟩))
 have HK := aM (Kept.refl w (fun k_ => P0_ k_ ∨ P1_ k_))
 have HW0 := aM hB.size
 have HB := aM hB
 clear hB
 have H : (if (l0.length : Int) = 0 then (some l1) else (if (l1.length : Int) = 0 then (some l0) else ((some (([] : List (S58)) : List (S58))).bind fun y172 => (if y172.length + l0.length < 2932031007402 then (spec_l12Join.l0 k l0 l1 (y172 ++ l0) l1 (l1.length : Int) 0) else (none))))) = some r := h
 clear h
 by_cases c3 : (l0.length : Int) = 0
 ·rw [if_pos c3] at H
  have c3b0 : ((l0.length : Int) == 0) = true := qT c3
  have c3b1 : ((l0.length : Int) != 0) = false := nF c3
  clear c3
  obtain rfl := sI H
  obtain ⟨ee, eb, eo4⟩ := Kd.R_slice jD.out
  subst eo4
  go_enter Try.func68, Try.ntmps68
  go_wp2
  go_ret
  exact ⟨_, y2, by (with_reducible repeat (first | apply ac | apply ab | apply aa)); exact ag kJ.out (fun _ hk => hk.1), y3, y11⟩
 ·rw [if_neg c3] at H
  have c3b0 : ((l0.length : Int) == 0) = false := qF c3
  have c3b1 : ((l0.length : Int) != 0) = true := nT c3
  have c3b2 : ¬ (l0 = []) := fun h_ => c3 (by rw [h_]; rfl)
  by_cases c5 : (l1.length : Int) = 0
  ·rw [if_pos c5] at H
   have c5b0 : ((l1.length : Int) == 0) = true := qT c5
   have c5b1 : ((l1.length : Int) != 0) = false := nF c5
   clear c5
   obtain rfl := sI H
   obtain ⟨ff, fb, eo6⟩ := Kd.R_slice jD.out
   subst eo6
   obtain ⟨Ao7, co7, eo7⟩ := Kd.R_slice kJ.out
   subst eo7
   go_enter Try.func68, Try.ntmps68
   go_wp2
   go_ret
   exact ⟨_, y2, by (with_reducible repeat (first | apply ac | apply ab | apply aa)); exact ag jD.out (fun _ hk => hk.1), y3, y11⟩
  ·rw [if_neg c5] at H
   have c5b0 : ((l1.length : Int) == 0) = false := qF c5
   have c5b1 : ((l1.length : Int) != 0) = true := nT c5
   have c5b2 : ¬ (l1 = []) := fun h_ => c5 (by rw [h_]; rfl)
   obtain ⟨y172, hy172⟩ : ∃ y_ : List (S58), y_ = (([] : List (S58))) := ⟨_, rfl⟩
   replace H : (if y172.length + l0.length < 2932031007402 then (spec_l12Join.l0 k l0 l1 (y172 ++ l0) l1 (l1.length : Int) 0) else (none)) = some r := by first | (rw [hy172]; with_reducible exact H) | (have H2_ := (Option.bind_some _ _).symm.trans H; rw [hy172]; with_reducible exact H2_) | (have H2_ := (Option.bind_some _ _).symm.trans H; with_reducible exact H2_) | with_reducible exact H | (rw [hy172]; exact H) | exact H
   have Ny172 := aM hy172
   clear hy172
   by_cases c8 : y172.length + l0.length < 2932031007402
   ·rw [if_pos c8] at H
    have LMc8 := aM c8
    clear c8
    obtain ⟨y175, hy175⟩ : ∃ y_ : List (S58), y_ = (y172 ++ l0) := ⟨_, rfl⟩
    replace H : (spec_l12Join.l0 k l0 l1 y175 l1 (l1.length : Int) 0) = some r := by first | (rw [hy175]; with_reducible exact H) | (have H2_ := (Option.bind_some _ _).symm.trans H; rw [hy175]; with_reducible exact H2_) | (have H2_ := (Option.bind_some _ _).symm.trans H; with_reducible exact H2_) | with_reducible exact H | (rw [hy175]; exact H) | exact H
    have Ny175 := aM hy175
    clear hy175
    have H' := aM H
    clear H
    obtain ⟨kP, jh, eo9⟩ := Kd.R_slice jD.out
    subst eo9
    obtain ⟨gu, dL, eo10⟩ := Kd.R_slice kJ.out
    subst eo10
    go_enter Try.func68, Try.ntmps68
    go_wp2_with (first | ((with_reducible refine aK (N := 19) rfl ?_); refine Kd.R_lit k58 _ 58 ?hg (N := 19) ?hd (xs := ([] : List (S58))) (inner := []) (ok := fun _ => True) (okp := fun _ => True) ?hr ?hp (fun _ hk => hk) trivial (Below.refl _ _) (Nat.le_refl _) (by simp) ?_; (case hd => rfl); (case hg => rfl); (case hr => first | (go_simp; done) | (go_simp; rfl)); (case hp => exact (Reps.none _ _)); intro v173 w11 ho12 hb hg_ hnew_; clear hg_ hnew_; (first | rw [← Ny172.out] at ho12 | (simp only [Int.reduceToNat] at ho12; rw [← Ny172.out] at ho12)); have ba := aM (ai (by (with_reducible repeat (first | apply ac | apply ab | apply aa)); exact jD.out) (ak ho12) hb); have bc := aM (ai (by (with_reducible repeat (first | apply ac | apply ab | apply aa)); exact kJ.out) (ak ho12) hb); have bf := aM (aT (aj (aj (Kd.R_newM (M := fun k_ => ((P0_ k_ ∨ P1_ k_) ∨ w.heap.size ≤ k_)) ho12 (by first | exact HK.out.1 | exact (show Kept w _ (fun k_ => P0_ k_ ∨ P1_ k_) from by repeat (first | (with_reducible first | exact HK.out | apply Kept.alloc | apply Kept.drewN | apply Kept.drew) | exact HK.out)).1) (fun k_ h_ => .inr h_)) (al (by (with_reducible repeat (first | apply ac | apply ab | apply aa)); exact jD.out))) (al (by (with_reducible repeat (first | apply ac | apply ab | apply aa)); exact kJ.out))) (az z20)); have bk := aM (Kept.below (S := (fun k_ => P0_ k_ ∨ P1_ k_)) z19 hb); have bw := aM (ay z20 hb); clear jD; clear kJ; clear HK; clear HB; have jD := ba; have kJ := bc; have la := bf; have HK := bk; have HB := bw; clear ba bc bf bk bw; clear hb ho12) | ((with_reducible refine gate_builtin (b := .append) (xs := #[.tmp 19, .tmp 20]) rfl ?_); at_builtin; refine Kd.R_append_rows k58 (w0 := w0) w0.heap.size rfl (.tmp 19) (.tmp 20) 27 58 (.agg #[(.int .i64 0), (.int .i64 0), (.string ⟨#[]⟩), (.int .i64 0), (.int .i64 0)]) 48 rfl Try.underlying27 info58 rfl (by decide) (by omega) v173 y172 l0 _ _ _ (fun k_ => ((P0_ k_ ∨ P1_ k_) ∨ w.heap.size ≤ k_) ∧ some k_ ≠ (.slice kP l0.length jh : Value).ownBlock ∧ some k_ ≠ (.slice gu l1.length dL : Value).ownBlock) (fun _ => False) rfl rfl ?aO ?aR (fun _ _ h => h) (fun _ h => h.elim) ?aF ?aB ?aS ?aL ?_; (case aR => repeat (first | exact (ah jD.out).2.2 | (with_reducible refine aE ?_ _) | (with_reducible refine aG ?_ _) | (with_reducible refine aH ?_))); (case aB => exact z20); (case aF => exact (fun k_ hk => ⟨(.inr (Nat.le_trans (by first | exact HK.out.1 | exact (show Kept w _ (fun k_ => P0_ k_ ∨ P1_ k_) from by repeat (first | (with_reducible first | exact HK.out | apply Kept.alloc | apply Kept.drewN | apply Kept.drew) | exact HK.out)).1) hk)), Kd.fresh' (al (by (with_reducible repeat (first | apply ac | apply ab | apply aa)); exact jD.out)) k_ hk, Kd.fresh' (al (by (with_reducible repeat (first | apply ac | apply ab | apply aa)); exact kJ.out)) k_ hk⟩)); (case aO => exact (by (with_reducible repeat (first | apply ac | apply ab | apply aa)); exact ag la.out (fun _ hk => ⟨hk.1.1.1, ⟨hk.1.2, hk.2⟩⟩))); (case aS => exact (az z20)); (case aL => have := LMc8.out; omega); intro v176 w13 ho hb hg hat; rw [← Ny175.out] at ho; have ba := aM (Kd.R_after (ok := (fun k_ => ((P0_ k_ ∨ P1_ k_) ∨ w.heap.size ≤ k_) ∧ some k_ ≠ (.slice gu l1.length dL : Value).ownBlock)) (by (with_reducible repeat (first | apply ac | apply ab | apply aa)); exact jD.out) hg hat); have bc := aM (Kd.R_after (ok := (fun k_ => ((P0_ k_ ∨ P1_ k_) ∨ w.heap.size ≤ k_) ∧ some k_ ≠ (.slice kP l0.length jh : Value).ownBlock)) (by (with_reducible repeat (first | apply ac | apply ab | apply aa)); exact kJ.out) hg hat); have bf := aM (hb); have bk := aM (Kept.of_grown (S := (fun k_ => P0_ k_ ∨ P1_ k_)) hg z19 (fun k_ e_ => (la.out.1 k_ e_).1.1.1)); have bw := aM (ho); clear jD; clear kJ; clear HB; clear HK; clear la; have jD := ba; have kJ := bc; have HB := bf; have HK := bk; have HO177 := bw; clear ba bc bf bk bw; clear ho hb hg hat))
    go_loopg [5, 24] k (fun kq v5 v24 w' => ∃ (x5_1 : List (S58)) (x24_1 : Int), v24 = .int .i64 x24_1 ∧ Aside0 (spec_l12Join.l0 kq l0 l1 x5_1 l1 (l1.length : Int) x24_1 = some r) ∧ Aside0 (kq ≤ k) ∧ Aside0 (Kd.R k58 58 w' w0.heap.size (fun k_ => ((P0_ k_ ∨ P1_ k_) ∨ w.heap.size ≤ k_) ∧ some k_ ≠ ((.slice gu l1.length dL) : Value).ownBlock ∧ some k_ ≠ (v5 : Value).ownBlock ∧ some k_ ≠ ((.slice gu l1.length dL) : Value).ownBlock) (.slice kP l0.length jh) l0) ∧ Aside0 (Kd.R k58 58 w' w0.heap.size (fun k_ => ((P0_ k_ ∨ P1_ k_) ∨ w.heap.size ≤ k_) ∧ some k_ ≠ ((.slice kP l0.length jh) : Value).ownBlock ∧ some k_ ≠ (v5 : Value).ownBlock) (.slice gu l1.length dL) l1) ∧ Aside0 (Kd.R k58 58 w' w0.heap.size (fun k_ => ((P0_ k_ ∨ P1_ k_) ∨ w.heap.size ≤ k_) ∧ some k_ ≠ ((.slice kP l0.length jh) : Value).ownBlock ∧ some k_ ≠ ((.slice gu l1.length dL) : Value).ownBlock ∧ some k_ ≠ ((.slice gu l1.length dL) : Value).ownBlock) v5 x5_1) ∧ Aside0 (Kd.R k58 58 w' w0.heap.size (fun k_ => ((P0_ k_ ∨ P1_ k_) ∨ w.heap.size ≤ k_) ∧ some k_ ≠ ((.slice kP l0.length jh) : Value).ownBlock ∧ some k_ ≠ (v5 : Value).ownBlock) (.slice gu l1.length dL) l1) ∧ Aside0 (Kept w w' (fun k_ => P0_ k_ ∨ P1_ k_)) ∧ Aside0 (Below w0.heap.size w0 w'))
    case atStart => exact ⟨(y175), (0), z1, H', ⟨Nat.le_refl _⟩, ⟨by (with_reducible repeat (first | apply ac | apply ab | apply aa)); exact ag jD.out (fun _ hk => ⟨hk.1.1, ⟨hk.1.2, ⟨hk.2, hk.1.2⟩⟩⟩)⟩, ⟨by (with_reducible repeat (first | apply ac | apply ab | apply aa)); exact ag kJ.out (fun _ hk => ⟨hk.1.1, ⟨hk.1.2, hk.2⟩⟩)⟩, ⟨by (with_reducible repeat (first | apply ac | apply ab | apply aa)); exact ag HO177.out (fun _ hk => ⟨hk.1, ⟨hk.2.1, ⟨hk.2.2, hk.2.2⟩⟩⟩)⟩, ⟨by (with_reducible repeat (first | apply ac | apply ab | apply aa)); exact ag kJ.out (fun _ hk => ⟨hk.1.1, ⟨hk.1.2, hk.2⟩⟩)⟩, ⟨y11⟩, ⟨y3⟩⟩
    case round =>
     clear H'
     try clear p1
     try clear p2
     try clear c3
     try clear c3b0
     try clear c3b1
     try clear c3b2
     try clear c5
     try clear c5b0
     try clear c5b1
     try clear c5b2
     try clear c6
     try clear c8
     obtain ⟨x5_1, x24_1, rfl, HA, HK1, b8, dr, dq, cy, HK, HB⟩ := hrel
     cases gk with
     | zero => exact absurd HA.out (by simp [spec_l12Join.l0])
     | succ k1 =>
      have H := HA.out
      clear HA
      simp only [spec_l12Join.l0] at H
      by_cases gX : x24_1 < (l1.length : Int)
      ·rw [if_pos gX] at H
       have c14b0 : decide (x24_1 < (l1.length : Int)) = true := dT gX
       clear gX
       by_cases fK : 0 ≤ x24_1
       ·rw [if_pos fK] at H
        have c15b0 : decide (0 ≤ x24_1) = true := dT fK
        clear fK
        by_cases ji : x24_1 < (l1.length : Int)
        ·rw [if_pos ji] at H
         have c16b0 : decide (x24_1 < (l1.length : Int)) = true := dT ji
         clear ji
         by_cases jC : ((rd_T58 l1 x24_1).f0) ≥ 0
         ·rw [if_pos jC] at H
          have c17b0 : decide (0 ≤ ((rd_T58 l1 x24_1).f0)) = true := dT jC
          clear jC
          by_cases mm : x5_1.length < 2932031007402
          ·rw [if_pos mm] at H
           have LMc18 := aM mm
           clear mm
           obtain ⟨y180, hy180⟩ : ∃ y_ : List (S58), y_ = (x5_1 ++ [(⟨wrap64 (((rd_T58 l1 x24_1).f0) + (l0.length : Int)), wrap64 (((rd_T58 l1 x24_1).f1) + (l0.length : Int)), (rd_T58 l1 x24_1).f2, (rd_T58 l1 x24_1).f3, (rd_T58 l1 x24_1).f4⟩ : S58)]) := ⟨_, rfl⟩
           replace H : (spec_l12Join.l0 k1 l0 l1 y180 l1 (l1.length : Int) (wrap64 (x24_1 + 1))) = some r := by first | (rw [hy180]; with_reducible exact H) | (have H2_ := (Option.bind_some _ _).symm.trans H; rw [hy180]; with_reducible exact H2_) | (have H2_ := (Option.bind_some _ _).symm.trans H; with_reducible exact H2_) | with_reducible exact H | (rw [hy180]; exact H) | exact H
           have Ny180 := aM hy180
           clear hy180
           have H' := aM H
           clear H
           have p178 : 0 ≤ (x24_1 : Int) := oD z2
           have q178 : x24_1 < (l1.length : Int) := oD z2
           obtain ⟨ad178, e178, hx178_0, hx178_1, hx178_2, hx178_3, hx178_4⟩ := at_T58 (ah cy.out).2.2 x24_1 p178 q178
           cases e178
           replace p178 := eq_true p178
           replace q178 := eq_true q178
           go_upto_region 11 with (((with_reducible refine aK (N := 7) rfl ?_); refine aN ?hg (N := 7) ?hd (cs := #[.int .i64 0, .int .i64 0, .string (⟨#[]⟩ : ByteArray), .int .i64 0, .int .i64 0]) (t := 58) ?hr ?_; (case hd => rfl); (case hg => rfl); (case hr => first | (go_simp; done) | (go_simp; rfl)); intro bz hg w19 hbox hb; have ba := aM (af (Kd.R_elderB (by (with_reducible repeat (first | apply ac | apply ab | apply aa)); exact b8.out) bz (Nat.le_of_eq hg.symm)) hb); have bc := aM (af (Kd.R_elderB (by (with_reducible repeat (first | apply ac | apply ab | apply aa)); exact dr.out) bz (Nat.le_of_eq hg.symm)) hb); have bf := aM (af (Kd.R_elderB (by (with_reducible repeat (first | apply ac | apply ab | apply aa)); exact dq.out) bz (Nat.le_of_eq hg.symm)) hb); have bk := aM (af (Kd.R_elderB (by (with_reducible repeat (first | apply ac | apply ab | apply aa)); exact cy.out) bz (Nat.le_of_eq hg.symm)) hb); have bw := aM (Kept.below (S := (fun k_ => P0_ k_ ∨ P1_ k_)) z19 hb); have bx := aM (ay z20 hb); have bG := aM (hbox); have bY := aM ((by rw [hg]; exact (by first | exact HK.out.1 | exact (show Kept w _ (fun k_ => P0_ k_ ∨ P1_ k_) from by repeat (first | (with_reducible first | exact HK.out | apply Kept.alloc | apply Kept.drewN | apply Kept.drew) | exact HK.out)).1) : w.heap.size ≤ bz)); have bZ := aM ((by rw [hg]; exact (az z20) : w0.heap.size ≤ bz)); clear b8; clear dr; clear dq; clear cy; clear HK; clear HB; have b8 := ba; have dr := bc; have dq := bf; have cy := bk; have HK := bw; have HB := bx; have cx := bG; have gi := bY; have gm := bZ; clear ba bc bf bk bw bx bG bY bZ; clear hb hbox hg; have gL : w19.cell? ⟨bz, 0, none⟩ = some (.int .i64 0) := (bC cx.out 0).trans rfl; have gK : w19.cell? ⟨bz, 1, none⟩ = some (.int .i64 0) := (bC cx.out 1).trans rfl; have gJ : w19.cell? ⟨bz, 2, none⟩ = some (.string (⟨#[]⟩ : ByteArray)) := (bC cx.out 2).trans rfl; have gI : w19.cell? ⟨bz, 3, none⟩ = some (.int .i64 0) := (bC cx.out 3).trans rfl; have gH : w19.cell? ⟨bz, 4, none⟩ = some (.int .i64 0) := (bC cx.out 4).trans rfl; have gA := bF cx.out 0; have gz := bF cx.out 1; have gy := bF cx.out 2; have gx := bF cx.out 3; have gw := bF cx.out 4))
           go_cut [] (fun wc_ => Aside0 (wc_.heap[bz]? = some (.cells #[.int .i64 (wrap64 (((rd_T58 l1 x24_1).f0) + (l0.length : Int))), .int .i64 (wrap64 (((rd_T58 l1 x24_1).f1) + (l0.length : Int))), .string ((rd_T58 l1 x24_1).f2), .int .i64 ((rd_T58 l1 x24_1).f3), .int .i64 ((rd_T58 l1 x24_1).f4)] 58 (0, 0))) ∧ Aside0 (∀ (ok_ : Nat → Prop) (v_ : Value) (xs_ : List S58), (∀ k_, ok_ k_ → k_ ≠ bz) → Kd.R k58 58 w19 w0.heap.size ok_ v_ xs_ → Kd.R k58 58 wc_ w0.heap.size ok_ v_ xs_) ∧ Aside0 (Kept w wc_ (fun k_ => P0_ k_ ∨ P1_ k_)) ∧ Aside0 (Below w0.heap.size w0 wc_))
           case first =>
             go_wp2_with (fail)
             go_meet
             exact ⟨⟨(by (with_reducible repeat (first | refine aq ?_ _ | refine ap ?_ | refine ar ?_ _)); refine av (cs := #[.int .i64 (wrap64 (((rd_T58 l1 x24_1).f0) + (l0.length : Int))), .int .i64 ((rd_T58 l1 x24_1).f1), .string ((rd_T58 l1 x24_1).f2), .int .i64 ((rd_T58 l1 x24_1).f3), .int .i64 ((rd_T58 l1 x24_1).f4)]) ?_ 1 _ rfl; (with_reducible repeat (first | refine aq ?_ _ | refine ap ?_ | refine ar ?_ _)); refine av (cs := #[.int .i64 ((rd_T58 l1 x24_1).f0), .int .i64 ((rd_T58 l1 x24_1).f1), .string ((rd_T58 l1 x24_1).f2), .int .i64 ((rd_T58 l1 x24_1).f3), .int .i64 ((rd_T58 l1 x24_1).f4)]) ?_ 0 _ rfl; (with_reducible repeat (first | refine aq ?_ _ | refine ap ?_ | refine ar ?_ _)); refine av (cs := #[.int .i64 ((rd_T58 l1 x24_1).f0), .int .i64 ((rd_T58 l1 x24_1).f1), .string ((rd_T58 l1 x24_1).f2), .int .i64 ((rd_T58 l1 x24_1).f3), .int .i64 0]) ?_ 4 _ rfl; (with_reducible repeat (first | refine aq ?_ _ | refine ap ?_ | refine ar ?_ _)); refine av (cs := #[.int .i64 ((rd_T58 l1 x24_1).f0), .int .i64 ((rd_T58 l1 x24_1).f1), .string ((rd_T58 l1 x24_1).f2), .int .i64 0, .int .i64 0]) ?_ 3 _ rfl; (with_reducible repeat (first | refine aq ?_ _ | refine ap ?_ | refine ar ?_ _)); refine av (cs := #[.int .i64 ((rd_T58 l1 x24_1).f0), .int .i64 ((rd_T58 l1 x24_1).f1), .string (⟨#[]⟩ : ByteArray), .int .i64 0, .int .i64 0]) ?_ 2 _ rfl; (with_reducible repeat (first | refine aq ?_ _ | refine ap ?_ | refine ar ?_ _)); refine av (cs := #[.int .i64 ((rd_T58 l1 x24_1).f0), .int .i64 0, .string (⟨#[]⟩ : ByteArray), .int .i64 0, .int .i64 0]) ?_ 1 _ rfl; (with_reducible repeat (first | refine aq ?_ _ | refine ap ?_ | refine ar ?_ _)); refine av (cs := #[.int .i64 0, .int .i64 0, .string (⟨#[]⟩ : ByteArray), .int .i64 0, .int .i64 0]) ?_ 0 _ rfl; (with_reducible repeat (first | refine aq ?_ _ | refine ap ?_ | refine ar ?_ _)); exact cx.out)⟩, ⟨fun ok_ v_ xs_ hne_ h_ => by (with_reducible repeat (first | apply ac | apply ab | apply aa)); exact ag (am (p := ⟨bz, 1, none⟩) (am (p := ⟨bz, 0, none⟩) (am (p := ⟨bz, 4, none⟩) (am (p := ⟨bz, 3, none⟩) (am (p := ⟨bz, 2, none⟩) (am (p := ⟨bz, 1, none⟩) (am (p := ⟨bz, 0, none⟩) (ag h_ (fun k_ hk => (⟨hk, hne_ k_ hk⟩ : _ ∧ k_ ≠ bz))) (fun _ hk => hk.2) (.int .i64 ((rd_T58 l1 x24_1).f0))) (fun _ hk => hk.2) (.int .i64 ((rd_T58 l1 x24_1).f1))) (fun _ hk => hk.2) (.string ((rd_T58 l1 x24_1).f2))) (fun _ hk => hk.2) (.int .i64 ((rd_T58 l1 x24_1).f3))) (fun _ hk => hk.2) (.int .i64 ((rd_T58 l1 x24_1).f4))) (fun _ hk => hk.2) (.int .i64 (wrap64 (((rd_T58 l1 x24_1).f0) + (l0.length : Int))))) (fun _ hk => hk.2) (.int .i64 (wrap64 (((rd_T58 l1 x24_1).f1) + (l0.length : Int))))) (fun _ hk => hk.1)⟩, ⟨(by repeat (first | (with_reducible first | exact HK.out | apply Kept.alloc | apply Kept.drewN | apply Kept.drew | refine Kept.setCell ?_ (.inr gi.out) _) | exact HK.out))⟩, ⟨(by repeat (first | (with_reducible first | exact HB.out | apply bA | apply pD | apply bD | refine ax ?_ gm.out) | exact HB.out))⟩⟩
           case rest =>
             obtain ⟨CB_, CM_, CK_, CL_⟩ := hcut
             have m0_ := aM (CM_.out _ _ _ (fun k_ hk => hk.2) b8.out)
             have m1_ := aM (CM_.out _ _ _ (fun k_ hk => hk.2) dr.out)
             have m2_ := aM (CM_.out _ _ _ (fun k_ hk => hk.2) dq.out)
             have m3_ := aM (CM_.out _ _ _ (fun k_ hk => hk.2) cy.out)
             clear b8 dr dq cy HK HB cx CM_; clear gL gK gJ gI gH gA gz gy gx gw
             have b8 := m0_
             have dr := m1_
             have dq := m2_
             have cy := m3_
             have HK := CK_; have HB := CL_; have cx := CB_; clear CK_ CL_ CB_ m0_ m1_ m2_ m3_
             have hcz179_0 : wc.cell? ⟨bz, 0, none⟩ = some (.int .i64 (wrap64 (((rd_T58 l1 x24_1).f0) + (l0.length : Int)))) := (bC cx.out 0).trans rfl; have hfz179_0 := bF cx.out 0
             have hcz179_1 : wc.cell? ⟨bz, 1, none⟩ = some (.int .i64 (wrap64 (((rd_T58 l1 x24_1).f1) + (l0.length : Int)))) := (bC cx.out 1).trans rfl; have hfz179_1 := bF cx.out 1
             have hcz179_2 : wc.cell? ⟨bz, 2, none⟩ = some (.string ((rd_T58 l1 x24_1).f2)) := (bC cx.out 2).trans rfl; have hfz179_2 := bF cx.out 2
             have hcz179_3 : wc.cell? ⟨bz, 3, none⟩ = some (.int .i64 ((rd_T58 l1 x24_1).f3)) := (bC cx.out 3).trans rfl; have hfz179_3 := bF cx.out 3
             have hcz179_4 : wc.cell? ⟨bz, 4, none⟩ = some (.int .i64 ((rd_T58 l1 x24_1).f4)) := (bC cx.out 4).trans rfl; have hfz179_4 := bF cx.out 4
             go_wp2_with (((with_reducible refine gate_builtin (b := .append) (xs := #[.tmp 43, .tmp 45]) rfl ?_); at_builtin; refine Kd.R_append k58 (w0 := w0) w0.heap.size rfl (.tmp 43) (.tmp 45) 27 58 (.agg #[(.int .i64 0), (.int .i64 0), (.string ⟨#[]⟩), (.int .i64 0), (.int .i64 0)]) 48 rfl Try.underlying27 info58 rfl (by decide) (by omega) u5 x5_1 (⟨wrap64 (((rd_T58 l1 x24_1).f0) + (l0.length : Int)), wrap64 (((rd_T58 l1 x24_1).f1) + (l0.length : Int)), (rd_T58 l1 x24_1).f2, (rd_T58 l1 x24_1).f3, (rd_T58 l1 x24_1).f4⟩ : S58) [.int .i64 (wrap64 (((rd_T58 l1 x24_1).f0) + (l0.length : Int))), .int .i64 (wrap64 (((rd_T58 l1 x24_1).f1) + (l0.length : Int))), .string ((rd_T58 l1 x24_1).f2), .int .i64 ((rd_T58 l1 x24_1).f3), .int .i64 ((rd_T58 l1 x24_1).f4)] (fun k_ => ((P0_ k_ ∨ P1_ k_) ∨ w.heap.size ≤ k_) ∧ some k_ ≠ (.slice kP l0.length jh : Value).ownBlock ∧ some k_ ≠ (.slice (some ad178) l1.length dL : Value).ownBlock ∧ some k_ ≠ (.slice (some ad178) l1.length dL : Value).ownBlock ∧ k_ ≠ bz) (fun _ => False) rfl (by first | (go_simp; done) | (go_simp; rfl)) ?aP (fun _ hk => hk.elim) ?aF ?aO ?aB ?aS ?aL ?_; (case aP => exact k58_mkM _ _ _ (⟨wrap64 (((rd_T58 l1 x24_1).f0) + (l0.length : Int)), wrap64 (((rd_T58 l1 x24_1).f1) + (l0.length : Int)), (rd_T58 l1 x24_1).f2, (rd_T58 l1 x24_1).f3, (rd_T58 l1 x24_1).f4⟩ : S58)); (case aB => exact (by repeat (first | (with_reducible first | exact HB.out | apply bA | apply pD | apply bD | refine ax ?_ gm.out) | exact HB.out))); (case aF => exact (fun k_ hk => ⟨(.inr (Nat.le_trans (show Kept w _ (fun k_ => P0_ k_ ∨ P1_ k_) from by repeat (first | (with_reducible first | exact HK.out | apply Kept.alloc | apply Kept.drewN | apply Kept.drew | refine Kept.setCell ?_ (.inr gi.out) _) | exact HK.out)).1 hk)), Kd.fresh' (al (by (with_reducible repeat (first | apply ac | apply ab | apply aa)); exact (ag (ag b8.out (fun k_ hk => (⟨hk, hk.2⟩ : _ ∧ k_ ≠ bz))) (fun _ h_ => h_.1)))) k_ hk, Kd.fresh' (al (by (with_reducible repeat (first | apply ac | apply ab | apply aa)); exact (ag (ag dr.out (fun k_ hk => (⟨hk, hk.2⟩ : _ ∧ k_ ≠ bz))) (fun _ h_ => h_.1)))) k_ hk, Kd.fresh' (al (by (with_reducible repeat (first | apply ac | apply ab | apply aa)); exact (ag (ag cy.out (fun k_ hk => (⟨hk, hk.2⟩ : _ ∧ k_ ≠ bz))) (fun _ h_ => h_.1)))) k_ hk, Kd.freshB (g := bz) (o := .cells #[.int .i64 (wrap64 (((rd_T58 l1 x24_1).f0) + (l0.length : Int))), .int .i64 (wrap64 (((rd_T58 l1 x24_1).f1) + (l0.length : Int))), .string ((rd_T58 l1 x24_1).f2), .int .i64 ((rd_T58 l1 x24_1).f3), .int .i64 ((rd_T58 l1 x24_1).f4)] 58 (0, 0)) cx.out k_ hk⟩)); (case aO => exact (by (with_reducible repeat (first | apply ac | apply ab | apply aa)); exact ag (ag dq.out (fun k_ hk => (⟨hk, hk.2⟩ : _ ∧ k_ ≠ bz))) (fun _ hk => ⟨hk.1.1.1, ⟨hk.1.1.2.1, ⟨hk.1.1.2.2.1, ⟨hk.1.1.2.2.2, hk.1.2⟩⟩⟩⟩))); (case aS => exact (az (by repeat (first | (with_reducible first | exact HB.out | apply bA | apply pD | apply bD | refine ax ?_ gm.out) | exact HB.out)))); (case aL => have := LMc18.out; omega); intro v181 w21 ho hb hg hat; rw [← Ny180.out] at ho; have ba := aM (Kd.R_after (ok := (fun k_ => ((P0_ k_ ∨ P1_ k_) ∨ w.heap.size ≤ k_) ∧ some k_ ≠ (.slice (some ad178) l1.length dL : Value).ownBlock ∧ some k_ ≠ (.slice (some ad178) l1.length dL : Value).ownBlock ∧ k_ ≠ bz)) (by (with_reducible repeat (first | apply ac | apply ab | apply aa)); exact ag (ag b8.out (fun k_ hk => (⟨hk, hk.2⟩ : _ ∧ k_ ≠ bz))) (fun _ hk => ⟨⟨hk.1.1.1, ⟨hk.1.1.2.1, ⟨hk.1.1.2.2.2, hk.1.2⟩⟩⟩, hk.1.1.2.2.1⟩)) hg hat); have bc := aM (Kd.R_after (ok := (fun k_ => ((P0_ k_ ∨ P1_ k_) ∨ w.heap.size ≤ k_) ∧ some k_ ≠ (.slice kP l0.length jh : Value).ownBlock ∧ k_ ≠ bz)) (by (with_reducible repeat (first | apply ac | apply ab | apply aa)); exact ag (ag dr.out (fun k_ hk => (⟨hk, hk.2⟩ : _ ∧ k_ ≠ bz))) (fun _ hk => ⟨⟨hk.1.1.1, ⟨hk.1.1.2.1, hk.1.2⟩⟩, hk.1.1.2.2⟩)) hg hat); have bf := aM (Kd.R_after (ok := (fun k_ => ((P0_ k_ ∨ P1_ k_) ∨ w.heap.size ≤ k_) ∧ some k_ ≠ (.slice kP l0.length jh : Value).ownBlock ∧ k_ ≠ bz)) (by (with_reducible repeat (first | apply ac | apply ab | apply aa)); exact ag (ag cy.out (fun k_ hk => (⟨hk, hk.2⟩ : _ ∧ k_ ≠ bz))) (fun _ hk => ⟨⟨hk.1.1.1, ⟨hk.1.1.2.1, hk.1.2⟩⟩, hk.1.1.2.2⟩)) hg hat); have bk := aM (blk_grown (g := bz) (o := .cells #[.int .i64 (wrap64 (((rd_T58 l1 x24_1).f0) + (l0.length : Int))), .int .i64 (wrap64 (((rd_T58 l1 x24_1).f1) + (l0.length : Int))), .string ((rd_T58 l1 x24_1).f2), .int .i64 ((rd_T58 l1 x24_1).f3), .int .i64 ((rd_T58 l1 x24_1).f4)] 58 (0, 0)) cx.out hg (Kd.R_away dq.out (fun _ hk => hk.2))); have bw := aM (hb); have bx := aM (Kept.of_grown (S := (fun k_ => P0_ k_ ∨ P1_ k_)) hg (by repeat (first | (with_reducible first | exact HK.out | apply Kept.alloc | apply Kept.drewN | apply Kept.drew | refine Kept.setCell ?_ (.inr gi.out) _) | exact HK.out)) (fun k_ e_ => (dq.out.1 k_ e_).1.1)); have bG := aM (ho); clear b8; clear dr; clear cy; clear cx; clear HB; clear HK; clear dq; have b8 := ba; have dr := bc; have cy := bf; have cx := bk; have HB := bw; have HK := bx; have HO182 := bG; clear ba bc bf bk bw bx bG; clear ho hb hg hat))
             go_roundg k1
             case measure => have := HK1.out; omega
             case rel => exact ⟨(y180), (wrap64 (x24_1 + 1)), z1, H', ⟨by have := HK1.out; omega⟩, ⟨by (with_reducible repeat (first | apply ac | apply ab | apply aa)); exact ag b8.out (fun _ hk => ⟨hk.1.1, ⟨hk.1.2.1, ⟨hk.2, hk.1.2.2.1⟩⟩⟩)⟩, ⟨by (with_reducible repeat (first | apply ac | apply ab | apply aa)); exact ag dr.out (fun _ hk => ⟨hk.1.1, ⟨hk.1.2.1, hk.2⟩⟩)⟩, ⟨by (with_reducible repeat (first | apply ac | apply ab | apply aa)); exact ag HO182.out (fun _ hk => ⟨hk.1, ⟨hk.2.1, ⟨hk.2.2.1, hk.2.2.2.1⟩⟩⟩)⟩, ⟨by (with_reducible repeat (first | apply ac | apply ab | apply aa)); exact ag cy.out (fun _ hk => ⟨hk.1.1, ⟨hk.1.2.1, hk.2⟩⟩)⟩, ⟨by repeat (first | (with_reducible first | exact HK.out | apply Kept.alloc | apply Kept.drewN | apply Kept.drew | refine Kept.setCell ?_ (.inr gi.out) _) | exact HK.out)⟩, ⟨by repeat (first | (with_reducible first | exact HB.out | apply bA | apply pD | apply bD | refine ax ?_ gm.out) | exact HB.out)⟩⟩
          ·rw [if_neg mm] at H
           exact absurd H (by simp)
         ·rw [if_neg jC] at H
          have c17b0 : decide (0 ≤ ((rd_T58 l1 x24_1).f0)) = false := dF jC
          clear jC
          by_cases mL : x5_1.length < 2932031007402
          ·rw [if_pos mL] at H
           have LMc22 := aM mL
           clear mL
           obtain ⟨y183, hy183⟩ : ∃ y_ : List (S58), y_ = (x5_1 ++ [(⟨(rd_T58 l1 x24_1).f0, (rd_T58 l1 x24_1).f1, (rd_T58 l1 x24_1).f2, (rd_T58 l1 x24_1).f3, (rd_T58 l1 x24_1).f4⟩ : S58)]) := ⟨_, rfl⟩
           replace H : (spec_l12Join.l0 k1 l0 l1 y183 l1 (l1.length : Int) (wrap64 (x24_1 + 1))) = some r := by first | (rw [hy183]; with_reducible exact H) | (have H2_ := (Option.bind_some _ _).symm.trans H; rw [hy183]; with_reducible exact H2_) | (have H2_ := (Option.bind_some _ _).symm.trans H; with_reducible exact H2_) | with_reducible exact H | (rw [hy183]; exact H) | exact H
           have Ny183 := aM hy183
           clear hy183
           have H' := aM H
           clear H
           have p178 : 0 ≤ (x24_1 : Int) := oD z2
           have q178 : x24_1 < (l1.length : Int) := oD z2
           obtain ⟨ad178, e178, hx178_0, hx178_1, hx178_2, hx178_3, hx178_4⟩ := at_T58 (ah cy.out).2.2 x24_1 p178 q178
           cases e178
           replace p178 := eq_true p178
           replace q178 := eq_true q178
           go_wp2_with (first | ((with_reducible refine aK (N := 7) rfl ?_); refine aN ?hg (N := 7) ?hd (cs := #[.int .i64 0, .int .i64 0, .string (⟨#[]⟩ : ByteArray), .int .i64 0, .int .i64 0]) (t := 58) ?hr ?_; (case hd => rfl); (case hg => rfl); (case hr => first | (go_simp; done) | (go_simp; rfl)); intro bz hg w23 hbox hb; have ba := aM (af (Kd.R_elderB (by (with_reducible repeat (first | apply ac | apply ab | apply aa)); exact b8.out) bz (Nat.le_of_eq hg.symm)) hb); have bc := aM (af (Kd.R_elderB (by (with_reducible repeat (first | apply ac | apply ab | apply aa)); exact dr.out) bz (Nat.le_of_eq hg.symm)) hb); have bf := aM (af (Kd.R_elderB (by (with_reducible repeat (first | apply ac | apply ab | apply aa)); exact dq.out) bz (Nat.le_of_eq hg.symm)) hb); have bk := aM (af (Kd.R_elderB (by (with_reducible repeat (first | apply ac | apply ab | apply aa)); exact cy.out) bz (Nat.le_of_eq hg.symm)) hb); have bw := aM (Kept.below (S := (fun k_ => P0_ k_ ∨ P1_ k_)) z19 hb); have bx := aM (ay z20 hb); have bG := aM (hbox); have bY := aM ((by rw [hg]; exact (by first | exact HK.out.1 | exact (show Kept w _ (fun k_ => P0_ k_ ∨ P1_ k_) from by repeat (first | (with_reducible first | exact HK.out | apply Kept.alloc | apply Kept.drewN | apply Kept.drew) | exact HK.out)).1) : w.heap.size ≤ bz)); have bZ := aM ((by rw [hg]; exact (az z20) : w0.heap.size ≤ bz)); clear b8; clear dr; clear dq; clear cy; clear HK; clear HB; have b8 := ba; have dr := bc; have dq := bf; have cy := bk; have HK := bw; have HB := bx; have cx := bG; have gi := bY; have gm := bZ; clear ba bc bf bk bw bx bG bY bZ; clear hb hbox hg; have hcz24_0 : w23.cell? ⟨bz, 0, none⟩ = some (.int .i64 0) := (bC cx.out 0).trans rfl; have hcz24_1 : w23.cell? ⟨bz, 1, none⟩ = some (.int .i64 0) := (bC cx.out 1).trans rfl; have hcz24_2 : w23.cell? ⟨bz, 2, none⟩ = some (.string (⟨#[]⟩ : ByteArray)) := (bC cx.out 2).trans rfl; have hcz24_3 : w23.cell? ⟨bz, 3, none⟩ = some (.int .i64 0) := (bC cx.out 3).trans rfl; have hcz24_4 : w23.cell? ⟨bz, 4, none⟩ = some (.int .i64 0) := (bC cx.out 4).trans rfl; have hfz24_0 := bF cx.out 0; have hfz24_1 := bF cx.out 1; have hfz24_2 := bF cx.out 2; have hfz24_3 := bF cx.out 3; have hfz24_4 := bF cx.out 4) | ((with_reducible refine gate_builtin (b := .append) (xs := #[.tmp 43, .tmp 45]) rfl ?_); at_builtin; refine Kd.R_append k58 (w0 := w0) w0.heap.size rfl (.tmp 43) (.tmp 45) 27 58 (.agg #[(.int .i64 0), (.int .i64 0), (.string ⟨#[]⟩), (.int .i64 0), (.int .i64 0)]) 48 rfl Try.underlying27 info58 rfl (by decide) (by omega) u5 x5_1 (⟨(rd_T58 l1 x24_1).f0, (rd_T58 l1 x24_1).f1, (rd_T58 l1 x24_1).f2, (rd_T58 l1 x24_1).f3, (rd_T58 l1 x24_1).f4⟩ : S58) [.int .i64 ((rd_T58 l1 x24_1).f0), .int .i64 ((rd_T58 l1 x24_1).f1), .string ((rd_T58 l1 x24_1).f2), .int .i64 ((rd_T58 l1 x24_1).f3), .int .i64 ((rd_T58 l1 x24_1).f4)] (fun k_ => ((P0_ k_ ∨ P1_ k_) ∨ w.heap.size ≤ k_) ∧ some k_ ≠ (.slice kP l0.length jh : Value).ownBlock ∧ some k_ ≠ (.slice (some ad178) l1.length dL : Value).ownBlock ∧ some k_ ≠ (.slice (some ad178) l1.length dL : Value).ownBlock ∧ k_ ≠ bz) (fun _ => False) rfl (by first | (go_simp; done) | (go_simp; rfl)) ?aP (fun _ hk => hk.elim) ?aF ?aO ?aB ?aS ?aL ?_; (case aP => exact k58_mkM _ _ _ (⟨(rd_T58 l1 x24_1).f0, (rd_T58 l1 x24_1).f1, (rd_T58 l1 x24_1).f2, (rd_T58 l1 x24_1).f3, (rd_T58 l1 x24_1).f4⟩ : S58)); (case aB => exact (by repeat (first | (with_reducible first | exact HB.out | apply bA | apply pD | apply bD | refine ax ?_ gm.out) | exact HB.out))); (case aF => exact (fun k_ hk => ⟨(.inr (Nat.le_trans (show Kept w _ (fun k_ => P0_ k_ ∨ P1_ k_) from by repeat (first | (with_reducible first | exact HK.out | apply Kept.alloc | apply Kept.drewN | apply Kept.drew | refine Kept.setCell ?_ (.inr gi.out) _) | exact HK.out)).1 hk)), Kd.fresh' (al (by (with_reducible repeat (first | apply ac | apply ab | apply aa)); exact (ag (am (p := ⟨bz, 4, none⟩) (am (p := ⟨bz, 3, none⟩) (am (p := ⟨bz, 2, none⟩) (am (p := ⟨bz, 1, none⟩) (am (p := ⟨bz, 0, none⟩) (ag b8.out (fun k_ hk => (⟨hk, hk.2⟩ : _ ∧ k_ ≠ bz))) (fun _ hk => hk.2) (.int .i64 ((rd_T58 l1 x24_1).f0))) (fun _ hk => hk.2) (.int .i64 ((rd_T58 l1 x24_1).f1))) (fun _ hk => hk.2) (.string ((rd_T58 l1 x24_1).f2))) (fun _ hk => hk.2) (.int .i64 ((rd_T58 l1 x24_1).f3))) (fun _ hk => hk.2) (.int .i64 ((rd_T58 l1 x24_1).f4))) (fun _ h_ => h_.1)))) k_ hk, Kd.fresh' (al (by (with_reducible repeat (first | apply ac | apply ab | apply aa)); exact (ag (am (p := ⟨bz, 4, none⟩) (am (p := ⟨bz, 3, none⟩) (am (p := ⟨bz, 2, none⟩) (am (p := ⟨bz, 1, none⟩) (am (p := ⟨bz, 0, none⟩) (ag dr.out (fun k_ hk => (⟨hk, hk.2⟩ : _ ∧ k_ ≠ bz))) (fun _ hk => hk.2) (.int .i64 ((rd_T58 l1 x24_1).f0))) (fun _ hk => hk.2) (.int .i64 ((rd_T58 l1 x24_1).f1))) (fun _ hk => hk.2) (.string ((rd_T58 l1 x24_1).f2))) (fun _ hk => hk.2) (.int .i64 ((rd_T58 l1 x24_1).f3))) (fun _ hk => hk.2) (.int .i64 ((rd_T58 l1 x24_1).f4))) (fun _ h_ => h_.1)))) k_ hk, Kd.fresh' (al (by (with_reducible repeat (first | apply ac | apply ab | apply aa)); exact (ag (am (p := ⟨bz, 4, none⟩) (am (p := ⟨bz, 3, none⟩) (am (p := ⟨bz, 2, none⟩) (am (p := ⟨bz, 1, none⟩) (am (p := ⟨bz, 0, none⟩) (ag cy.out (fun k_ hk => (⟨hk, hk.2⟩ : _ ∧ k_ ≠ bz))) (fun _ hk => hk.2) (.int .i64 ((rd_T58 l1 x24_1).f0))) (fun _ hk => hk.2) (.int .i64 ((rd_T58 l1 x24_1).f1))) (fun _ hk => hk.2) (.string ((rd_T58 l1 x24_1).f2))) (fun _ hk => hk.2) (.int .i64 ((rd_T58 l1 x24_1).f3))) (fun _ hk => hk.2) (.int .i64 ((rd_T58 l1 x24_1).f4))) (fun _ h_ => h_.1)))) k_ hk, Kd.freshB (g := bz) (o := .cells #[.int .i64 ((rd_T58 l1 x24_1).f0), .int .i64 ((rd_T58 l1 x24_1).f1), .string ((rd_T58 l1 x24_1).f2), .int .i64 ((rd_T58 l1 x24_1).f3), .int .i64 ((rd_T58 l1 x24_1).f4)] 58 (0, 0)) (by (with_reducible repeat (first | refine aq ?_ _ | refine ap ?_ | refine ar ?_ _)); refine av (cs := #[.int .i64 ((rd_T58 l1 x24_1).f0), .int .i64 ((rd_T58 l1 x24_1).f1), .string ((rd_T58 l1 x24_1).f2), .int .i64 ((rd_T58 l1 x24_1).f3), .int .i64 0]) ?_ 4 _ rfl; (with_reducible repeat (first | refine aq ?_ _ | refine ap ?_ | refine ar ?_ _)); refine av (cs := #[.int .i64 ((rd_T58 l1 x24_1).f0), .int .i64 ((rd_T58 l1 x24_1).f1), .string ((rd_T58 l1 x24_1).f2), .int .i64 0, .int .i64 0]) ?_ 3 _ rfl; (with_reducible repeat (first | refine aq ?_ _ | refine ap ?_ | refine ar ?_ _)); refine av (cs := #[.int .i64 ((rd_T58 l1 x24_1).f0), .int .i64 ((rd_T58 l1 x24_1).f1), .string (⟨#[]⟩ : ByteArray), .int .i64 0, .int .i64 0]) ?_ 2 _ rfl; (with_reducible repeat (first | refine aq ?_ _ | refine ap ?_ | refine ar ?_ _)); refine av (cs := #[.int .i64 ((rd_T58 l1 x24_1).f0), .int .i64 0, .string (⟨#[]⟩ : ByteArray), .int .i64 0, .int .i64 0]) ?_ 1 _ rfl; (with_reducible repeat (first | refine aq ?_ _ | refine ap ?_ | refine ar ?_ _)); refine av (cs := #[.int .i64 0, .int .i64 0, .string (⟨#[]⟩ : ByteArray), .int .i64 0, .int .i64 0]) ?_ 0 _ rfl; (with_reducible repeat (first | refine aq ?_ _ | refine ap ?_ | refine ar ?_ _)); exact cx.out) k_ hk⟩)); (case aO => exact (by (with_reducible repeat (first | apply ac | apply ab | apply aa)); exact ag (am (p := ⟨bz, 4, none⟩) (am (p := ⟨bz, 3, none⟩) (am (p := ⟨bz, 2, none⟩) (am (p := ⟨bz, 1, none⟩) (am (p := ⟨bz, 0, none⟩) (ag dq.out (fun k_ hk => (⟨hk, hk.2⟩ : _ ∧ k_ ≠ bz))) (fun _ hk => hk.2) (.int .i64 ((rd_T58 l1 x24_1).f0))) (fun _ hk => hk.2) (.int .i64 ((rd_T58 l1 x24_1).f1))) (fun _ hk => hk.2) (.string ((rd_T58 l1 x24_1).f2))) (fun _ hk => hk.2) (.int .i64 ((rd_T58 l1 x24_1).f3))) (fun _ hk => hk.2) (.int .i64 ((rd_T58 l1 x24_1).f4))) (fun _ hk => ⟨hk.1.1.1, ⟨hk.1.1.2.1, ⟨hk.1.1.2.2.1, ⟨hk.1.1.2.2.2, hk.1.2⟩⟩⟩⟩))); (case aS => exact (az (by repeat (first | (with_reducible first | exact HB.out | apply bA | apply pD | apply bD | refine ax ?_ gm.out) | exact HB.out)))); (case aL => have := LMc22.out; omega); intro v184 w25 ho hb hg hat; rw [← Ny183.out] at ho; have ba := aM (Kd.R_after (ok := (fun k_ => ((P0_ k_ ∨ P1_ k_) ∨ w.heap.size ≤ k_) ∧ some k_ ≠ (.slice (some ad178) l1.length dL : Value).ownBlock ∧ some k_ ≠ (.slice (some ad178) l1.length dL : Value).ownBlock ∧ k_ ≠ bz)) (by (with_reducible repeat (first | apply ac | apply ab | apply aa)); exact ag (am (p := ⟨bz, 4, none⟩) (am (p := ⟨bz, 3, none⟩) (am (p := ⟨bz, 2, none⟩) (am (p := ⟨bz, 1, none⟩) (am (p := ⟨bz, 0, none⟩) (ag b8.out (fun k_ hk => (⟨hk, hk.2⟩ : _ ∧ k_ ≠ bz))) (fun _ hk => hk.2) (.int .i64 ((rd_T58 l1 x24_1).f0))) (fun _ hk => hk.2) (.int .i64 ((rd_T58 l1 x24_1).f1))) (fun _ hk => hk.2) (.string ((rd_T58 l1 x24_1).f2))) (fun _ hk => hk.2) (.int .i64 ((rd_T58 l1 x24_1).f3))) (fun _ hk => hk.2) (.int .i64 ((rd_T58 l1 x24_1).f4))) (fun _ hk => ⟨⟨hk.1.1.1, ⟨hk.1.1.2.1, ⟨hk.1.1.2.2.2, hk.1.2⟩⟩⟩, hk.1.1.2.2.1⟩)) hg hat); have bc := aM (Kd.R_after (ok := (fun k_ => ((P0_ k_ ∨ P1_ k_) ∨ w.heap.size ≤ k_) ∧ some k_ ≠ (.slice kP l0.length jh : Value).ownBlock ∧ k_ ≠ bz)) (by (with_reducible repeat (first | apply ac | apply ab | apply aa)); exact ag (am (p := ⟨bz, 4, none⟩) (am (p := ⟨bz, 3, none⟩) (am (p := ⟨bz, 2, none⟩) (am (p := ⟨bz, 1, none⟩) (am (p := ⟨bz, 0, none⟩) (ag dr.out (fun k_ hk => (⟨hk, hk.2⟩ : _ ∧ k_ ≠ bz))) (fun _ hk => hk.2) (.int .i64 ((rd_T58 l1 x24_1).f0))) (fun _ hk => hk.2) (.int .i64 ((rd_T58 l1 x24_1).f1))) (fun _ hk => hk.2) (.string ((rd_T58 l1 x24_1).f2))) (fun _ hk => hk.2) (.int .i64 ((rd_T58 l1 x24_1).f3))) (fun _ hk => hk.2) (.int .i64 ((rd_T58 l1 x24_1).f4))) (fun _ hk => ⟨⟨hk.1.1.1, ⟨hk.1.1.2.1, hk.1.2⟩⟩, hk.1.1.2.2⟩)) hg hat); have bf := aM (Kd.R_after (ok := (fun k_ => ((P0_ k_ ∨ P1_ k_) ∨ w.heap.size ≤ k_) ∧ some k_ ≠ (.slice kP l0.length jh : Value).ownBlock ∧ k_ ≠ bz)) (by (with_reducible repeat (first | apply ac | apply ab | apply aa)); exact ag (am (p := ⟨bz, 4, none⟩) (am (p := ⟨bz, 3, none⟩) (am (p := ⟨bz, 2, none⟩) (am (p := ⟨bz, 1, none⟩) (am (p := ⟨bz, 0, none⟩) (ag cy.out (fun k_ hk => (⟨hk, hk.2⟩ : _ ∧ k_ ≠ bz))) (fun _ hk => hk.2) (.int .i64 ((rd_T58 l1 x24_1).f0))) (fun _ hk => hk.2) (.int .i64 ((rd_T58 l1 x24_1).f1))) (fun _ hk => hk.2) (.string ((rd_T58 l1 x24_1).f2))) (fun _ hk => hk.2) (.int .i64 ((rd_T58 l1 x24_1).f3))) (fun _ hk => hk.2) (.int .i64 ((rd_T58 l1 x24_1).f4))) (fun _ hk => ⟨⟨hk.1.1.1, ⟨hk.1.1.2.1, hk.1.2⟩⟩, hk.1.1.2.2⟩)) hg hat); have bk := aM (blk_grown (g := bz) (o := .cells #[.int .i64 ((rd_T58 l1 x24_1).f0), .int .i64 ((rd_T58 l1 x24_1).f1), .string ((rd_T58 l1 x24_1).f2), .int .i64 ((rd_T58 l1 x24_1).f3), .int .i64 ((rd_T58 l1 x24_1).f4)] 58 (0, 0)) (by (with_reducible repeat (first | refine aq ?_ _ | refine ap ?_ | refine ar ?_ _)); refine av (cs := #[.int .i64 ((rd_T58 l1 x24_1).f0), .int .i64 ((rd_T58 l1 x24_1).f1), .string ((rd_T58 l1 x24_1).f2), .int .i64 ((rd_T58 l1 x24_1).f3), .int .i64 0]) ?_ 4 _ rfl; (with_reducible repeat (first | refine aq ?_ _ | refine ap ?_ | refine ar ?_ _)); refine av (cs := #[.int .i64 ((rd_T58 l1 x24_1).f0), .int .i64 ((rd_T58 l1 x24_1).f1), .string ((rd_T58 l1 x24_1).f2), .int .i64 0, .int .i64 0]) ?_ 3 _ rfl; (with_reducible repeat (first | refine aq ?_ _ | refine ap ?_ | refine ar ?_ _)); refine av (cs := #[.int .i64 ((rd_T58 l1 x24_1).f0), .int .i64 ((rd_T58 l1 x24_1).f1), .string (⟨#[]⟩ : ByteArray), .int .i64 0, .int .i64 0]) ?_ 2 _ rfl; (with_reducible repeat (first | refine aq ?_ _ | refine ap ?_ | refine ar ?_ _)); refine av (cs := #[.int .i64 ((rd_T58 l1 x24_1).f0), .int .i64 0, .string (⟨#[]⟩ : ByteArray), .int .i64 0, .int .i64 0]) ?_ 1 _ rfl; (with_reducible repeat (first | refine aq ?_ _ | refine ap ?_ | refine ar ?_ _)); refine av (cs := #[.int .i64 0, .int .i64 0, .string (⟨#[]⟩ : ByteArray), .int .i64 0, .int .i64 0]) ?_ 0 _ rfl; (with_reducible repeat (first | refine aq ?_ _ | refine ap ?_ | refine ar ?_ _)); exact cx.out) hg (Kd.R_away dq.out (fun _ hk => hk.2))); have bw := aM (hb); have bx := aM (Kept.of_grown (S := (fun k_ => P0_ k_ ∨ P1_ k_)) hg (by repeat (first | (with_reducible first | exact HK.out | apply Kept.alloc | apply Kept.drewN | apply Kept.drew | refine Kept.setCell ?_ (.inr gi.out) _) | exact HK.out)) (fun k_ e_ => (dq.out.1 k_ e_).1.1)); have bG := aM (ho); clear b8; clear dr; clear cy; clear cx; clear HB; clear HK; clear dq; have b8 := ba; have dr := bc; have cy := bf; have cx := bk; have HB := bw; have HK := bx; have HO185 := bG; clear ba bc bf bk bw bx bG; clear ho hb hg hat))
           go_roundg k1
           case measure => have := HK1.out; omega
           case rel => exact ⟨(y183), (wrap64 (x24_1 + 1)), z1, H', ⟨by have := HK1.out; omega⟩, ⟨by (with_reducible repeat (first | apply ac | apply ab | apply aa)); exact ag b8.out (fun _ hk => ⟨hk.1.1, ⟨hk.1.2.1, ⟨hk.2, hk.1.2.2.1⟩⟩⟩)⟩, ⟨by (with_reducible repeat (first | apply ac | apply ab | apply aa)); exact ag dr.out (fun _ hk => ⟨hk.1.1, ⟨hk.1.2.1, hk.2⟩⟩)⟩, ⟨by (with_reducible repeat (first | apply ac | apply ab | apply aa)); exact ag HO185.out (fun _ hk => ⟨hk.1, ⟨hk.2.1, ⟨hk.2.2.1, hk.2.2.2.1⟩⟩⟩)⟩, ⟨by (with_reducible repeat (first | apply ac | apply ab | apply aa)); exact ag cy.out (fun _ hk => ⟨hk.1.1, ⟨hk.1.2.1, hk.2⟩⟩)⟩, ⟨by repeat (first | (with_reducible first | exact HK.out | apply Kept.alloc | apply Kept.drewN | apply Kept.drew | refine Kept.setCell ?_ (.inr gi.out) _) | exact HK.out)⟩, ⟨by repeat (first | (with_reducible first | exact HB.out | apply bA | apply pD | apply bD | refine ax ?_ gm.out) | exact HB.out)⟩⟩
          ·rw [if_neg mL] at H
           exact absurd H (by simp)
        ·rw [if_neg ji] at H
         exact absurd H (by simp)
       ·rw [if_neg fK] at H
        exact absurd H (by simp)
      ·rw [if_neg gX] at H
       have c14b0 : decide (x24_1 < (l1.length : Int)) = false := dF gX
       clear gX
       obtain ⟨bV, jo⟩ : ∃ j_ : Int, (wrap64 ((l0.length : Int) - 1)) = j_ := ⟨_, rfl⟩
       replace H : (if 0 ≤ (bV) then (if (bV) < (l0.length : Int) then (if 0 ≤ (wrap64 ((l1.length : Int) - 1)) then (if (wrap64 ((l1.length : Int) - 1)) < (l1.length : Int) then (if ((rd_T58 l1 (wrap64 ((l1.length : Int) - 1))).f4) > ((rd_T58 l0 (bV)).f4) then (if x5_1.length < 2932031007402 then (some (x5_1 ++ [(⟨bV, wrap64 ((x5_1.length : Int) - 1), (⟨#[]⟩ : ByteArray), wrap64 (((rd_T58 l0 (bV)).f3) + ((rd_T58 l1 (wrap64 ((l1.length : Int) - 1))).f3)), wrap64 (((rd_T58 l1 (wrap64 ((l1.length : Int) - 1))).f4) + 1)⟩ : S58)])) else (none)) else (if x5_1.length < 2932031007402 then (some (x5_1 ++ [(⟨bV, wrap64 ((x5_1.length : Int) - 1), (⟨#[]⟩ : ByteArray), wrap64 (((rd_T58 l0 (bV)).f3) + ((rd_T58 l1 (wrap64 ((l1.length : Int) - 1))).f3)), wrap64 (((rd_T58 l0 (bV)).f4) + 1)⟩ : S58)])) else (none))) else (none)) else (none)) else (none)) else (none)) = some r := by first | (rw [jo] at H; exact H) | (simp only [jo] at H ⊢; exact H)
       have hji26w : (IntKind.i64.wrap ((l0.length : Int) - 1)) = bV := (i64_w _).trans jo
       by_cases mK : 0 ≤ (bV)
       ·rw [if_pos mK] at H
        have c27b0 : decide (0 ≤ (bV)) = true := dT mK
        clear mK
        by_cases lw : (bV) < (l0.length : Int)
        ·rw [if_pos lw] at H
         have c28b0 : decide ((bV) < (l0.length : Int)) = true := dT lw
         clear lw
         obtain ⟨cj, jn⟩ : ∃ j_ : Int, (wrap64 ((l1.length : Int) - 1)) = j_ := ⟨_, rfl⟩
         replace H : (if 0 ≤ (cj) then (if (cj) < (l1.length : Int) then (if ((rd_T58 l1 (cj)).f4) > ((rd_T58 l0 (bV)).f4) then (if x5_1.length < 2932031007402 then (some (x5_1 ++ [(⟨bV, wrap64 ((x5_1.length : Int) - 1), (⟨#[]⟩ : ByteArray), wrap64 (((rd_T58 l0 (bV)).f3) + ((rd_T58 l1 (cj)).f3)), wrap64 (((rd_T58 l1 (cj)).f4) + 1)⟩ : S58)])) else (none)) else (if x5_1.length < 2932031007402 then (some (x5_1 ++ [(⟨bV, wrap64 ((x5_1.length : Int) - 1), (⟨#[]⟩ : ByteArray), wrap64 (((rd_T58 l0 (bV)).f3) + ((rd_T58 l1 (cj)).f3)), wrap64 (((rd_T58 l0 (bV)).f4) + 1)⟩ : S58)])) else (none))) else (none)) else (none)) = some r := by first | (rw [jn] at H; exact H) | (simp only [jn] at H ⊢; exact H)
         have hji29w : (IntKind.i64.wrap ((l1.length : Int) - 1)) = cj := (i64_w _).trans jn
         by_cases lv : 0 ≤ (cj)
         ·rw [if_pos lv] at H
          have c30b0 : decide (0 ≤ (cj)) = true := dT lv
          clear lv
          by_cases nm : (cj) < (l1.length : Int)
          ·rw [if_pos nm] at H
           have c31b0 : decide ((cj) < (l1.length : Int)) = true := dT nm
           clear nm
           by_cases mA : ((rd_T58 l1 (cj)).f4) > ((rd_T58 l0 (bV)).f4)
           ·rw [if_pos mA] at H
            have c32b0 : decide (((rd_T58 l0 (bV)).f4) < ((rd_T58 l1 (cj)).f4)) = true := dT mA
            clear mA
            by_cases kO : x5_1.length < 2932031007402
            ·rw [if_pos kO] at H
             have LMc33 := aM kO
             clear kO
             obtain ⟨y190, hy190⟩ : ∃ y_ : List (S58), y_ = (x5_1 ++ [(⟨bV, wrap64 ((x5_1.length : Int) - 1), (⟨#[]⟩ : ByteArray), wrap64 (((rd_T58 l0 (bV)).f3) + ((rd_T58 l1 (cj)).f3)), wrap64 (((rd_T58 l1 (cj)).f4) + 1)⟩ : S58)]) := ⟨_, rfl⟩
             replace H : (some y190) = some r := by first | (rw [hy190]; with_reducible exact H) | (have H2_ := (Option.bind_some _ _).symm.trans H; rw [hy190]; with_reducible exact H2_) | (have H2_ := (Option.bind_some _ _).symm.trans H; with_reducible exact H2_) | with_reducible exact H | (rw [hy190]; exact H) | exact H
             have Ny190 := aM hy190
             clear hy190
             obtain rfl := sI H
             have p186 : 0 ≤ ((bV) : Int) := oD z2
             have q186 : (bV) < (l0.length : Int) := oD z2
             obtain ⟨ad186, e186, hx186_0, hx186_1, hx186_2, hx186_3, hx186_4⟩ := at_T58 (ah b8.out).2.2 (bV) p186 q186
             cases e186
             replace p186 := eq_true p186
             replace q186 := eq_true q186
             go_upto_region 14 with (fail)
             go_cut [8] (fun v8_ wc_ => ∃ gb_, v8_ = .pointer (some ⟨gb_, 0, none⟩) ∧ Aside0 (gb_ = wr.heap.size) ∧ Aside0 (wc_.heap[gb_]? = some (.cells #[.int .i64 ((rd_T58 l0 (bV)).f0), .int .i64 ((rd_T58 l0 (bV)).f1), .string ((rd_T58 l0 (bV)).f2), .int .i64 ((rd_T58 l0 (bV)).f3), .int .i64 ((rd_T58 l0 (bV)).f4)] 58 (0, 0))) ∧ Aside0 (Below wr.heap.size wr wc_))
             case first =>
               go_wp2_with (fail)
               go_meet
               exact ⟨_, rfl, ⟨rfl⟩, ⟨blk_new _ _⟩, ⟨bA (Below.refl _ _) _⟩⟩
             case rest =>
               obtain ⟨cd, rfl, hg0_, hbox0_, hb0_⟩ := hcut
               have hg := hg0_.out; have hbox := hbox0_.out; have hb := hb0_.out; clear hg0_ hbox0_ hb0_
               have ba := aM (af (Kd.R_elderB (by (with_reducible repeat (first | apply ac | apply ab | apply aa)); exact b8.out) cd (Nat.le_of_eq hg.symm)) hb); have bc := aM (af (Kd.R_elderB (by (with_reducible repeat (first | apply ac | apply ab | apply aa)); exact dr.out) cd (Nat.le_of_eq hg.symm)) hb); have bf := aM (af (Kd.R_elderB (by (with_reducible repeat (first | apply ac | apply ab | apply aa)); exact dq.out) cd (Nat.le_of_eq hg.symm)) hb); have bk := aM (af (Kd.R_elderB (by (with_reducible repeat (first | apply ac | apply ab | apply aa)); exact cy.out) cd (Nat.le_of_eq hg.symm)) hb); have bw := aM (Kept.below (S := (fun k_ => P0_ k_ ∨ P1_ k_)) z19 hb); have bx := aM (ay z20 hb); have bG := aM (hbox); have bY := aM ((by rw [hg]; exact (by first | exact HK.out.1 | exact (show Kept w _ (fun k_ => P0_ k_ ∨ P1_ k_) from by repeat (first | (with_reducible first | exact HK.out | apply Kept.alloc | apply Kept.drewN | apply Kept.drew) | exact HK.out)).1) : w.heap.size ≤ cd)); have bZ := aM ((by rw [hg]; exact (az z20) : w0.heap.size ≤ cd)); clear b8; clear dr; clear dq; clear cy; clear HK; clear HB; have b8 := ba; have dr := bc; have dq := bf; have cy := bk; have HK := bw; have HB := bx; have cz := bG; have eP := bY; have eR := bZ; clear ba bc bf bk bw bx bG bY bZ; clear hb hbox hg
               have p188 : 0 ≤ ((cj) : Int) := oD z2; have q188 : (cj) < (l1.length : Int) := oD z2; obtain ⟨ad188, e188, hx188_0, hx188_1, hx188_2, hx188_3, hx188_4⟩ := at_T58 (ah dr.out).2.2 (cj) p188 q188; cases e188; replace p188 := eq_true p188; replace q188 := eq_true q188
               go_upto_region 15 with (fail)
               go_cut [9] (fun v9_ wd_ => ∃ gb_, v9_ = .pointer (some ⟨gb_, 0, none⟩) ∧ Aside0 (gb_ = wc.heap.size) ∧ Aside0 (wd_.heap[gb_]? = some (.cells #[.int .i64 ((rd_T58 l1 (cj)).f0), .int .i64 ((rd_T58 l1 (cj)).f1), .string ((rd_T58 l1 (cj)).f2), .int .i64 ((rd_T58 l1 (cj)).f3), .int .i64 ((rd_T58 l1 (cj)).f4)] 58 (0, 0))) ∧ Aside0 (Below wc.heap.size wc wd_))
               case first =>
                 go_wp2_with (fail)
                 go_meet
                 exact ⟨_, rfl, ⟨rfl⟩, ⟨blk_new _ _⟩, ⟨bA (Below.refl _ _) _⟩⟩
               case rest =>
                 obtain ⟨cb, rfl, hg0_, hbox0_, hb0_⟩ := hcut
                 have hg := hg0_.out; have hbox := hbox0_.out; have hb := hb0_.out; clear hg0_ hbox0_ hb0_
                 have ba := aM (af (Kd.R_elderB (by (with_reducible repeat (first | apply ac | apply ab | apply aa)); exact (ag (ag b8.out (fun k_ hk => (⟨hk, hk.2⟩ : _ ∧ k_ ≠ cd))) (fun _ h_ => h_.1))) cb (Nat.le_of_eq hg.symm)) hb); have bc := aM (af (Kd.R_elderB (by (with_reducible repeat (first | apply ac | apply ab | apply aa)); exact (ag (ag dr.out (fun k_ hk => (⟨hk, hk.2⟩ : _ ∧ k_ ≠ cd))) (fun _ h_ => h_.1))) cb (Nat.le_of_eq hg.symm)) hb); have bf := aM (af (Kd.R_elderB (by (with_reducible repeat (first | apply ac | apply ab | apply aa)); exact (ag (ag dq.out (fun k_ hk => (⟨hk, hk.2⟩ : _ ∧ k_ ≠ cd))) (fun _ h_ => h_.1))) cb (Nat.le_of_eq hg.symm)) hb); have bk := aM (af (Kd.R_elderB (by (with_reducible repeat (first | apply ac | apply ab | apply aa)); exact (ag (ag cy.out (fun k_ hk => (⟨hk, hk.2⟩ : _ ∧ k_ ≠ cd))) (fun _ h_ => h_.1))) cb (Nat.le_of_eq hg.symm)) hb); have bw := aM (ae (g := cd) (o := .cells #[.int .i64 ((rd_T58 l0 (bV)).f0), .int .i64 ((rd_T58 l0 (bV)).f1), .string ((rd_T58 l0 (bV)).f2), .int .i64 ((rd_T58 l0 (bV)).f3), .int .i64 ((rd_T58 l0 (bV)).f4)] 58 (0, 0)) cz.out hb); have bx := aM (Kept.below (S := (fun k_ => P0_ k_ ∨ P1_ k_)) (by repeat (first | (with_reducible first | exact HK.out | apply Kept.alloc | apply Kept.drewN | apply Kept.drew | refine Kept.setCell ?_ (.inr eP.out) _) | exact HK.out)) hb); have bG := aM (ay (by repeat (first | (with_reducible first | exact HB.out | apply bA | apply pD | apply bD | refine ax ?_ eR.out) | exact HB.out)) hb); have bY := aM (hbox); have bZ := aM ((by rw [hg]; exact (show Kept w _ (fun k_ => P0_ k_ ∨ P1_ k_) from by repeat (first | (with_reducible first | exact HK.out | apply Kept.alloc | apply Kept.drewN | apply Kept.drew | refine Kept.setCell ?_ (.inr eP.out) _) | exact HK.out)).1 : w.heap.size ≤ cb)); have b3 := aM ((by rw [hg]; exact (az (by repeat (first | (with_reducible first | exact HB.out | apply bA | apply pD | apply bD | refine ax ?_ eR.out) | exact HB.out))) : w0.heap.size ≤ cb)); have br := aM ((by rw [hg]; exact aA (aw (g := cd) (o := .cells #[.int .i64 ((rd_T58 l0 (bV)).f0), .int .i64 ((rd_T58 l0 (bV)).f1), .string ((rd_T58 l0 (bV)).f2), .int .i64 ((rd_T58 l0 (bV)).f3), .int .i64 ((rd_T58 l0 (bV)).f4)] 58 (0, 0)) cz.out) : cd ≠ cb)); have bP := aM ((by rw [hg]; exact aC (aw (g := cd) (o := .cells #[.int .i64 ((rd_T58 l0 (bV)).f0), .int .i64 ((rd_T58 l0 (bV)).f1), .string ((rd_T58 l0 (bV)).f2), .int .i64 ((rd_T58 l0 (bV)).f3), .int .i64 ((rd_T58 l0 (bV)).f4)] 58 (0, 0)) cz.out) : cb ≠ cd)); clear b8; clear dr; clear dq; clear cy; clear cz; clear HK; clear HB; have b8 := ba; have dr := bc; have dq := bf; have cy := bk; have cz := bw; have HK := bx; have HB := bG; have dd := bY; have gZ := bZ; have g5 := b3; have f5 := br; have fZ := bP; clear ba bc bf bk bw bx bG bY bZ b3 br bP; clear hb hbox hg
                 have hnb187x189_ := f5.out; have hnb189x187_ := fZ.out
                 have hcy1_0 : wc.cell? ⟨cd, 0, none⟩ = some (.int .i64 ((rd_T58 l0 (bV)).f0)) := (bC cz.out 0).trans rfl; have hfy1_0 := bF cz.out 0
                 have hcy1_1 : wc.cell? ⟨cd, 1, none⟩ = some (.int .i64 ((rd_T58 l0 (bV)).f1)) := (bC cz.out 1).trans rfl; have hfy1_1 := bF cz.out 1
                 have hcy1_2 : wc.cell? ⟨cd, 2, none⟩ = some (.string ((rd_T58 l0 (bV)).f2)) := (bC cz.out 2).trans rfl; have hfy1_2 := bF cz.out 2
                 have hcy1_3 : wc.cell? ⟨cd, 3, none⟩ = some (.int .i64 ((rd_T58 l0 (bV)).f3)) := (bC cz.out 3).trans rfl; have hfy1_3 := bF cz.out 3
                 have hcy1_4 : wc.cell? ⟨cd, 4, none⟩ = some (.int .i64 ((rd_T58 l0 (bV)).f4)) := (bC cz.out 4).trans rfl; have hfy1_4 := bF cz.out 4
                 have hcy2_0 : wc.cell? ⟨cb, 0, none⟩ = some (.int .i64 ((rd_T58 l1 (cj)).f0)) := (bC dd.out 0).trans rfl; have hfy2_0 := bF dd.out 0
                 have hcy2_1 : wc.cell? ⟨cb, 1, none⟩ = some (.int .i64 ((rd_T58 l1 (cj)).f1)) := (bC dd.out 1).trans rfl; have hfy2_1 := bF dd.out 1
                 have hcy2_2 : wc.cell? ⟨cb, 2, none⟩ = some (.string ((rd_T58 l1 (cj)).f2)) := (bC dd.out 2).trans rfl; have hfy2_2 := bF dd.out 2
                 have hcy2_3 : wc.cell? ⟨cb, 3, none⟩ = some (.int .i64 ((rd_T58 l1 (cj)).f3)) := (bC dd.out 3).trans rfl; have hfy2_3 := bF dd.out 3
                 have hcy2_4 : wc.cell? ⟨cb, 4, none⟩ = some (.int .i64 ((rd_T58 l1 (cj)).f4)) := (bC dd.out 4).trans rfl; have hfy2_4 := bF dd.out 4
                 obtain ⟨lB, lq, eo40⟩ := Kd.R_slice dq.out; subst eo40
                 go_wp2_with (((with_reducible refine gate_builtin (b := .append) (xs := #[.tmp 68, .tmp 83]) rfl ?_); at_builtin; refine Kd.R_append k58 (w0 := w0) w0.heap.size rfl (.tmp 68) (.tmp 83) 27 58 (.agg #[(.int .i64 0), (.int .i64 0), (.string ⟨#[]⟩), (.int .i64 0), (.int .i64 0)]) 48 rfl Try.underlying27 info58 rfl (by decide) (by omega) (.slice lB x5_1.length lq) x5_1 (⟨bV, wrap64 ((x5_1.length : Int) - 1), (⟨#[]⟩ : ByteArray), wrap64 (((rd_T58 l0 (bV)).f3) + ((rd_T58 l1 (cj)).f3)), wrap64 (((rd_T58 l1 (cj)).f4) + 1)⟩ : S58) [.int .i64 bV, .int .i64 (wrap64 ((x5_1.length : Int) - 1)), .string (⟨#[]⟩ : ByteArray), .int .i64 (wrap64 (((rd_T58 l0 (bV)).f3) + ((rd_T58 l1 (cj)).f3))), .int .i64 (wrap64 (((rd_T58 l1 (cj)).f4) + 1))] (fun k_ => ((P0_ k_ ∨ P1_ k_) ∨ w.heap.size ≤ k_) ∧ some k_ ≠ (.slice (some ad186) l0.length jh : Value).ownBlock ∧ some k_ ≠ (.slice (some ad188) l1.length dL : Value).ownBlock ∧ some k_ ≠ (.slice (some ad188) l1.length dL : Value).ownBlock ∧ k_ ≠ cd ∧ k_ ≠ cb) (fun _ => False) rfl (by first | (go_simp; done) | (go_simp; rfl)) ?aP (fun _ hk => hk.elim) ?aF ?aO ?aB ?aS ?aL ?_; (case aP => exact k58_mkM _ _ _ (⟨bV, wrap64 ((x5_1.length : Int) - 1), (⟨#[]⟩ : ByteArray), wrap64 (((rd_T58 l0 (bV)).f3) + ((rd_T58 l1 (cj)).f3)), wrap64 (((rd_T58 l1 (cj)).f4) + 1)⟩ : S58)); (case aB => exact (by repeat (first | (with_reducible first | exact HB.out | apply bA | apply pD | apply bD | refine ax ?_ eR.out | refine ax ?_ g5.out) | exact HB.out))); (case aF => exact (fun k_ hk => ⟨(.inr (Nat.le_trans (show Kept w _ (fun k_ => P0_ k_ ∨ P1_ k_) from by repeat (first | (with_reducible first | exact HK.out | apply Kept.alloc | apply Kept.drewN | apply Kept.drew | refine Kept.setCell ?_ (.inr eP.out) _ | refine Kept.setCell ?_ (.inr gZ.out) _) | exact HK.out)).1 hk)), Kd.fresh' (al (by (with_reducible repeat (first | apply ac | apply ab | apply aa)); exact (ag (ag b8.out (fun k_ hk => (⟨hk, hk.2⟩ : _ ∧ k_ ≠ cb))) (fun _ h_ => h_.1)))) k_ hk, Kd.fresh' (al (by (with_reducible repeat (first | apply ac | apply ab | apply aa)); exact (ag (ag dr.out (fun k_ hk => (⟨hk, hk.2⟩ : _ ∧ k_ ≠ cb))) (fun _ h_ => h_.1)))) k_ hk, Kd.fresh' (al (by (with_reducible repeat (first | apply ac | apply ab | apply aa)); exact (ag (ag cy.out (fun k_ hk => (⟨hk, hk.2⟩ : _ ∧ k_ ≠ cb))) (fun _ h_ => h_.1)))) k_ hk, Kd.freshB (g := cd) (o := .cells #[.int .i64 ((rd_T58 l0 (bV)).f0), .int .i64 ((rd_T58 l0 (bV)).f1), .string ((rd_T58 l0 (bV)).f2), .int .i64 ((rd_T58 l0 (bV)).f3), .int .i64 ((rd_T58 l0 (bV)).f4)] 58 (0, 0)) cz.out k_ hk, Kd.freshB (g := cb) (o := .cells #[.int .i64 ((rd_T58 l1 (cj)).f0), .int .i64 ((rd_T58 l1 (cj)).f1), .string ((rd_T58 l1 (cj)).f2), .int .i64 ((rd_T58 l1 (cj)).f3), .int .i64 ((rd_T58 l1 (cj)).f4)] 58 (0, 0)) dd.out k_ hk⟩)); (case aO => exact (by (with_reducible repeat (first | apply ac | apply ab | apply aa)); exact ag (ag dq.out (fun k_ hk => (⟨hk, hk.2⟩ : _ ∧ k_ ≠ cb))) (fun _ hk => ⟨hk.1.1.1.1, ⟨hk.1.1.1.2.1, ⟨hk.1.1.1.2.2.1, ⟨hk.1.1.1.2.2.2, ⟨hk.1.1.2, hk.1.2⟩⟩⟩⟩⟩))); (case aS => exact (az (by repeat (first | (with_reducible first | exact HB.out | apply bA | apply pD | apply bD | refine ax ?_ eR.out | refine ax ?_ g5.out) | exact HB.out)))); (case aL => have := LMc33.out; omega); intro v191 w41 ho hb hg hat; rw [← Ny190.out] at ho; have ba := aM (Kd.R_after (ok := (fun k_ => ((P0_ k_ ∨ P1_ k_) ∨ w.heap.size ≤ k_) ∧ some k_ ≠ (.slice (some ad188) l1.length dL : Value).ownBlock ∧ some k_ ≠ (.slice (some ad188) l1.length dL : Value).ownBlock ∧ k_ ≠ cd ∧ k_ ≠ cb)) (by (with_reducible repeat (first | apply ac | apply ab | apply aa)); exact ag (ag b8.out (fun k_ hk => (⟨hk, hk.2⟩ : _ ∧ k_ ≠ cb))) (fun _ hk => ⟨⟨hk.1.1.1.1, ⟨hk.1.1.1.2.1, ⟨hk.1.1.1.2.2.2, ⟨hk.1.1.2, hk.1.2⟩⟩⟩⟩, hk.1.1.1.2.2.1⟩)) hg hat); have bc := aM (Kd.R_after (ok := (fun k_ => ((P0_ k_ ∨ P1_ k_) ∨ w.heap.size ≤ k_) ∧ some k_ ≠ (.slice (some ad186) l0.length jh : Value).ownBlock ∧ k_ ≠ cd ∧ k_ ≠ cb)) (by (with_reducible repeat (first | apply ac | apply ab | apply aa)); exact ag (ag dr.out (fun k_ hk => (⟨hk, hk.2⟩ : _ ∧ k_ ≠ cb))) (fun _ hk => ⟨⟨hk.1.1.1.1, ⟨hk.1.1.1.2.1, ⟨hk.1.1.2, hk.1.2⟩⟩⟩, hk.1.1.1.2.2⟩)) hg hat); have bf := aM (Kd.R_after (ok := (fun k_ => ((P0_ k_ ∨ P1_ k_) ∨ w.heap.size ≤ k_) ∧ some k_ ≠ (.slice (some ad186) l0.length jh : Value).ownBlock ∧ k_ ≠ cd ∧ k_ ≠ cb)) (by (with_reducible repeat (first | apply ac | apply ab | apply aa)); exact ag (ag cy.out (fun k_ hk => (⟨hk, hk.2⟩ : _ ∧ k_ ≠ cb))) (fun _ hk => ⟨⟨hk.1.1.1.1, ⟨hk.1.1.1.2.1, ⟨hk.1.1.2, hk.1.2⟩⟩⟩, hk.1.1.1.2.2⟩)) hg hat); have bk := aM (blk_grown (g := cd) (o := .cells #[.int .i64 ((rd_T58 l0 (bV)).f0), .int .i64 ((rd_T58 l0 (bV)).f1), .string ((rd_T58 l0 (bV)).f2), .int .i64 ((rd_T58 l0 (bV)).f3), .int .i64 ((rd_T58 l0 (bV)).f4)] 58 (0, 0)) cz.out hg (Kd.R_away dq.out (fun _ hk => hk.1.2))); have bw := aM (blk_grown (g := cb) (o := .cells #[.int .i64 ((rd_T58 l1 (cj)).f0), .int .i64 ((rd_T58 l1 (cj)).f1), .string ((rd_T58 l1 (cj)).f2), .int .i64 ((rd_T58 l1 (cj)).f3), .int .i64 ((rd_T58 l1 (cj)).f4)] 58 (0, 0)) dd.out hg (Kd.R_away dq.out (fun _ hk => hk.2))); have bx := aM (hb); have bG := aM (Kept.of_grown (S := (fun k_ => P0_ k_ ∨ P1_ k_)) hg (by repeat (first | (with_reducible first | exact HK.out | apply Kept.alloc | apply Kept.drewN | apply Kept.drew | refine Kept.setCell ?_ (.inr eP.out) _ | refine Kept.setCell ?_ (.inr gZ.out) _) | exact HK.out)) (fun k_ e_ => (dq.out.1 k_ e_).1.1.1)); have bY := aM (ho); clear b8; clear dr; clear cy; clear cz; clear dd; clear HB; clear HK; clear dq; have b8 := ba; have dr := bc; have cy := bf; have cz := bk; have dd := bw; have HB := bx; have HK := bG; have HO192 := bY; clear ba bc bf bk bw bx bG bY; clear ho hb hg hat))
                 go_ret
                 exact ⟨_, by first | rfl | (simp [errW_none, errW_some] <;> rfl) | (simp only [← jo, ← jn]; first | rfl | (simp [errW_none, errW_some] <;> rfl)) | (simp [*, errW_none, errW_some] <;> rfl), by (with_reducible repeat (first | apply ac | apply ab | apply aa)); exact ag HO192.out (fun _ hk => hk.1), by repeat (first | (with_reducible first | exact HB.out | apply bA | apply pD | apply bD | refine ax ?_ eR.out | refine ax ?_ g5.out) | exact HB.out), by repeat (first | (with_reducible first | exact HK.out | apply Kept.alloc | apply Kept.drewN | apply Kept.drew | refine Kept.setCell ?_ (.inr eP.out) _ | refine Kept.setCell ?_ (.inr gZ.out) _) | exact HK.out)⟩
            ·rw [if_neg kO] at H
             exact absurd H (by simp)
           ·rw [if_neg mA] at H
            have c32b0 : decide (((rd_T58 l0 (bV)).f4) < ((rd_T58 l1 (cj)).f4)) = false := dF mA
            clear mA
            by_cases kN : x5_1.length < 2932031007402
            ·rw [if_pos kN] at H
             have LMc42 := aM kN
             clear kN
             obtain ⟨y193, hy193⟩ : ∃ y_ : List (S58), y_ = (x5_1 ++ [(⟨bV, wrap64 ((x5_1.length : Int) - 1), (⟨#[]⟩ : ByteArray), wrap64 (((rd_T58 l0 (bV)).f3) + ((rd_T58 l1 (cj)).f3)), wrap64 (((rd_T58 l0 (bV)).f4) + 1)⟩ : S58)]) := ⟨_, rfl⟩
             replace H : (some y193) = some r := by first | (rw [hy193]; with_reducible exact H) | (have H2_ := (Option.bind_some _ _).symm.trans H; rw [hy193]; with_reducible exact H2_) | (have H2_ := (Option.bind_some _ _).symm.trans H; with_reducible exact H2_) | with_reducible exact H | (rw [hy193]; exact H) | exact H
             have Ny193 := aM hy193
             clear hy193
             obtain rfl := sI H
             have p186 : 0 ≤ ((bV) : Int) := oD z2
             have q186 : (bV) < (l0.length : Int) := oD z2
             obtain ⟨ad186, e186, hx186_0, hx186_1, hx186_2, hx186_3, hx186_4⟩ := at_T58 (ah b8.out).2.2 (bV) p186 q186
             cases e186
             replace p186 := eq_true p186
             replace q186 := eq_true q186
             go_upto_region 14 with (fail)
             go_cut [8] (fun v8_ wc_ => ∃ gb_, v8_ = .pointer (some ⟨gb_, 0, none⟩) ∧ Aside0 (gb_ = wr.heap.size) ∧ Aside0 (wc_.heap[gb_]? = some (.cells #[.int .i64 ((rd_T58 l0 (bV)).f0), .int .i64 ((rd_T58 l0 (bV)).f1), .string ((rd_T58 l0 (bV)).f2), .int .i64 ((rd_T58 l0 (bV)).f3), .int .i64 ((rd_T58 l0 (bV)).f4)] 58 (0, 0))) ∧ Aside0 (Below wr.heap.size wr wc_))
             case first =>
               go_wp2_with (fail)
               go_meet
               exact ⟨_, rfl, ⟨rfl⟩, ⟨blk_new _ _⟩, ⟨bA (Below.refl _ _) _⟩⟩
             case rest =>
               obtain ⟨cd, rfl, hg0_, hbox0_, hb0_⟩ := hcut
               have hg := hg0_.out; have hbox := hbox0_.out; have hb := hb0_.out; clear hg0_ hbox0_ hb0_
               have ba := aM (af (Kd.R_elderB (by (with_reducible repeat (first | apply ac | apply ab | apply aa)); exact b8.out) cd (Nat.le_of_eq hg.symm)) hb); have bc := aM (af (Kd.R_elderB (by (with_reducible repeat (first | apply ac | apply ab | apply aa)); exact dr.out) cd (Nat.le_of_eq hg.symm)) hb); have bf := aM (af (Kd.R_elderB (by (with_reducible repeat (first | apply ac | apply ab | apply aa)); exact dq.out) cd (Nat.le_of_eq hg.symm)) hb); have bk := aM (af (Kd.R_elderB (by (with_reducible repeat (first | apply ac | apply ab | apply aa)); exact cy.out) cd (Nat.le_of_eq hg.symm)) hb); have bw := aM (Kept.below (S := (fun k_ => P0_ k_ ∨ P1_ k_)) z19 hb); have bx := aM (ay z20 hb); have bG := aM (hbox); have bY := aM ((by rw [hg]; exact (by first | exact HK.out.1 | exact (show Kept w _ (fun k_ => P0_ k_ ∨ P1_ k_) from by repeat (first | (with_reducible first | exact HK.out | apply Kept.alloc | apply Kept.drewN | apply Kept.drew) | exact HK.out)).1) : w.heap.size ≤ cd)); have bZ := aM ((by rw [hg]; exact (az z20) : w0.heap.size ≤ cd)); clear b8; clear dr; clear dq; clear cy; clear HK; clear HB; have b8 := ba; have dr := bc; have dq := bf; have cy := bk; have HK := bw; have HB := bx; have cz := bG; have eP := bY; have eR := bZ; clear ba bc bf bk bw bx bG bY bZ; clear hb hbox hg
               have p188 : 0 ≤ ((cj) : Int) := oD z2; have q188 : (cj) < (l1.length : Int) := oD z2; obtain ⟨ad188, e188, hx188_0, hx188_1, hx188_2, hx188_3, hx188_4⟩ := at_T58 (ah dr.out).2.2 (cj) p188 q188; cases e188; replace p188 := eq_true p188; replace q188 := eq_true q188
               go_upto_region 15 with (fail)
               go_cut [9] (fun v9_ wd_ => ∃ gb_, v9_ = .pointer (some ⟨gb_, 0, none⟩) ∧ Aside0 (gb_ = wc.heap.size) ∧ Aside0 (wd_.heap[gb_]? = some (.cells #[.int .i64 ((rd_T58 l1 (cj)).f0), .int .i64 ((rd_T58 l1 (cj)).f1), .string ((rd_T58 l1 (cj)).f2), .int .i64 ((rd_T58 l1 (cj)).f3), .int .i64 ((rd_T58 l1 (cj)).f4)] 58 (0, 0))) ∧ Aside0 (Below wc.heap.size wc wd_))
               case first =>
                 go_wp2_with (fail)
                 go_meet
                 exact ⟨_, rfl, ⟨rfl⟩, ⟨blk_new _ _⟩, ⟨bA (Below.refl _ _) _⟩⟩
               case rest =>
                 obtain ⟨cb, rfl, hg0_, hbox0_, hb0_⟩ := hcut
                 have hg := hg0_.out; have hbox := hbox0_.out; have hb := hb0_.out; clear hg0_ hbox0_ hb0_
                 have ba := aM (af (Kd.R_elderB (by (with_reducible repeat (first | apply ac | apply ab | apply aa)); exact (ag (ag b8.out (fun k_ hk => (⟨hk, hk.2⟩ : _ ∧ k_ ≠ cd))) (fun _ h_ => h_.1))) cb (Nat.le_of_eq hg.symm)) hb); have bc := aM (af (Kd.R_elderB (by (with_reducible repeat (first | apply ac | apply ab | apply aa)); exact (ag (ag dr.out (fun k_ hk => (⟨hk, hk.2⟩ : _ ∧ k_ ≠ cd))) (fun _ h_ => h_.1))) cb (Nat.le_of_eq hg.symm)) hb); have bf := aM (af (Kd.R_elderB (by (with_reducible repeat (first | apply ac | apply ab | apply aa)); exact (ag (ag dq.out (fun k_ hk => (⟨hk, hk.2⟩ : _ ∧ k_ ≠ cd))) (fun _ h_ => h_.1))) cb (Nat.le_of_eq hg.symm)) hb); have bk := aM (af (Kd.R_elderB (by (with_reducible repeat (first | apply ac | apply ab | apply aa)); exact (ag (ag cy.out (fun k_ hk => (⟨hk, hk.2⟩ : _ ∧ k_ ≠ cd))) (fun _ h_ => h_.1))) cb (Nat.le_of_eq hg.symm)) hb); have bw := aM (ae (g := cd) (o := .cells #[.int .i64 ((rd_T58 l0 (bV)).f0), .int .i64 ((rd_T58 l0 (bV)).f1), .string ((rd_T58 l0 (bV)).f2), .int .i64 ((rd_T58 l0 (bV)).f3), .int .i64 ((rd_T58 l0 (bV)).f4)] 58 (0, 0)) cz.out hb); have bx := aM (Kept.below (S := (fun k_ => P0_ k_ ∨ P1_ k_)) (by repeat (first | (with_reducible first | exact HK.out | apply Kept.alloc | apply Kept.drewN | apply Kept.drew | refine Kept.setCell ?_ (.inr eP.out) _) | exact HK.out)) hb); have bG := aM (ay (by repeat (first | (with_reducible first | exact HB.out | apply bA | apply pD | apply bD | refine ax ?_ eR.out) | exact HB.out)) hb); have bY := aM (hbox); have bZ := aM ((by rw [hg]; exact (show Kept w _ (fun k_ => P0_ k_ ∨ P1_ k_) from by repeat (first | (with_reducible first | exact HK.out | apply Kept.alloc | apply Kept.drewN | apply Kept.drew | refine Kept.setCell ?_ (.inr eP.out) _) | exact HK.out)).1 : w.heap.size ≤ cb)); have b3 := aM ((by rw [hg]; exact (az (by repeat (first | (with_reducible first | exact HB.out | apply bA | apply pD | apply bD | refine ax ?_ eR.out) | exact HB.out))) : w0.heap.size ≤ cb)); have br := aM ((by rw [hg]; exact aA (aw (g := cd) (o := .cells #[.int .i64 ((rd_T58 l0 (bV)).f0), .int .i64 ((rd_T58 l0 (bV)).f1), .string ((rd_T58 l0 (bV)).f2), .int .i64 ((rd_T58 l0 (bV)).f3), .int .i64 ((rd_T58 l0 (bV)).f4)] 58 (0, 0)) cz.out) : cd ≠ cb)); have bP := aM ((by rw [hg]; exact aC (aw (g := cd) (o := .cells #[.int .i64 ((rd_T58 l0 (bV)).f0), .int .i64 ((rd_T58 l0 (bV)).f1), .string ((rd_T58 l0 (bV)).f2), .int .i64 ((rd_T58 l0 (bV)).f3), .int .i64 ((rd_T58 l0 (bV)).f4)] 58 (0, 0)) cz.out) : cb ≠ cd)); clear b8; clear dr; clear dq; clear cy; clear cz; clear HK; clear HB; have b8 := ba; have dr := bc; have dq := bf; have cy := bk; have cz := bw; have HK := bx; have HB := bG; have dd := bY; have gZ := bZ; have g5 := b3; have f5 := br; have fZ := bP; clear ba bc bf bk bw bx bG bY bZ b3 br bP; clear hb hbox hg
                 have hnb187x189_ := f5.out; have hnb189x187_ := fZ.out
                 have hcy1_0 : wc.cell? ⟨cd, 0, none⟩ = some (.int .i64 ((rd_T58 l0 (bV)).f0)) := (bC cz.out 0).trans rfl; have hfy1_0 := bF cz.out 0
                 have hcy1_1 : wc.cell? ⟨cd, 1, none⟩ = some (.int .i64 ((rd_T58 l0 (bV)).f1)) := (bC cz.out 1).trans rfl; have hfy1_1 := bF cz.out 1
                 have hcy1_2 : wc.cell? ⟨cd, 2, none⟩ = some (.string ((rd_T58 l0 (bV)).f2)) := (bC cz.out 2).trans rfl; have hfy1_2 := bF cz.out 2
                 have hcy1_3 : wc.cell? ⟨cd, 3, none⟩ = some (.int .i64 ((rd_T58 l0 (bV)).f3)) := (bC cz.out 3).trans rfl; have hfy1_3 := bF cz.out 3
                 have hcy1_4 : wc.cell? ⟨cd, 4, none⟩ = some (.int .i64 ((rd_T58 l0 (bV)).f4)) := (bC cz.out 4).trans rfl; have hfy1_4 := bF cz.out 4
                 have hcy2_0 : wc.cell? ⟨cb, 0, none⟩ = some (.int .i64 ((rd_T58 l1 (cj)).f0)) := (bC dd.out 0).trans rfl; have hfy2_0 := bF dd.out 0
                 have hcy2_1 : wc.cell? ⟨cb, 1, none⟩ = some (.int .i64 ((rd_T58 l1 (cj)).f1)) := (bC dd.out 1).trans rfl; have hfy2_1 := bF dd.out 1
                 have hcy2_2 : wc.cell? ⟨cb, 2, none⟩ = some (.string ((rd_T58 l1 (cj)).f2)) := (bC dd.out 2).trans rfl; have hfy2_2 := bF dd.out 2
                 have hcy2_3 : wc.cell? ⟨cb, 3, none⟩ = some (.int .i64 ((rd_T58 l1 (cj)).f3)) := (bC dd.out 3).trans rfl; have hfy2_3 := bF dd.out 3
                 have hcy2_4 : wc.cell? ⟨cb, 4, none⟩ = some (.int .i64 ((rd_T58 l1 (cj)).f4)) := (bC dd.out 4).trans rfl; have hfy2_4 := bF dd.out 4
                 obtain ⟨Ao49, co49, eo49⟩ := Kd.R_slice dq.out; subst eo49
                 go_wp2_with (((with_reducible refine gate_builtin (b := .append) (xs := #[.tmp 68, .tmp 83]) rfl ?_); at_builtin; refine Kd.R_append k58 (w0 := w0) w0.heap.size rfl (.tmp 68) (.tmp 83) 27 58 (.agg #[(.int .i64 0), (.int .i64 0), (.string ⟨#[]⟩), (.int .i64 0), (.int .i64 0)]) 48 rfl Try.underlying27 info58 rfl (by decide) (by omega) (.slice Ao49 x5_1.length co49) x5_1 (⟨bV, wrap64 ((x5_1.length : Int) - 1), (⟨#[]⟩ : ByteArray), wrap64 (((rd_T58 l0 (bV)).f3) + ((rd_T58 l1 (cj)).f3)), wrap64 (((rd_T58 l0 (bV)).f4) + 1)⟩ : S58) [.int .i64 bV, .int .i64 (wrap64 ((x5_1.length : Int) - 1)), .string (⟨#[]⟩ : ByteArray), .int .i64 (wrap64 (((rd_T58 l0 (bV)).f3) + ((rd_T58 l1 (cj)).f3))), .int .i64 (wrap64 (((rd_T58 l0 (bV)).f4) + 1))] (fun k_ => ((P0_ k_ ∨ P1_ k_) ∨ w.heap.size ≤ k_) ∧ some k_ ≠ (.slice (some ad186) l0.length jh : Value).ownBlock ∧ some k_ ≠ (.slice (some ad188) l1.length dL : Value).ownBlock ∧ some k_ ≠ (.slice (some ad188) l1.length dL : Value).ownBlock ∧ k_ ≠ cd ∧ k_ ≠ cb) (fun _ => False) rfl (by first | (go_simp; done) | (go_simp; rfl)) ?aP (fun _ hk => hk.elim) ?aF ?aO ?aB ?aS ?aL ?_; (case aP => exact k58_mkM _ _ _ (⟨bV, wrap64 ((x5_1.length : Int) - 1), (⟨#[]⟩ : ByteArray), wrap64 (((rd_T58 l0 (bV)).f3) + ((rd_T58 l1 (cj)).f3)), wrap64 (((rd_T58 l0 (bV)).f4) + 1)⟩ : S58)); (case aB => exact (by repeat (first | (with_reducible first | exact HB.out | apply bA | apply pD | apply bD | refine ax ?_ eR.out | refine ax ?_ g5.out) | exact HB.out))); (case aF => exact (fun k_ hk => ⟨(.inr (Nat.le_trans (show Kept w _ (fun k_ => P0_ k_ ∨ P1_ k_) from by repeat (first | (with_reducible first | exact HK.out | apply Kept.alloc | apply Kept.drewN | apply Kept.drew | refine Kept.setCell ?_ (.inr eP.out) _ | refine Kept.setCell ?_ (.inr gZ.out) _) | exact HK.out)).1 hk)), Kd.fresh' (al (by (with_reducible repeat (first | apply ac | apply ab | apply aa)); exact (ag (ag b8.out (fun k_ hk => (⟨hk, hk.2⟩ : _ ∧ k_ ≠ cb))) (fun _ h_ => h_.1)))) k_ hk, Kd.fresh' (al (by (with_reducible repeat (first | apply ac | apply ab | apply aa)); exact (ag (ag dr.out (fun k_ hk => (⟨hk, hk.2⟩ : _ ∧ k_ ≠ cb))) (fun _ h_ => h_.1)))) k_ hk, Kd.fresh' (al (by (with_reducible repeat (first | apply ac | apply ab | apply aa)); exact (ag (ag cy.out (fun k_ hk => (⟨hk, hk.2⟩ : _ ∧ k_ ≠ cb))) (fun _ h_ => h_.1)))) k_ hk, Kd.freshB (g := cd) (o := .cells #[.int .i64 ((rd_T58 l0 (bV)).f0), .int .i64 ((rd_T58 l0 (bV)).f1), .string ((rd_T58 l0 (bV)).f2), .int .i64 ((rd_T58 l0 (bV)).f3), .int .i64 ((rd_T58 l0 (bV)).f4)] 58 (0, 0)) cz.out k_ hk, Kd.freshB (g := cb) (o := .cells #[.int .i64 ((rd_T58 l1 (cj)).f0), .int .i64 ((rd_T58 l1 (cj)).f1), .string ((rd_T58 l1 (cj)).f2), .int .i64 ((rd_T58 l1 (cj)).f3), .int .i64 ((rd_T58 l1 (cj)).f4)] 58 (0, 0)) dd.out k_ hk⟩)); (case aO => exact (by (with_reducible repeat (first | apply ac | apply ab | apply aa)); exact ag (ag dq.out (fun k_ hk => (⟨hk, hk.2⟩ : _ ∧ k_ ≠ cb))) (fun _ hk => ⟨hk.1.1.1.1, ⟨hk.1.1.1.2.1, ⟨hk.1.1.1.2.2.1, ⟨hk.1.1.1.2.2.2, ⟨hk.1.1.2, hk.1.2⟩⟩⟩⟩⟩))); (case aS => exact (az (by repeat (first | (with_reducible first | exact HB.out | apply bA | apply pD | apply bD | refine ax ?_ eR.out | refine ax ?_ g5.out) | exact HB.out)))); (case aL => have := LMc42.out; omega); intro v194 w50 ho hb hg hat; rw [← Ny193.out] at ho; have ba := aM (Kd.R_after (ok := (fun k_ => ((P0_ k_ ∨ P1_ k_) ∨ w.heap.size ≤ k_) ∧ some k_ ≠ (.slice (some ad188) l1.length dL : Value).ownBlock ∧ some k_ ≠ (.slice (some ad188) l1.length dL : Value).ownBlock ∧ k_ ≠ cd ∧ k_ ≠ cb)) (by (with_reducible repeat (first | apply ac | apply ab | apply aa)); exact ag (ag b8.out (fun k_ hk => (⟨hk, hk.2⟩ : _ ∧ k_ ≠ cb))) (fun _ hk => ⟨⟨hk.1.1.1.1, ⟨hk.1.1.1.2.1, ⟨hk.1.1.1.2.2.2, ⟨hk.1.1.2, hk.1.2⟩⟩⟩⟩, hk.1.1.1.2.2.1⟩)) hg hat); have bc := aM (Kd.R_after (ok := (fun k_ => ((P0_ k_ ∨ P1_ k_) ∨ w.heap.size ≤ k_) ∧ some k_ ≠ (.slice (some ad186) l0.length jh : Value).ownBlock ∧ k_ ≠ cd ∧ k_ ≠ cb)) (by (with_reducible repeat (first | apply ac | apply ab | apply aa)); exact ag (ag dr.out (fun k_ hk => (⟨hk, hk.2⟩ : _ ∧ k_ ≠ cb))) (fun _ hk => ⟨⟨hk.1.1.1.1, ⟨hk.1.1.1.2.1, ⟨hk.1.1.2, hk.1.2⟩⟩⟩, hk.1.1.1.2.2⟩)) hg hat); have bf := aM (Kd.R_after (ok := (fun k_ => ((P0_ k_ ∨ P1_ k_) ∨ w.heap.size ≤ k_) ∧ some k_ ≠ (.slice (some ad186) l0.length jh : Value).ownBlock ∧ k_ ≠ cd ∧ k_ ≠ cb)) (by (with_reducible repeat (first | apply ac | apply ab | apply aa)); exact ag (ag cy.out (fun k_ hk => (⟨hk, hk.2⟩ : _ ∧ k_ ≠ cb))) (fun _ hk => ⟨⟨hk.1.1.1.1, ⟨hk.1.1.1.2.1, ⟨hk.1.1.2, hk.1.2⟩⟩⟩, hk.1.1.1.2.2⟩)) hg hat); have bk := aM (blk_grown (g := cd) (o := .cells #[.int .i64 ((rd_T58 l0 (bV)).f0), .int .i64 ((rd_T58 l0 (bV)).f1), .string ((rd_T58 l0 (bV)).f2), .int .i64 ((rd_T58 l0 (bV)).f3), .int .i64 ((rd_T58 l0 (bV)).f4)] 58 (0, 0)) cz.out hg (Kd.R_away dq.out (fun _ hk => hk.1.2))); have bw := aM (blk_grown (g := cb) (o := .cells #[.int .i64 ((rd_T58 l1 (cj)).f0), .int .i64 ((rd_T58 l1 (cj)).f1), .string ((rd_T58 l1 (cj)).f2), .int .i64 ((rd_T58 l1 (cj)).f3), .int .i64 ((rd_T58 l1 (cj)).f4)] 58 (0, 0)) dd.out hg (Kd.R_away dq.out (fun _ hk => hk.2))); have bx := aM (hb); have bG := aM (Kept.of_grown (S := (fun k_ => P0_ k_ ∨ P1_ k_)) hg (by repeat (first | (with_reducible first | exact HK.out | apply Kept.alloc | apply Kept.drewN | apply Kept.drew | refine Kept.setCell ?_ (.inr eP.out) _ | refine Kept.setCell ?_ (.inr gZ.out) _) | exact HK.out)) (fun k_ e_ => (dq.out.1 k_ e_).1.1.1)); have bY := aM (ho); clear b8; clear dr; clear cy; clear cz; clear dd; clear HB; clear HK; clear dq; have b8 := ba; have dr := bc; have cy := bf; have cz := bk; have dd := bw; have HB := bx; have HK := bG; have HO195 := bY; clear ba bc bf bk bw bx bG bY; clear ho hb hg hat))
                 go_ret
                 exact ⟨_, by first | rfl | (simp [errW_none, errW_some] <;> rfl) | (simp only [← jo, ← jn]; first | rfl | (simp [errW_none, errW_some] <;> rfl)) | (simp [*, errW_none, errW_some] <;> rfl), by (with_reducible repeat (first | apply ac | apply ab | apply aa)); exact ag HO195.out (fun _ hk => hk.1), by repeat (first | (with_reducible first | exact HB.out | apply bA | apply pD | apply bD | refine ax ?_ eR.out | refine ax ?_ g5.out) | exact HB.out), by repeat (first | (with_reducible first | exact HK.out | apply Kept.alloc | apply Kept.drewN | apply Kept.drew | refine Kept.setCell ?_ (.inr eP.out) _ | refine Kept.setCell ?_ (.inr gZ.out) _) | exact HK.out)⟩
            ·rw [if_neg kN] at H
             exact absurd H (by simp)
          ·rw [if_neg nm] at H
           exact absurd H (by simp)
         ·rw [if_neg lv] at H
          exact absurd H (by simp)
        ·rw [if_neg lw] at H
         exact absurd H (by simp)
       ·rw [if_neg mK] at H
        exact absurd H (by simp)
   ·rw [if_neg c8] at H
    exact absurd H (by simp)

/-! ### spec_JoinRopes: function 34 -/
def spec_JoinRopes.j0 : Nat → Bool → List (S58) → List (S58) → Option ((List (S58)) × Bool)
 | 0, _, _, _ => none
 | k + 1, x14, x197000, x198000 => if x14 = true then (some (([] : List (S58)), false)) else ((some (([] : List (S58)) : List (S58))).bind fun y201 => ((spec_l12Join.f k x197000 x198000).bind fun fa => (if y201.length + fa.length < 2932031007402 then ((some (y201 ++ fa : List (S58))).bind fun y207 => ((spec_GoodRope.f k y207).bind fun jE => (if jE = true then (some (y207, true)) else (some (([] : List (S58)), false))))) else (none))))
def spec_JoinRopes.f (k : Nat) (l0_0 : List (S58)) (l1_0 : List (S58)) : Option ((List (S58)) × Bool) := (spec_GoodRope.f k l0_0).bind fun kS => (if kS = true then ((spec_GoodRope.f k l1_0).bind fun kA => (spec_JoinRopes.j0 k (!kA) l0_0 l1_0)) else (spec_JoinRopes.j0 k true l0_0 l1_0))
theorem spec_JoinRopes.mono_l : ∀ k, (∀ y0 y1 y2, LeO (spec_JoinRopes.j0 k y0 y1 y2) (spec_JoinRopes.j0 (k + 1) y0 y1 y2))
 | 0 => fun _ _ _ r h => by simp [spec_JoinRopes.j0] at h
 | k + 1 => by
  have ih0 := spec_JoinRopes.mono_l k
  ·intro y0 y1 y2
   unfold spec_JoinRopes.j0
   repeat' first
   | (with_reducible exact ih0 _ _ _)
   | (with_reducible exact spec_GoodRope.mono _ _)
   | (with_reducible exact spec_l12Join.mono _ _ _)
   | (with_reducible exact LeO.refl _)
   | (with_reducible exact LeO.none _)
   | (with_reducible refine LeO.ite ?_ ?_)
   | (with_reducible refine LeO.bind ?_ (fun _ => ?_))
   | exact ih0 _ _ _
   | exact spec_GoodRope.mono _ _
   | exact spec_l12Join.mono _ _ _
   | exact LeO.none _
   | refine LeO.ite ?_ ?_
   | refine LeO.bind ?_ (fun _ => ?_)
theorem spec_JoinRopes.mono : ∀ a0 a1 k, LeO (spec_JoinRopes.f k a0 a1) (spec_JoinRopes.f (k + 1) a0 a1) := by
 intro a0 a1 k
 have ih0 := spec_JoinRopes.mono_l k
 unfold spec_JoinRopes.f
 repeat' first
   | (with_reducible exact ih0 _ _ _)
   | (with_reducible exact spec_GoodRope.mono _ _)
   | (with_reducible exact spec_l12Join.mono _ _ _)
   | (with_reducible exact LeO.refl _)
   | (with_reducible exact LeO.none _)
   | (with_reducible refine LeO.ite ?_ ?_)
   | (with_reducible refine LeO.bind ?_ (fun _ => ?_))
   | exact ih0 _ _ _
   | exact spec_GoodRope.mono _ _
   | exact spec_l12Join.mono _ _ _
   | exact LeO.none _
   | refine LeO.ite ?_ ?_
   | refine LeO.bind ?_ (fun _ => ?_)
set_option maxHeartbeats 8000000 in
set_option maxRecDepth 100000 in
theorem spec_JoinRopes.calls (k : Nat) (P0_0_ : Nat → Prop) (u9000_ : Value) (l0_0 : List (S58)) (P1_0_ : Nat → Prop) (u9001_ : Value) (l1_0 : List (S58)) (r1 : List (S58)) (r2 : Bool) (w0 w : World) (hB : Below w0.heap.size w0 w) (ho0_0 : Kd.R k58 58 w w0.heap.size P0_0_ u9000_ l0_0) (hp0_0_1_0 : ∀ k_, P0_0_ k_ → ¬ P1_0_ k_) (ho1_0 : Kd.R k58 58 w w0.heap.size P1_0_ u9001_ l1_0) (hp1_0_0_0 : ∀ k_, P1_0_ k_ → ¬ P0_0_ k_) (h : spec_JoinRopes.f k l0_0 l1_0 = some (r1, r2)) :
  Calls Try.prog 34 #[.agg #[u9000_], .agg #[u9001_]] w fun e w' => ∃ v0_ : Value, e = .returned (.tuple #[.agg #[v0_], .bool r2]) ∧ Kd.R k58 58 w' w0.heap.size (fun k_ => ((P0_0_ k_ ∨ P1_0_ k_) ∨ w.heap.size ≤ k_)) v0_ r1 ∧ Below w0.heap.size w0 w' ∧ Kept w w' (fun k_ => P0_0_ k_ ∨ P1_0_ k_) := by
 have hu29 := Try.underlying29
 have cD := aM (show Kd.R k58 58 w w0.heap.size (fun k_ => ((P0_0_ k_ ∨ P1_0_ k_) ∨ w.heap.size ≤ k_) ∧ some k_ ≠ (u9001_ : Value).ownBlock) u9000_ l0_0 from ag ho0_0 (fun k_ hk => ⟨(.inl (.inl hk)), fun e_ => hp0_0_1_0 k_ hk (ho1_0.1 k_ e_.symm)⟩))
 have dB := aM (show Kd.R k58 58 w w0.heap.size (fun k_ => ((P0_0_ k_ ∨ P1_0_ k_) ∨ w.heap.size ≤ k_) ∧ some k_ ≠ (u9000_ : Value).ownBlock) u9001_ l1_0 from ag ho1_0 (fun k_ hk => ⟨(.inl (.inr hk)), fun e_ => hp1_0_0_0 k_ hk (ho0_0.1 k_ e_.symm)⟩))
 have HK := aM (Kept.refl w (fun k_ => P0_0_ k_ ∨ P1_0_ k_))
 have HW0 := aM hB.size
 have HB := aM hB
 clear hB
 have H : ((spec_GoodRope.f k l0_0).bind fun kS => (if kS = true then ((spec_GoodRope.f k l1_0).bind fun kA => (spec_JoinRopes.j0 k (!kA) l0_0 l1_0)) else (spec_JoinRopes.j0 k true l0_0 l1_0))) = some (r1, r2) := h
 clear h
 have nx := aM H
 clear H
 obtain ⟨ee, eb, eo4⟩ := Kd.R_slice cD.out
 subst eo4
 go_enter Try.func34, Try.ntmps34
 go_upto_region 1 with (first | ((with_reducible refine aK (N := 2) rfl ?_); refine aN ?hg (N := 2) ?hd (cs := #[.slice ee l0_0.length eb]) (t := 29) ?hr ?_; (case hd => rfl); (case hg => rfl); (case hr => first | (go_simp; done) | (go_simp; rfl)); intro cG hg w5 hbox hb; have ba := aM (af (by (with_reducible repeat (first | apply ac | apply ab | apply aa)); exact cD.out) hb); have bc := aM (af (by (with_reducible repeat (first | apply ac | apply ab | apply aa)); exact dB.out) hb); have bf := aM (Kept.below (S := (fun k_ => P0_0_ k_ ∨ P1_0_ k_)) z19 hb); have bk := aM (ay z20 hb); have bw := aM (hbox); have bx := aM ((by rw [hg]; exact (by first | exact HK.out.1 | exact (show Kept w _ (fun k_ => P0_0_ k_ ∨ P1_0_ k_) from by repeat (first | (with_reducible first | exact HK.out | apply Kept.alloc | apply Kept.drewN | apply Kept.drew) | exact HK.out)).1) : w.heap.size ≤ cG)); have bG := aM ((by rw [hg]; exact (az z20) : w0.heap.size ≤ cG)); clear cD; clear dB; clear HK; clear HB; have cD := ba; have dB := bc; have HK := bf; have HB := bk; have ci := bw; have gh := bx; have ez := bG; clear ba bc bf bk bw bx bG; clear hb hbox hg; obtain ⟨ff, fb, eo6⟩ := Kd.R_slice dB.out; subst eo6) | ((with_reducible refine aK (N := 3) rfl ?_); refine aN ?hg (N := 3) ?hd (cs := #[.slice ff l1_0.length fb]) (t := 29) ?hr ?_; (case hd => rfl); (case hg => rfl); (case hr => first | (go_simp; done) | (go_simp; rfl)); intro cR hg w7 hbox hb; have ba := aM (af (by (with_reducible repeat (first | apply ac | apply ab | apply aa)); exact cD.out) hb); have bc := aM (af (by (with_reducible repeat (first | apply ac | apply ab | apply aa)); exact dB.out) hb); have bf := aM (ae (g := cG) (o := .cells #[.slice ee l0_0.length eb] 29 (0, 0)) z9 hb); have bk := aM (Kept.below (S := (fun k_ => P0_0_ k_ ∨ P1_0_ k_)) (by repeat (first | (with_reducible first | exact HK.out | apply Kept.alloc | apply Kept.drewN | apply Kept.drew | refine Kept.setCell ?_ (.inr gh.out) _) | exact HK.out)) hb); have bw := aM (ay (by repeat (first | (with_reducible first | exact HB.out | apply bA | apply pD | apply bD | refine ax ?_ ez.out) | exact HB.out)) hb); have bx := aM (hbox); have bG := aM ((by rw [hg]; exact (by first | exact HK.out.1 | exact (show Kept w _ (fun k_ => P0_0_ k_ ∨ P1_0_ k_) from by repeat (first | (with_reducible first | exact HK.out | apply Kept.alloc | apply Kept.drewN | apply Kept.drew | refine Kept.setCell ?_ (.inr gh.out) _) | exact HK.out)).1) : w.heap.size ≤ cR)); have bY := aM ((by rw [hg]; exact (az (by repeat (first | (with_reducible first | exact HB.out | apply bA | apply pD | apply bD | refine ax ?_ ez.out) | exact HB.out))) : w0.heap.size ≤ cR)); have bZ := aM ((by rw [hg]; exact aA (aw (g := cG) (o := .cells #[.slice ee l0_0.length eb] 29 (0, 0)) z9) : cG ≠ cR)); have b3 := aM ((by rw [hg]; exact aC (aw (g := cG) (o := .cells #[.slice ee l0_0.length eb] 29 (0, 0)) z9) : cR ≠ cG)); clear cD; clear dB; clear ci; clear HK; clear HB; have cD := ba; have dB := bc; have ci := bf; have HK := bk; have HB := bw; have cp := bx; have hV := bG; have eQ := bY; have e7 := bZ; have e6 := b3; clear ba bc bf bk bw bx bG bY bZ b3; clear hb hbox hg) | ((with_reducible refine aK (N := 4) rfl ?_); refine aN ?hg (N := 4) ?hd (cs := #[.slice none 0 0]) (t := 29) ?hr ?_; (case hd => rfl); (case hg => rfl); (case hr => first | (go_simp; done) | (go_simp; rfl)); intro cO hg w8 hbox hb; have ba := aM (af (by (with_reducible repeat (first | apply ac | apply ab | apply aa)); exact cD.out) hb); have bc := aM (af (by (with_reducible repeat (first | apply ac | apply ab | apply aa)); exact dB.out) hb); have bf := aM (ae (g := cG) (o := .cells #[.slice ee l0_0.length eb] 29 (0, 0)) z9 hb); have bk := aM (ae (g := cR) (o := .cells #[.slice ff l1_0.length fb] 29 (0, 0)) z10 hb); have bw := aM (Kept.below (S := (fun k_ => P0_0_ k_ ∨ P1_0_ k_)) (by repeat (first | (with_reducible first | exact HK.out | apply Kept.alloc | apply Kept.drewN | apply Kept.drew | refine Kept.setCell ?_ (.inr gh.out) _ | refine Kept.setCell ?_ (.inr hV.out) _) | exact HK.out)) hb); have bx := aM (ay (by repeat (first | (with_reducible first | exact HB.out | apply bA | apply pD | apply bD | refine ax ?_ ez.out | refine ax ?_ eQ.out) | exact HB.out)) hb); have bG := aM (hbox); have bY := aM ((by rw [hg]; exact (by first | exact HK.out.1 | exact (show Kept w _ (fun k_ => P0_0_ k_ ∨ P1_0_ k_) from by repeat (first | (with_reducible first | exact HK.out | apply Kept.alloc | apply Kept.drewN | apply Kept.drew | refine Kept.setCell ?_ (.inr gh.out) _ | refine Kept.setCell ?_ (.inr hV.out) _) | exact HK.out)).1) : w.heap.size ≤ cO)); have bZ := aM ((by rw [hg]; exact (az (by repeat (first | (with_reducible first | exact HB.out | apply bA | apply pD | apply bD | refine ax ?_ ez.out | refine ax ?_ eQ.out) | exact HB.out))) : w0.heap.size ≤ cO)); have b3 := aM ((by rw [hg]; exact aA (aw (g := cG) (o := .cells #[.slice ee l0_0.length eb] 29 (0, 0)) z9) : cG ≠ cO)); have br := aM ((by rw [hg]; exact aC (aw (g := cG) (o := .cells #[.slice ee l0_0.length eb] 29 (0, 0)) z9) : cO ≠ cG)); have bP := aM ((by rw [hg]; exact aA (aw (g := cR) (o := .cells #[.slice ff l1_0.length fb] 29 (0, 0)) z10) : cR ≠ cO)); have b4 := aM ((by rw [hg]; exact aC (aw (g := cR) (o := .cells #[.slice ff l1_0.length fb] 29 (0, 0)) z10) : cO ≠ cR)); clear cD; clear dB; clear ci; clear cp; clear HK; clear HB; have cD := ba; have dB := bc; have ci := bf; have cp := bk; have HK := bw; have HB := bx; have cm := bG; have ky := bY; have fL := bZ; have ey := b3; have ev := br; have eZ := bP; have eY := b4; clear ba bc bf bk bw bx bG bY bZ b3 br bP b4; clear hb hbox hg))
 (try simp only [Act.put, sA, sB, sC])
 go_cut [14] (fun v14 wc => ∃ (kq : Nat) (x14_2 : Bool), v14 = .bool x14_2 ∧ Aside0 (spec_JoinRopes.j0 kq x14_2 l0_0 l1_0 = some (r1, r2)) ∧ Aside0 (kq ≤ k) ∧ Aside0 (Kd.R k58 58 wc w0.heap.size (fun k_ => ((P0_0_ k_ ∨ P1_0_ k_) ∨ w.heap.size ≤ k_) ∧ some k_ ≠ ((.slice ff l1_0.length fb) : Value).ownBlock) (.slice ee l0_0.length eb) l0_0) ∧ Aside0 (Kd.R k58 58 wc w0.heap.size (fun k_ => ((P0_0_ k_ ∨ P1_0_ k_) ∨ w.heap.size ≤ k_) ∧ some k_ ≠ ((.slice ee l0_0.length eb) : Value).ownBlock) (.slice ff l1_0.length fb) l1_0) ∧ Aside0 (wc.heap[cG]? = some (.cells #[(.slice ee l0_0.length eb)] 29 (0, 0))) ∧ Aside0 (wc.heap[cR]? = some (.cells #[(.slice ff l1_0.length fb)] 29 (0, 0))) ∧ Aside0 (wc.heap[cO]? = some (.cells #[(.slice none 0 0)] 29 (0, 0))) ∧ Aside0 (Kept w wc (fun k_ => P0_0_ k_ ∨ P1_0_ k_)) ∧ Aside0 (Below w0.heap.size w0 wc))
 case first =>
  have H := nx.out
  clear nx
  replace H := oB H
  obtain ⟨kS, mO, H⟩ := H
  try dsimp only at H
  have A9 := aM mO
  clear mO
  by_cases eE : kS = true
  ·subst eE
   rw [if_pos rfl] at H
   replace H := oB H
   obtain ⟨kA, nf, H⟩ := H
   try dsimp only at H
   have A11 := aM nf
   clear nf
   have H' := aM H
   clear H
   have hnb12 := e7.out
   have hnc12 := e6.out
   have hnb13 := ey.out
   have hnc13 := ev.out
   have jg : w8.cell? ⟨cG, 0, none⟩ = some (.slice ee l0_0.length eb) := (bC ci.out 0).trans rfl
   have iM := bF ci.out 0
   go_wp2_with (first | ((with_reducible refine aJ (f := 15) rfl ?_); refine aQ (some 8) rfl rfl Try.func15 z0 rfl #[.agg #[.slice ee l0_0.length eb]] rfl z21 ?_; (with_reducible refine (spec_GoodRope.calls k _ _ l0_0 true _ ?side1 ?side2 A9.out).mono ?_); (case side1 => repeat (first | exact (ah cD.out).2.2 | (with_reducible refine aE ?_ _) | (with_reducible refine aG ?_ _) | (with_reducible refine aH ?_))); (case side2 => exact (ah cD.out).2.1); rintro e w15 ⟨rfl, hb⟩; refine ⟨_, rfl, ?_⟩; have ba := aM (af (by (with_reducible repeat (first | apply ac | apply ab | apply aa)); exact cD.out) hb); have bc := aM (af (by (with_reducible repeat (first | apply ac | apply ab | apply aa)); exact dB.out) hb); have bf := aM (ae (g := cG) (o := .cells #[.slice ee l0_0.length eb] 29 (0, 0)) z9 hb); have bk := aM (ae (g := cR) (o := .cells #[.slice ff l1_0.length fb] 29 (0, 0)) z10 hb); have bw := aM (ae (g := cO) (o := .cells #[.slice none 0 0] 29 (0, 0)) z11 hb); have bx := aM (Kept.below (S := (fun k_ => P0_0_ k_ ∨ P1_0_ k_)) z27 hb); have bG := aM (ay z25 hb); clear cD; clear dB; clear ci; clear cp; clear cm; clear HK; clear HB; have cD := ba; have dB := bc; have ci := bf; have cp := bk; have cm := bw; have HK := bx; have HB := bG; clear ba bc bf bk bw bx bG; (try clear hb); (try clear hb2); (try clear hk); (try clear hi); have hnb16 := eZ.out; have hnc16 := eY.out; have jf : w15.cell? ⟨cR, 0, none⟩ = some (.slice ff l1_0.length fb) := (bC cp.out 0).trans rfl; have iL := bF cp.out 0) | (go_at_call 15; (with_reducible refine (spec_GoodRope.calls k _ _ l1_0 kA _ ?side1 ?side2 A11.out).mono ?_); (case side1 => repeat (first | exact (ah dB.out).2.2 | (with_reducible refine aE ?_ _) | (with_reducible refine aG ?_ _) | (with_reducible refine aH ?_))); (case side2 => exact (ah dB.out).2.1); rintro e w18 ⟨rfl, hb⟩; have ba := aM (af (by (with_reducible repeat (first | apply ac | apply ab | apply aa)); exact cD.out) hb); have bc := aM (af (by (with_reducible repeat (first | apply ac | apply ab | apply aa)); exact dB.out) hb); have bf := aM (ae (g := cG) (o := .cells #[.slice ee l0_0.length eb] 29 (0, 0)) z9 hb); have bk := aM (ae (g := cR) (o := .cells #[.slice ff l1_0.length fb] 29 (0, 0)) z10 hb); have bw := aM (ae (g := cO) (o := .cells #[.slice none 0 0] 29 (0, 0)) z11 hb); have bx := aM (Kept.below (S := (fun k_ => P0_0_ k_ ∨ P1_0_ k_)) z27 hb); have bG := aM (ay z25 hb); clear cD; clear dB; clear ci; clear cp; clear cm; clear HK; clear HB; have cD := ba; have dB := bc; have ci := bf; have cp := bk; have cm := bw; have HK := bx; have HB := bG; clear ba bc bf bk bw bx bG; (try clear hb); (try clear hb2); (try clear hk); (try clear hi)))
   go_meet
   case rel => exact ⟨_, (!kA), z1, H', ⟨by first | omega | exact Nat.le_refl _⟩, ⟨by (with_reducible repeat (first | apply ac | apply ab | apply aa)); exact cD.out⟩, ⟨by (with_reducible repeat (first | apply ac | apply ab | apply aa)); exact dB.out⟩, ⟨by (with_reducible repeat (first | refine aq ?_ _ | refine ap ?_ | refine ar ?_ _)); exact ci.out⟩, ⟨by (with_reducible repeat (first | refine aq ?_ _ | refine ap ?_ | refine ar ?_ _)); exact cp.out⟩, ⟨by (with_reducible repeat (first | refine aq ?_ _ | refine ap ?_ | refine ar ?_ _)); exact cm.out⟩, ⟨y14⟩, ⟨by repeat (first | (with_reducible first | exact HB.out | apply bA | apply pD | apply bD | refine ax ?_ ez.out | refine ax ?_ eQ.out | refine ax ?_ fL.out) | exact HB.out)⟩⟩
  ·replace eE := Bool.eq_false_iff.mpr eE
   subst eE
   rw [if_neg (show ¬ (false = true) by decide)] at H
   have H' := aM H
   clear H
   have hnb19 := e7.out
   have hnc19 := e6.out
   have hnb20 := ey.out
   have hnc20 := ev.out
   have fD : w8.cell? ⟨cG, 0, none⟩ = some (.slice ee l0_0.length eb) := (bC ci.out 0).trans rfl
   have fC := bF ci.out 0
   go_wp2_with (first | ((with_reducible refine aJ (f := 15) rfl ?_); refine aQ (some 8) rfl rfl Try.func15 z0 rfl #[.agg #[.slice ee l0_0.length eb]] rfl z21 ?_; (with_reducible refine (spec_GoodRope.calls k _ _ l0_0 false _ ?side1 ?side2 A9.out).mono ?_); (case side1 => repeat (first | exact (ah cD.out).2.2 | (with_reducible refine aE ?_ _) | (with_reducible refine aG ?_ _) | (with_reducible refine aH ?_))); (case side2 => exact (ah cD.out).2.1); rintro e w22 ⟨rfl, hb⟩; refine ⟨_, rfl, ?_⟩; have ba := aM (af (by (with_reducible repeat (first | apply ac | apply ab | apply aa)); exact cD.out) hb); have bc := aM (af (by (with_reducible repeat (first | apply ac | apply ab | apply aa)); exact dB.out) hb); have bf := aM (ae (g := cG) (o := .cells #[.slice ee l0_0.length eb] 29 (0, 0)) z9 hb); have bk := aM (ae (g := cR) (o := .cells #[.slice ff l1_0.length fb] 29 (0, 0)) z10 hb); have bw := aM (ae (g := cO) (o := .cells #[.slice none 0 0] 29 (0, 0)) z11 hb); have bx := aM (Kept.below (S := (fun k_ => P0_0_ k_ ∨ P1_0_ k_)) z27 hb); have bG := aM (ay z25 hb); clear cD; clear dB; clear ci; clear cp; clear cm; clear HK; clear HB; have cD := ba; have dB := bc; have ci := bf; have cp := bk; have cm := bw; have HK := bx; have HB := bG; clear ba bc bf bk bw bx bG; (try clear hb); (try clear hb2); (try clear hk); (try clear hi)))
   go_meet
   case rel => exact ⟨_, (true), z1, H', ⟨by first | omega | exact Nat.le_refl _⟩, ⟨by (with_reducible repeat (first | apply ac | apply ab | apply aa)); exact cD.out⟩, ⟨by (with_reducible repeat (first | apply ac | apply ab | apply aa)); exact dB.out⟩, ⟨by (with_reducible repeat (first | refine aq ?_ _ | refine ap ?_ | refine ar ?_ _)); exact ci.out⟩, ⟨by (with_reducible repeat (first | refine aq ?_ _ | refine ap ?_ | refine ar ?_ _)); exact cp.out⟩, ⟨by (with_reducible repeat (first | refine aq ?_ _ | refine ap ?_ | refine ar ?_ _)); exact cm.out⟩, ⟨y14⟩, ⟨by repeat (first | (with_reducible first | exact HB.out | apply bA | apply pD | apply bD | refine ax ?_ ez.out | refine ax ?_ eQ.out | refine ax ?_ fL.out) | exact HB.out)⟩⟩
 case rest =>
  clear nx
  try clear c1
  try clear p1
  try clear c2
  try clear p2
  try clear c3
  try clear eE
  try clear gr
  try clear gR
  try clear fK
  try clear ji
  try clear c19
  try clear c20
  try clear jg
  try clear jf
  try clear fD
  try clear iM
  try clear iL
  try clear fC
  obtain ⟨kq, x14_2, rfl, HA, HJ2, b7, b6, ci, cp, cm, HK, HB⟩ := hcut
  cases kq with
  | zero => exact absurd HA.out (by simp [spec_JoinRopes.j0])
  | succ kj2 =>
   have H := HA.out
   clear HA
   simp only [spec_JoinRopes.j0] at H
   by_cases nn : x14_2 = true
   ·subst nn
    rw [if_pos rfl] at H
    simp only [Option.some.injEq, Prod.mk.injEq] at H
    obtain ⟨rfl, rfl⟩ := H
    have hnb24 := ev.out
    have hnc24 := ey.out
    have hnb25 := eY.out
    have hnc25 := eZ.out
    have gG : wc.cell? ⟨cO, 0, none⟩ = some (.slice none 0 0) := (bC cm.out 0).trans rfl
    have gv := bF cm.out 0
    go_wp2
    refine bodyPost_ret (results_ct rfl _ _ cO 29 #[.slice none 0 0] (0, 0) _ rfl (by (with_reducible repeat (first | refine aq ?_ _ | refine ap ?_ | refine ar ?_ _)); refine av (cs := #[.slice none 0 0]) ?_ 0 _ rfl; (with_reducible repeat (first | refine aq ?_ _ | refine ap ?_ | refine ar ?_ _)); exact cm.out) Try.underlying29 rfl z0) rfl ?_
    exact ⟨_, y2, by first | exact Kd.R_nil _ _ _ _ _ | exact Kd.N_nil _ _ _ _ _ | exact Kd.V_nil _ _ _ _ _ | exact Kd.Q_nil _ _ _ _ _ | exact Kd.S_nil _ _ _ _ _, by repeat (first | (with_reducible first | exact HB.out | apply bA | apply pD | apply bD | refine ax ?_ ez.out | refine ax ?_ eQ.out | refine ax ?_ fL.out) | exact HB.out), y14⟩
   ·replace nn := Bool.eq_false_iff.mpr nn
    subst nn
    rw [if_neg (show ¬ (false = true) by decide)] at H
    obtain ⟨y201, hy201⟩ : ∃ y_ : List (S58), y_ = (([] : List (S58))) := ⟨_, rfl⟩
    replace H : ((spec_l12Join.f kj2 l0_0 l1_0).bind fun fa => (if y201.length + fa.length < 2932031007402 then ((some (y201 ++ fa : List (S58))).bind fun y207 => ((spec_GoodRope.f kj2 y207).bind fun jE => (if jE = true then (some (y207, true)) else (some (([] : List (S58)), false))))) else (none))) = some (r1, r2) := by first | (rw [hy201]; with_reducible exact H) | (have H2_ := (Option.bind_some _ _).symm.trans H; rw [hy201]; with_reducible exact H2_) | (have H2_ := (Option.bind_some _ _).symm.trans H; with_reducible exact H2_) | with_reducible exact H | (rw [hy201]; exact H) | exact H
    have Ny201 := aM hy201
    clear hy201
    replace H := oB H
    obtain ⟨fa, mV, H⟩ := H
    try dsimp only at H
    have nD := aM mV
    clear mV
    by_cases lw : y201.length + fa.length < 2932031007402
    ·rw [if_pos lw] at H
     have LMc28 := aM lw
     clear lw
     obtain ⟨y207, hy207⟩ : ∃ y_ : List (S58), y_ = (y201 ++ fa) := ⟨_, rfl⟩
     replace H : ((spec_GoodRope.f kj2 y207).bind fun jE => (if jE = true then (some (y207, true)) else (some (([] : List (S58)), false)))) = some (r1, r2) := by first | (rw [hy207]; with_reducible exact H) | (have H2_ := (Option.bind_some _ _).symm.trans H; rw [hy207]; with_reducible exact H2_) | (have H2_ := (Option.bind_some _ _).symm.trans H; with_reducible exact H2_) | with_reducible exact H | (rw [hy207]; exact H) | exact H
     have Ny207 := aM hy207
     clear hy207
     replace H := oB H
     obtain ⟨jE, mU, H⟩ := H
     try dsimp only at H
     have nC := aM mU
     clear mU
     by_cases lv : jE = true
     ·subst lv
      rw [if_pos rfl] at H
      simp only [Option.some.injEq, Prod.mk.injEq] at H
      obtain ⟨rfl, rfl⟩ := H
      go_wp2_with (first | ((with_reducible refine aK (N := 16) rfl ?_); refine Kd.R_lit k58 _ 58 ?hg (N := 16) ?hd (xs := ([] : List (S58))) (inner := []) (ok := fun _ => True) (okp := fun _ => True) ?hr ?hp (fun _ hk => hk) trivial (Below.refl _ _) (Nat.le_refl _) (by simp) ?_; (case hd => rfl); (case hg => rfl); (case hr => first | (go_simp; done) | (go_simp; rfl)); (case hp => exact (Reps.none _ _)); intro v202 w31 ho32 hb hg_ hnew_; clear hg_ hnew_; (first | rw [← Ny201.out] at ho32 | (simp only [Int.reduceToNat] at ho32; rw [← Ny201.out] at ho32)); have ba := aM (ai (by (with_reducible repeat (first | apply ac | apply ab | apply aa)); exact b7.out) (ak ho32) hb); have bc := aM (ai (by (with_reducible repeat (first | apply ac | apply ab | apply aa)); exact b6.out) (ak ho32) hb); have bf := aM (aT (aj (aj (Kd.R_newM (M := fun k_ => ((P0_0_ k_ ∨ P1_0_ k_) ∨ w.heap.size ≤ k_)) ho32 z31 (fun k_ h_ => .inr h_)) (al (by (with_reducible repeat (first | apply ac | apply ab | apply aa)); exact b7.out))) (al (by (with_reducible repeat (first | apply ac | apply ab | apply aa)); exact b6.out))) (az z25)); have bk := aM (ae (g := cG) (o := .cells #[.slice ee l0_0.length eb] 29 (0, 0)) z9 hb); have bw := aM (ae (g := cR) (o := .cells #[.slice ff l1_0.length fb] 29 (0, 0)) z10 hb); have bx := aM (ae (g := cO) (o := .cells #[.slice none 0 0] 29 (0, 0)) z11 hb); have bG := aM (Kept.below (S := (fun k_ => P0_0_ k_ ∨ P1_0_ k_)) z27 hb); have bY := aM (ay z25 hb); clear b7; clear b6; clear ci; clear cp; clear cm; clear HK; clear HB; have b7 := ba; have b6 := bc; have dx := bf; have ci := bk; have cp := bw; have cm := bx; have HK := bG; have HB := bY; clear ba bc bf bk bw bx bG bY; clear hb ho32; have hnb33 := e7.out; have hnc33 := e6.out; have hnb34 := ey.out; have hnc34 := ev.out; have hcz35_0 : w31.cell? ⟨cG, 0, none⟩ = some (.slice ee l0_0.length eb) := (bC ci.out 0).trans rfl; have hfz35_0 := bF ci.out 0; have hnb36 := eZ.out; have hnc36 := eY.out; have hcz37_0 : w31.cell? ⟨cR, 0, none⟩ = some (.slice ff l1_0.length fb) := (bC cp.out 0).trans rfl; have hfz37_0 := bF cp.out 0) | ((with_reducible refine aJ (f := 68) rfl ?_); refine aQ (some 21) rfl rfl Try.func68 z0 rfl #[.slice ee l0_0.length eb, .slice ff l1_0.length fb] rfl z21 ?_; (with_reducible refine (spec_l12Join.calls kj2 (fun k_ => some k_ = (.slice ee l0_0.length eb : Value).ownBlock) (.slice ee l0_0.length eb) l0_0 (fun k_ => some k_ = (.slice ff l1_0.length fb : Value).ownBlock) (.slice ff l1_0.length fb) l1_0 fa w0 _ ?side1 ?side2 ?side3 ?side4 ?side5 nD.out).mono ?_); (case side1 => repeat (first | (with_reducible first | exact HB.out | apply bA | apply pD | apply bD | refine ax ?_ ez.out | refine ax ?_ eQ.out | refine ax ?_ fL.out) | exact HB.out)); (case side2 => exact Kd.R_tight rfl b7.out); (case side3 => exact fun k_ e_ => (b7.out.1 k_ e_.symm).1.2); (case side4 => exact Kd.R_tight rfl b6.out); (case side5 => exact fun k_ e_ => (b6.out.1 k_ e_.symm).1.2); rintro e w38 ⟨v205, rfl, ho0, hb, hkp⟩; refine ⟨_, rfl, ?_⟩; have ba := aM (blk_kept z9 hkp (fun hs_ => Or.elim hs_ (fun e_ => (fun e_ => (aI b7.out ci.out (by decide)) e_) e_) (fun e_ => (fun e_ => (aI b6.out ci.out (by decide)) e_) e_))); have bc := aM (blk_kept z10 hkp (fun hs_ => Or.elim hs_ (fun e_ => (fun e_ => (aI b7.out cp.out (by decide)) e_) e_) (fun e_ => (fun e_ => (aI b6.out cp.out (by decide)) e_) e_))); have bf := aM (blk_kept z11 hkp (fun hs_ => Or.elim hs_ (fun e_ => (fun e_ => (aI b7.out cm.out (by decide)) e_) e_) (fun e_ => (fun e_ => (aI b6.out cm.out (by decide)) e_) e_))); have bk := aM (ag (ok' := fun k_ => ((P0_0_ k_ ∨ P1_0_ k_) ∨ w.heap.size ≤ k_) ∧ some k_ ≠ (v205 : Value).ownBlock) (Kd.R_keptB (dx.out) hkp (fun k_ hk_ hs_ => Or.elim hs_ (fun e_ => (hk_.1.2) e_) (fun e_ => (hk_.2) e_))) (fun k_ hk_ => ⟨hk_.1.1.1.1, fun e_ => Or.elim (ho0.1 k_ e_.symm) (fun hs_ => hk_.2.1 hs_) (fun hn_ => Nat.not_le.2 hk_.2.2 hn_)⟩)); have bw := aM (ag (ok' := fun k_ => ((P0_0_ k_ ∨ P1_0_ k_) ∨ w.heap.size ≤ k_) ∧ some k_ ≠ (v202 : Value).ownBlock) ho0 (fun k_ hk_ => ⟨Or.elim hk_ (fun hs_ => Or.elim hs_ (fun hs_ => (b7.out.1 k_ (hs_).symm).1.1) (fun hs_ => (b6.out.1 k_ (hs_).symm).1.1)) (fun hn_ => (.inr (Nat.le_trans z31 hn_))), Or.elim hk_ (fun hs_ => Or.elim hs_ (fun hs_ => fun e_ => (((dx.out).1 k_ e_.symm).1.2) hs_) (fun hs_ => fun e_ => (((dx.out).1 k_ e_.symm).2) hs_)) (fun hn_ => (Kd.fresh' (al (by (with_reducible repeat (first | apply ac | apply ab | apply aa)); exact dx.out)) k_ hn_))⟩)); have bx := aM (Kept.then_ (S := (fun k_ => P0_0_ k_ ∨ P1_0_ k_)) z27 hkp (fun k_ hs_ => Or.elim hs_ (fun e_ => (fun e_ => (b7.out.1 k_ e_.symm).1.1) e_) (fun e_ => (fun e_ => (b6.out.1 k_ e_.symm).1.1) e_))); have bG := aM (hb); clear ci; clear cp; clear cm; clear dx; clear HK; clear HB; clear b7; clear b6; have ci := ba; have cp := bc; have cm := bf; have dx := bk; have dw := bw; have HK := bx; have HB := bG; clear ba bc bf bk bw bx bG; (try clear hb); (try clear hkp); (try clear ho0); obtain ⟨lB, lq, eo40⟩ := Kd.R_slice dw.out; subst eo40) | ((with_reducible refine gate_builtin (b := .append) (xs := #[.tmp 16, .tmp 21]) rfl ?_); at_builtin; refine Kd.R_append_rows k58 (w0 := w0) w0.heap.size rfl (.tmp 16) (.tmp 21) 27 58 (.agg #[(.int .i64 0), (.int .i64 0), (.string ⟨#[]⟩), (.int .i64 0), (.int .i64 0)]) 48 rfl Try.underlying27 info58 rfl (by decide) (by omega) v202 y201 fa _ _ _ (fun k_ => ((P0_0_ k_ ∨ P1_0_ k_) ∨ w.heap.size ≤ k_) ∧ some k_ ≠ (.slice lB fa.length lq : Value).ownBlock) (fun _ => False) rfl rfl ?aO ?aR (fun _ _ h => h) (fun _ h => h.elim) ?aF ?aB ?aS ?aL ?_; (case aR => repeat (first | exact (ah dw.out).2.2 | (with_reducible refine aE ?_ _) | (with_reducible refine aG ?_ _) | (with_reducible refine aH ?_))); (case aB => exact z25); (case aF => exact (fun k_ hk => ⟨(.inr (Nat.le_trans z31 hk)), Kd.fresh' (al (by (with_reducible repeat (first | apply ac | apply ab | apply aa)); exact dw.out)) k_ hk⟩)); (case aO => exact (by (with_reducible repeat (first | apply ac | apply ab | apply aa)); exact dx.out)); (case aS => exact (az z25)); (case aL => have := LMc28.out; omega); intro v208 w39 ho hb hg hat; rw [← Ny207.out] at ho; have ba := aM (blk_grown (g := cG) (o := .cells #[.slice ee l0_0.length eb] 29 (0, 0)) z9 hg (aI dx.out ci.out (by decide))); have bc := aM (blk_grown (g := cR) (o := .cells #[.slice ff l1_0.length fb] 29 (0, 0)) z10 hg (aI dx.out cp.out (by decide))); have bf := aM (blk_grown (g := cO) (o := .cells #[.slice none 0 0] 29 (0, 0)) z11 hg (aI dx.out cm.out (by decide))); have bk := aM (Kd.R_after (ok := (fun k_ => ((P0_0_ k_ ∨ P1_0_ k_) ∨ w.heap.size ≤ k_))) (by (with_reducible repeat (first | apply ac | apply ab | apply aa)); exact dw.out) hg hat); have bw := aM (hb); have bx := aM (Kept.of_grown (S := (fun k_ => P0_0_ k_ ∨ P1_0_ k_)) hg z27 (fun k_ e_ => (dx.out.1 k_ e_).1)); have bG := aM (ho); clear ci; clear cp; clear cm; clear dw; clear HB; clear HK; clear dx; have ci := ba; have cp := bc; have cm := bf; have dw := bk; have HB := bw; have HK := bx; have dO := bG; clear ba bc bf bk bw bx bG; clear ho hb hg hat; obtain ⟨bQ, bN, eo41⟩ := Kd.R_slice dO.out; subst eo41) | ((with_reducible refine aK (N := 6) rfl ?_); refine aN ?hg (N := 6) ?hd (cs := #[.slice none 0 0]) (t := 29) ?hr ?_; (case hd => rfl); (case hg => rfl); (case hr => first | (go_simp; done) | (go_simp; rfl)); intro de hg w42 hbox hb; have ba := aM (af (by (with_reducible repeat (first | apply ac | apply ab | apply aa)); exact dw.out) hb); have bc := aM (af (by (with_reducible repeat (first | apply ac | apply ab | apply aa)); exact dO.out) hb); have bf := aM (ae (g := cG) (o := .cells #[.slice ee l0_0.length eb] 29 (0, 0)) z9 hb); have bk := aM (ae (g := cR) (o := .cells #[.slice ff l1_0.length fb] 29 (0, 0)) z10 hb); have bw := aM (ae (g := cO) (o := .cells #[.slice none 0 0] 29 (0, 0)) z11 hb); have bx := aM (Kept.below (S := (fun k_ => P0_0_ k_ ∨ P1_0_ k_)) z27 hb); have bG := aM (ay z25 hb); have bY := aM (hbox); have bZ := aM ((by rw [hg]; exact z31 : w.heap.size ≤ de)); have b3 := aM ((by rw [hg]; exact (az z25) : w0.heap.size ≤ de)); have br := aM ((by rw [hg]; exact aA (aw (g := cG) (o := .cells #[.slice ee l0_0.length eb] 29 (0, 0)) z9) : cG ≠ de)); have bP := aM ((by rw [hg]; exact aC (aw (g := cG) (o := .cells #[.slice ee l0_0.length eb] 29 (0, 0)) z9) : de ≠ cG)); have b4 := aM ((by rw [hg]; exact aA (aw (g := cR) (o := .cells #[.slice ff l1_0.length fb] 29 (0, 0)) z10) : cR ≠ de)); have cH := aM ((by rw [hg]; exact aC (aw (g := cR) (o := .cells #[.slice ff l1_0.length fb] 29 (0, 0)) z10) : de ≠ cR)); have dc := aM ((by rw [hg]; exact aA (aw (g := cO) (o := .cells #[.slice none 0 0] 29 (0, 0)) z11) : cO ≠ de)); have dY := aM ((by rw [hg]; exact aC (aw (g := cO) (o := .cells #[.slice none 0 0] 29 (0, 0)) z11) : de ≠ cO)); clear dw; clear dO; clear ci; clear cp; clear cm; clear HK; clear HB; have dw := ba; have dO := bc; have ci := bf; have cp := bk; have cm := bw; have HK := bx; have HB := bG; have dR := bY; have js := bZ; have jw := b3; have ex := br; have fY := bP; have ew := b4; have fX := cH; have eu := dc; have fW := dY; clear ba bc bf bk bw bx bG bY bZ b3 br bP b4 cH dc dY; clear hb hbox hg; have hnb43 := fY.out; have hnc43 := ex.out; have hnb44 := fX.out; have hnc44 := ew.out; have hnb45 := fW.out; have hnc45 := eu.out; have hcz46_0 : w42.cell? ⟨de, 0, none⟩ = some (.slice none 0 0) := (bC dR.out 0).trans rfl; have hfz46_0 := bF dR.out 0) | ((with_reducible refine aJ (f := 15) rfl ?_); refine aQ (some 25) rfl rfl Try.func15 z0 rfl #[.agg #[.slice bQ y207.length bN]] rfl z21 ?_; (with_reducible refine (spec_GoodRope.calls kj2 _ _ y207 true _ ?side1 ?side2 nC.out).mono ?_); (case side1 => refine (ah (e := 58) (base := w0.heap.size) (ok := fun k_ => (((P0_0_ k_ ∨ P1_0_ k_) ∨ w.heap.size ≤ k_) ∧ some k_ ≠ (.slice lB fa.length lq : Value).ownBlock)) (n := y207.length) (c := bN) ?_).2.2; exact (by (with_reducible repeat (first | apply ac | apply ab | apply aa)); exact (ag (am (p := ⟨de, 0, none⟩) (ao dO.out dR.out (by decide)) (fun _ hk => hk.2) (.slice bQ y207.length bN)) (fun _ h_ => h_.1)))); (case side2 => exact (ah dO.out).2.1); rintro e w47 ⟨rfl, hb⟩; refine ⟨_, rfl, ?_⟩; have ba := aM (af (by (with_reducible repeat (first | apply ac | apply ab | apply aa)); exact (ag (am (p := ⟨de, 0, none⟩) (ao dw.out dR.out (by decide)) (fun _ hk => hk.2) (.slice bQ y207.length bN)) (fun _ h_ => h_.1))) hb); have bc := aM (af (by (with_reducible repeat (first | apply ac | apply ab | apply aa)); exact (ag (am (p := ⟨de, 0, none⟩) (ao dO.out dR.out (by decide)) (fun _ hk => hk.2) (.slice bQ y207.length bN)) (fun _ h_ => h_.1))) hb); have bf := aM (ae (g := cG) (o := .cells #[.slice ee l0_0.length eb] 29 (0, 0)) (by (with_reducible repeat (first | refine aq ?_ _ | refine ap ?_ | refine ar ?_ _)); refine au ?_ ex.out _; (with_reducible repeat (first | refine aq ?_ _ | refine ap ?_ | refine ar ?_ _)); exact ci.out) hb); have bk := aM (ae (g := cR) (o := .cells #[.slice ff l1_0.length fb] 29 (0, 0)) (by (with_reducible repeat (first | refine aq ?_ _ | refine ap ?_ | refine ar ?_ _)); refine au ?_ ew.out _; (with_reducible repeat (first | refine aq ?_ _ | refine ap ?_ | refine ar ?_ _)); exact cp.out) hb); have bw := aM (ae (g := cO) (o := .cells #[.slice none 0 0] 29 (0, 0)) (by (with_reducible repeat (first | refine aq ?_ _ | refine ap ?_ | refine ar ?_ _)); refine au ?_ eu.out _; (with_reducible repeat (first | refine aq ?_ _ | refine ap ?_ | refine ar ?_ _)); exact cm.out) hb); have bx := aM (ae (g := de) (o := .cells #[.slice bQ y207.length bN] 29 (0, 0)) (by (with_reducible repeat (first | refine aq ?_ _ | refine ap ?_ | refine ar ?_ _)); refine av (cs := #[.slice none 0 0]) ?_ 0 _ rfl; (with_reducible repeat (first | refine aq ?_ _ | refine ap ?_ | refine ar ?_ _)); exact dR.out) hb); have bG := aM (Kept.below (S := (fun k_ => P0_0_ k_ ∨ P1_0_ k_)) (by repeat (first | (with_reducible first | exact HK.out | apply Kept.alloc | apply Kept.drewN | apply Kept.drew | refine Kept.setCell ?_ (.inr gh.out) _ | refine Kept.setCell ?_ (.inr hV.out) _ | refine Kept.setCell ?_ (.inr ky.out) _ | refine Kept.setCell ?_ (.inr js.out) _) | exact HK.out)) hb); have bY := aM (ay (by repeat (first | (with_reducible first | exact HB.out | apply bA | apply pD | apply bD | refine ax ?_ ez.out | refine ax ?_ eQ.out | refine ax ?_ fL.out | refine ax ?_ jw.out) | exact HB.out)) hb); clear dw; clear dO; clear ci; clear cp; clear cm; clear dR; clear HK; clear HB; have dw := ba; have dO := bc; have ci := bf; have cp := bk; have cm := bw; have dR := bx; have HK := bG; have HB := bY; clear ba bc bf bk bw bx bG bY; (try clear hb); (try clear hb2); (try clear hk); (try clear hi); have hcz48_0 : w47.cell? ⟨de, 0, none⟩ = some (.slice bQ y207.length bN) := (bC dR.out 0).trans rfl; have hfz48_0 := bF dR.out 0; have hcz49_0 : w47.cell? ⟨cO, 0, none⟩ = some (.slice none 0 0) := (bC cm.out 0).trans rfl; have hfz49_0 := bF cm.out 0))
      refine bodyPost_ret (results_ct rfl _ _ cO 29 #[.slice bQ y207.length bN] (0, 0) _ rfl (by (with_reducible repeat (first | refine aq ?_ _ | refine ap ?_ | refine ar ?_ _)); refine av (cs := #[.slice none 0 0]) ?_ 0 _ rfl; (with_reducible repeat (first | refine aq ?_ _ | refine ap ?_ | refine ar ?_ _)); exact cm.out) Try.underlying29 rfl z0) rfl ?_
      exact ⟨_, y2, by (with_reducible repeat (first | apply ac | apply ab | apply aa)); exact ag (am (p := ⟨cO, 0, none⟩) (ao dO.out cm.out (by decide)) (fun _ hk => hk.2) (.slice bQ y207.length bN)) (fun _ hk => hk.1.1), by repeat (first | (with_reducible first | exact HB.out | apply bA | apply pD | apply bD | refine ax ?_ ez.out | refine ax ?_ eQ.out | refine ax ?_ fL.out | refine ax ?_ jw.out) | exact HB.out), by repeat (first | (with_reducible first | exact HK.out | apply Kept.alloc | apply Kept.drewN | apply Kept.drew | refine Kept.setCell ?_ (.inr gh.out) _ | refine Kept.setCell ?_ (.inr hV.out) _ | refine Kept.setCell ?_ (.inr ky.out) _ | refine Kept.setCell ?_ (.inr js.out) _) | exact HK.out)⟩
     ·replace lv := Bool.eq_false_iff.mpr lv
      subst lv
      rw [if_neg (show ¬ (false = true) by decide)] at H
      simp only [Option.some.injEq, Prod.mk.injEq] at H
      obtain ⟨rfl, rfl⟩ := H
      go_wp2_with (first | ((with_reducible refine aK (N := 16) rfl ?_); refine Kd.R_lit k58 _ 58 ?hg (N := 16) ?hd (xs := ([] : List (S58))) (inner := []) (ok := fun _ => True) (okp := fun _ => True) ?hr ?hp (fun _ hk => hk) trivial (Below.refl _ _) (Nat.le_refl _) (by simp) ?_; (case hd => rfl); (case hg => rfl); (case hr => first | (go_simp; done) | (go_simp; rfl)); (case hp => exact (Reps.none _ _)); intro v202 w50 ho51 hb hg_ hnew_; clear hg_ hnew_; (first | rw [← Ny201.out] at ho51 | (simp only [Int.reduceToNat] at ho51; rw [← Ny201.out] at ho51)); have ba := aM (ai (by (with_reducible repeat (first | apply ac | apply ab | apply aa)); exact b7.out) (ak ho51) hb); have bc := aM (ai (by (with_reducible repeat (first | apply ac | apply ab | apply aa)); exact b6.out) (ak ho51) hb); have bf := aM (aT (aj (aj (Kd.R_newM (M := fun k_ => ((P0_0_ k_ ∨ P1_0_ k_) ∨ w.heap.size ≤ k_)) ho51 z31 (fun k_ h_ => .inr h_)) (al (by (with_reducible repeat (first | apply ac | apply ab | apply aa)); exact b7.out))) (al (by (with_reducible repeat (first | apply ac | apply ab | apply aa)); exact b6.out))) (az z25)); have bk := aM (ae (g := cG) (o := .cells #[.slice ee l0_0.length eb] 29 (0, 0)) z9 hb); have bw := aM (ae (g := cR) (o := .cells #[.slice ff l1_0.length fb] 29 (0, 0)) z10 hb); have bx := aM (ae (g := cO) (o := .cells #[.slice none 0 0] 29 (0, 0)) z11 hb); have bG := aM (Kept.below (S := (fun k_ => P0_0_ k_ ∨ P1_0_ k_)) z27 hb); have bY := aM (ay z25 hb); clear b7; clear b6; clear ci; clear cp; clear cm; clear HK; clear HB; have b7 := ba; have b6 := bc; have dx := bf; have ci := bk; have cp := bw; have cm := bx; have HK := bG; have HB := bY; clear ba bc bf bk bw bx bG bY; clear hb ho51; have hnb52 := e7.out; have hnc52 := e6.out; have hnb53 := ey.out; have hnc53 := ev.out; have hcz54_0 : w50.cell? ⟨cG, 0, none⟩ = some (.slice ee l0_0.length eb) := (bC ci.out 0).trans rfl; have hfz54_0 := bF ci.out 0; have hnb55 := eZ.out; have hnc55 := eY.out; have hcz56_0 : w50.cell? ⟨cR, 0, none⟩ = some (.slice ff l1_0.length fb) := (bC cp.out 0).trans rfl; have hfz56_0 := bF cp.out 0) | ((with_reducible refine aJ (f := 68) rfl ?_); refine aQ (some 21) rfl rfl Try.func68 z0 rfl #[.slice ee l0_0.length eb, .slice ff l1_0.length fb] rfl z21 ?_; (with_reducible refine (spec_l12Join.calls kj2 (fun k_ => some k_ = (.slice ee l0_0.length eb : Value).ownBlock) (.slice ee l0_0.length eb) l0_0 (fun k_ => some k_ = (.slice ff l1_0.length fb : Value).ownBlock) (.slice ff l1_0.length fb) l1_0 fa w0 _ ?side1 ?side2 ?side3 ?side4 ?side5 nD.out).mono ?_); (case side1 => repeat (first | (with_reducible first | exact HB.out | apply bA | apply pD | apply bD | refine ax ?_ ez.out | refine ax ?_ eQ.out | refine ax ?_ fL.out) | exact HB.out)); (case side2 => exact Kd.R_tight rfl b7.out); (case side3 => exact fun k_ e_ => (b7.out.1 k_ e_.symm).1.2); (case side4 => exact Kd.R_tight rfl b6.out); (case side5 => exact fun k_ e_ => (b6.out.1 k_ e_.symm).1.2); rintro e w57 ⟨v205, rfl, ho0, hb, hkp⟩; refine ⟨_, rfl, ?_⟩; have ba := aM (blk_kept z9 hkp (fun hs_ => Or.elim hs_ (fun e_ => (fun e_ => (aI b7.out ci.out (by decide)) e_) e_) (fun e_ => (fun e_ => (aI b6.out ci.out (by decide)) e_) e_))); have bc := aM (blk_kept z10 hkp (fun hs_ => Or.elim hs_ (fun e_ => (fun e_ => (aI b7.out cp.out (by decide)) e_) e_) (fun e_ => (fun e_ => (aI b6.out cp.out (by decide)) e_) e_))); have bf := aM (blk_kept z11 hkp (fun hs_ => Or.elim hs_ (fun e_ => (fun e_ => (aI b7.out cm.out (by decide)) e_) e_) (fun e_ => (fun e_ => (aI b6.out cm.out (by decide)) e_) e_))); have bk := aM (ag (ok' := fun k_ => ((P0_0_ k_ ∨ P1_0_ k_) ∨ w.heap.size ≤ k_) ∧ some k_ ≠ (v205 : Value).ownBlock) (Kd.R_keptB (dx.out) hkp (fun k_ hk_ hs_ => Or.elim hs_ (fun e_ => (hk_.1.2) e_) (fun e_ => (hk_.2) e_))) (fun k_ hk_ => ⟨hk_.1.1.1.1, fun e_ => Or.elim (ho0.1 k_ e_.symm) (fun hs_ => hk_.2.1 hs_) (fun hn_ => Nat.not_le.2 hk_.2.2 hn_)⟩)); have bw := aM (ag (ok' := fun k_ => ((P0_0_ k_ ∨ P1_0_ k_) ∨ w.heap.size ≤ k_) ∧ some k_ ≠ (v202 : Value).ownBlock) ho0 (fun k_ hk_ => ⟨Or.elim hk_ (fun hs_ => Or.elim hs_ (fun hs_ => (b7.out.1 k_ (hs_).symm).1.1) (fun hs_ => (b6.out.1 k_ (hs_).symm).1.1)) (fun hn_ => (.inr (Nat.le_trans z31 hn_))), Or.elim hk_ (fun hs_ => Or.elim hs_ (fun hs_ => fun e_ => (((dx.out).1 k_ e_.symm).1.2) hs_) (fun hs_ => fun e_ => (((dx.out).1 k_ e_.symm).2) hs_)) (fun hn_ => (Kd.fresh' (al (by (with_reducible repeat (first | apply ac | apply ab | apply aa)); exact dx.out)) k_ hn_))⟩)); have bx := aM (Kept.then_ (S := (fun k_ => P0_0_ k_ ∨ P1_0_ k_)) z27 hkp (fun k_ hs_ => Or.elim hs_ (fun e_ => (fun e_ => (b7.out.1 k_ e_.symm).1.1) e_) (fun e_ => (fun e_ => (b6.out.1 k_ e_.symm).1.1) e_))); have bG := aM (hb); clear ci; clear cp; clear cm; clear dx; clear HK; clear HB; clear b7; clear b6; have ci := ba; have cp := bc; have cm := bf; have dx := bk; have dw := bw; have HK := bx; have HB := bG; clear ba bc bf bk bw bx bG; (try clear hb); (try clear hkp); (try clear ho0); obtain ⟨mM, mH, eo59⟩ := Kd.R_slice dw.out; subst eo59) | ((with_reducible refine gate_builtin (b := .append) (xs := #[.tmp 16, .tmp 21]) rfl ?_); at_builtin; refine Kd.R_append_rows k58 (w0 := w0) w0.heap.size rfl (.tmp 16) (.tmp 21) 27 58 (.agg #[(.int .i64 0), (.int .i64 0), (.string ⟨#[]⟩), (.int .i64 0), (.int .i64 0)]) 48 rfl Try.underlying27 info58 rfl (by decide) (by omega) v202 y201 fa _ _ _ (fun k_ => ((P0_0_ k_ ∨ P1_0_ k_) ∨ w.heap.size ≤ k_) ∧ some k_ ≠ (.slice mM fa.length mH : Value).ownBlock) (fun _ => False) rfl rfl ?aO ?aR (fun _ _ h => h) (fun _ h => h.elim) ?aF ?aB ?aS ?aL ?_; (case aR => repeat (first | exact (ah dw.out).2.2 | (with_reducible refine aE ?_ _) | (with_reducible refine aG ?_ _) | (with_reducible refine aH ?_))); (case aB => exact z25); (case aF => exact (fun k_ hk => ⟨(.inr (Nat.le_trans z31 hk)), Kd.fresh' (al (by (with_reducible repeat (first | apply ac | apply ab | apply aa)); exact dw.out)) k_ hk⟩)); (case aO => exact (by (with_reducible repeat (first | apply ac | apply ab | apply aa)); exact dx.out)); (case aS => exact (az z25)); (case aL => have := LMc28.out; omega); intro v208 w58 ho hb hg hat; rw [← Ny207.out] at ho; have ba := aM (blk_grown (g := cG) (o := .cells #[.slice ee l0_0.length eb] 29 (0, 0)) z9 hg (aI dx.out ci.out (by decide))); have bc := aM (blk_grown (g := cR) (o := .cells #[.slice ff l1_0.length fb] 29 (0, 0)) z10 hg (aI dx.out cp.out (by decide))); have bf := aM (blk_grown (g := cO) (o := .cells #[.slice none 0 0] 29 (0, 0)) z11 hg (aI dx.out cm.out (by decide))); have bk := aM (Kd.R_after (ok := (fun k_ => ((P0_0_ k_ ∨ P1_0_ k_) ∨ w.heap.size ≤ k_))) (by (with_reducible repeat (first | apply ac | apply ab | apply aa)); exact dw.out) hg hat); have bw := aM (hb); have bx := aM (Kept.of_grown (S := (fun k_ => P0_0_ k_ ∨ P1_0_ k_)) hg z27 (fun k_ e_ => (dx.out.1 k_ e_).1)); have bG := aM (ho); clear ci; clear cp; clear cm; clear dw; clear HB; clear HK; clear dx; have ci := ba; have cp := bc; have cm := bf; have dw := bk; have HB := bw; have HK := bx; have dO := bG; clear ba bc bf bk bw bx bG; clear ho hb hg hat; obtain ⟨lm, kG, eo60⟩ := Kd.R_slice dO.out; subst eo60) | ((with_reducible refine aK (N := 6) rfl ?_); refine aN ?hg (N := 6) ?hd (cs := #[.slice none 0 0]) (t := 29) ?hr ?_; (case hd => rfl); (case hg => rfl); (case hr => first | (go_simp; done) | (go_simp; rfl)); intro de hg w61 hbox hb; have ba := aM (af (by (with_reducible repeat (first | apply ac | apply ab | apply aa)); exact dw.out) hb); have bc := aM (af (by (with_reducible repeat (first | apply ac | apply ab | apply aa)); exact dO.out) hb); have bf := aM (ae (g := cG) (o := .cells #[.slice ee l0_0.length eb] 29 (0, 0)) z9 hb); have bk := aM (ae (g := cR) (o := .cells #[.slice ff l1_0.length fb] 29 (0, 0)) z10 hb); have bw := aM (ae (g := cO) (o := .cells #[.slice none 0 0] 29 (0, 0)) z11 hb); have bx := aM (Kept.below (S := (fun k_ => P0_0_ k_ ∨ P1_0_ k_)) z27 hb); have bG := aM (ay z25 hb); have bY := aM (hbox); have bZ := aM ((by rw [hg]; exact z31 : w.heap.size ≤ de)); have b3 := aM ((by rw [hg]; exact (az z25) : w0.heap.size ≤ de)); have br := aM ((by rw [hg]; exact aA (aw (g := cG) (o := .cells #[.slice ee l0_0.length eb] 29 (0, 0)) z9) : cG ≠ de)); have bP := aM ((by rw [hg]; exact aC (aw (g := cG) (o := .cells #[.slice ee l0_0.length eb] 29 (0, 0)) z9) : de ≠ cG)); have b4 := aM ((by rw [hg]; exact aA (aw (g := cR) (o := .cells #[.slice ff l1_0.length fb] 29 (0, 0)) z10) : cR ≠ de)); have cH := aM ((by rw [hg]; exact aC (aw (g := cR) (o := .cells #[.slice ff l1_0.length fb] 29 (0, 0)) z10) : de ≠ cR)); have dc := aM ((by rw [hg]; exact aA (aw (g := cO) (o := .cells #[.slice none 0 0] 29 (0, 0)) z11) : cO ≠ de)); have dY := aM ((by rw [hg]; exact aC (aw (g := cO) (o := .cells #[.slice none 0 0] 29 (0, 0)) z11) : de ≠ cO)); clear dw; clear dO; clear ci; clear cp; clear cm; clear HK; clear HB; have dw := ba; have dO := bc; have ci := bf; have cp := bk; have cm := bw; have HK := bx; have HB := bG; have dR := bY; have js := bZ; have jw := b3; have ex := br; have fY := bP; have ew := b4; have fX := cH; have eu := dc; have fW := dY; clear ba bc bf bk bw bx bG bY bZ b3 br bP b4 cH dc dY; clear hb hbox hg; have hnb62 := fY.out; have hnc62 := ex.out; have hnb63 := fX.out; have hnc63 := ew.out; have hnb64 := fW.out; have hnc64 := eu.out; have hcz65_0 : w61.cell? ⟨de, 0, none⟩ = some (.slice none 0 0) := (bC dR.out 0).trans rfl; have hfz65_0 := bF dR.out 0) | ((with_reducible refine aJ (f := 15) rfl ?_); refine aQ (some 25) rfl rfl Try.func15 z0 rfl #[.agg #[.slice lm y207.length kG]] rfl z21 ?_; (with_reducible refine (spec_GoodRope.calls kj2 _ _ y207 false _ ?side1 ?side2 nC.out).mono ?_); (case side1 => refine (ah (e := 58) (base := w0.heap.size) (ok := fun k_ => (((P0_0_ k_ ∨ P1_0_ k_) ∨ w.heap.size ≤ k_) ∧ some k_ ≠ (.slice mM fa.length mH : Value).ownBlock)) (n := y207.length) (c := kG) ?_).2.2; exact (by (with_reducible repeat (first | apply ac | apply ab | apply aa)); exact (ag (am (p := ⟨de, 0, none⟩) (ao dO.out dR.out (by decide)) (fun _ hk => hk.2) (.slice lm y207.length kG)) (fun _ h_ => h_.1)))); (case side2 => exact (ah dO.out).2.1); rintro e w66 ⟨rfl, hb⟩; refine ⟨_, rfl, ?_⟩; have ba := aM (af (by (with_reducible repeat (first | apply ac | apply ab | apply aa)); exact (ag (am (p := ⟨de, 0, none⟩) (ao dw.out dR.out (by decide)) (fun _ hk => hk.2) (.slice lm y207.length kG)) (fun _ h_ => h_.1))) hb); have bc := aM (af (by (with_reducible repeat (first | apply ac | apply ab | apply aa)); exact (ag (am (p := ⟨de, 0, none⟩) (ao dO.out dR.out (by decide)) (fun _ hk => hk.2) (.slice lm y207.length kG)) (fun _ h_ => h_.1))) hb); have bf := aM (ae (g := cG) (o := .cells #[.slice ee l0_0.length eb] 29 (0, 0)) (by (with_reducible repeat (first | refine aq ?_ _ | refine ap ?_ | refine ar ?_ _)); refine au ?_ ex.out _; (with_reducible repeat (first | refine aq ?_ _ | refine ap ?_ | refine ar ?_ _)); exact ci.out) hb); have bk := aM (ae (g := cR) (o := .cells #[.slice ff l1_0.length fb] 29 (0, 0)) (by (with_reducible repeat (first | refine aq ?_ _ | refine ap ?_ | refine ar ?_ _)); refine au ?_ ew.out _; (with_reducible repeat (first | refine aq ?_ _ | refine ap ?_ | refine ar ?_ _)); exact cp.out) hb); have bw := aM (ae (g := cO) (o := .cells #[.slice none 0 0] 29 (0, 0)) (by (with_reducible repeat (first | refine aq ?_ _ | refine ap ?_ | refine ar ?_ _)); refine au ?_ eu.out _; (with_reducible repeat (first | refine aq ?_ _ | refine ap ?_ | refine ar ?_ _)); exact cm.out) hb); have bx := aM (ae (g := de) (o := .cells #[.slice lm y207.length kG] 29 (0, 0)) (by (with_reducible repeat (first | refine aq ?_ _ | refine ap ?_ | refine ar ?_ _)); refine av (cs := #[.slice none 0 0]) ?_ 0 _ rfl; (with_reducible repeat (first | refine aq ?_ _ | refine ap ?_ | refine ar ?_ _)); exact dR.out) hb); have bG := aM (Kept.below (S := (fun k_ => P0_0_ k_ ∨ P1_0_ k_)) (by repeat (first | (with_reducible first | exact HK.out | apply Kept.alloc | apply Kept.drewN | apply Kept.drew | refine Kept.setCell ?_ (.inr gh.out) _ | refine Kept.setCell ?_ (.inr hV.out) _ | refine Kept.setCell ?_ (.inr ky.out) _ | refine Kept.setCell ?_ (.inr js.out) _) | exact HK.out)) hb); have bY := aM (ay (by repeat (first | (with_reducible first | exact HB.out | apply bA | apply pD | apply bD | refine ax ?_ ez.out | refine ax ?_ eQ.out | refine ax ?_ fL.out | refine ax ?_ jw.out) | exact HB.out)) hb); clear dw; clear dO; clear ci; clear cp; clear cm; clear dR; clear HK; clear HB; have dw := ba; have dO := bc; have ci := bf; have cp := bk; have cm := bw; have dR := bx; have HK := bG; have HB := bY; clear ba bc bf bk bw bx bG bY; (try clear hb); (try clear hb2); (try clear hk); (try clear hi); have hcz67_0 : w66.cell? ⟨cO, 0, none⟩ = some (.slice none 0 0) := (bC cm.out 0).trans rfl; have hfz67_0 := bF cm.out 0))
      refine bodyPost_ret (results_ct rfl _ _ cO 29 #[.slice none 0 0] (0, 0) _ rfl (by (with_reducible repeat (first | refine aq ?_ _ | refine ap ?_ | refine ar ?_ _)); refine av (cs := #[.slice none 0 0]) ?_ 0 _ rfl; (with_reducible repeat (first | refine aq ?_ _ | refine ap ?_ | refine ar ?_ _)); exact cm.out) Try.underlying29 rfl z0) rfl ?_
      exact ⟨_, y2, by first | exact Kd.R_nil _ _ _ _ _ | exact Kd.N_nil _ _ _ _ _ | exact Kd.V_nil _ _ _ _ _ | exact Kd.Q_nil _ _ _ _ _ | exact Kd.S_nil _ _ _ _ _, by repeat (first | (with_reducible first | exact HB.out | apply bA | apply pD | apply bD | refine ax ?_ ez.out | refine ax ?_ eQ.out | refine ax ?_ fL.out | refine ax ?_ jw.out) | exact HB.out), by repeat (first | (with_reducible first | exact HK.out | apply Kept.alloc | apply Kept.drewN | apply Kept.drew | refine Kept.setCell ?_ (.inr gh.out) _ | refine Kept.setCell ?_ (.inr hV.out) _ | refine Kept.setCell ?_ (.inr ky.out) _ | refine Kept.setCell ?_ (.inr js.out) _) | exact HK.out)⟩
    ·rw [if_neg lw] at H
     exact absurd H (by simp)

/-! ### impl_isName: function 81 -/
def impl_isName.f (a0 : Int) : Option (Bool) := if a0 ≥ 65 then (some (decide (a0 ≤ 70))) else (some false)
set_option maxHeartbeats 8000000 in
set_option maxRecDepth 100000 in
theorem impl_isName.calls (a0 : Int) (r : Bool) (w : World) (h : impl_isName.f a0 = some r) :
  Calls Try.prog 81 #[.int .u8 a0] w fun e w' => e = .returned (.bool r) ∧ Drawn0 w w' := by
 have H : (if a0 ≥ 65 then (some (decide (a0 ≤ 70))) else (some false)) = some r := h
 clear h
 by_cases c2 : a0 ≥ 65
 ·rw [if_pos c2] at H
  have c2b0 : decide (65 ≤ a0) = true := dT c2
  clear c2
  obtain rfl := sI H
  go_enter Try.func81, Try.ntmps81
  go_wp2
  go_ret
  exact ⟨y0, y1⟩
 ·rw [if_neg c2] at H
  have c2b0 : decide (65 ≤ a0) = false := dF c2
  clear c2
  obtain rfl := sI H
  go_enter Try.func81, Try.ntmps81
  go_wp2
  go_ret
  exact ⟨y0, y1⟩

/-! ### impl_isPlain: function 82 -/
def impl_isPlain.f (a0 : Int) : Option (Bool) := if a0 ≥ 97 then (if a0 ≤ 122 then (some true) else (if a0 ≥ 48 then (if a0 ≤ 57 then (some true) else (if a0 = 32 then (some true) else (if a0 = 46 then (some true) else (some (a0 == 44))))) else (if a0 = 32 then (some true) else (if a0 = 46 then (some true) else (some (a0 == 44)))))) else (if a0 ≥ 48 then (if a0 ≤ 57 then (some true) else (if a0 = 32 then (some true) else (if a0 = 46 then (some true) else (some (a0 == 44))))) else (if a0 = 32 then (some true) else (if a0 = 46 then (some true) else (some (a0 == 44)))))
set_option maxHeartbeats 8000000 in
set_option maxRecDepth 100000 in
theorem impl_isPlain.calls (a0 : Int) (r : Bool) (w : World) (h : impl_isPlain.f a0 = some r) :
  Calls Try.prog 82 #[.int .u8 a0] w fun e w' => e = .returned (.bool r) ∧ Drawn0 w w' := by
 have H : (if a0 ≥ 97 then (if a0 ≤ 122 then (some true) else (if a0 ≥ 48 then (if a0 ≤ 57 then (some true) else (if a0 = 32 then (some true) else (if a0 = 46 then (some true) else (some (a0 == 44))))) else (if a0 = 32 then (some true) else (if a0 = 46 then (some true) else (some (a0 == 44)))))) else (if a0 ≥ 48 then (if a0 ≤ 57 then (some true) else (if a0 = 32 then (some true) else (if a0 = 46 then (some true) else (some (a0 == 44))))) else (if a0 = 32 then (some true) else (if a0 = 46 then (some true) else (some (a0 == 44)))))) = some r := h
 clear h
 by_cases c2 : a0 ≥ 97
 ·rw [if_pos c2] at H
  have c2b0 : decide (97 ≤ a0) = true := dT c2
  clear c2
  by_cases c3 : a0 ≤ 122
  ·rw [if_pos c3] at H
   have c3b0 : decide (a0 ≤ 122) = true := dT c3
   clear c3
   obtain rfl := sI H
   go_enter Try.func82, Try.ntmps82
   go_wp2
   go_ret
   exact ⟨y0, y1⟩
  ·rw [if_neg c3] at H
   have c3b0 : decide (a0 ≤ 122) = false := dF c3
   clear c3
   by_cases c4 : a0 ≥ 48
   ·rw [if_pos c4] at H
    have c4b0 : decide (48 ≤ a0) = true := dT c4
    clear c4
    by_cases c5 : a0 ≤ 57
    ·rw [if_pos c5] at H
     have c5b0 : decide (a0 ≤ 57) = true := dT c5
     clear c5
     obtain rfl := sI H
     go_enter Try.func82, Try.ntmps82
     go_wp2
     go_ret
     exact ⟨y0, y1⟩
    ·rw [if_neg c5] at H
     have c5b0 : decide (a0 ≤ 57) = false := dF c5
     clear c5
     by_cases c6 : a0 = 32
     ·rw [if_pos c6] at H
      have c6b0 : (a0 == 32) = true := qT c6
      have c6b1 : (a0 != 32) = false := nF c6
      clear c6
      obtain rfl := sI H
      go_enter Try.func82, Try.ntmps82
      go_wp2
      go_ret
      exact ⟨y0, y1⟩
     ·rw [if_neg c6] at H
      have c6b0 : (a0 == 32) = false := qF c6
      have c6b1 : (a0 != 32) = true := nT c6
      by_cases c7 : a0 = 46
      ·rw [if_pos c7] at H
       have c7b0 : (a0 == 46) = true := qT c7
       have c7b1 : (a0 != 46) = false := nF c7
       clear c7
       obtain rfl := sI H
       go_enter Try.func82, Try.ntmps82
       go_wp2
       go_ret
       exact ⟨y0, y1⟩
      ·rw [if_neg c7] at H
       have c7b0 : (a0 == 46) = false := qF c7
       have c7b1 : (a0 != 46) = true := nT c7
       obtain rfl := sI H
       go_enter Try.func82, Try.ntmps82
       go_wp2
       go_ret
       exact ⟨y0, y1⟩
   ·rw [if_neg c4] at H
    have c4b0 : decide (48 ≤ a0) = false := dF c4
    clear c4
    by_cases c8 : a0 = 32
    ·rw [if_pos c8] at H
     have c8b0 : (a0 == 32) = true := qT c8
     have c8b1 : (a0 != 32) = false := nF c8
     clear c8
     obtain rfl := sI H
     go_enter Try.func82, Try.ntmps82
     go_wp2
     go_ret
     exact ⟨y0, y1⟩
    ·rw [if_neg c8] at H
     have c8b0 : (a0 == 32) = false := qF c8
     have c8b1 : (a0 != 32) = true := nT c8
     by_cases c9 : a0 = 46
     ·rw [if_pos c9] at H
      have c9b0 : (a0 == 46) = true := qT c9
      have c9b1 : (a0 != 46) = false := nF c9
      clear c9
      obtain rfl := sI H
      go_enter Try.func82, Try.ntmps82
      go_wp2
      go_ret
      exact ⟨y0, y1⟩
     ·rw [if_neg c9] at H
      have c9b0 : (a0 == 46) = false := qF c9
      have c9b1 : (a0 != 46) = true := nT c9
      obtain rfl := sI H
      go_enter Try.func82, Try.ntmps82
      go_wp2
      go_ret
      exact ⟨y0, y1⟩
 ·rw [if_neg c2] at H
  have c2b0 : decide (97 ≤ a0) = false := dF c2
  clear c2
  by_cases eE : a0 ≥ 48
  ·rw [if_pos eE] at H
   have c10b0 : decide (48 ≤ a0) = true := dT eE
   clear eE
   by_cases eI : a0 ≤ 57
   ·rw [if_pos eI] at H
    have c11b0 : decide (a0 ≤ 57) = true := dT eI
    clear eI
    obtain rfl := sI H
    go_enter Try.func82, Try.ntmps82
    go_wp2
    go_ret
    exact ⟨y0, y1⟩
   ·rw [if_neg eI] at H
    have c11b0 : decide (a0 ≤ 57) = false := dF eI
    clear eI
    by_cases gr : a0 = 32
    ·rw [if_pos gr] at H
     have c12b0 : (a0 == 32) = true := qT gr
     have c12b1 : (a0 != 32) = false := nF gr
     clear gr
     obtain rfl := sI H
     go_enter Try.func82, Try.ntmps82
     go_wp2
     go_ret
     exact ⟨y0, y1⟩
    ·rw [if_neg gr] at H
     have c12b0 : (a0 == 32) = false := qF gr
     have c12b1 : (a0 != 32) = true := nT gr
     by_cases gR : a0 = 46
     ·rw [if_pos gR] at H
      have c13b0 : (a0 == 46) = true := qT gR
      have c13b1 : (a0 != 46) = false := nF gR
      clear gR
      obtain rfl := sI H
      go_enter Try.func82, Try.ntmps82
      go_wp2
      go_ret
      exact ⟨y0, y1⟩
     ·rw [if_neg gR] at H
      have c13b0 : (a0 == 46) = false := qF gR
      have c13b1 : (a0 != 46) = true := nT gR
      obtain rfl := sI H
      go_enter Try.func82, Try.ntmps82
      go_wp2
      go_ret
      exact ⟨y0, y1⟩
  ·rw [if_neg eE] at H
   have c10b0 : decide (48 ≤ a0) = false := dF eE
   clear eE
   by_cases gX : a0 = 32
   ·rw [if_pos gX] at H
    have c14b0 : (a0 == 32) = true := qT gX
    have c14b1 : (a0 != 32) = false := nF gX
    clear gX
    obtain rfl := sI H
    go_enter Try.func82, Try.ntmps82
    go_wp2
    go_ret
    exact ⟨y0, y1⟩
   ·rw [if_neg gX] at H
    have c14b0 : (a0 == 32) = false := qF gX
    have c14b1 : (a0 != 32) = true := nT gX
    by_cases fK : a0 = 46
    ·rw [if_pos fK] at H
     have c15b0 : (a0 == 46) = true := qT fK
     have c15b1 : (a0 != 46) = false := nF fK
     clear fK
     obtain rfl := sI H
     go_enter Try.func82, Try.ntmps82
     go_wp2
     go_ret
     exact ⟨y0, y1⟩
    ·rw [if_neg fK] at H
     have c15b0 : (a0 == 46) = false := qF fK
     have c15b1 : (a0 != 46) = true := nT fK
     obtain rfl := sI H
     go_enter Try.func82, Try.ntmps82
     go_wp2
     go_ret
     exact ⟨y0, y1⟩

end Go.Proofs.Ytmkenlejdaphnaa.AFnExactJoinRopes
