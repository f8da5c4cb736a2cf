-- this session's own text: written by wip/tools/ownprint.py over the kit's print
import Derived.Test.YtmkenlejdaphnaaAFnExactSplitRopex0
import Derived.Test.YtmkenlejdaphnaaAFnExactSplitRopex5
namespace Go.Proofs.Ytmkenlejdaphnaa.AFnExactSplitRope
open Go.RowKit Go.Proofs.YtmkenlejdaphnaaW.PrintWords Go.Proofs.YtmkenlejdaphnaaW.PrintLast Go.Proofs.YtmkenlejdaphnaaW.PrintMore
attribute [local go_sem] max2_int min2_int max_two min_two max_three min_three max_four min_four   -- for this text's walks alone
set_option linter.unusedVariables false
set_option linter.unusedSimpArgs false

/-! ### spec_GoodRope: function 15 -/
def spec_GoodRope.f (k : Nat) (l0_0 : List (S58)) : Option (Bool) := if (l0_0.length : Int) = 0 then (some true) else (if (l0_0.length : Int) ≤ 200 then ((spec_l12First.f k l0_0 (wrap64 ((l0_0.length : Int) - 1))).bind fun iR => (if iR = 0 then (if 0 ≤ (wrap64 ((l0_0.length : Int) - 1)) then (if (wrap64 ((l0_0.length : Int) - 1)) < (l0_0.length : Int) then (some (decide (((rd_T58 l0_0 (wrap64 ((l0_0.length : Int) - 1))).f3) ≤ 300))) else (none)) else (none)) else (some false))) else (some false))
theorem spec_GoodRope.mono : ∀ a0 k, LeO (spec_GoodRope.f k a0) (spec_GoodRope.f (k + 1) a0) := by
 intro a0 k
 unfold spec_GoodRope.f
 repeat' first
   | (with_reducible exact spec_l12First.mono _ _ _)
   | (with_reducible exact LeO.refl _)
   | (with_reducible exact LeO.none _)
   | (with_reducible refine LeO.ite ?_ ?_)
   | (with_reducible refine LeO.bind ?_ (fun _ => ?_))
   | exact spec_l12First.mono _ _ _
   | exact LeO.none _
   | refine LeO.ite ?_ ?_
   | refine LeO.bind ?_ (fun _ => ?_)
set_option maxHeartbeats 8000000 in
set_option maxRecDepth 100000 in
theorem spec_GoodRope.calls (k : Nat) (bu : Option Addr) (bx : Nat) (l0_0 : List (S58)) (r : Bool) (w : World) (hr0_0 : Kd.C k58 w bu l0_0.length l0_0) (hc0_0 : l0_0.length ≤ bx) (h : spec_GoodRope.f k l0_0 = some r) :
  Calls Try.prog 15 #[.agg #[.slice bu l0_0.length bx]] w fun e w' => e = .returned (.bool r) ∧ Below w.heap.size w w' := by
 have hu29 := Try.underlying29
 have eb := aM hr0_0
 have ee := aM hc0_0
 clear hr0_0 hc0_0
 have HB := aM (Below.refl w.heap.size w)
 have H : (if (l0_0.length : Int) = 0 then (some true) else (if (l0_0.length : Int) ≤ 200 then ((spec_l12First.f k l0_0 (wrap64 ((l0_0.length : Int) - 1))).bind fun iR => (if iR = 0 then (if 0 ≤ (wrap64 ((l0_0.length : Int) - 1)) then (if (wrap64 ((l0_0.length : Int) - 1)) < (l0_0.length : Int) then (some (decide (((rd_T58 l0_0 (wrap64 ((l0_0.length : Int) - 1))).f3) ≤ 300))) else (none)) else (none)) else (some false))) else (some false))) = some r := h
 clear h
 by_cases c2 : (l0_0.length : Int) = 0
 ·rw [if_pos c2] at H
  have c2b0 : ((l0_0.length : Int) == 0) = true := qT c2
  have c2b1 : ((l0_0.length : Int) != 0) = false := nF c2
  clear c2
  obtain rfl := sI H
  go_enter Try.func15, Try.ntmps15
  go_wp2_with (first | ((with_reducible refine aK (N := 1) rfl ?_); refine aN ?hg (N := 1) ?hd (cs := #[.slice bu l0_0.length bx]) (t := 29) ?hr ?_; (case hd => rfl); (case hg => rfl); (case hr => first | (go_simp; done) | (go_simp; rfl)); intro ex hg w3 hbox hb; have ba := aM (ay z23 hb); have bb := aM (hbox); have bf := aM ((by rw [hg]; exact (az z23) : w.heap.size ≤ ex)); have bk := aM ((by rw [hg]; exact (az z23) : w.heap.size ≤ ex)); clear HB; have HB := ba; have ew := bb; have ny := bf; have gy := bk; clear ba bb bf bk; clear hb hbox hg; have hcz4_0 : w3.cell? ⟨ex, 0, none⟩ = some (.slice bu l0_0.length bx) := (bC ew.out 0).trans rfl; have hfz4_0 := bF ew.out 0))
  go_ret
  exact ⟨y2, by repeat (first | (with_reducible first | exact HB.out | apply bA | apply pD | apply bD | refine ax ?_ gy.out) | exact HB.out)⟩
 ·rw [if_neg c2] at H
  have c2b0 : ((l0_0.length : Int) == 0) = false := qF c2
  have c2b1 : ((l0_0.length : Int) != 0) = true := nT c2
  have c2b2 : ¬ (l0_0 = []) := fun h_ => c2 (by rw [h_]; rfl)
  by_cases c5 : (l0_0.length : Int) ≤ 200
  ·rw [if_pos c5] at H
   have c5b0 : decide ((l0_0.length : Int) ≤ 200) = true := dT c5
   have c5b1 : decide (l0_0.length ≤ 200) = true := dT (by omega)
   clear c5
   replace H := oB H
   obtain ⟨iR, nD, H⟩ := H
   try dsimp only at H
   have A6 := aM nD
   clear nD
   by_cases c7 : iR = 0
   ·rw [if_pos c7] at H
    have c7b0 : (iR == 0) = true := qT c7
    have c7b1 : (iR != 0) = false := nF c7
    clear c7
    obtain ⟨mT, nl⟩ : ∃ j_ : Int, (wrap64 ((l0_0.length : Int) - 1)) = j_ := ⟨_, rfl⟩
    replace H : (if 0 ≤ (mT) then (if (mT) < (l0_0.length : Int) then (some (decide (((rd_T58 l0_0 (mT)).f3) ≤ 300))) else (none)) else (none)) = some r := by first | (rw [nl] at H; exact H) | (simp only [nl] at H ⊢; exact H)
    (try rw [nl] at A6)
    have hji8w : (IntKind.i64.wrap ((l0_0.length : Int) - 1)) = mT := (i64_w _).trans nl
    by_cases c9 : 0 ≤ (mT)
    ·rw [if_pos c9] at H
     have c9b0 : decide (0 ≤ (mT)) = true := dT c9
     clear c9
     by_cases eK : (mT) < (l0_0.length : Int)
     ·rw [if_pos eK] at H
      have c10b0 : decide ((mT) < (l0_0.length : Int)) = true := dT eK
      clear eK
      obtain rfl := sI H
      go_enter Try.func15, Try.ntmps15
      go_wp2_with (first | ((with_reducible refine aK (N := 1) rfl ?_); refine aN ?hg (N := 1) ?hd (cs := #[.slice bu l0_0.length bx]) (t := 29) ?hr ?_; (case hd => rfl); (case hg => rfl); (case hr => first | (go_simp; done) | (go_simp; rfl)); intro ex hg w11 hbox hb; have ba := aM (ay z23 hb); have bb := aM (hbox); have bf := aM ((by rw [hg]; exact (az z23) : w.heap.size ≤ ex)); have bk := aM ((by rw [hg]; exact (az z23) : w.heap.size ≤ ex)); clear HB; have HB := ba; have ew := bb; have ny := bf; have gy := bk; clear ba bb bf bk; clear hb hbox hg; have mv : w11.cell? ⟨ex, 0, none⟩ = some (.slice bu l0_0.length bx) := (bC ew.out 0).trans rfl; have mc := bF ew.out 0) | (go_at_call 46; (with_reducible refine (spec_l12First.calls k _ _ l0_0 mT iR _ ?side1 ?side2 A6.out).mono ?_); (case side1 => repeat (first | exact (aD eb.out HB.out) | (with_reducible refine aE ?_ _) | (with_reducible refine aG ?_ _) | (with_reducible refine aH ?_))); (case side2 => exact ee.out); rintro e w13 ⟨rfl, hb⟩; have ba := aM (ae (g := ex) (o := .cells #[.slice bu l0_0.length bx] 29 (0, 0)) (by (with_reducible repeat (first | refine aq ?_ _ | refine ap ?_ | refine ar ?_ _)); exact ew.out) hb); have bb := aM (ay (by repeat (first | (with_reducible first | exact HB.out | apply bA | apply pD | apply bD | refine ax ?_ gy.out) | exact HB.out)) hb); clear ew; clear HB; have ew := ba; have HB := bb; clear ba bb; (try clear hb); (try clear hb2); (try clear hk); (try clear hi); have gq : w13.cell? ⟨ex, 0, none⟩ = some (.slice bu l0_0.length bx) := (bC ew.out 0).trans rfl; have gn := bF ew.out 0; have p171 : 0 ≤ ((mT) : Int) := oD z3; have q171 : (mT) < (l0_0.length : Int) := oD z3; obtain ⟨ad171, e171, hx171_0, hx171_1, hx171_2, hx171_3, hx171_4⟩ := at_T58 eb.out (mT) p171 q171; cases e171; replace hx171_0 := (HB.out.cell (World.block_lt_of_cell? w _ hx171_0)).trans hx171_0; replace hx171_1 := (HB.out.cell (World.block_lt_of_cell? w _ hx171_1)).trans hx171_1; replace hx171_2 := (HB.out.cell (World.block_lt_of_cell? w _ hx171_2)).trans hx171_2; replace hx171_3 := (HB.out.cell (World.block_lt_of_cell? w _ hx171_3)).trans hx171_3; replace hx171_4 := (HB.out.cell (World.block_lt_of_cell? w _ hx171_4)).trans hx171_4; replace p171 := eq_true p171; replace q171 := eq_true q171))
      go_ret
      exact ⟨by first | rfl | (simp [errW_none, errW_some] <;> rfl) | (simp only [← nl]; first | rfl | (simp [errW_none, errW_some] <;> rfl)) | (simp [*, errW_none, errW_some] <;> rfl), by repeat (first | (with_reducible first | exact HB.out | apply bA | apply pD | apply bD | refine ax ?_ gy.out) | exact HB.out)⟩
     ·rw [if_neg eK] at H
      exact absurd H (by simp)
    ·rw [if_neg c9] at H
     exact absurd H (by simp)
   ·rw [if_neg c7] at H
    have c7b0 : (iR == 0) = false := qF c7
    have c7b1 : (iR != 0) = true := nT c7
    obtain rfl := sI H
    go_enter Try.func15, Try.ntmps15
    go_wp2_with (first | ((with_reducible refine aK (N := 1) rfl ?_); refine aN ?hg (N := 1) ?hd (cs := #[.slice bu l0_0.length bx]) (t := 29) ?hr ?_; (case hd => rfl); (case hg => rfl); (case hr => first | (go_simp; done) | (go_simp; rfl)); intro ex hg w15 hbox hb; have ba := aM (ay z23 hb); have bb := aM (hbox); have bf := aM ((by rw [hg]; exact (az z23) : w.heap.size ≤ ex)); have bk := aM ((by rw [hg]; exact (az z23) : w.heap.size ≤ ex)); clear HB; have HB := ba; have ew := bb; have ny := bf; have gy := bk; clear ba bb bf bk; clear hb hbox hg; have gp : w15.cell? ⟨ex, 0, none⟩ = some (.slice bu l0_0.length bx) := (bC ew.out 0).trans rfl; have gm := bF ew.out 0) | (go_at_call 46; (with_reducible refine (spec_l12First.calls k _ _ l0_0 (wrap64 ((l0_0.length : Int) - 1)) iR _ ?side1 ?side2 A6.out).mono ?_); (case side1 => repeat (first | exact (aD eb.out HB.out) | (with_reducible refine aE ?_ _) | (with_reducible refine aG ?_ _) | (with_reducible refine aH ?_))); (case side2 => exact ee.out); rintro e w17 ⟨rfl, hb⟩; have ba := aM (ae (g := ex) (o := .cells #[.slice bu l0_0.length bx] 29 (0, 0)) (by (with_reducible repeat (first | refine aq ?_ _ | refine ap ?_ | refine ar ?_ _)); exact ew.out) hb); have bb := aM (ay (by repeat (first | (with_reducible first | exact HB.out | apply bA | apply pD | apply bD | refine ax ?_ gy.out) | exact HB.out)) hb); clear ew; clear HB; have ew := ba; have HB := bb; clear ba bb; (try clear hb); (try clear hb2); (try clear hk); (try clear hi)))
    go_ret
    exact ⟨y2, by repeat (first | (with_reducible first | exact HB.out | apply bA | apply pD | apply bD | refine ax ?_ gy.out) | exact HB.out)⟩
  ·rw [if_neg c5] at H
   have c5b0 : decide ((l0_0.length : Int) ≤ 200) = false := dF c5
   have c5b1 : decide (l0_0.length ≤ 200) = false := dF (by omega)
   clear c5
   obtain rfl := sI H
   go_enter Try.func15, Try.ntmps15
   go_wp2_with (first | ((with_reducible refine aK (N := 1) rfl ?_); refine aN ?hg (N := 1) ?hd (cs := #[.slice bu l0_0.length bx]) (t := 29) ?hr ?_; (case hd => rfl); (case hg => rfl); (case hr => first | (go_simp; done) | (go_simp; rfl)); intro ex hg w18 hbox hb; have ba := aM (ay z23 hb); have bb := aM (hbox); have bf := aM ((by rw [hg]; exact (az z23) : w.heap.size ≤ ex)); have bk := aM ((by rw [hg]; exact (az z23) : w.heap.size ≤ ex)); clear HB; have HB := ba; have ew := bb; have ny := bf; have gy := bk; clear ba bb bf bk; clear hb hbox hg; have fD : w18.cell? ⟨ex, 0, none⟩ = some (.slice bu l0_0.length bx) := (bC ew.out 0).trans rfl; have fB := bF ew.out 0))
   go_ret
   exact ⟨y2, by repeat (first | (with_reducible first | exact HB.out | apply bA | apply pD | apply bD | refine ax ?_ gy.out) | exact HB.out)⟩

/-! ### spec_l12Size: function 51 -/
def spec_l12Size.f (l0 : List (S58)) : Option (Int) := if (l0.length : Int) = 0 then (some 0) else (if 0 ≤ (wrap64 ((l0.length : Int) - 1)) then (if (wrap64 ((l0.length : Int) - 1)) < (l0.length : Int) then (some ((rd_T58 l0 (wrap64 ((l0.length : Int) - 1))).f3)) else (none)) else (none))
set_option maxHeartbeats 8000000 in
set_option maxRecDepth 100000 in
theorem spec_l12Size.calls (A0 : Option Addr) (c0 : Nat) (l0 : List (S58)) (r : Int) (w : World) (hr0 : Kd.C k58 w A0 l0.length l0) (hc0 : l0.length ≤ c0) (h : spec_l12Size.f l0 = some r) :
  Calls Try.prog 51 #[.slice A0 l0.length c0] w fun e w' => e = .returned (.int .i64 r) ∧ Drawn0 w w' := by
 have dX := aM hr0
 have g6 := aM hc0
 clear hr0 hc0
 have H : (if (l0.length : Int) = 0 then (some 0) else (if 0 ≤ (wrap64 ((l0.length : Int) - 1)) then (if (wrap64 ((l0.length : Int) - 1)) < (l0.length : Int) then (some ((rd_T58 l0 (wrap64 ((l0.length : Int) - 1))).f3)) else (none)) else (none))) = some r := h
 clear h
 by_cases c2 : (l0.length : Int) = 0
 ·rw [if_pos c2] at H
  have c2b0 : ((l0.length : Int) == 0) = true := qT c2
  have c2b1 : ((l0.length : Int) != 0) = false := nF c2
  clear c2
  obtain rfl := sI H
  go_enter Try.func51, Try.ntmps51
  go_wp2
  go_ret
  exact ⟨y0, y1⟩
 ·rw [if_neg c2] at H
  have c2b0 : ((l0.length : Int) == 0) = false := qF c2
  have c2b1 : ((l0.length : Int) != 0) = true := nT c2
  have c2b2 : ¬ (l0 = []) := fun h_ => c2 (by rw [h_]; rfl)
  obtain ⟨nk, nM⟩ : ∃ j_ : Int, (wrap64 ((l0.length : Int) - 1)) = j_ := ⟨_, rfl⟩
  replace H : (if 0 ≤ (nk) then (if (nk) < (l0.length : Int) then (some ((rd_T58 l0 (nk)).f3)) else (none)) else (none)) = some r := by first | (rw [nM] at H; exact H) | (simp only [nM] at H ⊢; exact H)
  have hji3w : (IntKind.i64.wrap ((l0.length : Int) - 1)) = nk := (i64_w _).trans nM
  by_cases c4 : 0 ≤ (nk)
  ·rw [if_pos c4] at H
   have c4b0 : decide (0 ≤ (nk)) = true := dT c4
   clear c4
   by_cases c5 : (nk) < (l0.length : Int)
   ·rw [if_pos c5] at H
    have c5b0 : decide ((nk) < (l0.length : Int)) = true := dT c5
    clear c5
    obtain rfl := sI H
    have p172 : 0 ≤ ((nk) : Int) := oD z3
    have q172 : (nk) < (l0.length : Int) := oD z3
    obtain ⟨ad172, e172, hx172_0, hx172_1, hx172_2, hx172_3, hx172_4⟩ := at_T58 dX.out (nk) p172 q172
    cases e172
    replace p172 := eq_true p172
    replace q172 := eq_true q172
    go_enter Try.func51, Try.ntmps51
    go_wp2
    go_ret
    exact ⟨by first | rfl | (simp; done) | (simp only [← nM] <;> (first | rfl | (simp; done) | (simp; generalize ByteArray.toList _ = u_; cases u_ <;> (first | rfl | (simp; done))))) | (simp [*]; done), y1⟩
   ·rw [if_neg c5] at H
    exact absurd H (by simp)
  ·rw [if_neg c4] at H
   exact absurd H (by simp)

/-! ### spec_l12Join: function 68 -/
def spec_l12Join.l0 : Nat → List (S58) → List (S58) → List (S58) → List (S58) → Int → Int → Option ((List (S58)))
 | 0, _, _, _, _, _, _ => none
 | k + 1, x0, x1, x5, x22, x23, x24 => if x24 < x23 then (if 0 ≤ x24 then (if x24 < (x22.length : Int) then (if ((rd_T58 x22 x24).f0) ≥ 0 then (if x5.length < 2932031007402 then (spec_l12Join.l0 k x0 x1 (x5 ++ [(⟨wrap64 (((rd_T58 x22 x24).f0) + (x0.length : Int)), wrap64 (((rd_T58 x22 x24).f1) + (x0.length : Int)), (rd_T58 x22 x24).f2, (rd_T58 x22 x24).f3, (rd_T58 x22 x24).f4⟩ : S58)]) x22 x23 (wrap64 (x24 + 1))) else (none)) else (if x5.length < 2932031007402 then (spec_l12Join.l0 k x0 x1 (x5 ++ [(⟨(rd_T58 x22 x24).f0, (rd_T58 x22 x24).f1, (rd_T58 x22 x24).f2, (rd_T58 x22 x24).f3, (rd_T58 x22 x24).f4⟩ : S58)]) x22 x23 (wrap64 (x24 + 1))) else (none))) else (none)) else (none)) else (if 0 ≤ (wrap64 ((x0.length : Int) - 1)) then (if (wrap64 ((x0.length : Int) - 1)) < (x0.length : Int) then (if 0 ≤ (wrap64 ((x1.length : Int) - 1)) then (if (wrap64 ((x1.length : Int) - 1)) < (x1.length : Int) then (if ((rd_T58 x1 (wrap64 ((x1.length : Int) - 1))).f4) > ((rd_T58 x0 (wrap64 ((x0.length : Int) - 1))).f4) then (if x5.length < 2932031007402 then (some (x5 ++ [(⟨wrap64 ((x0.length : Int) - 1), wrap64 ((x5.length : Int) - 1), (⟨#[]⟩ : ByteArray), wrap64 (((rd_T58 x0 (wrap64 ((x0.length : Int) - 1))).f3) + ((rd_T58 x1 (wrap64 ((x1.length : Int) - 1))).f3)), wrap64 (((rd_T58 x1 (wrap64 ((x1.length : Int) - 1))).f4) + 1)⟩ : S58)])) else (none)) else (if x5.length < 2932031007402 then (some (x5 ++ [(⟨wrap64 ((x0.length : Int) - 1), wrap64 ((x5.length : Int) - 1), (⟨#[]⟩ : ByteArray), wrap64 (((rd_T58 x0 (wrap64 ((x0.length : Int) - 1))).f3) + ((rd_T58 x1 (wrap64 ((x1.length : Int) - 1))).f3)), wrap64 (((rd_T58 x0 (wrap64 ((x0.length : Int) - 1))).f4) + 1)⟩ : S58)])) else (none))) else (none)) else (none)) else (none)) else (none))
def spec_l12Join.f (k : Nat) (l0 : List (S58)) (l1 : List (S58)) : Option ((List (S58))) := if (l0.length : Int) = 0 then (some l1) else (if (l1.length : Int) = 0 then (some l0) else ((some (([] : List (S58)) : List (S58))).bind fun y173 => (if y173.length + l0.length < 2932031007402 then (spec_l12Join.l0 k l0 l1 (y173 ++ l0) l1 (l1.length : Int) 0) else (none))))
theorem spec_l12Join.mono_l : ∀ k, (∀ y0 y1 y2 y3 y4 y5, LeO (spec_l12Join.l0 k y0 y1 y2 y3 y4 y5) (spec_l12Join.l0 (k + 1) y0 y1 y2 y3 y4 y5))
 | 0 => fun _ _ _ _ _ _ r h => by simp [spec_l12Join.l0] at h
 | k + 1 => by
  have ih0 := spec_l12Join.mono_l k
  ·intro y0 y1 y2 y3 y4 y5
   unfold spec_l12Join.l0
   repeat' first
   | (with_reducible exact ih0 _ _ _ _ _ _)
   | (with_reducible exact LeO.refl _)
   | (with_reducible exact LeO.none _)
   | (with_reducible refine LeO.ite ?_ ?_)
   | (with_reducible refine LeO.bind ?_ (fun _ => ?_))
   | exact ih0 _ _ _ _ _ _
   | exact LeO.none _
   | refine LeO.ite ?_ ?_
   | refine LeO.bind ?_ (fun _ => ?_)
theorem spec_l12Join.mono : ∀ a0 a1 k, LeO (spec_l12Join.f k a0 a1) (spec_l12Join.f (k + 1) a0 a1) := by
 intro a0 a1 k
 have ih0 := spec_l12Join.mono_l k
 unfold spec_l12Join.f
 repeat' first
   | (with_reducible exact ih0 _ _ _ _ _ _)
   | (with_reducible exact LeO.refl _)
   | (with_reducible exact LeO.none _)
   | (with_reducible refine LeO.ite ?_ ?_)
   | (with_reducible refine LeO.bind ?_ (fun _ => ?_))
   | exact ih0 _ _ _ _ _ _
   | exact LeO.none _
   | refine LeO.ite ?_ ?_
   | refine LeO.bind ?_ (fun _ => ?_)
set_option maxHeartbeats 8000000 in
set_option maxRecDepth 100000 in
theorem spec_l12Join.calls (k : Nat) (P0_ : Nat → Prop) (u9000_ : Value) (l0 : List (S58)) (P1_ : Nat → Prop) (u9001_ : Value) (l1 : List (S58)) (r : List (S58)) (w0 w : World) (hB : Below w0.heap.size w0 w) (ho0 : Kd.R k58 58 w w0.heap.size P0_ u9000_ l0) (hp0_1 : ∀ k_, P0_ k_ → ¬ P1_ k_) (ho1 : Kd.R k58 58 w w0.heap.size P1_ u9001_ l1) (hp1_0 : ∀ k_, P1_ k_ → ¬ P0_ k_) (h : spec_l12Join.f k l0 l1 = some r) :
  Calls Try.prog 68 #[u9000_, u9001_] w fun e w' => ∃ v0_ : Value, e = .returned (v0_) ∧ Kd.R k58 58 w' w0.heap.size (fun k_ => ((P0_ k_ ∨ P1_ k_) ∨ w.heap.size ≤ k_)) v0_ r ∧ Below w0.heap.size w0 w' ∧ Kept w w' (fun k_ => P0_ k_ ∨ P1_ k_) := by
 have hu58 := Try.underlying58
 have dA := aM (show Kd.R k58 58 w w0.heap.size (fun k_ => ((P0_ k_ ∨ P1_ k_) ∨ w.heap.size ≤ k_) ∧ some k_ ≠ (u9001_ : Value).ownBlock) u9000_ l0 from ag ho0 (fun k_ hk => ⟨(.inl (.inl hk)), fun e_ => hp0_1 k_ hk (ho1.1 k_ e_.symm)⟩))
 have mR := aM (show Kd.R k58 58 w w0.heap.size (fun k_ => ((P0_ k_ ∨ P1_ k_) ∨ w.heap.size ≤ k_) ∧ some k_ ≠ (u9000_ : Value).ownBlock) u9001_ l1 from ag ho1 (fun k_ hk => ⟨(.inl (.inr hk)), fun e_ => hp1_0 k_ hk (ho0.1 k_ e_.symm)⟩))
 have HK := aM (Kept.refl w (fun k_ => P0_ k_ ∨ P1_ k_))
 have HW0 := aM hB.size
 have HB := aM hB
 clear hB
 have H : (if (l0.length : Int) = 0 then (some l1) else (if (l1.length : Int) = 0 then (some l0) else ((some (([] : List (S58)) : List (S58))).bind fun y173 => (if y173.length + l0.length < 2932031007402 then (spec_l12Join.l0 k l0 l1 (y173 ++ l0) l1 (l1.length : Int) 0) else (none))))) = some r := h
 clear h
 by_cases c3 : (l0.length : Int) = 0
 ·rw [if_pos c3] at H
  have c3b0 : ((l0.length : Int) == 0) = true := qT c3
  have c3b1 : ((l0.length : Int) != 0) = false := nF c3
  clear c3
  obtain rfl := sI H
  obtain ⟨pn, pj, eo4⟩ := Kd.R_slice dA.out
  subst eo4
  go_enter Try.func68, Try.ntmps68
  go_wp2
  go_ret
  exact ⟨_, y2, by (with_reducible repeat (first | apply ac | apply ab | apply aa)); exact ag mR.out (fun _ hk => hk.1), y3, y11⟩
 ·rw [if_neg c3] at H
  have c3b0 : ((l0.length : Int) == 0) = false := qF c3
  have c3b1 : ((l0.length : Int) != 0) = true := nT c3
  have c3b2 : ¬ (l0 = []) := fun h_ => c3 (by rw [h_]; rfl)
  by_cases c5 : (l1.length : Int) = 0
  ·rw [if_pos c5] at H
   have c5b0 : ((l1.length : Int) == 0) = true := qT c5
   have c5b1 : ((l1.length : Int) != 0) = false := nF c5
   clear c5
   obtain rfl := sI H
   obtain ⟨rf, qo, eo6⟩ := Kd.R_slice dA.out
   subst eo6
   obtain ⟨Ao7, co7, eo7⟩ := Kd.R_slice mR.out
   subst eo7
   go_enter Try.func68, Try.ntmps68
   go_wp2
   go_ret
   exact ⟨_, y2, by (with_reducible repeat (first | apply ac | apply ab | apply aa)); exact ag dA.out (fun _ hk => hk.1), y3, y11⟩
  ·rw [if_neg c5] at H
   have c5b0 : ((l1.length : Int) == 0) = false := qF c5
   have c5b1 : ((l1.length : Int) != 0) = true := nT c5
   have c5b2 : ¬ (l1 = []) := fun h_ => c5 (by rw [h_]; rfl)
   obtain ⟨y173, hy173⟩ : ∃ y_ : List (S58), y_ = (([] : List (S58))) := ⟨_, rfl⟩
   replace H : (if y173.length + l0.length < 2932031007402 then (spec_l12Join.l0 k l0 l1 (y173 ++ l0) l1 (l1.length : Int) 0) else (none)) = some r := by first | (rw [hy173]; with_reducible exact H) | (have H2_ := (Option.bind_some _ _).symm.trans H; rw [hy173]; with_reducible exact H2_) | (have H2_ := (Option.bind_some _ _).symm.trans H; with_reducible exact H2_) | with_reducible exact H | (rw [hy173]; exact H) | exact H
   have Ny173 := aM hy173
   clear hy173
   by_cases c8 : y173.length + l0.length < 2932031007402
   ·rw [if_pos c8] at H
    have LMc8 := aM c8
    clear c8
    obtain ⟨y176, hy176⟩ : ∃ y_ : List (S58), y_ = (y173 ++ l0) := ⟨_, rfl⟩
    replace H : (spec_l12Join.l0 k l0 l1 y176 l1 (l1.length : Int) 0) = some r := by first | (rw [hy176]; with_reducible exact H) | (have H2_ := (Option.bind_some _ _).symm.trans H; rw [hy176]; with_reducible exact H2_) | (have H2_ := (Option.bind_some _ _).symm.trans H; with_reducible exact H2_) | with_reducible exact H | (rw [hy176]; exact H) | exact H
    have Ny176 := aM hy176
    clear hy176
    have H' := aM H
    clear H
    obtain ⟨mV, kJ, eo9⟩ := Kd.R_slice dA.out
    subst eo9
    obtain ⟨hU, ej, eo10⟩ := Kd.R_slice mR.out
    subst eo10
    go_enter Try.func68, Try.ntmps68
    go_wp2_with (first | ((with_reducible refine aK (N := 19) rfl ?_); refine Kd.R_lit k58 _ 58 ?hg (N := 19) ?hd (xs := ([] : List (S58))) (inner := []) (ok := fun _ => True) (okp := fun _ => True) ?hr ?hp (fun _ hk => hk) trivial (Below.refl _ _) (Nat.le_refl _) (by simp) ?_; (case hd => rfl); (case hg => rfl); (case hr => first | (go_simp; done) | (go_simp; rfl)); (case hp => exact (Reps.none _ _)); intro v174 w11 ho12 hb hg_ hnew_; clear hg_ hnew_; (first | rw [← Ny173.out] at ho12 | (simp only [Int.reduceToNat] at ho12; rw [← Ny173.out] at ho12)); have ba := aM (ai z4 (ak ho12) hb); have bb := aM (ai (by (with_reducible repeat (first | apply ac | apply ab | apply aa)); exact mR.out) (ak ho12) hb); have bf := aM (aU (aj (aj (Kd.R_newM (M := fun k_ => ((P0_ k_ ∨ P1_ k_) ∨ w.heap.size ≤ k_)) ho12 (by first | exact HK.out.1 | exact (show Kept w _ (fun k_ => P0_ k_ ∨ P1_ k_) from by repeat (first | (with_reducible first | exact HK.out | apply Kept.alloc | apply Kept.drewN | apply Kept.drew) | exact HK.out)).1) (fun k_ h_ => .inr h_)) (al z4)) (al (by (with_reducible repeat (first | apply ac | apply ab | apply aa)); exact mR.out))) (az z23)); have bk := aM (Kept.below (S := (fun k_ => P0_ k_ ∨ P1_ k_)) z22 hb); have bn := aM (ay z23 hb); clear dA; clear mR; clear HK; clear HB; have dA := ba; have mR := bb; have nu := bf; have HK := bk; have HB := bn; clear ba bb bf bk bn; clear hb ho12) | ((with_reducible refine gate_builtin (b := .append) (xs := #[.tmp 19, .tmp 20]) rfl ?_); at_builtin; refine Kd.R_append_rows k58 (w0 := w0) w0.heap.size rfl (.tmp 19) (.tmp 20) 27 58 (.agg #[(.int .i64 0), (.int .i64 0), (.string ⟨#[]⟩), (.int .i64 0), (.int .i64 0)]) 48 rfl Try.underlying27 info58 rfl z0 (by omega) v174 y173 l0 _ _ _ (fun k_ => ((P0_ k_ ∨ P1_ k_) ∨ w.heap.size ≤ k_) ∧ some k_ ≠ (.slice mV l0.length kJ : Value).ownBlock ∧ some k_ ≠ (.slice hU l1.length ej : Value).ownBlock) (fun _ => False) rfl rfl ?aO ?aR (fun _ _ h => h) (fun _ h => h.elim) ?aF ?aB ?aS ?aL ?_; (case aR => repeat (first | exact (ah dA.out).2.2 | (with_reducible refine aE ?_ _) | (with_reducible refine aG ?_ _) | (with_reducible refine aH ?_))); (case aB => exact z23); (case aF => exact (fun k_ hk => ⟨(.inr (Nat.le_trans (by first | exact HK.out.1 | exact (show Kept w _ (fun k_ => P0_ k_ ∨ P1_ k_) from by repeat (first | (with_reducible first | exact HK.out | apply Kept.alloc | apply Kept.drewN | apply Kept.drew) | exact HK.out)).1) hk)), Kd.fresh' (al z4) k_ hk, Kd.fresh' (al (by (with_reducible repeat (first | apply ac | apply ab | apply aa)); exact mR.out)) k_ hk⟩)); (case aO => exact (by (with_reducible repeat (first | apply ac | apply ab | apply aa)); exact ag nu.out (fun _ hk => ⟨hk.1.1.1, ⟨hk.1.2, hk.2⟩⟩))); (case aS => exact (az z23)); (case aL => have := LMc8.out; omega); intro v177 w13 ho hb hg hat; rw [← Ny176.out] at ho; have ba := aM (Kd.R_after (ok := (fun k_ => ((P0_ k_ ∨ P1_ k_) ∨ w.heap.size ≤ k_) ∧ some k_ ≠ (.slice hU l1.length ej : Value).ownBlock)) z4 hg hat); have bb := aM (Kd.R_after (ok := (fun k_ => ((P0_ k_ ∨ P1_ k_) ∨ w.heap.size ≤ k_) ∧ some k_ ≠ (.slice mV l0.length kJ : Value).ownBlock)) (by (with_reducible repeat (first | apply ac | apply ab | apply aa)); exact mR.out) hg hat); have bf := aM (hb); have bk := aM (Kept.of_grown (S := (fun k_ => P0_ k_ ∨ P1_ k_)) hg z22 (fun k_ e_ => (nu.out.1 k_ e_).1.1.1)); have bn := aM (ho); clear dA; clear mR; clear HB; clear HK; clear nu; have dA := ba; have mR := bb; have HB := bf; have HK := bk; have HO178 := bn; clear ba bb bf bk bn; clear ho hb hg hat))
    go_loopg [5, 24] k (fun kq v5 v24 w' => ∃ (x5_1 : List (S58)) (x24_1 : Int), v24 = .int .i64 x24_1 ∧ Aside0 (spec_l12Join.l0 kq l0 l1 x5_1 l1 (l1.length : Int) x24_1 = some r) ∧ Aside0 (kq ≤ k) ∧ Aside0 (Kd.R k58 58 w' w0.heap.size (fun k_ => ((P0_ k_ ∨ P1_ k_) ∨ w.heap.size ≤ k_) ∧ some k_ ≠ ((.slice hU l1.length ej) : Value).ownBlock ∧ some k_ ≠ (v5 : Value).ownBlock ∧ some k_ ≠ ((.slice hU l1.length ej) : Value).ownBlock) (.slice mV l0.length kJ) l0) ∧ Aside0 (Kd.R k58 58 w' w0.heap.size (fun k_ => ((P0_ k_ ∨ P1_ k_) ∨ w.heap.size ≤ k_) ∧ some k_ ≠ ((.slice mV l0.length kJ) : Value).ownBlock ∧ some k_ ≠ (v5 : Value).ownBlock) (.slice hU l1.length ej) l1) ∧ Aside0 (Kd.R k58 58 w' w0.heap.size (fun k_ => ((P0_ k_ ∨ P1_ k_) ∨ w.heap.size ≤ k_) ∧ some k_ ≠ ((.slice mV l0.length kJ) : Value).ownBlock ∧ some k_ ≠ ((.slice hU l1.length ej) : Value).ownBlock ∧ some k_ ≠ ((.slice hU l1.length ej) : Value).ownBlock) v5 x5_1) ∧ Aside0 (Kd.R k58 58 w' w0.heap.size (fun k_ => ((P0_ k_ ∨ P1_ k_) ∨ w.heap.size ≤ k_) ∧ some k_ ≠ ((.slice mV l0.length kJ) : Value).ownBlock ∧ some k_ ≠ (v5 : Value).ownBlock) (.slice hU l1.length ej) l1) ∧ Aside0 (Kept w w' (fun k_ => P0_ k_ ∨ P1_ k_)) ∧ Aside0 (Below w0.heap.size w0 w'))
    case atStart => exact ⟨(y176), (0), z2, H', ⟨Nat.le_refl _⟩, ⟨by (with_reducible repeat (first | apply ac | apply ab | apply aa)); exact ag dA.out (fun _ hk => ⟨hk.1.1, ⟨hk.1.2, ⟨hk.2, hk.1.2⟩⟩⟩)⟩, ⟨by (with_reducible repeat (first | apply ac | apply ab | apply aa)); exact ag mR.out (fun _ hk => ⟨hk.1.1, ⟨hk.1.2, hk.2⟩⟩)⟩, ⟨by (with_reducible repeat (first | apply ac | apply ab | apply aa)); exact ag HO178.out (fun _ hk => ⟨hk.1, ⟨hk.2.1, ⟨hk.2.2, hk.2.2⟩⟩⟩)⟩, ⟨by (with_reducible repeat (first | apply ac | apply ab | apply aa)); exact ag mR.out (fun _ hk => ⟨hk.1.1, ⟨hk.1.2, hk.2⟩⟩)⟩, ⟨y11⟩, ⟨y3⟩⟩
    case round =>
     clear H'
     try clear p1
     try clear p2
     try clear c3
     try clear c3b0
     try clear c3b1
     try clear c3b2
     try clear c5
     try clear c5b0
     try clear c5b1
     try clear c5b2
     try clear c6
     try clear c8
     obtain ⟨x5_1, x24_1, rfl, HA, HK1, cn, dM, dL, cV, HK, HB⟩ := hrel
     cases gk with
     | zero => exact absurd HA.out (by simp [spec_l12Join.l0])
     | succ k1 =>
      have H := HA.out
      clear HA
      simp only [spec_l12Join.l0] at H
      by_cases hJ : x24_1 < (l1.length : Int)
      ·rw [if_pos hJ] at H
       have c14b0 : decide (x24_1 < (l1.length : Int)) = true := dT hJ
       clear hJ
       by_cases gv : 0 ≤ x24_1
       ·rw [if_pos gv] at H
        have c15b0 : decide (0 ≤ x24_1) = true := dT gv
        clear gv
        by_cases lp : x24_1 < (l1.length : Int)
        ·rw [if_pos lp] at H
         have c16b0 : decide (x24_1 < (l1.length : Int)) = true := dT lp
         clear lp
         by_cases i1 : ((rd_T58 l1 x24_1).f0) ≥ 0
         ·rw [if_pos i1] at H
          have c17b0 : decide (0 ≤ ((rd_T58 l1 x24_1).f0)) = true := dT i1
          clear i1
          by_cases o5 : x5_1.length < 2932031007402
          ·rw [if_pos o5] at H
           have LMc18 := aM o5
           clear o5
           obtain ⟨y181, hy181⟩ : ∃ y_ : List (S58), y_ = (x5_1 ++ [(⟨wrap64 (((rd_T58 l1 x24_1).f0) + (l0.length : Int)), wrap64 (((rd_T58 l1 x24_1).f1) + (l0.length : Int)), (rd_T58 l1 x24_1).f2, (rd_T58 l1 x24_1).f3, (rd_T58 l1 x24_1).f4⟩ : S58)]) := ⟨_, rfl⟩
           replace H : (spec_l12Join.l0 k1 l0 l1 y181 l1 (l1.length : Int) (wrap64 (x24_1 + 1))) = some r := by first | (rw [hy181]; with_reducible exact H) | (have H2_ := (Option.bind_some _ _).symm.trans H; rw [hy181]; with_reducible exact H2_) | (have H2_ := (Option.bind_some _ _).symm.trans H; with_reducible exact H2_) | with_reducible exact H | (rw [hy181]; exact H) | exact H
           have Ny181 := aM hy181
           clear hy181
           have H' := aM H
           clear H
           have p179 : 0 ≤ (x24_1 : Int) := oD z3
           have q179 : x24_1 < (l1.length : Int) := oD z3
           obtain ⟨ad179, e179, hx179_0, hx179_1, hx179_2, hx179_3, hx179_4⟩ := at_T58 (ah cV.out).2.2 x24_1 p179 q179
           cases e179
           replace p179 := eq_true p179
           replace q179 := eq_true q179
           go_upto_region 11 with (((with_reducible refine aK (N := 7) rfl ?_); refine aN ?hg (N := 7) ?hd (cs := #[.int .i64 0, .int .i64 0, .string (⟨#[]⟩ : ByteArray), .int .i64 0, .int .i64 0]) (t := 58) ?hr ?_; (case hd => rfl); (case hg => rfl); (case hr => first | (go_simp; done) | (go_simp; rfl)); intro bH hg w19 hbox hb; have ba := aM (af (Kd.R_elderB (by (with_reducible repeat (first | apply ac | apply ab | apply aa)); exact cn.out) bH (Nat.le_of_eq hg.symm)) hb); have bb := aM (af (Kd.R_elderB (by (with_reducible repeat (first | apply ac | apply ab | apply aa)); exact dM.out) bH (Nat.le_of_eq hg.symm)) hb); have bf := aM (af (Kd.R_elderB (by (with_reducible repeat (first | apply ac | apply ab | apply aa)); exact dL.out) bH (Nat.le_of_eq hg.symm)) hb); have bk := aM (af (Kd.R_elderB (by (with_reducible repeat (first | apply ac | apply ab | apply aa)); exact cV.out) bH (Nat.le_of_eq hg.symm)) hb); have bn := aM (Kept.below (S := (fun k_ => P0_ k_ ∨ P1_ k_)) z22 hb); have br := aM (ay z23 hb); have bM := aM (hbox); have b3 := aM ((by rw [hg]; exact (by first | exact HK.out.1 | exact (show Kept w _ (fun k_ => P0_ k_ ∨ P1_ k_) from by repeat (first | (with_reducible first | exact HK.out | apply Kept.alloc | apply Kept.drewN | apply Kept.drew) | exact HK.out)).1) : w.heap.size ≤ bH)); have b6 := aM ((by rw [hg]; exact (az z23) : w0.heap.size ≤ bH)); clear cn; clear dM; clear dL; clear cV; clear HK; clear HB; have cn := ba; have dM := bb; have dL := bf; have cV := bk; have HK := bn; have HB := br; have cR := bM; have g8 := b3; have g9 := b6; clear ba bb bf bk bn br bM b3 b6; clear hb hbox hg; have iF : w19.cell? ⟨bH, 0, none⟩ = some (.int .i64 0) := (bC cR.out 0).trans rfl; have iE : w19.cell? ⟨bH, 1, none⟩ = some (.int .i64 0) := (bC cR.out 1).trans rfl; have iD : w19.cell? ⟨bH, 2, none⟩ = some (.string (⟨#[]⟩ : ByteArray)) := (bC cR.out 2).trans rfl; have iC : w19.cell? ⟨bH, 3, none⟩ = some (.int .i64 0) := (bC cR.out 3).trans rfl; have iB : w19.cell? ⟨bH, 4, none⟩ = some (.int .i64 0) := (bC cR.out 4).trans rfl; have ij := bF cR.out 0; have ii := bF cR.out 1; have ig := bF cR.out 2; have ie := bF cR.out 3; have ic := bF cR.out 4))
           go_cut [] (fun wc_ => Aside0 (wc_.heap[bH]? = some (.cells #[.int .i64 (wrap64 (((rd_T58 l1 x24_1).f0) + (l0.length : Int))), .int .i64 (wrap64 (((rd_T58 l1 x24_1).f1) + (l0.length : Int))), .string ((rd_T58 l1 x24_1).f2), .int .i64 ((rd_T58 l1 x24_1).f3), .int .i64 ((rd_T58 l1 x24_1).f4)] 58 (0, 0))) ∧ Aside0 (∀ (ok_ : Nat → Prop) (v_ : Value) (xs_ : List S58), (∀ k_, ok_ k_ → k_ ≠ bH) → Kd.R k58 58 w19 w0.heap.size ok_ v_ xs_ → Kd.R k58 58 wc_ w0.heap.size ok_ v_ xs_) ∧ Aside0 (Kept w wc_ (fun k_ => P0_ k_ ∨ P1_ k_)) ∧ Aside0 (Below w0.heap.size w0 wc_))
           case first =>
             go_wp2_with (fail)
             go_meet
             exact ⟨⟨(by (with_reducible repeat (first | refine aq ?_ _ | refine ap ?_ | refine ar ?_ _)); refine av (cs := #[.int .i64 (wrap64 (((rd_T58 l1 x24_1).f0) + (l0.length : Int))), .int .i64 ((rd_T58 l1 x24_1).f1), .string ((rd_T58 l1 x24_1).f2), .int .i64 ((rd_T58 l1 x24_1).f3), .int .i64 ((rd_T58 l1 x24_1).f4)]) ?_ 1 _ rfl; (with_reducible repeat (first | refine aq ?_ _ | refine ap ?_ | refine ar ?_ _)); refine av (cs := #[.int .i64 ((rd_T58 l1 x24_1).f0), .int .i64 ((rd_T58 l1 x24_1).f1), .string ((rd_T58 l1 x24_1).f2), .int .i64 ((rd_T58 l1 x24_1).f3), .int .i64 ((rd_T58 l1 x24_1).f4)]) ?_ 0 _ rfl; (with_reducible repeat (first | refine aq ?_ _ | refine ap ?_ | refine ar ?_ _)); refine av (cs := #[.int .i64 ((rd_T58 l1 x24_1).f0), .int .i64 ((rd_T58 l1 x24_1).f1), .string ((rd_T58 l1 x24_1).f2), .int .i64 ((rd_T58 l1 x24_1).f3), .int .i64 0]) ?_ 4 _ rfl; (with_reducible repeat (first | refine aq ?_ _ | refine ap ?_ | refine ar ?_ _)); refine av (cs := #[.int .i64 ((rd_T58 l1 x24_1).f0), .int .i64 ((rd_T58 l1 x24_1).f1), .string ((rd_T58 l1 x24_1).f2), .int .i64 0, .int .i64 0]) ?_ 3 _ rfl; (with_reducible repeat (first | refine aq ?_ _ | refine ap ?_ | refine ar ?_ _)); refine av (cs := #[.int .i64 ((rd_T58 l1 x24_1).f0), .int .i64 ((rd_T58 l1 x24_1).f1), .string (⟨#[]⟩ : ByteArray), .int .i64 0, .int .i64 0]) ?_ 2 _ rfl; (with_reducible repeat (first | refine aq ?_ _ | refine ap ?_ | refine ar ?_ _)); refine av (cs := #[.int .i64 ((rd_T58 l1 x24_1).f0), .int .i64 0, .string (⟨#[]⟩ : ByteArray), .int .i64 0, .int .i64 0]) ?_ 1 _ rfl; (with_reducible repeat (first | refine aq ?_ _ | refine ap ?_ | refine ar ?_ _)); refine av (cs := #[.int .i64 0, .int .i64 0, .string (⟨#[]⟩ : ByteArray), .int .i64 0, .int .i64 0]) ?_ 0 _ rfl; (with_reducible repeat (first | refine aq ?_ _ | refine ap ?_ | refine ar ?_ _)); exact cR.out)⟩, ⟨fun ok_ v_ xs_ hne_ h_ => by (with_reducible repeat (first | apply ac | apply ab | apply aa)); exact ag (am (p := ⟨bH, 1, none⟩) (am (p := ⟨bH, 0, none⟩) (am (p := ⟨bH, 4, none⟩) (am (p := ⟨bH, 3, none⟩) (am (p := ⟨bH, 2, none⟩) (am (p := ⟨bH, 1, none⟩) (am (p := ⟨bH, 0, none⟩) (ag h_ (fun k_ hk => (⟨hk, hne_ k_ hk⟩ : _ ∧ k_ ≠ bH))) (fun _ hk => hk.2) (.int .i64 ((rd_T58 l1 x24_1).f0))) (fun _ hk => hk.2) (.int .i64 ((rd_T58 l1 x24_1).f1))) (fun _ hk => hk.2) (.string ((rd_T58 l1 x24_1).f2))) (fun _ hk => hk.2) (.int .i64 ((rd_T58 l1 x24_1).f3))) (fun _ hk => hk.2) (.int .i64 ((rd_T58 l1 x24_1).f4))) (fun _ hk => hk.2) (.int .i64 (wrap64 (((rd_T58 l1 x24_1).f0) + (l0.length : Int))))) (fun _ hk => hk.2) (.int .i64 (wrap64 (((rd_T58 l1 x24_1).f1) + (l0.length : Int))))) (fun _ hk => hk.1)⟩, ⟨(by repeat (first | (with_reducible first | exact HK.out | apply Kept.alloc | apply Kept.drewN | apply Kept.drew | refine Kept.setCell ?_ (.inr g8.out) _) | exact HK.out))⟩, ⟨(by repeat (first | (with_reducible first | exact HB.out | apply bA | apply pD | apply bD | refine ax ?_ g9.out) | exact HB.out))⟩⟩
           case rest =>
             obtain ⟨CB_, CM_, CK_, CL_⟩ := hcut
             have m0_ := aM (CM_.out _ _ _ (fun k_ hk => hk.2) cn.out)
             have m1_ := aM (CM_.out _ _ _ (fun k_ hk => hk.2) dM.out)
             have m2_ := aM (CM_.out _ _ _ (fun k_ hk => hk.2) dL.out)
             have m3_ := aM (CM_.out _ _ _ (fun k_ hk => hk.2) cV.out)
             clear cn dM dL cV HK HB cR CM_; clear iF iE iD iC iB ij ii ig ie ic
             have cn := m0_
             have dM := m1_
             have dL := m2_
             have cV := m3_
             have HK := CK_; have HB := CL_; have cR := CB_; clear CK_ CL_ CB_ m0_ m1_ m2_ m3_
             have hcz180_0 : wc.cell? ⟨bH, 0, none⟩ = some (.int .i64 (wrap64 (((rd_T58 l1 x24_1).f0) + (l0.length : Int)))) := (bC cR.out 0).trans rfl; have hfz180_0 := bF cR.out 0
             have hcz180_1 : wc.cell? ⟨bH, 1, none⟩ = some (.int .i64 (wrap64 (((rd_T58 l1 x24_1).f1) + (l0.length : Int)))) := (bC cR.out 1).trans rfl; have hfz180_1 := bF cR.out 1
             have hcz180_2 : wc.cell? ⟨bH, 2, none⟩ = some (.string ((rd_T58 l1 x24_1).f2)) := (bC cR.out 2).trans rfl; have hfz180_2 := bF cR.out 2
             have hcz180_3 : wc.cell? ⟨bH, 3, none⟩ = some (.int .i64 ((rd_T58 l1 x24_1).f3)) := (bC cR.out 3).trans rfl; have hfz180_3 := bF cR.out 3
             have hcz180_4 : wc.cell? ⟨bH, 4, none⟩ = some (.int .i64 ((rd_T58 l1 x24_1).f4)) := (bC cR.out 4).trans rfl; have hfz180_4 := bF cR.out 4
             go_wp2_with (((with_reducible refine gate_builtin (b := .append) (xs := #[.tmp 43, .tmp 45]) rfl ?_); at_builtin; refine Kd.R_append k58 (w0 := w0) w0.heap.size rfl (.tmp 43) (.tmp 45) 27 58 (.agg #[(.int .i64 0), (.int .i64 0), (.string ⟨#[]⟩), (.int .i64 0), (.int .i64 0)]) 48 rfl Try.underlying27 info58 rfl z0 (by omega) u5 x5_1 (⟨wrap64 (((rd_T58 l1 x24_1).f0) + (l0.length : Int)), wrap64 (((rd_T58 l1 x24_1).f1) + (l0.length : Int)), (rd_T58 l1 x24_1).f2, (rd_T58 l1 x24_1).f3, (rd_T58 l1 x24_1).f4⟩ : S58) [.int .i64 (wrap64 (((rd_T58 l1 x24_1).f0) + (l0.length : Int))), .int .i64 (wrap64 (((rd_T58 l1 x24_1).f1) + (l0.length : Int))), .string ((rd_T58 l1 x24_1).f2), .int .i64 ((rd_T58 l1 x24_1).f3), .int .i64 ((rd_T58 l1 x24_1).f4)] (fun k_ => ((P0_ k_ ∨ P1_ k_) ∨ w.heap.size ≤ k_) ∧ some k_ ≠ (.slice mV l0.length kJ : Value).ownBlock ∧ some k_ ≠ (.slice (some ad179) l1.length ej : Value).ownBlock ∧ some k_ ≠ (.slice (some ad179) l1.length ej : Value).ownBlock ∧ k_ ≠ bH) (fun _ => False) rfl (by first | (go_simp; done) | (go_simp; rfl)) ?aP (fun _ hk => hk.elim) ?aF ?aO ?aB ?aS ?aL ?_; (case aP => exact k58_mkM _ _ _ (⟨wrap64 (((rd_T58 l1 x24_1).f0) + (l0.length : Int)), wrap64 (((rd_T58 l1 x24_1).f1) + (l0.length : Int)), (rd_T58 l1 x24_1).f2, (rd_T58 l1 x24_1).f3, (rd_T58 l1 x24_1).f4⟩ : S58)); (case aB => exact (by repeat (first | (with_reducible first | exact HB.out | apply bA | apply pD | apply bD | refine ax ?_ g9.out) | exact HB.out))); (case aF => exact (fun k_ hk => ⟨(.inr (Nat.le_trans (show Kept w _ (fun k_ => P0_ k_ ∨ P1_ k_) from by repeat (first | (with_reducible first | exact HK.out | apply Kept.alloc | apply Kept.drewN | apply Kept.drew | refine Kept.setCell ?_ (.inr g8.out) _) | exact HK.out)).1 hk)), Kd.fresh' (al (by (with_reducible repeat (first | apply ac | apply ab | apply aa)); exact (ag (ag cn.out (fun k_ hk => (⟨hk, hk.2⟩ : _ ∧ k_ ≠ bH))) (fun _ h_ => h_.1)))) k_ hk, Kd.fresh' (al (by (with_reducible repeat (first | apply ac | apply ab | apply aa)); exact (ag (ag dM.out (fun k_ hk => (⟨hk, hk.2⟩ : _ ∧ k_ ≠ bH))) (fun _ h_ => h_.1)))) k_ hk, Kd.fresh' (al (by (with_reducible repeat (first | apply ac | apply ab | apply aa)); exact (ag (ag cV.out (fun k_ hk => (⟨hk, hk.2⟩ : _ ∧ k_ ≠ bH))) (fun _ h_ => h_.1)))) k_ hk, Kd.freshB (g := bH) (o := .cells #[.int .i64 (wrap64 (((rd_T58 l1 x24_1).f0) + (l0.length : Int))), .int .i64 (wrap64 (((rd_T58 l1 x24_1).f1) + (l0.length : Int))), .string ((rd_T58 l1 x24_1).f2), .int .i64 ((rd_T58 l1 x24_1).f3), .int .i64 ((rd_T58 l1 x24_1).f4)] 58 (0, 0)) cR.out k_ hk⟩)); (case aO => exact (by (with_reducible repeat (first | apply ac | apply ab | apply aa)); exact ag (ag dL.out (fun k_ hk => (⟨hk, hk.2⟩ : _ ∧ k_ ≠ bH))) (fun _ hk => ⟨hk.1.1.1, ⟨hk.1.1.2.1, ⟨hk.1.1.2.2.1, ⟨hk.1.1.2.2.2, hk.1.2⟩⟩⟩⟩))); (case aS => exact (az (by repeat (first | (with_reducible first | exact HB.out | apply bA | apply pD | apply bD | refine ax ?_ g9.out) | exact HB.out)))); (case aL => have := LMc18.out; omega); intro v182 w21 ho hb hg hat; rw [← Ny181.out] at ho; have ba := aM (Kd.R_after (ok := (fun k_ => ((P0_ k_ ∨ P1_ k_) ∨ w.heap.size ≤ k_) ∧ some k_ ≠ (.slice (some ad179) l1.length ej : Value).ownBlock ∧ some k_ ≠ (.slice (some ad179) l1.length ej : Value).ownBlock ∧ k_ ≠ bH)) (by (with_reducible repeat (first | apply ac | apply ab | apply aa)); exact ag (ag cn.out (fun k_ hk => (⟨hk, hk.2⟩ : _ ∧ k_ ≠ bH))) (fun _ hk => ⟨⟨hk.1.1.1, ⟨hk.1.1.2.1, ⟨hk.1.1.2.2.2, hk.1.2⟩⟩⟩, hk.1.1.2.2.1⟩)) hg hat); have bb := aM (Kd.R_after (ok := (fun k_ => ((P0_ k_ ∨ P1_ k_) ∨ w.heap.size ≤ k_) ∧ some k_ ≠ (.slice mV l0.length kJ : Value).ownBlock ∧ k_ ≠ bH)) (by (with_reducible repeat (first | apply ac | apply ab | apply aa)); exact ag (ag dM.out (fun k_ hk => (⟨hk, hk.2⟩ : _ ∧ k_ ≠ bH))) (fun _ hk => ⟨⟨hk.1.1.1, ⟨hk.1.1.2.1, hk.1.2⟩⟩, hk.1.1.2.2⟩)) hg hat); have bf := aM (Kd.R_after (ok := (fun k_ => ((P0_ k_ ∨ P1_ k_) ∨ w.heap.size ≤ k_) ∧ some k_ ≠ (.slice mV l0.length kJ : Value).ownBlock ∧ k_ ≠ bH)) (by (with_reducible repeat (first | apply ac | apply ab | apply aa)); exact ag (ag cV.out (fun k_ hk => (⟨hk, hk.2⟩ : _ ∧ k_ ≠ bH))) (fun _ hk => ⟨⟨hk.1.1.1, ⟨hk.1.1.2.1, hk.1.2⟩⟩, hk.1.1.2.2⟩)) hg hat); have bk := aM (blk_grown (g := bH) (o := .cells #[.int .i64 (wrap64 (((rd_T58 l1 x24_1).f0) + (l0.length : Int))), .int .i64 (wrap64 (((rd_T58 l1 x24_1).f1) + (l0.length : Int))), .string ((rd_T58 l1 x24_1).f2), .int .i64 ((rd_T58 l1 x24_1).f3), .int .i64 ((rd_T58 l1 x24_1).f4)] 58 (0, 0)) cR.out hg (Kd.R_away dL.out (fun _ hk => hk.2))); have bn := aM (hb); have br := aM (Kept.of_grown (S := (fun k_ => P0_ k_ ∨ P1_ k_)) hg (by repeat (first | (with_reducible first | exact HK.out | apply Kept.alloc | apply Kept.drewN | apply Kept.drew | refine Kept.setCell ?_ (.inr g8.out) _) | exact HK.out)) (fun k_ e_ => (dL.out.1 k_ e_).1.1)); have bM := aM (ho); clear cn; clear dM; clear cV; clear cR; clear HB; clear HK; clear dL; have cn := ba; have dM := bb; have cV := bf; have cR := bk; have HB := bn; have HK := br; have HO183 := bM; clear ba bb bf bk bn br bM; clear ho hb hg hat))
             go_roundg k1
             case measure => have := HK1.out; omega
             case rel => exact ⟨(y181), (wrap64 (x24_1 + 1)), z2, H', ⟨by have := HK1.out; omega⟩, ⟨by (with_reducible repeat (first | apply ac | apply ab | apply aa)); exact ag cn.out (fun _ hk => ⟨hk.1.1, ⟨hk.1.2.1, ⟨hk.2, hk.1.2.2.1⟩⟩⟩)⟩, ⟨by (with_reducible repeat (first | apply ac | apply ab | apply aa)); exact ag dM.out (fun _ hk => ⟨hk.1.1, ⟨hk.1.2.1, hk.2⟩⟩)⟩, ⟨by (with_reducible repeat (first | apply ac | apply ab | apply aa)); exact ag HO183.out (fun _ hk => ⟨hk.1, ⟨hk.2.1, ⟨hk.2.2.1, hk.2.2.2.1⟩⟩⟩)⟩, ⟨by (with_reducible repeat (first | apply ac | apply ab | apply aa)); exact ag cV.out (fun _ hk => ⟨hk.1.1, ⟨hk.1.2.1, hk.2⟩⟩)⟩, ⟨by repeat (first | (with_reducible first | exact HK.out | apply Kept.alloc | apply Kept.drewN | apply Kept.drew | refine Kept.setCell ?_ (.inr g8.out) _) | exact HK.out)⟩, ⟨by repeat (first | (with_reducible first | exact HB.out | apply bA | apply pD | apply bD | refine ax ?_ g9.out) | exact HB.out)⟩⟩
          ·rw [if_neg o5] at H
           exact absurd H (by simp)
         ·rw [if_neg i1] at H
          have c17b0 : decide (0 ≤ ((rd_T58 l1 x24_1).f0)) = false := dF i1
          clear i1
          by_cases pz : x5_1.length < 2932031007402
          ·rw [if_pos pz] at H
           have LMc22 := aM pz
           clear pz
           obtain ⟨y184, hy184⟩ : ∃ y_ : List (S58), y_ = (x5_1 ++ [(⟨(rd_T58 l1 x24_1).f0, (rd_T58 l1 x24_1).f1, (rd_T58 l1 x24_1).f2, (rd_T58 l1 x24_1).f3, (rd_T58 l1 x24_1).f4⟩ : S58)]) := ⟨_, rfl⟩
           replace H : (spec_l12Join.l0 k1 l0 l1 y184 l1 (l1.length : Int) (wrap64 (x24_1 + 1))) = some r := by first | (rw [hy184]; with_reducible exact H) | (have H2_ := (Option.bind_some _ _).symm.trans H; rw [hy184]; with_reducible exact H2_) | (have H2_ := (Option.bind_some _ _).symm.trans H; with_reducible exact H2_) | with_reducible exact H | (rw [hy184]; exact H) | exact H
           have Ny184 := aM hy184
           clear hy184
           have H' := aM H
           clear H
           have p179 : 0 ≤ (x24_1 : Int) := oD z3
           have q179 : x24_1 < (l1.length : Int) := oD z3
           obtain ⟨ad179, e179, hx179_0, hx179_1, hx179_2, hx179_3, hx179_4⟩ := at_T58 (ah cV.out).2.2 x24_1 p179 q179
           cases e179
           replace p179 := eq_true p179
           replace q179 := eq_true q179
           go_wp2_with (first | ((with_reducible refine aK (N := 7) rfl ?_); refine aN ?hg (N := 7) ?hd (cs := #[.int .i64 0, .int .i64 0, .string (⟨#[]⟩ : ByteArray), .int .i64 0, .int .i64 0]) (t := 58) ?hr ?_; (case hd => rfl); (case hg => rfl); (case hr => first | (go_simp; done) | (go_simp; rfl)); intro bH hg w23 hbox hb; have ba := aM (af (Kd.R_elderB (by (with_reducible repeat (first | apply ac | apply ab | apply aa)); exact cn.out) bH (Nat.le_of_eq hg.symm)) hb); have bb := aM (af (Kd.R_elderB (by (with_reducible repeat (first | apply ac | apply ab | apply aa)); exact dM.out) bH (Nat.le_of_eq hg.symm)) hb); have bf := aM (af (Kd.R_elderB (by (with_reducible repeat (first | apply ac | apply ab | apply aa)); exact dL.out) bH (Nat.le_of_eq hg.symm)) hb); have bk := aM (af (Kd.R_elderB (by (with_reducible repeat (first | apply ac | apply ab | apply aa)); exact cV.out) bH (Nat.le_of_eq hg.symm)) hb); have bn := aM (Kept.below (S := (fun k_ => P0_ k_ ∨ P1_ k_)) z22 hb); have br := aM (ay z23 hb); have bM := aM (hbox); have b3 := aM ((by rw [hg]; exact (by first | exact HK.out.1 | exact (show Kept w _ (fun k_ => P0_ k_ ∨ P1_ k_) from by repeat (first | (with_reducible first | exact HK.out | apply Kept.alloc | apply Kept.drewN | apply Kept.drew) | exact HK.out)).1) : w.heap.size ≤ bH)); have b6 := aM ((by rw [hg]; exact (az z23) : w0.heap.size ≤ bH)); clear cn; clear dM; clear dL; clear cV; clear HK; clear HB; have cn := ba; have dM := bb; have dL := bf; have cV := bk; have HK := bn; have HB := br; have cR := bM; have g8 := b3; have g9 := b6; clear ba bb bf bk bn br bM b3 b6; clear hb hbox hg; have hcz24_0 : w23.cell? ⟨bH, 0, none⟩ = some (.int .i64 0) := (bC cR.out 0).trans rfl; have hcz24_1 : w23.cell? ⟨bH, 1, none⟩ = some (.int .i64 0) := (bC cR.out 1).trans rfl; have hcz24_2 : w23.cell? ⟨bH, 2, none⟩ = some (.string (⟨#[]⟩ : ByteArray)) := (bC cR.out 2).trans rfl; have hcz24_3 : w23.cell? ⟨bH, 3, none⟩ = some (.int .i64 0) := (bC cR.out 3).trans rfl; have hcz24_4 : w23.cell? ⟨bH, 4, none⟩ = some (.int .i64 0) := (bC cR.out 4).trans rfl; have hfz24_0 := bF cR.out 0; have hfz24_1 := bF cR.out 1; have hfz24_2 := bF cR.out 2; have hfz24_3 := bF cR.out 3; have hfz24_4 := bF cR.out 4) | ((with_reducible refine gate_builtin (b := .append) (xs := #[.tmp 43, .tmp 45]) rfl ?_); at_builtin; refine Kd.R_append k58 (w0 := w0) w0.heap.size rfl (.tmp 43) (.tmp 45) 27 58 (.agg #[(.int .i64 0), (.int .i64 0), (.string ⟨#[]⟩), (.int .i64 0), (.int .i64 0)]) 48 rfl Try.underlying27 info58 rfl z0 (by omega) u5 x5_1 (⟨(rd_T58 l1 x24_1).f0, (rd_T58 l1 x24_1).f1, (rd_T58 l1 x24_1).f2, (rd_T58 l1 x24_1).f3, (rd_T58 l1 x24_1).f4⟩ : S58) [.int .i64 ((rd_T58 l1 x24_1).f0), .int .i64 ((rd_T58 l1 x24_1).f1), .string ((rd_T58 l1 x24_1).f2), .int .i64 ((rd_T58 l1 x24_1).f3), .int .i64 ((rd_T58 l1 x24_1).f4)] (fun k_ => ((P0_ k_ ∨ P1_ k_) ∨ w.heap.size ≤ k_) ∧ some k_ ≠ (.slice mV l0.length kJ : Value).ownBlock ∧ some k_ ≠ (.slice (some ad179) l1.length ej : Value).ownBlock ∧ some k_ ≠ (.slice (some ad179) l1.length ej : Value).ownBlock ∧ k_ ≠ bH) (fun _ => False) rfl (by first | (go_simp; done) | (go_simp; rfl)) ?aP (fun _ hk => hk.elim) ?aF ?aO ?aB ?aS ?aL ?_; (case aP => exact k58_mkM _ _ _ (⟨(rd_T58 l1 x24_1).f0, (rd_T58 l1 x24_1).f1, (rd_T58 l1 x24_1).f2, (rd_T58 l1 x24_1).f3, (rd_T58 l1 x24_1).f4⟩ : S58)); (case aB => exact (by repeat (first | (with_reducible first | exact HB.out | apply bA | apply pD | apply bD | refine ax ?_ g9.out) | exact HB.out))); (case aF => exact (fun k_ hk => ⟨(.inr (Nat.le_trans (show Kept w _ (fun k_ => P0_ k_ ∨ P1_ k_) from by repeat (first | (with_reducible first | exact HK.out | apply Kept.alloc | apply Kept.drewN | apply Kept.drew | refine Kept.setCell ?_ (.inr g8.out) _) | exact HK.out)).1 hk)), Kd.fresh' (al (by (with_reducible repeat (first | apply ac | apply ab | apply aa)); exact (ag (am (p := ⟨bH, 4, none⟩) (am (p := ⟨bH, 3, none⟩) (am (p := ⟨bH, 2, none⟩) (am (p := ⟨bH, 1, none⟩) (am (p := ⟨bH, 0, none⟩) (ag cn.out (fun k_ hk => (⟨hk, hk.2⟩ : _ ∧ k_ ≠ bH))) (fun _ hk => hk.2) (.int .i64 ((rd_T58 l1 x24_1).f0))) (fun _ hk => hk.2) (.int .i64 ((rd_T58 l1 x24_1).f1))) (fun _ hk => hk.2) (.string ((rd_T58 l1 x24_1).f2))) (fun _ hk => hk.2) (.int .i64 ((rd_T58 l1 x24_1).f3))) (fun _ hk => hk.2) (.int .i64 ((rd_T58 l1 x24_1).f4))) (fun _ h_ => h_.1)))) k_ hk, Kd.fresh' (al (by (with_reducible repeat (first | apply ac | apply ab | apply aa)); exact (ag (am (p := ⟨bH, 4, none⟩) (am (p := ⟨bH, 3, none⟩) (am (p := ⟨bH, 2, none⟩) (am (p := ⟨bH, 1, none⟩) (am (p := ⟨bH, 0, none⟩) (ag dM.out (fun k_ hk => (⟨hk, hk.2⟩ : _ ∧ k_ ≠ bH))) (fun _ hk => hk.2) (.int .i64 ((rd_T58 l1 x24_1).f0))) (fun _ hk => hk.2) (.int .i64 ((rd_T58 l1 x24_1).f1))) (fun _ hk => hk.2) (.string ((rd_T58 l1 x24_1).f2))) (fun _ hk => hk.2) (.int .i64 ((rd_T58 l1 x24_1).f3))) (fun _ hk => hk.2) (.int .i64 ((rd_T58 l1 x24_1).f4))) (fun _ h_ => h_.1)))) k_ hk, Kd.fresh' (al (by (with_reducible repeat (first | apply ac | apply ab | apply aa)); exact (ag (am (p := ⟨bH, 4, none⟩) (am (p := ⟨bH, 3, none⟩) (am (p := ⟨bH, 2, none⟩) (am (p := ⟨bH, 1, none⟩) (am (p := ⟨bH, 0, none⟩) (ag cV.out (fun k_ hk => (⟨hk, hk.2⟩ : _ ∧ k_ ≠ bH))) (fun _ hk => hk.2) (.int .i64 ((rd_T58 l1 x24_1).f0))) (fun _ hk => hk.2) (.int .i64 ((rd_T58 l1 x24_1).f1))) (fun _ hk => hk.2) (.string ((rd_T58 l1 x24_1).f2))) (fun _ hk => hk.2) (.int .i64 ((rd_T58 l1 x24_1).f3))) (fun _ hk => hk.2) (.int .i64 ((rd_T58 l1 x24_1).f4))) (fun _ h_ => h_.1)))) k_ hk, Kd.freshB (g := bH) (o := .cells #[.int .i64 ((rd_T58 l1 x24_1).f0), .int .i64 ((rd_T58 l1 x24_1).f1), .string ((rd_T58 l1 x24_1).f2), .int .i64 ((rd_T58 l1 x24_1).f3), .int .i64 ((rd_T58 l1 x24_1).f4)] 58 (0, 0)) (by (with_reducible repeat (first | refine aq ?_ _ | refine ap ?_ | refine ar ?_ _)); refine av (cs := #[.int .i64 ((rd_T58 l1 x24_1).f0), .int .i64 ((rd_T58 l1 x24_1).f1), .string ((rd_T58 l1 x24_1).f2), .int .i64 ((rd_T58 l1 x24_1).f3), .int .i64 0]) ?_ 4 _ rfl; (with_reducible repeat (first | refine aq ?_ _ | refine ap ?_ | refine ar ?_ _)); refine av (cs := #[.int .i64 ((rd_T58 l1 x24_1).f0), .int .i64 ((rd_T58 l1 x24_1).f1), .string ((rd_T58 l1 x24_1).f2), .int .i64 0, .int .i64 0]) ?_ 3 _ rfl; (with_reducible repeat (first | refine aq ?_ _ | refine ap ?_ | refine ar ?_ _)); refine av (cs := #[.int .i64 ((rd_T58 l1 x24_1).f0), .int .i64 ((rd_T58 l1 x24_1).f1), .string (⟨#[]⟩ : ByteArray), .int .i64 0, .int .i64 0]) ?_ 2 _ rfl; (with_reducible repeat (first | refine aq ?_ _ | refine ap ?_ | refine ar ?_ _)); refine av (cs := #[.int .i64 ((rd_T58 l1 x24_1).f0), .int .i64 0, .string (⟨#[]⟩ : ByteArray), .int .i64 0, .int .i64 0]) ?_ 1 _ rfl; (with_reducible repeat (first | refine aq ?_ _ | refine ap ?_ | refine ar ?_ _)); refine av (cs := #[.int .i64 0, .int .i64 0, .string (⟨#[]⟩ : ByteArray), .int .i64 0, .int .i64 0]) ?_ 0 _ rfl; (with_reducible repeat (first | refine aq ?_ _ | refine ap ?_ | refine ar ?_ _)); exact cR.out) k_ hk⟩)); (case aO => exact (by (with_reducible repeat (first | apply ac | apply ab | apply aa)); exact ag (am (p := ⟨bH, 4, none⟩) (am (p := ⟨bH, 3, none⟩) (am (p := ⟨bH, 2, none⟩) (am (p := ⟨bH, 1, none⟩) (am (p := ⟨bH, 0, none⟩) (ag dL.out (fun k_ hk => (⟨hk, hk.2⟩ : _ ∧ k_ ≠ bH))) (fun _ hk => hk.2) (.int .i64 ((rd_T58 l1 x24_1).f0))) (fun _ hk => hk.2) (.int .i64 ((rd_T58 l1 x24_1).f1))) (fun _ hk => hk.2) (.string ((rd_T58 l1 x24_1).f2))) (fun _ hk => hk.2) (.int .i64 ((rd_T58 l1 x24_1).f3))) (fun _ hk => hk.2) (.int .i64 ((rd_T58 l1 x24_1).f4))) (fun _ hk => ⟨hk.1.1.1, ⟨hk.1.1.2.1, ⟨hk.1.1.2.2.1, ⟨hk.1.1.2.2.2, hk.1.2⟩⟩⟩⟩))); (case aS => exact (az (by repeat (first | (with_reducible first | exact HB.out | apply bA | apply pD | apply bD | refine ax ?_ g9.out) | exact HB.out)))); (case aL => have := LMc22.out; omega); intro v185 w25 ho hb hg hat; rw [← Ny184.out] at ho; have ba := aM (Kd.R_after (ok := (fun k_ => ((P0_ k_ ∨ P1_ k_) ∨ w.heap.size ≤ k_) ∧ some k_ ≠ (.slice (some ad179) l1.length ej : Value).ownBlock ∧ some k_ ≠ (.slice (some ad179) l1.length ej : Value).ownBlock ∧ k_ ≠ bH)) (by (with_reducible repeat (first | apply ac | apply ab | apply aa)); exact ag (am (p := ⟨bH, 4, none⟩) (am (p := ⟨bH, 3, none⟩) (am (p := ⟨bH, 2, none⟩) (am (p := ⟨bH, 1, none⟩) (am (p := ⟨bH, 0, none⟩) (ag cn.out (fun k_ hk => (⟨hk, hk.2⟩ : _ ∧ k_ ≠ bH))) (fun _ hk => hk.2) (.int .i64 ((rd_T58 l1 x24_1).f0))) (fun _ hk => hk.2) (.int .i64 ((rd_T58 l1 x24_1).f1))) (fun _ hk => hk.2) (.string ((rd_T58 l1 x24_1).f2))) (fun _ hk => hk.2) (.int .i64 ((rd_T58 l1 x24_1).f3))) (fun _ hk => hk.2) (.int .i64 ((rd_T58 l1 x24_1).f4))) (fun _ hk => ⟨⟨hk.1.1.1, ⟨hk.1.1.2.1, ⟨hk.1.1.2.2.2, hk.1.2⟩⟩⟩, hk.1.1.2.2.1⟩)) hg hat); have bb := aM (Kd.R_after (ok := (fun k_ => ((P0_ k_ ∨ P1_ k_) ∨ w.heap.size ≤ k_) ∧ some k_ ≠ (.slice mV l0.length kJ : Value).ownBlock ∧ k_ ≠ bH)) (by (with_reducible repeat (first | apply ac | apply ab | apply aa)); exact ag (am (p := ⟨bH, 4, none⟩) (am (p := ⟨bH, 3, none⟩) (am (p := ⟨bH, 2, none⟩) (am (p := ⟨bH, 1, none⟩) (am (p := ⟨bH, 0, none⟩) (ag dM.out (fun k_ hk => (⟨hk, hk.2⟩ : _ ∧ k_ ≠ bH))) (fun _ hk => hk.2) (.int .i64 ((rd_T58 l1 x24_1).f0))) (fun _ hk => hk.2) (.int .i64 ((rd_T58 l1 x24_1).f1))) (fun _ hk => hk.2) (.string ((rd_T58 l1 x24_1).f2))) (fun _ hk => hk.2) (.int .i64 ((rd_T58 l1 x24_1).f3))) (fun _ hk => hk.2) (.int .i64 ((rd_T58 l1 x24_1).f4))) (fun _ hk => ⟨⟨hk.1.1.1, ⟨hk.1.1.2.1, hk.1.2⟩⟩, hk.1.1.2.2⟩)) hg hat); have bf := aM (Kd.R_after (ok := (fun k_ => ((P0_ k_ ∨ P1_ k_) ∨ w.heap.size ≤ k_) ∧ some k_ ≠ (.slice mV l0.length kJ : Value).ownBlock ∧ k_ ≠ bH)) (by (with_reducible repeat (first | apply ac | apply ab | apply aa)); exact ag (am (p := ⟨bH, 4, none⟩) (am (p := ⟨bH, 3, none⟩) (am (p := ⟨bH, 2, none⟩) (am (p := ⟨bH, 1, none⟩) (am (p := ⟨bH, 0, none⟩) (ag cV.out (fun k_ hk => (⟨hk, hk.2⟩ : _ ∧ k_ ≠ bH))) (fun _ hk => hk.2) (.int .i64 ((rd_T58 l1 x24_1).f0))) (fun _ hk => hk.2) (.int .i64 ((rd_T58 l1 x24_1).f1))) (fun _ hk => hk.2) (.string ((rd_T58 l1 x24_1).f2))) (fun _ hk => hk.2) (.int .i64 ((rd_T58 l1 x24_1).f3))) (fun _ hk => hk.2) (.int .i64 ((rd_T58 l1 x24_1).f4))) (fun _ hk => ⟨⟨hk.1.1.1, ⟨hk.1.1.2.1, hk.1.2⟩⟩, hk.1.1.2.2⟩)) hg hat); have bk := aM (blk_grown (g := bH) (o := .cells #[.int .i64 ((rd_T58 l1 x24_1).f0), .int .i64 ((rd_T58 l1 x24_1).f1), .string ((rd_T58 l1 x24_1).f2), .int .i64 ((rd_T58 l1 x24_1).f3), .int .i64 ((rd_T58 l1 x24_1).f4)] 58 (0, 0)) (by (with_reducible repeat (first | refine aq ?_ _ | refine ap ?_ | refine ar ?_ _)); refine av (cs := #[.int .i64 ((rd_T58 l1 x24_1).f0), .int .i64 ((rd_T58 l1 x24_1).f1), .string ((rd_T58 l1 x24_1).f2), .int .i64 ((rd_T58 l1 x24_1).f3), .int .i64 0]) ?_ 4 _ rfl; (with_reducible repeat (first | refine aq ?_ _ | refine ap ?_ | refine ar ?_ _)); refine av (cs := #[.int .i64 ((rd_T58 l1 x24_1).f0), .int .i64 ((rd_T58 l1 x24_1).f1), .string ((rd_T58 l1 x24_1).f2), .int .i64 0, .int .i64 0]) ?_ 3 _ rfl; (with_reducible repeat (first | refine aq ?_ _ | refine ap ?_ | refine ar ?_ _)); refine av (cs := #[.int .i64 ((rd_T58 l1 x24_1).f0), .int .i64 ((rd_T58 l1 x24_1).f1), .string (⟨#[]⟩ : ByteArray), .int .i64 0, .int .i64 0]) ?_ 2 _ rfl; (with_reducible repeat (first | refine aq ?_ _ | refine ap ?_ | refine ar ?_ _)); refine av (cs := #[.int .i64 ((rd_T58 l1 x24_1).f0), .int .i64 0, .string (⟨#[]⟩ : ByteArray), .int .i64 0, .int .i64 0]) ?_ 1 _ rfl; (with_reducible repeat (first | refine aq ?_ _ | refine ap ?_ | refine ar ?_ _)); refine av (cs := #[.int .i64 0, .int .i64 0, .string (⟨#[]⟩ : ByteArray), .int .i64 0, .int .i64 0]) ?_ 0 _ rfl; (with_reducible repeat (first | refine aq ?_ _ | refine ap ?_ | refine ar ?_ _)); exact cR.out) hg (Kd.R_away dL.out (fun _ hk => hk.2))); have bn := aM (hb); have br := aM (Kept.of_grown (S := (fun k_ => P0_ k_ ∨ P1_ k_)) hg (by repeat (first | (with_reducible first | exact HK.out | apply Kept.alloc | apply Kept.drewN | apply Kept.drew | refine Kept.setCell ?_ (.inr g8.out) _) | exact HK.out)) (fun k_ e_ => (dL.out.1 k_ e_).1.1)); have bM := aM (ho); clear cn; clear dM; clear cV; clear cR; clear HB; clear HK; clear dL; have cn := ba; have dM := bb; have cV := bf; have cR := bk; have HB := bn; have HK := br; have HO186 := bM; clear ba bb bf bk bn br bM; clear ho hb hg hat))
           go_roundg k1
           case measure => have := HK1.out; omega
           case rel => exact ⟨(y184), (wrap64 (x24_1 + 1)), z2, H', ⟨by have := HK1.out; omega⟩, ⟨by (with_reducible repeat (first | apply ac | apply ab | apply aa)); exact ag cn.out (fun _ hk => ⟨hk.1.1, ⟨hk.1.2.1, ⟨hk.2, hk.1.2.2.1⟩⟩⟩)⟩, ⟨by (with_reducible repeat (first | apply ac | apply ab | apply aa)); exact ag dM.out (fun _ hk => ⟨hk.1.1, ⟨hk.1.2.1, hk.2⟩⟩)⟩, ⟨by (with_reducible repeat (first | apply ac | apply ab | apply aa)); exact ag HO186.out (fun _ hk => ⟨hk.1, ⟨hk.2.1, ⟨hk.2.2.1, hk.2.2.2.1⟩⟩⟩)⟩, ⟨by (with_reducible repeat (first | apply ac | apply ab | apply aa)); exact ag cV.out (fun _ hk => ⟨hk.1.1, ⟨hk.1.2.1, hk.2⟩⟩)⟩, ⟨by repeat (first | (with_reducible first | exact HK.out | apply Kept.alloc | apply Kept.drewN | apply Kept.drew | refine Kept.setCell ?_ (.inr g8.out) _) | exact HK.out)⟩, ⟨by repeat (first | (with_reducible first | exact HB.out | apply bA | apply pD | apply bD | refine ax ?_ g9.out) | exact HB.out)⟩⟩
          ·rw [if_neg pz] at H
           exact absurd H (by simp)
        ·rw [if_neg lp] at H
         exact absurd H (by simp)
       ·rw [if_neg gv] at H
        exact absurd H (by simp)
      ·rw [if_neg hJ] at H
       have c14b0 : decide (x24_1 < (l1.length : Int)) = false := dF hJ
       clear hJ
       obtain ⟨b0, kQ⟩ : ∃ j_ : Int, (wrap64 ((l0.length : Int) - 1)) = j_ := ⟨_, rfl⟩
       replace H : (if 0 ≤ (b0) then (if (b0) < (l0.length : Int) then (if 0 ≤ (wrap64 ((l1.length : Int) - 1)) then (if (wrap64 ((l1.length : Int) - 1)) < (l1.length : Int) then (if ((rd_T58 l1 (wrap64 ((l1.length : Int) - 1))).f4) > ((rd_T58 l0 (b0)).f4) then (if x5_1.length < 2932031007402 then (some (x5_1 ++ [(⟨b0, wrap64 ((x5_1.length : Int) - 1), (⟨#[]⟩ : ByteArray), wrap64 (((rd_T58 l0 (b0)).f3) + ((rd_T58 l1 (wrap64 ((l1.length : Int) - 1))).f3)), wrap64 (((rd_T58 l1 (wrap64 ((l1.length : Int) - 1))).f4) + 1)⟩ : S58)])) else (none)) else (if x5_1.length < 2932031007402 then (some (x5_1 ++ [(⟨b0, wrap64 ((x5_1.length : Int) - 1), (⟨#[]⟩ : ByteArray), wrap64 (((rd_T58 l0 (b0)).f3) + ((rd_T58 l1 (wrap64 ((l1.length : Int) - 1))).f3)), wrap64 (((rd_T58 l0 (b0)).f4) + 1)⟩ : S58)])) else (none))) else (none)) else (none)) else (none)) else (none)) = some r := by first | (rw [kQ] at H; exact H) | (simp only [kQ] at H ⊢; exact H)
       have hji26w : (IntKind.i64.wrap ((l0.length : Int) - 1)) = b0 := (i64_w _).trans kQ
       by_cases mw : 0 ≤ (b0)
       ·rw [if_pos mw] at H
        have c27b0 : decide (0 ≤ (b0)) = true := dT mw
        clear mw
        by_cases px : (b0) < (l0.length : Int)
        ·rw [if_pos px] at H
         have c28b0 : decide ((b0) < (l0.length : Int)) = true := dT px
         clear px
         obtain ⟨cC, kP⟩ : ∃ j_ : Int, (wrap64 ((l1.length : Int) - 1)) = j_ := ⟨_, rfl⟩
         replace H : (if 0 ≤ (cC) then (if (cC) < (l1.length : Int) then (if ((rd_T58 l1 (cC)).f4) > ((rd_T58 l0 (b0)).f4) then (if x5_1.length < 2932031007402 then (some (x5_1 ++ [(⟨b0, wrap64 ((x5_1.length : Int) - 1), (⟨#[]⟩ : ByteArray), wrap64 (((rd_T58 l0 (b0)).f3) + ((rd_T58 l1 (cC)).f3)), wrap64 (((rd_T58 l1 (cC)).f4) + 1)⟩ : S58)])) else (none)) else (if x5_1.length < 2932031007402 then (some (x5_1 ++ [(⟨b0, wrap64 ((x5_1.length : Int) - 1), (⟨#[]⟩ : ByteArray), wrap64 (((rd_T58 l0 (b0)).f3) + ((rd_T58 l1 (cC)).f3)), wrap64 (((rd_T58 l0 (b0)).f4) + 1)⟩ : S58)])) else (none))) else (none)) else (none)) = some r := by first | (rw [kP] at H; exact H) | (simp only [kP] at H ⊢; exact H)
         have hji29w : (IntKind.i64.wrap ((l1.length : Int) - 1)) = cC := (i64_w _).trans kP
         by_cases pv : 0 ≤ (cC)
         ·rw [if_pos pv] at H
          have c30b0 : decide (0 ≤ (cC)) = true := dT pv
          clear pv
          by_cases pu : (cC) < (l1.length : Int)
          ·rw [if_pos pu] at H
           have c31b0 : decide ((cC) < (l1.length : Int)) = true := dT pu
           clear pu
           by_cases o4 : ((rd_T58 l1 (cC)).f4) > ((rd_T58 l0 (b0)).f4)
           ·rw [if_pos o4] at H
            have c32b0 : decide (((rd_T58 l0 (b0)).f4) < ((rd_T58 l1 (cC)).f4)) = true := dT o4
            clear o4
            by_cases lL : x5_1.length < 2932031007402
            ·rw [if_pos lL] at H
             have LMc33 := aM lL
             clear lL
             obtain ⟨y191, hy191⟩ : ∃ y_ : List (S58), y_ = (x5_1 ++ [(⟨b0, wrap64 ((x5_1.length : Int) - 1), (⟨#[]⟩ : ByteArray), wrap64 (((rd_T58 l0 (b0)).f3) + ((rd_T58 l1 (cC)).f3)), wrap64 (((rd_T58 l1 (cC)).f4) + 1)⟩ : S58)]) := ⟨_, rfl⟩
             replace H : (some y191) = some r := by first | (rw [hy191]; with_reducible exact H) | (have H2_ := (Option.bind_some _ _).symm.trans H; rw [hy191]; with_reducible exact H2_) | (have H2_ := (Option.bind_some _ _).symm.trans H; with_reducible exact H2_) | with_reducible exact H | (rw [hy191]; exact H) | exact H
             have Ny191 := aM hy191
             clear hy191
             obtain rfl := sI H
             have p187 : 0 ≤ ((b0) : Int) := oD z3
             have q187 : (b0) < (l0.length : Int) := oD z3
             obtain ⟨ad187, e187, hx187_0, hx187_1, hx187_2, hx187_3, hx187_4⟩ := at_T58 (ah cn.out).2.2 (b0) p187 q187
             cases e187
             replace p187 := eq_true p187
             replace q187 := eq_true q187
             go_upto_region 14 with (fail)
             go_cut [8] (fun v8_ wc_ => ∃ gb_, v8_ = .pointer (some ⟨gb_, 0, none⟩) ∧ Aside0 (gb_ = wr.heap.size) ∧ Aside0 (wc_.heap[gb_]? = some (.cells #[.int .i64 ((rd_T58 l0 (b0)).f0), .int .i64 ((rd_T58 l0 (b0)).f1), .string ((rd_T58 l0 (b0)).f2), .int .i64 ((rd_T58 l0 (b0)).f3), .int .i64 ((rd_T58 l0 (b0)).f4)] 58 (0, 0))) ∧ Aside0 (Below wr.heap.size wr wc_))
             case first =>
               go_wp2_with (fail)
               go_meet
               exact ⟨_, rfl, ⟨rfl⟩, ⟨blk_new _ _⟩, ⟨bA (Below.refl _ _) _⟩⟩
             case rest =>
               obtain ⟨cu, rfl, hg0_, hbox0_, hb0_⟩ := hcut
               have hg := hg0_.out; have hbox := hbox0_.out; have hb := hb0_.out; clear hg0_ hbox0_ hb0_
               have ba := aM (af (Kd.R_elderB (by (with_reducible repeat (first | apply ac | apply ab | apply aa)); exact cn.out) cu (Nat.le_of_eq hg.symm)) hb); have bb := aM (af (Kd.R_elderB (by (with_reducible repeat (first | apply ac | apply ab | apply aa)); exact dM.out) cu (Nat.le_of_eq hg.symm)) hb); have bf := aM (af (Kd.R_elderB (by (with_reducible repeat (first | apply ac | apply ab | apply aa)); exact dL.out) cu (Nat.le_of_eq hg.symm)) hb); have bk := aM (af (Kd.R_elderB (by (with_reducible repeat (first | apply ac | apply ab | apply aa)); exact cV.out) cu (Nat.le_of_eq hg.symm)) hb); have bn := aM (Kept.below (S := (fun k_ => P0_ k_ ∨ P1_ k_)) z22 hb); have br := aM (ay z23 hb); have bM := aM (hbox); have b3 := aM ((by rw [hg]; exact (by first | exact HK.out.1 | exact (show Kept w _ (fun k_ => P0_ k_ ∨ P1_ k_) from by repeat (first | (with_reducible first | exact HK.out | apply Kept.alloc | apply Kept.drewN | apply Kept.drew) | exact HK.out)).1) : w.heap.size ≤ cu)); have b6 := aM ((by rw [hg]; exact (az z23) : w0.heap.size ≤ cu)); clear cn; clear dM; clear dL; clear cV; clear HK; clear HB; have cn := ba; have dM := bb; have dL := bf; have cV := bk; have HK := bn; have HB := br; have cY := bM; have ft := b3; have fu := b6; clear ba bb bf bk bn br bM b3 b6; clear hb hbox hg
               have p189 : 0 ≤ ((cC) : Int) := oD z3; have q189 : (cC) < (l1.length : Int) := oD z3; obtain ⟨ad189, e189, hx189_0, hx189_1, hx189_2, hx189_3, hx189_4⟩ := at_T58 (ah dM.out).2.2 (cC) p189 q189; cases e189; replace p189 := eq_true p189; replace q189 := eq_true q189
               go_upto_region 15 with (fail)
               go_cut [9] (fun v9_ wd_ => ∃ gb_, v9_ = .pointer (some ⟨gb_, 0, none⟩) ∧ Aside0 (gb_ = wc.heap.size) ∧ Aside0 (wd_.heap[gb_]? = some (.cells #[.int .i64 ((rd_T58 l1 (cC)).f0), .int .i64 ((rd_T58 l1 (cC)).f1), .string ((rd_T58 l1 (cC)).f2), .int .i64 ((rd_T58 l1 (cC)).f3), .int .i64 ((rd_T58 l1 (cC)).f4)] 58 (0, 0))) ∧ Aside0 (Below wc.heap.size wc wd_))
               case first =>
                 go_wp2_with (fail)
                 go_meet
                 exact ⟨_, rfl, ⟨rfl⟩, ⟨blk_new _ _⟩, ⟨bA (Below.refl _ _) _⟩⟩
               case rest =>
                 obtain ⟨ct, rfl, hg0_, hbox0_, hb0_⟩ := hcut
                 have hg := hg0_.out; have hbox := hbox0_.out; have hb := hb0_.out; clear hg0_ hbox0_ hb0_
                 have ba := aM (af (Kd.R_elderB (by (with_reducible repeat (first | apply ac | apply ab | apply aa)); exact (ag (ag cn.out (fun k_ hk => (⟨hk, hk.2⟩ : _ ∧ k_ ≠ cu))) (fun _ h_ => h_.1))) ct (Nat.le_of_eq hg.symm)) hb); have bb := aM (af (Kd.R_elderB (by (with_reducible repeat (first | apply ac | apply ab | apply aa)); exact (ag (ag dM.out (fun k_ hk => (⟨hk, hk.2⟩ : _ ∧ k_ ≠ cu))) (fun _ h_ => h_.1))) ct (Nat.le_of_eq hg.symm)) hb); have bf := aM (af (Kd.R_elderB (by (with_reducible repeat (first | apply ac | apply ab | apply aa)); exact (ag (ag dL.out (fun k_ hk => (⟨hk, hk.2⟩ : _ ∧ k_ ≠ cu))) (fun _ h_ => h_.1))) ct (Nat.le_of_eq hg.symm)) hb); have bk := aM (af (Kd.R_elderB (by (with_reducible repeat (first | apply ac | apply ab | apply aa)); exact (ag (ag cV.out (fun k_ hk => (⟨hk, hk.2⟩ : _ ∧ k_ ≠ cu))) (fun _ h_ => h_.1))) ct (Nat.le_of_eq hg.symm)) hb); have bn := aM (ae (g := cu) (o := .cells #[.int .i64 ((rd_T58 l0 (b0)).f0), .int .i64 ((rd_T58 l0 (b0)).f1), .string ((rd_T58 l0 (b0)).f2), .int .i64 ((rd_T58 l0 (b0)).f3), .int .i64 ((rd_T58 l0 (b0)).f4)] 58 (0, 0)) cY.out hb); have br := aM (Kept.below (S := (fun k_ => P0_ k_ ∨ P1_ k_)) (by repeat (first | (with_reducible first | exact HK.out | apply Kept.alloc | apply Kept.drewN | apply Kept.drew | refine Kept.setCell ?_ (.inr ft.out) _) | exact HK.out)) hb); have bM := aM (ay (by repeat (first | (with_reducible first | exact HB.out | apply bA | apply pD | apply bD | refine ax ?_ fu.out) | exact HB.out)) hb); have b3 := aM (hbox); have b6 := aM ((by rw [hg]; exact (show Kept w _ (fun k_ => P0_ k_ ∨ P1_ k_) from by repeat (first | (with_reducible first | exact HK.out | apply Kept.alloc | apply Kept.drewN | apply Kept.drew | refine Kept.setCell ?_ (.inr ft.out) _) | exact HK.out)).1 : w.heap.size ≤ ct)); have b9 := aM ((by rw [hg]; exact (az (by repeat (first | (with_reducible first | exact HB.out | apply bA | apply pD | apply bD | refine ax ?_ fu.out) | exact HB.out))) : w0.heap.size ≤ ct)); have bm := aM ((by rw [hg]; exact aA (aw (g := cu) (o := .cells #[.int .i64 ((rd_T58 l0 (b0)).f0), .int .i64 ((rd_T58 l0 (b0)).f1), .string ((rd_T58 l0 (b0)).f2), .int .i64 ((rd_T58 l0 (b0)).f3), .int .i64 ((rd_T58 l0 (b0)).f4)] 58 (0, 0)) cY.out) : cu ≠ ct)); have bq := aM ((by rw [hg]; exact aC (aw (g := cu) (o := .cells #[.int .i64 ((rd_T58 l0 (b0)).f0), .int .i64 ((rd_T58 l0 (b0)).f1), .string ((rd_T58 l0 (b0)).f2), .int .i64 ((rd_T58 l0 (b0)).f3), .int .i64 ((rd_T58 l0 (b0)).f4)] 58 (0, 0)) cY.out) : ct ≠ cu)); clear cn; clear dM; clear dL; clear cV; clear cY; clear HK; clear HB; have cn := ba; have dM := bb; have dL := bf; have cV := bk; have cY := bn; have HK := br; have HB := bM; have dz := b3; have i6 := b6; have ja := b9; have gR := bm; have gQ := bq; clear ba bb bf bk bn br bM b3 b6 b9 bm bq; clear hb hbox hg
                 have hnb188x190_ := gR.out; have hnb190x188_ := gQ.out
                 have hcy1_0 : wc.cell? ⟨cu, 0, none⟩ = some (.int .i64 ((rd_T58 l0 (b0)).f0)) := (bC cY.out 0).trans rfl; have hfy1_0 := bF cY.out 0
                 have hcy1_1 : wc.cell? ⟨cu, 1, none⟩ = some (.int .i64 ((rd_T58 l0 (b0)).f1)) := (bC cY.out 1).trans rfl; have hfy1_1 := bF cY.out 1
                 have hcy1_2 : wc.cell? ⟨cu, 2, none⟩ = some (.string ((rd_T58 l0 (b0)).f2)) := (bC cY.out 2).trans rfl; have hfy1_2 := bF cY.out 2
                 have hcy1_3 : wc.cell? ⟨cu, 3, none⟩ = some (.int .i64 ((rd_T58 l0 (b0)).f3)) := (bC cY.out 3).trans rfl; have hfy1_3 := bF cY.out 3
                 have hcy1_4 : wc.cell? ⟨cu, 4, none⟩ = some (.int .i64 ((rd_T58 l0 (b0)).f4)) := (bC cY.out 4).trans rfl; have hfy1_4 := bF cY.out 4
                 have hcy2_0 : wc.cell? ⟨ct, 0, none⟩ = some (.int .i64 ((rd_T58 l1 (cC)).f0)) := (bC dz.out 0).trans rfl; have hfy2_0 := bF dz.out 0
                 have hcy2_1 : wc.cell? ⟨ct, 1, none⟩ = some (.int .i64 ((rd_T58 l1 (cC)).f1)) := (bC dz.out 1).trans rfl; have hfy2_1 := bF dz.out 1
                 have hcy2_2 : wc.cell? ⟨ct, 2, none⟩ = some (.string ((rd_T58 l1 (cC)).f2)) := (bC dz.out 2).trans rfl; have hfy2_2 := bF dz.out 2
                 have hcy2_3 : wc.cell? ⟨ct, 3, none⟩ = some (.int .i64 ((rd_T58 l1 (cC)).f3)) := (bC dz.out 3).trans rfl; have hfy2_3 := bF dz.out 3
                 have hcy2_4 : wc.cell? ⟨ct, 4, none⟩ = some (.int .i64 ((rd_T58 l1 (cC)).f4)) := (bC dz.out 4).trans rfl; have hfy2_4 := bF dz.out 4
                 obtain ⟨bE, bB, eo40⟩ := Kd.R_slice dL.out; subst eo40
                 go_wp2_with (((with_reducible refine gate_builtin (b := .append) (xs := #[.tmp 68, .tmp 83]) rfl ?_); at_builtin; refine Kd.R_append k58 (w0 := w0) w0.heap.size rfl (.tmp 68) (.tmp 83) 27 58 (.agg #[(.int .i64 0), (.int .i64 0), (.string ⟨#[]⟩), (.int .i64 0), (.int .i64 0)]) 48 rfl Try.underlying27 info58 rfl z0 (by omega) (.slice bE x5_1.length bB) x5_1 (⟨b0, wrap64 ((x5_1.length : Int) - 1), (⟨#[]⟩ : ByteArray), wrap64 (((rd_T58 l0 (b0)).f3) + ((rd_T58 l1 (cC)).f3)), wrap64 (((rd_T58 l1 (cC)).f4) + 1)⟩ : S58) [.int .i64 b0, .int .i64 (wrap64 ((x5_1.length : Int) - 1)), .string (⟨#[]⟩ : ByteArray), .int .i64 (wrap64 (((rd_T58 l0 (b0)).f3) + ((rd_T58 l1 (cC)).f3))), .int .i64 (wrap64 (((rd_T58 l1 (cC)).f4) + 1))] (fun k_ => ((P0_ k_ ∨ P1_ k_) ∨ w.heap.size ≤ k_) ∧ some k_ ≠ (.slice (some ad187) l0.length kJ : Value).ownBlock ∧ some k_ ≠ (.slice (some ad189) l1.length ej : Value).ownBlock ∧ some k_ ≠ (.slice (some ad189) l1.length ej : Value).ownBlock ∧ k_ ≠ cu ∧ k_ ≠ ct) (fun _ => False) rfl (by first | (go_simp; done) | (go_simp; rfl)) ?aP (fun _ hk => hk.elim) ?aF ?aO ?aB ?aS ?aL ?_; (case aP => exact k58_mkM _ _ _ (⟨b0, wrap64 ((x5_1.length : Int) - 1), (⟨#[]⟩ : ByteArray), wrap64 (((rd_T58 l0 (b0)).f3) + ((rd_T58 l1 (cC)).f3)), wrap64 (((rd_T58 l1 (cC)).f4) + 1)⟩ : S58)); (case aB => exact (by repeat (first | (with_reducible first | exact HB.out | apply bA | apply pD | apply bD | refine ax ?_ fu.out | refine ax ?_ ja.out) | exact HB.out))); (case aF => exact (fun k_ hk => ⟨(.inr (Nat.le_trans (show Kept w _ (fun k_ => P0_ k_ ∨ P1_ k_) from by repeat (first | (with_reducible first | exact HK.out | apply Kept.alloc | apply Kept.drewN | apply Kept.drew | refine Kept.setCell ?_ (.inr ft.out) _ | refine Kept.setCell ?_ (.inr i6.out) _) | exact HK.out)).1 hk)), Kd.fresh' (al (by (with_reducible repeat (first | apply ac | apply ab | apply aa)); exact (ag (ag cn.out (fun k_ hk => (⟨hk, hk.2⟩ : _ ∧ k_ ≠ ct))) (fun _ h_ => h_.1)))) k_ hk, Kd.fresh' (al (by (with_reducible repeat (first | apply ac | apply ab | apply aa)); exact (ag (ag dM.out (fun k_ hk => (⟨hk, hk.2⟩ : _ ∧ k_ ≠ ct))) (fun _ h_ => h_.1)))) k_ hk, Kd.fresh' (al (by (with_reducible repeat (first | apply ac | apply ab | apply aa)); exact (ag (ag cV.out (fun k_ hk => (⟨hk, hk.2⟩ : _ ∧ k_ ≠ ct))) (fun _ h_ => h_.1)))) k_ hk, Kd.freshB (g := cu) (o := .cells #[.int .i64 ((rd_T58 l0 (b0)).f0), .int .i64 ((rd_T58 l0 (b0)).f1), .string ((rd_T58 l0 (b0)).f2), .int .i64 ((rd_T58 l0 (b0)).f3), .int .i64 ((rd_T58 l0 (b0)).f4)] 58 (0, 0)) cY.out k_ hk, Kd.freshB (g := ct) (o := .cells #[.int .i64 ((rd_T58 l1 (cC)).f0), .int .i64 ((rd_T58 l1 (cC)).f1), .string ((rd_T58 l1 (cC)).f2), .int .i64 ((rd_T58 l1 (cC)).f3), .int .i64 ((rd_T58 l1 (cC)).f4)] 58 (0, 0)) dz.out k_ hk⟩)); (case aO => exact (by (with_reducible repeat (first | apply ac | apply ab | apply aa)); exact ag (ag dL.out (fun k_ hk => (⟨hk, hk.2⟩ : _ ∧ k_ ≠ ct))) (fun _ hk => ⟨hk.1.1.1.1, ⟨hk.1.1.1.2.1, ⟨hk.1.1.1.2.2.1, ⟨hk.1.1.1.2.2.2, ⟨hk.1.1.2, hk.1.2⟩⟩⟩⟩⟩))); (case aS => exact (az (by repeat (first | (with_reducible first | exact HB.out | apply bA | apply pD | apply bD | refine ax ?_ fu.out | refine ax ?_ ja.out) | exact HB.out)))); (case aL => have := LMc33.out; omega); intro v192 w41 ho hb hg hat; rw [← Ny191.out] at ho; have ba := aM (Kd.R_after (ok := (fun k_ => ((P0_ k_ ∨ P1_ k_) ∨ w.heap.size ≤ k_) ∧ some k_ ≠ (.slice (some ad189) l1.length ej : Value).ownBlock ∧ some k_ ≠ (.slice (some ad189) l1.length ej : Value).ownBlock ∧ k_ ≠ cu ∧ k_ ≠ ct)) (by (with_reducible repeat (first | apply ac | apply ab | apply aa)); exact ag (ag cn.out (fun k_ hk => (⟨hk, hk.2⟩ : _ ∧ k_ ≠ ct))) (fun _ hk => ⟨⟨hk.1.1.1.1, ⟨hk.1.1.1.2.1, ⟨hk.1.1.1.2.2.2, ⟨hk.1.1.2, hk.1.2⟩⟩⟩⟩, hk.1.1.1.2.2.1⟩)) hg hat); have bb := aM (Kd.R_after (ok := (fun k_ => ((P0_ k_ ∨ P1_ k_) ∨ w.heap.size ≤ k_) ∧ some k_ ≠ (.slice (some ad187) l0.length kJ : Value).ownBlock ∧ k_ ≠ cu ∧ k_ ≠ ct)) (by (with_reducible repeat (first | apply ac | apply ab | apply aa)); exact ag (ag dM.out (fun k_ hk => (⟨hk, hk.2⟩ : _ ∧ k_ ≠ ct))) (fun _ hk => ⟨⟨hk.1.1.1.1, ⟨hk.1.1.1.2.1, ⟨hk.1.1.2, hk.1.2⟩⟩⟩, hk.1.1.1.2.2⟩)) hg hat); have bf := aM (Kd.R_after (ok := (fun k_ => ((P0_ k_ ∨ P1_ k_) ∨ w.heap.size ≤ k_) ∧ some k_ ≠ (.slice (some ad187) l0.length kJ : Value).ownBlock ∧ k_ ≠ cu ∧ k_ ≠ ct)) (by (with_reducible repeat (first | apply ac | apply ab | apply aa)); exact ag (ag cV.out (fun k_ hk => (⟨hk, hk.2⟩ : _ ∧ k_ ≠ ct))) (fun _ hk => ⟨⟨hk.1.1.1.1, ⟨hk.1.1.1.2.1, ⟨hk.1.1.2, hk.1.2⟩⟩⟩, hk.1.1.1.2.2⟩)) hg hat); have bk := aM (blk_grown (g := cu) (o := .cells #[.int .i64 ((rd_T58 l0 (b0)).f0), .int .i64 ((rd_T58 l0 (b0)).f1), .string ((rd_T58 l0 (b0)).f2), .int .i64 ((rd_T58 l0 (b0)).f3), .int .i64 ((rd_T58 l0 (b0)).f4)] 58 (0, 0)) cY.out hg (Kd.R_away dL.out (fun _ hk => hk.1.2))); have bn := aM (blk_grown (g := ct) (o := .cells #[.int .i64 ((rd_T58 l1 (cC)).f0), .int .i64 ((rd_T58 l1 (cC)).f1), .string ((rd_T58 l1 (cC)).f2), .int .i64 ((rd_T58 l1 (cC)).f3), .int .i64 ((rd_T58 l1 (cC)).f4)] 58 (0, 0)) dz.out hg (Kd.R_away dL.out (fun _ hk => hk.2))); have br := aM (hb); have bM := aM (Kept.of_grown (S := (fun k_ => P0_ k_ ∨ P1_ k_)) hg (by repeat (first | (with_reducible first | exact HK.out | apply Kept.alloc | apply Kept.drewN | apply Kept.drew | refine Kept.setCell ?_ (.inr ft.out) _ | refine Kept.setCell ?_ (.inr i6.out) _) | exact HK.out)) (fun k_ e_ => (dL.out.1 k_ e_).1.1.1)); have b3 := aM (ho); clear cn; clear dM; clear cV; clear cY; clear dz; clear HB; clear HK; clear dL; have cn := ba; have dM := bb; have cV := bf; have cY := bk; have dz := bn; have HB := br; have HK := bM; have HO193 := b3; clear ba bb bf bk bn br bM b3; clear ho hb hg hat))
                 go_ret
                 exact ⟨_, by first | rfl | (simp [errW_none, errW_some] <;> rfl) | (simp only [← kQ, ← kP]; first | rfl | (simp [errW_none, errW_some] <;> rfl)) | (simp [*, errW_none, errW_some] <;> rfl), by (with_reducible repeat (first | apply ac | apply ab | apply aa)); exact ag HO193.out (fun _ hk => hk.1), by repeat (first | (with_reducible first | exact HB.out | apply bA | apply pD | apply bD | refine ax ?_ fu.out | refine ax ?_ ja.out) | exact HB.out), by repeat (first | (with_reducible first | exact HK.out | apply Kept.alloc | apply Kept.drewN | apply Kept.drew | refine Kept.setCell ?_ (.inr ft.out) _ | refine Kept.setCell ?_ (.inr i6.out) _) | exact HK.out)⟩
            ·rw [if_neg lL] at H
             exact absurd H (by simp)
           ·rw [if_neg o4] at H
            have c32b0 : decide (((rd_T58 l0 (b0)).f4) < ((rd_T58 l1 (cC)).f4)) = false := dF o4
            clear o4
            by_cases lJ : x5_1.length < 2932031007402
            ·rw [if_pos lJ] at H
             have LMc42 := aM lJ
             clear lJ
             obtain ⟨y194, hy194⟩ : ∃ y_ : List (S58), y_ = (x5_1 ++ [(⟨b0, wrap64 ((x5_1.length : Int) - 1), (⟨#[]⟩ : ByteArray), wrap64 (((rd_T58 l0 (b0)).f3) + ((rd_T58 l1 (cC)).f3)), wrap64 (((rd_T58 l0 (b0)).f4) + 1)⟩ : S58)]) := ⟨_, rfl⟩
             replace H : (some y194) = some r := by first | (rw [hy194]; with_reducible exact H) | (have H2_ := (Option.bind_some _ _).symm.trans H; rw [hy194]; with_reducible exact H2_) | (have H2_ := (Option.bind_some _ _).symm.trans H; with_reducible exact H2_) | with_reducible exact H | (rw [hy194]; exact H) | exact H
             have Ny194 := aM hy194
             clear hy194
             obtain rfl := sI H
             have p187 : 0 ≤ ((b0) : Int) := oD z3
             have q187 : (b0) < (l0.length : Int) := oD z3
             obtain ⟨ad187, e187, hx187_0, hx187_1, hx187_2, hx187_3, hx187_4⟩ := at_T58 (ah cn.out).2.2 (b0) p187 q187
             cases e187
             replace p187 := eq_true p187
             replace q187 := eq_true q187
             go_upto_region 14 with (fail)
             go_cut [8] (fun v8_ wc_ => ∃ gb_, v8_ = .pointer (some ⟨gb_, 0, none⟩) ∧ Aside0 (gb_ = wr.heap.size) ∧ Aside0 (wc_.heap[gb_]? = some (.cells #[.int .i64 ((rd_T58 l0 (b0)).f0), .int .i64 ((rd_T58 l0 (b0)).f1), .string ((rd_T58 l0 (b0)).f2), .int .i64 ((rd_T58 l0 (b0)).f3), .int .i64 ((rd_T58 l0 (b0)).f4)] 58 (0, 0))) ∧ Aside0 (Below wr.heap.size wr wc_))
             case first =>
               go_wp2_with (fail)
               go_meet
               exact ⟨_, rfl, ⟨rfl⟩, ⟨blk_new _ _⟩, ⟨bA (Below.refl _ _) _⟩⟩
             case rest =>
               obtain ⟨cu, rfl, hg0_, hbox0_, hb0_⟩ := hcut
               have hg := hg0_.out; have hbox := hbox0_.out; have hb := hb0_.out; clear hg0_ hbox0_ hb0_
               have ba := aM (af (Kd.R_elderB (by (with_reducible repeat (first | apply ac | apply ab | apply aa)); exact cn.out) cu (Nat.le_of_eq hg.symm)) hb); have bb := aM (af (Kd.R_elderB (by (with_reducible repeat (first | apply ac | apply ab | apply aa)); exact dM.out) cu (Nat.le_of_eq hg.symm)) hb); have bf := aM (af (Kd.R_elderB (by (with_reducible repeat (first | apply ac | apply ab | apply aa)); exact dL.out) cu (Nat.le_of_eq hg.symm)) hb); have bk := aM (af (Kd.R_elderB (by (with_reducible repeat (first | apply ac | apply ab | apply aa)); exact cV.out) cu (Nat.le_of_eq hg.symm)) hb); have bn := aM (Kept.below (S := (fun k_ => P0_ k_ ∨ P1_ k_)) z22 hb); have br := aM (ay z23 hb); have bM := aM (hbox); have b3 := aM ((by rw [hg]; exact (by first | exact HK.out.1 | exact (show Kept w _ (fun k_ => P0_ k_ ∨ P1_ k_) from by repeat (first | (with_reducible first | exact HK.out | apply Kept.alloc | apply Kept.drewN | apply Kept.drew) | exact HK.out)).1) : w.heap.size ≤ cu)); have b6 := aM ((by rw [hg]; exact (az z23) : w0.heap.size ≤ cu)); clear cn; clear dM; clear dL; clear cV; clear HK; clear HB; have cn := ba; have dM := bb; have dL := bf; have cV := bk; have HK := bn; have HB := br; have cY := bM; have ft := b3; have fu := b6; clear ba bb bf bk bn br bM b3 b6; clear hb hbox hg
               have p189 : 0 ≤ ((cC) : Int) := oD z3; have q189 : (cC) < (l1.length : Int) := oD z3; obtain ⟨ad189, e189, hx189_0, hx189_1, hx189_2, hx189_3, hx189_4⟩ := at_T58 (ah dM.out).2.2 (cC) p189 q189; cases e189; replace p189 := eq_true p189; replace q189 := eq_true q189
               go_upto_region 15 with (fail)
               go_cut [9] (fun v9_ wd_ => ∃ gb_, v9_ = .pointer (some ⟨gb_, 0, none⟩) ∧ Aside0 (gb_ = wc.heap.size) ∧ Aside0 (wd_.heap[gb_]? = some (.cells #[.int .i64 ((rd_T58 l1 (cC)).f0), .int .i64 ((rd_T58 l1 (cC)).f1), .string ((rd_T58 l1 (cC)).f2), .int .i64 ((rd_T58 l1 (cC)).f3), .int .i64 ((rd_T58 l1 (cC)).f4)] 58 (0, 0))) ∧ Aside0 (Below wc.heap.size wc wd_))
               case first =>
                 go_wp2_with (fail)
                 go_meet
                 exact ⟨_, rfl, ⟨rfl⟩, ⟨blk_new _ _⟩, ⟨bA (Below.refl _ _) _⟩⟩
               case rest =>
                 obtain ⟨ct, rfl, hg0_, hbox0_, hb0_⟩ := hcut
                 have hg := hg0_.out; have hbox := hbox0_.out; have hb := hb0_.out; clear hg0_ hbox0_ hb0_
                 have ba := aM (af (Kd.R_elderB (by (with_reducible repeat (first | apply ac | apply ab | apply aa)); exact (ag (ag cn.out (fun k_ hk => (⟨hk, hk.2⟩ : _ ∧ k_ ≠ cu))) (fun _ h_ => h_.1))) ct (Nat.le_of_eq hg.symm)) hb); have bb := aM (af (Kd.R_elderB (by (with_reducible repeat (first | apply ac | apply ab | apply aa)); exact (ag (ag dM.out (fun k_ hk => (⟨hk, hk.2⟩ : _ ∧ k_ ≠ cu))) (fun _ h_ => h_.1))) ct (Nat.le_of_eq hg.symm)) hb); have bf := aM (af (Kd.R_elderB (by (with_reducible repeat (first | apply ac | apply ab | apply aa)); exact (ag (ag dL.out (fun k_ hk => (⟨hk, hk.2⟩ : _ ∧ k_ ≠ cu))) (fun _ h_ => h_.1))) ct (Nat.le_of_eq hg.symm)) hb); have bk := aM (af (Kd.R_elderB (by (with_reducible repeat (first | apply ac | apply ab | apply aa)); exact (ag (ag cV.out (fun k_ hk => (⟨hk, hk.2⟩ : _ ∧ k_ ≠ cu))) (fun _ h_ => h_.1))) ct (Nat.le_of_eq hg.symm)) hb); have bn := aM (ae (g := cu) (o := .cells #[.int .i64 ((rd_T58 l0 (b0)).f0), .int .i64 ((rd_T58 l0 (b0)).f1), .string ((rd_T58 l0 (b0)).f2), .int .i64 ((rd_T58 l0 (b0)).f3), .int .i64 ((rd_T58 l0 (b0)).f4)] 58 (0, 0)) cY.out hb); have br := aM (Kept.below (S := (fun k_ => P0_ k_ ∨ P1_ k_)) (by repeat (first | (with_reducible first | exact HK.out | apply Kept.alloc | apply Kept.drewN | apply Kept.drew | refine Kept.setCell ?_ (.inr ft.out) _) | exact HK.out)) hb); have bM := aM (ay (by repeat (first | (with_reducible first | exact HB.out | apply bA | apply pD | apply bD | refine ax ?_ fu.out) | exact HB.out)) hb); have b3 := aM (hbox); have b6 := aM ((by rw [hg]; exact (show Kept w _ (fun k_ => P0_ k_ ∨ P1_ k_) from by repeat (first | (with_reducible first | exact HK.out | apply Kept.alloc | apply Kept.drewN | apply Kept.drew | refine Kept.setCell ?_ (.inr ft.out) _) | exact HK.out)).1 : w.heap.size ≤ ct)); have b9 := aM ((by rw [hg]; exact (az (by repeat (first | (with_reducible first | exact HB.out | apply bA | apply pD | apply bD | refine ax ?_ fu.out) | exact HB.out))) : w0.heap.size ≤ ct)); have bm := aM ((by rw [hg]; exact aA (aw (g := cu) (o := .cells #[.int .i64 ((rd_T58 l0 (b0)).f0), .int .i64 ((rd_T58 l0 (b0)).f1), .string ((rd_T58 l0 (b0)).f2), .int .i64 ((rd_T58 l0 (b0)).f3), .int .i64 ((rd_T58 l0 (b0)).f4)] 58 (0, 0)) cY.out) : cu ≠ ct)); have bq := aM ((by rw [hg]; exact aC (aw (g := cu) (o := .cells #[.int .i64 ((rd_T58 l0 (b0)).f0), .int .i64 ((rd_T58 l0 (b0)).f1), .string ((rd_T58 l0 (b0)).f2), .int .i64 ((rd_T58 l0 (b0)).f3), .int .i64 ((rd_T58 l0 (b0)).f4)] 58 (0, 0)) cY.out) : ct ≠ cu)); clear cn; clear dM; clear dL; clear cV; clear cY; clear HK; clear HB; have cn := ba; have dM := bb; have dL := bf; have cV := bk; have cY := bn; have HK := br; have HB := bM; have dz := b3; have i6 := b6; have ja := b9; have gR := bm; have gQ := bq; clear ba bb bf bk bn br bM b3 b6 b9 bm bq; clear hb hbox hg
                 have hnb188x190_ := gR.out; have hnb190x188_ := gQ.out
                 have hcy1_0 : wc.cell? ⟨cu, 0, none⟩ = some (.int .i64 ((rd_T58 l0 (b0)).f0)) := (bC cY.out 0).trans rfl; have hfy1_0 := bF cY.out 0
                 have hcy1_1 : wc.cell? ⟨cu, 1, none⟩ = some (.int .i64 ((rd_T58 l0 (b0)).f1)) := (bC cY.out 1).trans rfl; have hfy1_1 := bF cY.out 1
                 have hcy1_2 : wc.cell? ⟨cu, 2, none⟩ = some (.string ((rd_T58 l0 (b0)).f2)) := (bC cY.out 2).trans rfl; have hfy1_2 := bF cY.out 2
                 have hcy1_3 : wc.cell? ⟨cu, 3, none⟩ = some (.int .i64 ((rd_T58 l0 (b0)).f3)) := (bC cY.out 3).trans rfl; have hfy1_3 := bF cY.out 3
                 have hcy1_4 : wc.cell? ⟨cu, 4, none⟩ = some (.int .i64 ((rd_T58 l0 (b0)).f4)) := (bC cY.out 4).trans rfl; have hfy1_4 := bF cY.out 4
                 have hcy2_0 : wc.cell? ⟨ct, 0, none⟩ = some (.int .i64 ((rd_T58 l1 (cC)).f0)) := (bC dz.out 0).trans rfl; have hfy2_0 := bF dz.out 0
                 have hcy2_1 : wc.cell? ⟨ct, 1, none⟩ = some (.int .i64 ((rd_T58 l1 (cC)).f1)) := (bC dz.out 1).trans rfl; have hfy2_1 := bF dz.out 1
                 have hcy2_2 : wc.cell? ⟨ct, 2, none⟩ = some (.string ((rd_T58 l1 (cC)).f2)) := (bC dz.out 2).trans rfl; have hfy2_2 := bF dz.out 2
                 have hcy2_3 : wc.cell? ⟨ct, 3, none⟩ = some (.int .i64 ((rd_T58 l1 (cC)).f3)) := (bC dz.out 3).trans rfl; have hfy2_3 := bF dz.out 3
                 have hcy2_4 : wc.cell? ⟨ct, 4, none⟩ = some (.int .i64 ((rd_T58 l1 (cC)).f4)) := (bC dz.out 4).trans rfl; have hfy2_4 := bF dz.out 4
                 obtain ⟨kH, kF, eo49⟩ := Kd.R_slice dL.out; subst eo49
                 go_wp2_with (((with_reducible refine gate_builtin (b := .append) (xs := #[.tmp 68, .tmp 83]) rfl ?_); at_builtin; refine Kd.R_append k58 (w0 := w0) w0.heap.size rfl (.tmp 68) (.tmp 83) 27 58 (.agg #[(.int .i64 0), (.int .i64 0), (.string ⟨#[]⟩), (.int .i64 0), (.int .i64 0)]) 48 rfl Try.underlying27 info58 rfl z0 (by omega) (.slice kH x5_1.length kF) x5_1 (⟨b0, wrap64 ((x5_1.length : Int) - 1), (⟨#[]⟩ : ByteArray), wrap64 (((rd_T58 l0 (b0)).f3) + ((rd_T58 l1 (cC)).f3)), wrap64 (((rd_T58 l0 (b0)).f4) + 1)⟩ : S58) [.int .i64 b0, .int .i64 (wrap64 ((x5_1.length : Int) - 1)), .string (⟨#[]⟩ : ByteArray), .int .i64 (wrap64 (((rd_T58 l0 (b0)).f3) + ((rd_T58 l1 (cC)).f3))), .int .i64 (wrap64 (((rd_T58 l0 (b0)).f4) + 1))] (fun k_ => ((P0_ k_ ∨ P1_ k_) ∨ w.heap.size ≤ k_) ∧ some k_ ≠ (.slice (some ad187) l0.length kJ : Value).ownBlock ∧ some k_ ≠ (.slice (some ad189) l1.length ej : Value).ownBlock ∧ some k_ ≠ (.slice (some ad189) l1.length ej : Value).ownBlock ∧ k_ ≠ cu ∧ k_ ≠ ct) (fun _ => False) rfl (by first | (go_simp; done) | (go_simp; rfl)) ?aP (fun _ hk => hk.elim) ?aF ?aO ?aB ?aS ?aL ?_; (case aP => exact k58_mkM _ _ _ (⟨b0, wrap64 ((x5_1.length : Int) - 1), (⟨#[]⟩ : ByteArray), wrap64 (((rd_T58 l0 (b0)).f3) + ((rd_T58 l1 (cC)).f3)), wrap64 (((rd_T58 l0 (b0)).f4) + 1)⟩ : S58)); (case aB => exact (by repeat (first | (with_reducible first | exact HB.out | apply bA | apply pD | apply bD | refine ax ?_ fu.out | refine ax ?_ ja.out) | exact HB.out))); (case aF => exact (fun k_ hk => ⟨(.inr (Nat.le_trans (show Kept w _ (fun k_ => P0_ k_ ∨ P1_ k_) from by repeat (first | (with_reducible first | exact HK.out | apply Kept.alloc | apply Kept.drewN | apply Kept.drew | refine Kept.setCell ?_ (.inr ft.out) _ | refine Kept.setCell ?_ (.inr i6.out) _) | exact HK.out)).1 hk)), Kd.fresh' (al (by (with_reducible repeat (first | apply ac | apply ab | apply aa)); exact (ag (ag cn.out (fun k_ hk => (⟨hk, hk.2⟩ : _ ∧ k_ ≠ ct))) (fun _ h_ => h_.1)))) k_ hk, Kd.fresh' (al (by (with_reducible repeat (first | apply ac | apply ab | apply aa)); exact (ag (ag dM.out (fun k_ hk => (⟨hk, hk.2⟩ : _ ∧ k_ ≠ ct))) (fun _ h_ => h_.1)))) k_ hk, Kd.fresh' (al (by (with_reducible repeat (first | apply ac | apply ab | apply aa)); exact (ag (ag cV.out (fun k_ hk => (⟨hk, hk.2⟩ : _ ∧ k_ ≠ ct))) (fun _ h_ => h_.1)))) k_ hk, Kd.freshB (g := cu) (o := .cells #[.int .i64 ((rd_T58 l0 (b0)).f0), .int .i64 ((rd_T58 l0 (b0)).f1), .string ((rd_T58 l0 (b0)).f2), .int .i64 ((rd_T58 l0 (b0)).f3), .int .i64 ((rd_T58 l0 (b0)).f4)] 58 (0, 0)) cY.out k_ hk, Kd.freshB (g := ct) (o := .cells #[.int .i64 ((rd_T58 l1 (cC)).f0), .int .i64 ((rd_T58 l1 (cC)).f1), .string ((rd_T58 l1 (cC)).f2), .int .i64 ((rd_T58 l1 (cC)).f3), .int .i64 ((rd_T58 l1 (cC)).f4)] 58 (0, 0)) dz.out k_ hk⟩)); (case aO => exact (by (with_reducible repeat (first | apply ac | apply ab | apply aa)); exact ag (ag dL.out (fun k_ hk => (⟨hk, hk.2⟩ : _ ∧ k_ ≠ ct))) (fun _ hk => ⟨hk.1.1.1.1, ⟨hk.1.1.1.2.1, ⟨hk.1.1.1.2.2.1, ⟨hk.1.1.1.2.2.2, ⟨hk.1.1.2, hk.1.2⟩⟩⟩⟩⟩))); (case aS => exact (az (by repeat (first | (with_reducible first | exact HB.out | apply bA | apply pD | apply bD | refine ax ?_ fu.out | refine ax ?_ ja.out) | exact HB.out)))); (case aL => have := LMc42.out; omega); intro v195 w50 ho hb hg hat; rw [← Ny194.out] at ho; have ba := aM (Kd.R_after (ok := (fun k_ => ((P0_ k_ ∨ P1_ k_) ∨ w.heap.size ≤ k_) ∧ some k_ ≠ (.slice (some ad189) l1.length ej : Value).ownBlock ∧ some k_ ≠ (.slice (some ad189) l1.length ej : Value).ownBlock ∧ k_ ≠ cu ∧ k_ ≠ ct)) (by (with_reducible repeat (first | apply ac | apply ab | apply aa)); exact ag (ag cn.out (fun k_ hk => (⟨hk, hk.2⟩ : _ ∧ k_ ≠ ct))) (fun _ hk => ⟨⟨hk.1.1.1.1, ⟨hk.1.1.1.2.1, ⟨hk.1.1.1.2.2.2, ⟨hk.1.1.2, hk.1.2⟩⟩⟩⟩, hk.1.1.1.2.2.1⟩)) hg hat); have bb := aM (Kd.R_after (ok := (fun k_ => ((P0_ k_ ∨ P1_ k_) ∨ w.heap.size ≤ k_) ∧ some k_ ≠ (.slice (some ad187) l0.length kJ : Value).ownBlock ∧ k_ ≠ cu ∧ k_ ≠ ct)) (by (with_reducible repeat (first | apply ac | apply ab | apply aa)); exact ag (ag dM.out (fun k_ hk => (⟨hk, hk.2⟩ : _ ∧ k_ ≠ ct))) (fun _ hk => ⟨⟨hk.1.1.1.1, ⟨hk.1.1.1.2.1, ⟨hk.1.1.2, hk.1.2⟩⟩⟩, hk.1.1.1.2.2⟩)) hg hat); have bf := aM (Kd.R_after (ok := (fun k_ => ((P0_ k_ ∨ P1_ k_) ∨ w.heap.size ≤ k_) ∧ some k_ ≠ (.slice (some ad187) l0.length kJ : Value).ownBlock ∧ k_ ≠ cu ∧ k_ ≠ ct)) (by (with_reducible repeat (first | apply ac | apply ab | apply aa)); exact ag (ag cV.out (fun k_ hk => (⟨hk, hk.2⟩ : _ ∧ k_ ≠ ct))) (fun _ hk => ⟨⟨hk.1.1.1.1, ⟨hk.1.1.1.2.1, ⟨hk.1.1.2, hk.1.2⟩⟩⟩, hk.1.1.1.2.2⟩)) hg hat); have bk := aM (blk_grown (g := cu) (o := .cells #[.int .i64 ((rd_T58 l0 (b0)).f0), .int .i64 ((rd_T58 l0 (b0)).f1), .string ((rd_T58 l0 (b0)).f2), .int .i64 ((rd_T58 l0 (b0)).f3), .int .i64 ((rd_T58 l0 (b0)).f4)] 58 (0, 0)) cY.out hg (Kd.R_away dL.out (fun _ hk => hk.1.2))); have bn := aM (blk_grown (g := ct) (o := .cells #[.int .i64 ((rd_T58 l1 (cC)).f0), .int .i64 ((rd_T58 l1 (cC)).f1), .string ((rd_T58 l1 (cC)).f2), .int .i64 ((rd_T58 l1 (cC)).f3), .int .i64 ((rd_T58 l1 (cC)).f4)] 58 (0, 0)) dz.out hg (Kd.R_away dL.out (fun _ hk => hk.2))); have br := aM (hb); have bM := aM (Kept.of_grown (S := (fun k_ => P0_ k_ ∨ P1_ k_)) hg (by repeat (first | (with_reducible first | exact HK.out | apply Kept.alloc | apply Kept.drewN | apply Kept.drew | refine Kept.setCell ?_ (.inr ft.out) _ | refine Kept.setCell ?_ (.inr i6.out) _) | exact HK.out)) (fun k_ e_ => (dL.out.1 k_ e_).1.1.1)); have b3 := aM (ho); clear cn; clear dM; clear cV; clear cY; clear dz; clear HB; clear HK; clear dL; have cn := ba; have dM := bb; have cV := bf; have cY := bk; have dz := bn; have HB := br; have HK := bM; have HO196 := b3; clear ba bb bf bk bn br bM b3; clear ho hb hg hat))
                 go_ret
                 exact ⟨_, by first | rfl | (simp [errW_none, errW_some] <;> rfl) | (simp only [← kQ, ← kP]; first | rfl | (simp [errW_none, errW_some] <;> rfl)) | (simp [*, errW_none, errW_some] <;> rfl), by (with_reducible repeat (first | apply ac | apply ab | apply aa)); exact ag HO196.out (fun _ hk => hk.1), by repeat (first | (with_reducible first | exact HB.out | apply bA | apply pD | apply bD | refine ax ?_ fu.out | refine ax ?_ ja.out) | exact HB.out), by repeat (first | (with_reducible first | exact HK.out | apply Kept.alloc | apply Kept.drewN | apply Kept.drew | refine Kept.setCell ?_ (.inr ft.out) _ | refine Kept.setCell ?_ (.inr i6.out) _) | exact HK.out)⟩
            ·rw [if_neg lJ] at H
             exact absurd H (by simp)
          ·rw [if_neg pu] at H
           exact absurd H (by simp)
         ·rw [if_neg pv] at H
          exact absurd H (by simp)
        ·rw [if_neg px] at H
         exact absurd H (by simp)
       ·rw [if_neg mw] at H
        exact absurd H (by simp)
   ·rw [if_neg c8] at H
    exact absurd H (by simp)

/-! ### spec_l12Piece: function 80 -/
def spec_l12Piece.f (a0 : ByteArray) : Option ((List (S58))) := some (([(⟨(-1), (-1), a0, (a0.size : Int), 0⟩ : S58)] : List (S58)))
set_option maxHeartbeats 8000000 in
set_option maxRecDepth 100000 in
theorem spec_l12Piece.calls (a0 : ByteArray) (r : List (S58)) (w : World) (h : spec_l12Piece.f a0 = some r) :
  Calls Try.prog 80 #[.string a0] w fun e w' => ∃ v0_ : Value, e = .returned (v0_) ∧ Kd.R k58 58 w' w.heap.size (fun _ => True) v0_ r ∧ Below w.heap.size w w' := by
 have hu58 := Try.underlying58
 have HB := aM (Below.refl w.heap.size w)
 have H : (some (([(⟨(-1), (-1), a0, (a0.size : Int), 0⟩ : S58)] : List (S58)))) = some r := h
 clear h
 obtain ⟨y197, hy197⟩ : ∃ y_ : List (S58), y_ = (([(⟨(-1), (-1), a0, (a0.size : Int), 0⟩ : S58)] : List (S58))) := ⟨_, rfl⟩
 replace H : (some y197) = some r := by first | (rw [hy197]; with_reducible exact H) | (have H2_ := (Option.bind_some _ _).symm.trans H; rw [hy197]; with_reducible exact H2_) | (have H2_ := (Option.bind_some _ _).symm.trans H; with_reducible exact H2_) | with_reducible exact H | (rw [hy197]; exact H) | exact H
 have Ny197 := aM hy197
 clear hy197
 obtain rfl := sI H
 go_enter Try.func80, Try.ntmps80
 go_wp2_with (first | ((with_reducible refine aK (N := 7) rfl ?_); refine Kd.R_lit k58 _ 58 ?hg (N := 7) ?hd (xs := ([(⟨(-1), (-1), a0, (a0.size : Int), 0⟩ : S58)] : List (S58))) (inner := [.int .i64 (-1), .int .i64 (-1), .string a0, .int .i64 (a0.size : Int), .int .i64 0]) (ok := fun _ => True) (okp := fun _ => True) ?hr ?hp (fun _ hk => hk) trivial (Below.refl _ _) (Nat.le_refl _) (by simp) ?_; (case hd => rfl); (case hg => rfl); (case hr => first | (go_simp; done) | (go_simp; rfl)); (case hp => exact (Reps.c5 (show Kd.M k58 _ _ _ (⟨(-1), (-1), a0, (a0.size : Int), 0⟩ : S58) [.int .i64 (-1), .int .i64 (-1), .string a0, .int .i64 (a0.size : Int), .int .i64 0] from (k58_mkM _ _ _ (⟨(-1), (-1), a0, (a0.size : Int), 0⟩ : S58) )) (Reps.none _ _))); intro v198 w2 ho3 hb hg_ hnew_; clear hg_ hnew_; (first | rw [← Ny197.out] at ho3 | (simp only [Int.reduceToNat] at ho3; rw [← Ny197.out] at ho3)); have ba := aM (aU ho3 (az z23)); have bb := aM (ay z23 hb); clear HB; have HO199 := ba; have HB := bb; clear ba bb; clear hb ho3))
 go_ret
 exact ⟨_, y2, by (with_reducible repeat (first | apply ac | apply ab | apply aa)); exact HO199.out, y3⟩

/-! ### spec_l12Part: function 84 -/
def spec_l12Part.l0 : Nat → Int → List (S58) → List (S58) → Int → Int → Option ((List (S58)))
 | 0, _, _, _, _, _ => none
 | k + 1, x5, x6, x16, x17, x18 => if x18 < x17 then (if 0 ≤ x18 then (if x18 < (x16.length : Int) then (if ((rd_T58 x16 x18).f0) ≥ 0 then (if x6.length < 2932031007402 then (spec_l12Part.l0 k x5 (x6 ++ [(⟨wrap64 (((rd_T58 x16 x18).f0) - x5), wrap64 (((rd_T58 x16 x18).f1) - x5), (rd_T58 x16 x18).f2, (rd_T58 x16 x18).f3, (rd_T58 x16 x18).f4⟩ : S58)]) x16 x17 (wrap64 (x18 + 1))) else (none)) else (if x6.length < 2932031007402 then (spec_l12Part.l0 k x5 (x6 ++ [(⟨(rd_T58 x16 x18).f0, (rd_T58 x16 x18).f1, (rd_T58 x16 x18).f2, (rd_T58 x16 x18).f3, (rd_T58 x16 x18).f4⟩ : S58)]) x16 x17 (wrap64 (x18 + 1))) else (none))) else (none)) else (none)) else (some x6)
def spec_l12Part.f (k : Nat) (l0 : List (S58)) (a1 : Int) : Option ((List (S58))) := (spec_l12First.f k l0 a1).bind fun dq => (if 0 ≤ dq then (if dq ≤ (wrap64 (a1 + 1)) then (if (wrap64 (a1 + 1)) ≤ (l0.length : Int) then ((some ((l0.take ((wrap64 (a1 + 1)) : Int).toNat).drop (dq : Int).toNat : List (S58))).bind fun y201 => (spec_l12Part.l0 k dq ([] : List (S58)) y201 (y201.length : Int) 0)) else (none)) else (none)) else (none))
theorem spec_l12Part.mono_l : ∀ k, (∀ y0 y1 y2 y3 y4, LeO (spec_l12Part.l0 k y0 y1 y2 y3 y4) (spec_l12Part.l0 (k + 1) y0 y1 y2 y3 y4))
 | 0 => fun _ _ _ _ _ r h => by simp [spec_l12Part.l0] at h
 | k + 1 => by
  have ih0 := spec_l12Part.mono_l k
  ·intro y0 y1 y2 y3 y4
   unfold spec_l12Part.l0
   repeat' first
   | (with_reducible exact ih0 _ _ _ _ _)
   | (with_reducible exact spec_l12First.mono _ _ _)
   | (with_reducible exact LeO.refl _)
   | (with_reducible exact LeO.none _)
   | (with_reducible refine LeO.ite ?_ ?_)
   | (with_reducible refine LeO.bind ?_ (fun _ => ?_))
   | exact ih0 _ _ _ _ _
   | exact spec_l12First.mono _ _ _
   | exact LeO.none _
   | refine LeO.ite ?_ ?_
   | refine LeO.bind ?_ (fun _ => ?_)
theorem spec_l12Part.mono : ∀ a0 a1 k, LeO (spec_l12Part.f k a0 a1) (spec_l12Part.f (k + 1) a0 a1) := by
 intro a0 a1 k
 have ih0 := spec_l12Part.mono_l k
 unfold spec_l12Part.f
 repeat' first
   | (with_reducible exact ih0 _ _ _ _ _)
   | (with_reducible exact spec_l12First.mono _ _ _)
   | (with_reducible exact LeO.refl _)
   | (with_reducible exact LeO.none _)
   | (with_reducible refine LeO.ite ?_ ?_)
   | (with_reducible refine LeO.bind ?_ (fun _ => ?_))
   | exact ih0 _ _ _ _ _
   | exact spec_l12First.mono _ _ _
   | exact LeO.none _
   | refine LeO.ite ?_ ?_
   | refine LeO.bind ?_ (fun _ => ?_)
set_option maxHeartbeats 8000000 in
set_option maxRecDepth 100000 in
theorem spec_l12Part.calls (k : Nat) (A0 : Option Addr) (c0 : Nat) (l0 : List (S58)) (a1 : Int) (r : List (S58)) (w : World) (hr0 : Kd.C k58 w A0 l0.length l0) (hc0 : l0.length ≤ c0) (h : spec_l12Part.f k l0 a1 = some r) :
  Calls Try.prog 84 #[.slice A0 l0.length c0, .int .i64 a1] w fun e w' => ∃ v0_ : Value, e = .returned (v0_) ∧ Kd.R k58 58 w' w.heap.size (fun _ => True) v0_ r ∧ Below w.heap.size w w' := by
 have hu58 := Try.underlying58
 have dX := aM hr0
 have g6 := aM hc0
 clear hr0 hc0
 have HB := aM (Below.refl w.heap.size w)
 have H : ((spec_l12First.f k l0 a1).bind fun dq => (if 0 ≤ dq then (if dq ≤ (wrap64 (a1 + 1)) then (if (wrap64 (a1 + 1)) ≤ (l0.length : Int) then ((some ((l0.take ((wrap64 (a1 + 1)) : Int).toNat).drop (dq : Int).toNat : List (S58))).bind fun y201 => (spec_l12Part.l0 k dq ([] : List (S58)) y201 (y201.length : Int) 0)) else (none)) else (none)) else (none))) = some r := h
 clear h
 replace H := oB H
 obtain ⟨dq, iP, H⟩ := H
 try dsimp only at H
 have A3 := aM iP
 clear iP
 by_cases c4 : 0 ≤ dq
 ·rw [if_pos c4] at H
  have c4b0 := eq_true c4
  have c4b1 : decide (0 ≤ dq) = true := dT c4
  clear c4
  by_cases c5 : dq ≤ (wrap64 (a1 + 1))
  ·rw [if_pos c5] at H
   have c5b0 := eq_true c5
   have c5b1 : decide (dq ≤ (wrap64 (a1 + 1))) = true := dT c5
   by_cases c6 : (wrap64 (a1 + 1)) ≤ (l0.length : Int)
   ·rw [if_pos c6] at H
    have c6b0 := eq_true c6
    have c6b1 : decide ((wrap64 (a1 + 1)) ≤ (l0.length : Int)) = true := dT c6
    obtain ⟨y201, hy201⟩ : ∃ y_ : List (S58), y_ = ((l0.take ((wrap64 (a1 + 1)) : Int).toNat).drop (dq : Int).toNat) := ⟨_, rfl⟩
    replace H : (spec_l12Part.l0 k dq ([] : List (S58)) y201 (y201.length : Int) 0) = some r := by first | (rw [hy201]; with_reducible exact H) | (have H2_ := (Option.bind_some _ _).symm.trans H; rw [hy201]; with_reducible exact H2_) | (have H2_ := (Option.bind_some _ _).symm.trans H; with_reducible exact H2_) | with_reducible exact H | (rw [hy201]; exact H) | exact H
    have Ny201 := aM hy201
    clear hy201
    have H' := aM H
    clear H
    go_enter Try.func84, Try.ntmps84
    go_wp2_with (first | ((with_reducible refine aJ (f := 46) rfl ?_); refine aQ (some 11) rfl rfl Try.func46 z1 rfl #[.slice A0 l0.length c0, .int .i64 a1] rfl z25 ?_; (with_reducible refine (spec_l12First.calls k _ _ l0 a1 dq _ ?side1 ?side2 A3.out).mono ?_); (case side1 => repeat (first | exact dX.out | (with_reducible refine aE ?_ _) | (with_reducible refine aG ?_ _) | (with_reducible refine aH ?_))); (case side2 => exact g6.out); rintro e w7 ⟨rfl, hb⟩; refine ⟨_, rfl, ?_⟩; have ba := aM (ay z23 hb); clear HB; have HB := ba; clear ba; (try clear hb); (try clear hb2); (try clear hk); (try clear hi); have q8 : ((wrap64 (a1 + 1)) : Int) ≤ ((l0.length : Int) : Int) := oD z3; obtain ⟨i08, hi08, _, hsz8, _⟩ := info_parts info58; have hroom8 : l0.length ≤ c0 := g6.out; have hC8 : Kd.C k58 _ A0 l0.length l0 := dX.out; have ql8 : (dq : Int) ≤ ((wrap64 (a1 + 1)) : Int) := oD z3; have q08 : (0 : Int) ≤ (dq : Int) := oD z3; have hcut8 := cut_mid (P := Try.prog) 27 58 .i64 .i64 Try.underlying27 hi08 5 hsz8 A0 l0.length c0 dq (wrap64 (a1 + 1)) q08 ql8 q8 hroom8; have hr8 := Kd.C_mid (lo := (dq : Int).toNat) (hi := ((wrap64 (a1 + 1)) : Int).toNat) (c := c0) hC8 (by omega) (by omega) hroom8; obtain ⟨A8, hA8⟩ : ∃ A1, A1 = (if c0 = (dq : Int).toNat then A0 else (A0 : Option Addr).map (·.add ((dq : Int).toNat * 5))) := ⟨_, rfl⟩; obtain ⟨c8, hc8⟩ : ∃ c1, c1 = c0 - (dq : Int).toNat := ⟨_, rfl⟩; have hy8 : y201.length = ((wrap64 (a1 + 1)) : Int).toNat - (dq : Int).toNat := (by rw [Ny201.out, List.length_drop, List.length_take] <;> omega); rw [show ((l0).take ((wrap64 (a1 + 1)) : Int).toNat).drop (dq : Int).toNat = y201 from Ny201.out.symm] at hr8; replace hr8 : Kd.C k58 _ A8 y201.length y201 := (by rw [hA8]; exact hr8); rw [← hy8, ← hA8, ← hc8] at hcut8; have nW := aM hr8; have HC204 := aM (show y201.length ≤ c8 from by rw [hy8, hc8]; exact Nat.sub_le_sub_right (Nat.le_trans (by omega) hroom8) _); clear hr8 hC8 hroom8 hi08 hsz8 hc8; have KY8 := aM hy8; have KA8 := aM hA8; clear hy8 hA8; replace q8 := eq_true q8))
    go_loopg [6, 18] k (fun kq v6 v18 w' => ∃ (x6_1 : List (S58)) (x18_1 : Int), v18 = .int .i64 x18_1 ∧ Aside0 (spec_l12Part.l0 kq dq x6_1 y201 (y201.length : Int) x18_1 = some r) ∧ Aside0 (kq ≤ k) ∧ Aside0 (Kd.R k58 58 w' w.heap.size (fun _ => True) v6 x6_1) ∧ Aside0 (Below w.heap.size w w'))
    case atStart => exact ⟨(([] : List (S58))), (0), z2, H', ⟨Nat.le_refl _⟩, ⟨y13⟩, ⟨y3⟩⟩
    case round =>
     clear H'
     try clear c1
     try clear p2
     try clear c4
     try clear c4b0
     try clear c4b1
     try clear c5
     try clear c5b0
     try clear c5b1
     try clear c6
     try clear c6b0
     try clear c6b1
     try clear p6
     try clear c8
     try clear q8
     try clear q08
     try clear q8
     obtain ⟨x6_1, x18_1, rfl, HA, HK1, gU, HB⟩ := hrel
     cases gk with
     | zero => exact absurd HA.out (by simp [spec_l12Part.l0])
     | succ k1 =>
      have H := HA.out
      clear HA
      simp only [spec_l12Part.l0] at H
      by_cases c9 : x18_1 < (y201.length : Int)
      ·rw [if_pos c9] at H
       have c9b0 : decide (x18_1 < (y201.length : Int)) = true := dT c9
       clear c9
       by_cases eK : 0 ≤ x18_1
       ·rw [if_pos eK] at H
        have c10b0 : decide (0 ≤ x18_1) = true := dT eK
        clear eK
        by_cases fd : x18_1 < (y201.length : Int)
        ·rw [if_pos fd] at H
         have c11b0 : decide (x18_1 < (y201.length : Int)) = true := dT fd
         clear fd
         by_cases fi : ((rd_T58 y201 x18_1).f0) ≥ 0
         ·rw [if_pos fi] at H
          have c12b0 : decide (0 ≤ ((rd_T58 y201 x18_1).f0)) = true := dT fi
          clear fi
          by_cases gw : x6_1.length < 2932031007402
          ·rw [if_pos gw] at H
           have LMc13 := aM gw
           clear gw
           obtain ⟨y207, hy207⟩ : ∃ y_ : List (S58), y_ = (x6_1 ++ [(⟨wrap64 (((rd_T58 y201 x18_1).f0) - dq), wrap64 (((rd_T58 y201 x18_1).f1) - dq), (rd_T58 y201 x18_1).f2, (rd_T58 y201 x18_1).f3, (rd_T58 y201 x18_1).f4⟩ : S58)]) := ⟨_, rfl⟩
           replace H : (spec_l12Part.l0 k1 dq y207 y201 (y201.length : Int) (wrap64 (x18_1 + 1))) = some r := by first | (rw [hy207]; with_reducible exact H) | (have H2_ := (Option.bind_some _ _).symm.trans H; rw [hy207]; with_reducible exact H2_) | (have H2_ := (Option.bind_some _ _).symm.trans H; with_reducible exact H2_) | with_reducible exact H | (rw [hy207]; exact H) | exact H
           have Ny207 := aM hy207
           clear hy207
           have H' := aM H
           clear H
           have p205 : 0 ≤ (x18_1 : Int) := oD z3
           have q205 : x18_1 < (y201.length : Int) := oD z3
           obtain ⟨ad205, e205, hx205_0, hx205_1, hx205_2, hx205_3, hx205_4⟩ := at_T58 nW.out x18_1 p205 q205
           cases e205
           replace hx205_0 := (HB.out.cell (World.block_lt_of_cell? w _ hx205_0)).trans hx205_0
           replace hx205_1 := (HB.out.cell (World.block_lt_of_cell? w _ hx205_1)).trans hx205_1
           replace hx205_2 := (HB.out.cell (World.block_lt_of_cell? w _ hx205_2)).trans hx205_2
           replace hx205_3 := (HB.out.cell (World.block_lt_of_cell? w _ hx205_3)).trans hx205_3
           replace hx205_4 := (HB.out.cell (World.block_lt_of_cell? w _ hx205_4)).trans hx205_4
           replace p205 := eq_true p205
           replace q205 := eq_true q205
           go_upto_region 8 with (((with_reducible refine aK (N := 8) rfl ?_); refine aN ?hg (N := 8) ?hd (cs := #[.int .i64 0, .int .i64 0, .string (⟨#[]⟩ : ByteArray), .int .i64 0, .int .i64 0]) (t := 58) ?hr ?_; (case hd => rfl); (case hg => rfl); (case hr => first | (go_simp; done) | (go_simp; rfl)); intro dc hg w14 hbox hb; have ba := aM (af (Kd.R_elderB (by (with_reducible repeat (first | apply ac | apply ab | apply aa)); exact gU.out) dc (Nat.le_of_eq hg.symm)) hb); have bb := aM (ay z23 hb); have bf := aM (hbox); have bk := aM ((by rw [hg]; exact (az z23) : w.heap.size ≤ dc)); have bn := aM ((by rw [hg]; exact (az z23) : w.heap.size ≤ dc)); clear gU; clear HB; have gU := ba; have HB := bb; have dy := bf; have GW206 := bk; have i9 := bn; clear ba bb bf bk bn; clear hb hbox hg; have hcz15_0 : w14.cell? ⟨dc, 0, none⟩ = some (.int .i64 0) := (bC dy.out 0).trans rfl; have hcz15_1 : w14.cell? ⟨dc, 1, none⟩ = some (.int .i64 0) := (bC dy.out 1).trans rfl; have hcz15_2 : w14.cell? ⟨dc, 2, none⟩ = some (.string (⟨#[]⟩ : ByteArray)) := (bC dy.out 2).trans rfl; have hcz15_3 : w14.cell? ⟨dc, 3, none⟩ = some (.int .i64 0) := (bC dy.out 3).trans rfl; have hcz15_4 : w14.cell? ⟨dc, 4, none⟩ = some (.int .i64 0) := (bC dy.out 4).trans rfl; have hfz15_0 := bF dy.out 0; have hfz15_1 := bF dy.out 1; have hfz15_2 := bF dy.out 2; have hfz15_3 := bF dy.out 3; have hfz15_4 := bF dy.out 4))
           go_cut [] (fun wc_ => Aside0 (wc_.heap[dc]? = some (.cells #[.int .i64 (wrap64 (((rd_T58 y201 x18_1).f0) - dq)), .int .i64 (wrap64 (((rd_T58 y201 x18_1).f1) - dq)), .string ((rd_T58 y201 x18_1).f2), .int .i64 ((rd_T58 y201 x18_1).f3), .int .i64 ((rd_T58 y201 x18_1).f4)] 58 (0, 0))) ∧ Aside0 (∀ (ok_ : Nat → Prop) (v_ : Value) (xs_ : List S58), (∀ k_, ok_ k_ → k_ ≠ dc) → Kd.R k58 58 w14 w.heap.size ok_ v_ xs_ → Kd.R k58 58 wc_ w.heap.size ok_ v_ xs_) ∧ Aside0 (Below w.heap.size w wc_))
           case first =>
            go_wp2_with (fail)
            go_meet
            exact ⟨⟨(by (with_reducible repeat (first | refine aq ?_ _ | refine ap ?_ | refine ar ?_ _)); refine av (cs := #[.int .i64 (wrap64 (((rd_T58 y201 x18_1).f0) - dq)), .int .i64 ((rd_T58 y201 x18_1).f1), .string ((rd_T58 y201 x18_1).f2), .int .i64 ((rd_T58 y201 x18_1).f3), .int .i64 ((rd_T58 y201 x18_1).f4)]) ?_ 1 _ rfl; (with_reducible repeat (first | refine aq ?_ _ | refine ap ?_ | refine ar ?_ _)); refine av (cs := #[.int .i64 ((rd_T58 y201 x18_1).f0), .int .i64 ((rd_T58 y201 x18_1).f1), .string ((rd_T58 y201 x18_1).f2), .int .i64 ((rd_T58 y201 x18_1).f3), .int .i64 ((rd_T58 y201 x18_1).f4)]) ?_ 0 _ rfl; (with_reducible repeat (first | refine aq ?_ _ | refine ap ?_ | refine ar ?_ _)); refine av (cs := #[.int .i64 ((rd_T58 y201 x18_1).f0), .int .i64 ((rd_T58 y201 x18_1).f1), .string ((rd_T58 y201 x18_1).f2), .int .i64 ((rd_T58 y201 x18_1).f3), .int .i64 0]) ?_ 4 _ rfl; (with_reducible repeat (first | refine aq ?_ _ | refine ap ?_ | refine ar ?_ _)); refine av (cs := #[.int .i64 ((rd_T58 y201 x18_1).f0), .int .i64 ((rd_T58 y201 x18_1).f1), .string ((rd_T58 y201 x18_1).f2), .int .i64 0, .int .i64 0]) ?_ 3 _ rfl; (with_reducible repeat (first | refine aq ?_ _ | refine ap ?_ | refine ar ?_ _)); refine av (cs := #[.int .i64 ((rd_T58 y201 x18_1).f0), .int .i64 ((rd_T58 y201 x18_1).f1), .string (⟨#[]⟩ : ByteArray), .int .i64 0, .int .i64 0]) ?_ 2 _ rfl; (with_reducible repeat (first | refine aq ?_ _ | refine ap ?_ | refine ar ?_ _)); refine av (cs := #[.int .i64 ((rd_T58 y201 x18_1).f0), .int .i64 0, .string (⟨#[]⟩ : ByteArray), .int .i64 0, .int .i64 0]) ?_ 1 _ rfl; (with_reducible repeat (first | refine aq ?_ _ | refine ap ?_ | refine ar ?_ _)); refine av (cs := #[.int .i64 0, .int .i64 0, .string (⟨#[]⟩ : ByteArray), .int .i64 0, .int .i64 0]) ?_ 0 _ rfl; (with_reducible repeat (first | refine aq ?_ _ | refine ap ?_ | refine ar ?_ _)); exact dy.out)⟩, ⟨fun ok_ v_ xs_ hne_ h_ => by (with_reducible repeat (first | apply ac | apply ab | apply aa)); exact ag (am (p := ⟨dc, 1, none⟩) (am (p := ⟨dc, 0, none⟩) (am (p := ⟨dc, 4, none⟩) (am (p := ⟨dc, 3, none⟩) (am (p := ⟨dc, 2, none⟩) (am (p := ⟨dc, 1, none⟩) (am (p := ⟨dc, 0, none⟩) (ag h_ (fun k_ hk => (⟨hk, hne_ k_ hk⟩ : _ ∧ k_ ≠ dc))) (fun _ hk => hk.2) (.int .i64 ((rd_T58 y201 x18_1).f0))) (fun _ hk => hk.2) (.int .i64 ((rd_T58 y201 x18_1).f1))) (fun _ hk => hk.2) (.string ((rd_T58 y201 x18_1).f2))) (fun _ hk => hk.2) (.int .i64 ((rd_T58 y201 x18_1).f3))) (fun _ hk => hk.2) (.int .i64 ((rd_T58 y201 x18_1).f4))) (fun _ hk => hk.2) (.int .i64 (wrap64 (((rd_T58 y201 x18_1).f0) - dq)))) (fun _ hk => hk.2) (.int .i64 (wrap64 (((rd_T58 y201 x18_1).f1) - dq)))) (fun _ hk => hk.1)⟩, ⟨(by repeat (first | (with_reducible first | exact HB.out | apply bA | apply pD | apply bD | refine ax ?_ i9.out) | exact HB.out))⟩⟩
           case rest =>
            obtain ⟨CB_, CM_, CL_⟩ := hcut
            have m0_ := aM (CM_.out _ _ _ (fun k_ hk => hk.2) gU.out)
            clear gU HB dy CM_; clear hcz15_0 hcz15_1 hcz15_2 hcz15_3 hcz15_4 hfz15_0 hfz15_1 hfz15_2 hfz15_3 hfz15_4
            have gU := m0_; have HB := CL_; have dy := CB_; clear CL_ CB_ m0_
            have hcz15_0 : wc.cell? ⟨dc, 0, none⟩ = some (.int .i64 (wrap64 (((rd_T58 y201 x18_1).f0) - dq))) := (bC dy.out 0).trans rfl; have hfz15_0 := bF dy.out 0
            have hcz15_1 : wc.cell? ⟨dc, 1, none⟩ = some (.int .i64 (wrap64 (((rd_T58 y201 x18_1).f1) - dq))) := (bC dy.out 1).trans rfl; have hfz15_1 := bF dy.out 1
            have hcz15_2 : wc.cell? ⟨dc, 2, none⟩ = some (.string ((rd_T58 y201 x18_1).f2)) := (bC dy.out 2).trans rfl; have hfz15_2 := bF dy.out 2
            have hcz15_3 : wc.cell? ⟨dc, 3, none⟩ = some (.int .i64 ((rd_T58 y201 x18_1).f3)) := (bC dy.out 3).trans rfl; have hfz15_3 := bF dy.out 3
            have hcz15_4 : wc.cell? ⟨dc, 4, none⟩ = some (.int .i64 ((rd_T58 y201 x18_1).f4)) := (bC dy.out 4).trans rfl; have hfz15_4 := bF dy.out 4
            go_wp2_with (((with_reducible refine gate_builtin (b := .append) (xs := #[.tmp 35, .tmp 37]) rfl ?_); at_builtin; refine Kd.R_append k58 (w0 := w) w.heap.size rfl (.tmp 35) (.tmp 37) 27 58 (.agg #[(.int .i64 0), (.int .i64 0), (.string ⟨#[]⟩), (.int .i64 0), (.int .i64 0)]) 48 rfl Try.underlying27 info58 rfl z0 (by omega) u6 x6_1 (⟨wrap64 (((rd_T58 y201 x18_1).f0) - dq), wrap64 (((rd_T58 y201 x18_1).f1) - dq), (rd_T58 y201 x18_1).f2, (rd_T58 y201 x18_1).f3, (rd_T58 y201 x18_1).f4⟩ : S58) [.int .i64 (wrap64 (((rd_T58 y201 x18_1).f0) - dq)), .int .i64 (wrap64 (((rd_T58 y201 x18_1).f1) - dq)), .string ((rd_T58 y201 x18_1).f2), .int .i64 ((rd_T58 y201 x18_1).f3), .int .i64 ((rd_T58 y201 x18_1).f4)] (fun k_ => k_ ≠ dc) (fun _ => False) rfl (by first | (go_simp; done) | (go_simp; rfl)) ?aP (fun _ hk => hk.elim) ?aF ?aO ?aB ?aS ?aL ?_; (case aP => exact k58_mkM _ _ _ (⟨wrap64 (((rd_T58 y201 x18_1).f0) - dq), wrap64 (((rd_T58 y201 x18_1).f1) - dq), (rd_T58 y201 x18_1).f2, (rd_T58 y201 x18_1).f3, (rd_T58 y201 x18_1).f4⟩ : S58)); (case aB => exact (by repeat (first | (with_reducible first | exact HB.out | apply bA | apply pD | apply bD | refine ax ?_ i9.out) | exact HB.out))); (case aF => exact (fun k_ hk => Kd.freshB (g := dc) (o := .cells #[.int .i64 (wrap64 (((rd_T58 y201 x18_1).f0) - dq)), .int .i64 (wrap64 (((rd_T58 y201 x18_1).f1) - dq)), .string ((rd_T58 y201 x18_1).f2), .int .i64 ((rd_T58 y201 x18_1).f3), .int .i64 ((rd_T58 y201 x18_1).f4)] 58 (0, 0)) dy.out k_ hk)); (case aO => exact (by (with_reducible repeat (first | apply ac | apply ab | apply aa)); exact ag (ag gU.out (fun k_ hk => (⟨hk, hk.2⟩ : _ ∧ k_ ≠ dc))) (fun _ hk => hk.1.2))); (case aS => exact (az (by repeat (first | (with_reducible first | exact HB.out | apply bA | apply pD | apply bD | refine ax ?_ i9.out) | exact HB.out)))); (case aL => have := LMc13.out; omega); intro v208 w16 ho hb hg hat; rw [← Ny207.out] at ho; have ba := aM (blk_grown (g := dc) (o := .cells #[.int .i64 (wrap64 (((rd_T58 y201 x18_1).f0) - dq)), .int .i64 (wrap64 (((rd_T58 y201 x18_1).f1) - dq)), .string ((rd_T58 y201 x18_1).f2), .int .i64 ((rd_T58 y201 x18_1).f3), .int .i64 ((rd_T58 y201 x18_1).f4)] 58 (0, 0)) dy.out hg (Kd.R_away gU.out (fun _ hk => hk.2))); have bb := aM (hb); have bf := aM (ho); clear dy; clear HB; clear gU; have dy := ba; have HB := bb; have HO209 := bf; clear ba bb bf; clear ho hb hg hat))
            go_roundg k1
            case measure => have := HK1.out; omega
            case rel => exact ⟨(y207), (wrap64 (x18_1 + 1)), z2, H', ⟨by have := HK1.out; omega⟩, ⟨by (with_reducible repeat (first | apply ac | apply ab | apply aa)); exact ag HO209.out (fun _ hk => trivial)⟩, ⟨by repeat (first | (with_reducible first | exact HB.out | apply bA | apply pD | apply bD | refine ax ?_ i9.out) | exact HB.out)⟩⟩
          ·rw [if_neg gw] at H
           exact absurd H (by simp)
         ·rw [if_neg fi] at H
          have c12b0 : decide (0 ≤ ((rd_T58 y201 x18_1).f0)) = false := dF fi
          clear fi
          by_cases i1 : x6_1.length < 2932031007402
          ·rw [if_pos i1] at H
           have LMc17 := aM i1
           clear i1
           obtain ⟨y210, hy210⟩ : ∃ y_ : List (S58), y_ = (x6_1 ++ [(⟨(rd_T58 y201 x18_1).f0, (rd_T58 y201 x18_1).f1, (rd_T58 y201 x18_1).f2, (rd_T58 y201 x18_1).f3, (rd_T58 y201 x18_1).f4⟩ : S58)]) := ⟨_, rfl⟩
           replace H : (spec_l12Part.l0 k1 dq y210 y201 (y201.length : Int) (wrap64 (x18_1 + 1))) = some r := by first | (rw [hy210]; with_reducible exact H) | (have H2_ := (Option.bind_some _ _).symm.trans H; rw [hy210]; with_reducible exact H2_) | (have H2_ := (Option.bind_some _ _).symm.trans H; with_reducible exact H2_) | with_reducible exact H | (rw [hy210]; exact H) | exact H
           have Ny210 := aM hy210
           clear hy210
           have H' := aM H
           clear H
           have p205 : 0 ≤ (x18_1 : Int) := oD z3
           have q205 : x18_1 < (y201.length : Int) := oD z3
           obtain ⟨ad205, e205, hx205_0, hx205_1, hx205_2, hx205_3, hx205_4⟩ := at_T58 nW.out x18_1 p205 q205
           cases e205
           replace hx205_0 := (HB.out.cell (World.block_lt_of_cell? w _ hx205_0)).trans hx205_0
           replace hx205_1 := (HB.out.cell (World.block_lt_of_cell? w _ hx205_1)).trans hx205_1
           replace hx205_2 := (HB.out.cell (World.block_lt_of_cell? w _ hx205_2)).trans hx205_2
           replace hx205_3 := (HB.out.cell (World.block_lt_of_cell? w _ hx205_3)).trans hx205_3
           replace hx205_4 := (HB.out.cell (World.block_lt_of_cell? w _ hx205_4)).trans hx205_4
           replace p205 := eq_true p205
           replace q205 := eq_true q205
           go_wp2_with (first | ((with_reducible refine aK (N := 8) rfl ?_); refine aN ?hg (N := 8) ?hd (cs := #[.int .i64 0, .int .i64 0, .string (⟨#[]⟩ : ByteArray), .int .i64 0, .int .i64 0]) (t := 58) ?hr ?_; (case hd => rfl); (case hg => rfl); (case hr => first | (go_simp; done) | (go_simp; rfl)); intro dc hg w18 hbox hb; have ba := aM (af (Kd.R_elderB (by (with_reducible repeat (first | apply ac | apply ab | apply aa)); exact gU.out) dc (Nat.le_of_eq hg.symm)) hb); have bb := aM (ay z23 hb); have bf := aM (hbox); have bk := aM ((by rw [hg]; exact (az z23) : w.heap.size ≤ dc)); have bn := aM ((by rw [hg]; exact (az z23) : w.heap.size ≤ dc)); clear gU; clear HB; have gU := ba; have HB := bb; have dy := bf; have GW206 := bk; have i9 := bn; clear ba bb bf bk bn; clear hb hbox hg; have fD : w18.cell? ⟨dc, 0, none⟩ = some (.int .i64 0) := (bC dy.out 0).trans rfl; have iJ : w18.cell? ⟨dc, 1, none⟩ = some (.int .i64 0) := (bC dy.out 1).trans rfl; have iI : w18.cell? ⟨dc, 2, none⟩ = some (.string (⟨#[]⟩ : ByteArray)) := (bC dy.out 2).trans rfl; have iH : w18.cell? ⟨dc, 3, none⟩ = some (.int .i64 0) := (bC dy.out 3).trans rfl; have iG : w18.cell? ⟨dc, 4, none⟩ = some (.int .i64 0) := (bC dy.out 4).trans rfl; have fB := bF dy.out 0; have ip := bF dy.out 1; have im := bF dy.out 2; have il := bF dy.out 3; have ik := bF dy.out 4) | ((with_reducible refine gate_builtin (b := .append) (xs := #[.tmp 35, .tmp 37]) rfl ?_); at_builtin; refine Kd.R_append k58 (w0 := w) w.heap.size rfl (.tmp 35) (.tmp 37) 27 58 (.agg #[(.int .i64 0), (.int .i64 0), (.string ⟨#[]⟩), (.int .i64 0), (.int .i64 0)]) 48 rfl Try.underlying27 info58 rfl z0 (by omega) u6 x6_1 (⟨(rd_T58 y201 x18_1).f0, (rd_T58 y201 x18_1).f1, (rd_T58 y201 x18_1).f2, (rd_T58 y201 x18_1).f3, (rd_T58 y201 x18_1).f4⟩ : S58) [.int .i64 ((rd_T58 y201 x18_1).f0), .int .i64 ((rd_T58 y201 x18_1).f1), .string ((rd_T58 y201 x18_1).f2), .int .i64 ((rd_T58 y201 x18_1).f3), .int .i64 ((rd_T58 y201 x18_1).f4)] (fun k_ => k_ ≠ dc) (fun _ => False) rfl (by first | (go_simp; done) | (go_simp; rfl)) ?aP (fun _ hk => hk.elim) ?aF ?aO ?aB ?aS ?aL ?_; (case aP => exact k58_mkM _ _ _ (⟨(rd_T58 y201 x18_1).f0, (rd_T58 y201 x18_1).f1, (rd_T58 y201 x18_1).f2, (rd_T58 y201 x18_1).f3, (rd_T58 y201 x18_1).f4⟩ : S58)); (case aB => exact (by repeat (first | (with_reducible first | exact HB.out | apply bA | apply pD | apply bD | refine ax ?_ i9.out) | exact HB.out))); (case aF => exact (fun k_ hk => Kd.freshB (g := dc) (o := .cells #[.int .i64 ((rd_T58 y201 x18_1).f0), .int .i64 ((rd_T58 y201 x18_1).f1), .string ((rd_T58 y201 x18_1).f2), .int .i64 ((rd_T58 y201 x18_1).f3), .int .i64 ((rd_T58 y201 x18_1).f4)] 58 (0, 0)) (by (with_reducible repeat (first | refine aq ?_ _ | refine ap ?_ | refine ar ?_ _)); refine av (cs := #[.int .i64 ((rd_T58 y201 x18_1).f0), .int .i64 ((rd_T58 y201 x18_1).f1), .string ((rd_T58 y201 x18_1).f2), .int .i64 ((rd_T58 y201 x18_1).f3), .int .i64 0]) ?_ 4 _ rfl; (with_reducible repeat (first | refine aq ?_ _ | refine ap ?_ | refine ar ?_ _)); refine av (cs := #[.int .i64 ((rd_T58 y201 x18_1).f0), .int .i64 ((rd_T58 y201 x18_1).f1), .string ((rd_T58 y201 x18_1).f2), .int .i64 0, .int .i64 0]) ?_ 3 _ rfl; (with_reducible repeat (first | refine aq ?_ _ | refine ap ?_ | refine ar ?_ _)); refine av (cs := #[.int .i64 ((rd_T58 y201 x18_1).f0), .int .i64 ((rd_T58 y201 x18_1).f1), .string (⟨#[]⟩ : ByteArray), .int .i64 0, .int .i64 0]) ?_ 2 _ rfl; (with_reducible repeat (first | refine aq ?_ _ | refine ap ?_ | refine ar ?_ _)); refine av (cs := #[.int .i64 ((rd_T58 y201 x18_1).f0), .int .i64 0, .string (⟨#[]⟩ : ByteArray), .int .i64 0, .int .i64 0]) ?_ 1 _ rfl; (with_reducible repeat (first | refine aq ?_ _ | refine ap ?_ | refine ar ?_ _)); refine av (cs := #[.int .i64 0, .int .i64 0, .string (⟨#[]⟩ : ByteArray), .int .i64 0, .int .i64 0]) ?_ 0 _ rfl; (with_reducible repeat (first | refine aq ?_ _ | refine ap ?_ | refine ar ?_ _)); exact dy.out) k_ hk)); (case aO => exact (by (with_reducible repeat (first | apply ac | apply ab | apply aa)); exact ag (am (p := ⟨dc, 4, none⟩) (am (p := ⟨dc, 3, none⟩) (am (p := ⟨dc, 2, none⟩) (am (p := ⟨dc, 1, none⟩) (am (p := ⟨dc, 0, none⟩) (ag gU.out (fun k_ hk => (⟨hk, hk.2⟩ : _ ∧ k_ ≠ dc))) (fun _ hk => hk.2) (.int .i64 ((rd_T58 y201 x18_1).f0))) (fun _ hk => hk.2) (.int .i64 ((rd_T58 y201 x18_1).f1))) (fun _ hk => hk.2) (.string ((rd_T58 y201 x18_1).f2))) (fun _ hk => hk.2) (.int .i64 ((rd_T58 y201 x18_1).f3))) (fun _ hk => hk.2) (.int .i64 ((rd_T58 y201 x18_1).f4))) (fun _ hk => hk.1.2))); (case aS => exact (az (by repeat (first | (with_reducible first | exact HB.out | apply bA | apply pD | apply bD | refine ax ?_ i9.out) | exact HB.out)))); (case aL => have := LMc17.out; omega); intro v211 w20 ho hb hg hat; rw [← Ny210.out] at ho; have ba := aM (blk_grown (g := dc) (o := .cells #[.int .i64 ((rd_T58 y201 x18_1).f0), .int .i64 ((rd_T58 y201 x18_1).f1), .string ((rd_T58 y201 x18_1).f2), .int .i64 ((rd_T58 y201 x18_1).f3), .int .i64 ((rd_T58 y201 x18_1).f4)] 58 (0, 0)) (by (with_reducible repeat (first | refine aq ?_ _ | refine ap ?_ | refine ar ?_ _)); refine av (cs := #[.int .i64 ((rd_T58 y201 x18_1).f0), .int .i64 ((rd_T58 y201 x18_1).f1), .string ((rd_T58 y201 x18_1).f2), .int .i64 ((rd_T58 y201 x18_1).f3), .int .i64 0]) ?_ 4 _ rfl; (with_reducible repeat (first | refine aq ?_ _ | refine ap ?_ | refine ar ?_ _)); refine av (cs := #[.int .i64 ((rd_T58 y201 x18_1).f0), .int .i64 ((rd_T58 y201 x18_1).f1), .string ((rd_T58 y201 x18_1).f2), .int .i64 0, .int .i64 0]) ?_ 3 _ rfl; (with_reducible repeat (first | refine aq ?_ _ | refine ap ?_ | refine ar ?_ _)); refine av (cs := #[.int .i64 ((rd_T58 y201 x18_1).f0), .int .i64 ((rd_T58 y201 x18_1).f1), .string (⟨#[]⟩ : ByteArray), .int .i64 0, .int .i64 0]) ?_ 2 _ rfl; (with_reducible repeat (first | refine aq ?_ _ | refine ap ?_ | refine ar ?_ _)); refine av (cs := #[.int .i64 ((rd_T58 y201 x18_1).f0), .int .i64 0, .string (⟨#[]⟩ : ByteArray), .int .i64 0, .int .i64 0]) ?_ 1 _ rfl; (with_reducible repeat (first | refine aq ?_ _ | refine ap ?_ | refine ar ?_ _)); refine av (cs := #[.int .i64 0, .int .i64 0, .string (⟨#[]⟩ : ByteArray), .int .i64 0, .int .i64 0]) ?_ 0 _ rfl; (with_reducible repeat (first | refine aq ?_ _ | refine ap ?_ | refine ar ?_ _)); exact dy.out) hg (Kd.R_away gU.out (fun _ hk => hk.2))); have bb := aM (hb); have bf := aM (ho); clear dy; clear HB; clear gU; have dy := ba; have HB := bb; have HO212 := bf; clear ba bb bf; clear ho hb hg hat))
           go_roundg k1
           case measure => have := HK1.out; omega
           case rel => exact ⟨(y210), (wrap64 (x18_1 + 1)), z2, H', ⟨by have := HK1.out; omega⟩, ⟨by (with_reducible repeat (first | apply ac | apply ab | apply aa)); exact ag HO212.out (fun _ hk => trivial)⟩, ⟨by repeat (first | (with_reducible first | exact HB.out | apply bA | apply pD | apply bD | refine ax ?_ i9.out) | exact HB.out)⟩⟩
          ·rw [if_neg i1] at H
           exact absurd H (by simp)
        ·rw [if_neg fd] at H
         exact absurd H (by simp)
       ·rw [if_neg eK] at H
        exact absurd H (by simp)
      ·rw [if_neg c9] at H
       have c9b0 : decide (x18_1 < (y201.length : Int)) = false := dF c9
       clear c9
       obtain rfl := sI H
       go_wp2
       go_ret
       exact ⟨_, y2, by (with_reducible repeat (first | apply ac | apply ab | apply aa)); exact gU.out, y3⟩
   ·rw [if_neg c6] at H
    exact absurd H (by simp)
  ·rw [if_neg c5] at H
   exact absurd H (by simp)
 ·rw [if_neg c4] at H
  exact absurd H (by simp)

end Go.Proofs.Ytmkenlejdaphnaa.AFnExactSplitRope
