-- this session's own text: written by wip/tools/ownprint.py over the kit's print
import Derived.Test.YtihjaagamihhkaaAFnExactReadSchemax0
import Derived.Test.YtihjaagamihhkaaAFnExactReadSchemax1
import Derived.Test.YtihjaagamihhkaaAFnExactReadSchemax4
import Derived.Test.YtihjaagamihhkaaAFnExactReadSchemax7
import Derived.Test.YtihjaagamihhkaaAFnExactReadSchemax8
namespace Go.Proofs.Ytihjaagamihhkaa.AFnExactReadSchema
open Go.RowKit Go.Proofs.YtihjaagamihhkaaW.PrintWords Go.Proofs.YtihjaagamihhkaaW.PrintLast Go.Proofs.YtihjaagamihhkaaW.PrintMore
attribute [local go_sem] max2_int min2_int max_two min_two max_three min_three max_four min_four   -- for this text's walks alone
set_option linter.unusedVariables false
set_option linter.unusedSimpArgs false

/-! ### laws_FnExactReadSchema: function 5 -/
mutual
def laws_FnExactReadSchema.j0 : Nat → ByteArray → List (S38) → Bool → List (S38) → Bool → Option (Bool)
 | 0, _, _, _, _, _ => none
 | k + 1, x0, x3, x4, x5, x32 => if x32 = true then (some false) else ((laws_markRuleS.f k x5 1).bind fun bO => ((laws_heldRuleS.f k bO.2 1).bind fun bl => (if bl < 0 then (some false) else (if bl = bO.1 then ((impl_ReadSchema.f k x0).bind fun cH => ((laws_eqRuleS.f k cH.1 x3).bind fun cN => (if cN = true then (laws_FnExactReadSchema.j1 k bO.2 bO.1 (cH.2 != x4)) else (laws_FnExactReadSchema.j1 k bO.2 bO.1 true)))) else (some false)))))
def laws_FnExactReadSchema.j1 : Nat → List (S38) → Int → Bool → Option (Bool)
 | 0, _, _, _ => none
 | k + 1, x5, x7, x57 => if x57 = true then (some false) else ((laws_heldRuleS.f k x5 1).bind fun bk => (if bk < 0 then (some false) else (if bk = x7 then (some true) else (some false))))
end
def laws_FnExactReadSchema.f (k : Nat) (a0 : ByteArray) : Option (Bool) := if (a0.size : Int) > 1048576 then (some true) else ((spec_ReadSchema.f k a0).bind fun ba => ((impl_ReadSchema.f k a0).bind fun bo => ((laws_eqRuleS.f k bo.1 ba.1).bind fun ch => (if ch = true then (laws_FnExactReadSchema.j0 k a0 ba.1 ba.2 bo.1 (bo.2 != ba.2)) else (laws_FnExactReadSchema.j0 k a0 ba.1 ba.2 bo.1 true)))))
theorem laws_FnExactReadSchema.mono_l : ∀ k, (∀ y0 y1 y2 y3 y4, LeO (laws_FnExactReadSchema.j0 k y0 y1 y2 y3 y4) (laws_FnExactReadSchema.j0 (k + 1) y0 y1 y2 y3 y4)) ∧ (∀ y0 y1 y2, LeO (laws_FnExactReadSchema.j1 k y0 y1 y2) (laws_FnExactReadSchema.j1 (k + 1) y0 y1 y2))
 | 0 => ⟨fun _ _ _ _ _ r h => by simp [laws_FnExactReadSchema.j0] at h, fun _ _ _ r h => by simp [laws_FnExactReadSchema.j1] at h⟩
 | k + 1 => by
  obtain ⟨ih0, ih1⟩ := laws_FnExactReadSchema.mono_l k
  refine ⟨?_, ?_⟩
  ·intro y0 y1 y2 y3 y4
   unfold laws_FnExactReadSchema.j0
   repeat' first
   | (with_reducible exact ih0 _ _ _ _ _)
   | (with_reducible exact ih1 _ _ _)
   | (with_reducible exact impl_ReadSchema.mono _ _)
   | (with_reducible exact laws_eqRuleS.mono _ _ _)
   | (with_reducible exact laws_heldRuleS.mono _ _ _)
   | (with_reducible exact laws_markRuleS.mono _ _ _)
   | (with_reducible exact spec_ReadSchema.mono _ _)
   | (with_reducible exact LeO.refl _)
   | (with_reducible exact LeO.none _)
   | (with_reducible refine LeO.ite ?_ ?_)
   | (with_reducible refine LeO.bind ?_ (fun _ => ?_))
   | exact ih0 _ _ _ _ _
   | exact ih1 _ _ _
   | exact impl_ReadSchema.mono _ _
   | exact laws_eqRuleS.mono _ _ _
   | exact laws_heldRuleS.mono _ _ _
   | exact laws_markRuleS.mono _ _ _
   | exact spec_ReadSchema.mono _ _
   | exact LeO.none _
   | refine LeO.ite ?_ ?_
   | refine LeO.bind ?_ (fun _ => ?_)
  ·intro y0 y1 y2
   unfold laws_FnExactReadSchema.j1
   repeat' first
   | (with_reducible exact ih0 _ _ _ _ _)
   | (with_reducible exact ih1 _ _ _)
   | (with_reducible exact impl_ReadSchema.mono _ _)
   | (with_reducible exact laws_eqRuleS.mono _ _ _)
   | (with_reducible exact laws_heldRuleS.mono _ _ _)
   | (with_reducible exact laws_markRuleS.mono _ _ _)
   | (with_reducible exact spec_ReadSchema.mono _ _)
   | (with_reducible exact LeO.refl _)
   | (with_reducible exact LeO.none _)
   | (with_reducible refine LeO.ite ?_ ?_)
   | (with_reducible refine LeO.bind ?_ (fun _ => ?_))
   | exact ih0 _ _ _ _ _
   | exact ih1 _ _ _
   | exact impl_ReadSchema.mono _ _
   | exact laws_eqRuleS.mono _ _ _
   | exact laws_heldRuleS.mono _ _ _
   | exact laws_markRuleS.mono _ _ _
   | exact spec_ReadSchema.mono _ _
   | exact LeO.none _
   | refine LeO.ite ?_ ?_
   | refine LeO.bind ?_ (fun _ => ?_)
theorem laws_FnExactReadSchema.mono : ∀ a0 k, LeO (laws_FnExactReadSchema.f k a0) (laws_FnExactReadSchema.f (k + 1) a0) := by
 intro a0 k
 obtain ⟨ih0, ih1⟩ := laws_FnExactReadSchema.mono_l k
 unfold laws_FnExactReadSchema.f
 repeat' first
   | (with_reducible exact ih0 _ _ _ _ _)
   | (with_reducible exact ih1 _ _ _)
   | (with_reducible exact impl_ReadSchema.mono _ _)
   | (with_reducible exact laws_eqRuleS.mono _ _ _)
   | (with_reducible exact laws_heldRuleS.mono _ _ _)
   | (with_reducible exact laws_markRuleS.mono _ _ _)
   | (with_reducible exact spec_ReadSchema.mono _ _)
   | (with_reducible exact LeO.refl _)
   | (with_reducible exact LeO.none _)
   | (with_reducible refine LeO.ite ?_ ?_)
   | (with_reducible refine LeO.bind ?_ (fun _ => ?_))
   | exact ih0 _ _ _ _ _
   | exact ih1 _ _ _
   | exact impl_ReadSchema.mono _ _
   | exact laws_eqRuleS.mono _ _ _
   | exact laws_heldRuleS.mono _ _ _
   | exact laws_markRuleS.mono _ _ _
   | exact spec_ReadSchema.mono _ _
   | exact LeO.none _
   | refine LeO.ite ?_ ?_
   | refine LeO.bind ?_ (fun _ => ?_)
set_option maxHeartbeats 8000000 in
set_option maxRecDepth 100000 in
theorem laws_FnExactReadSchema.calls (k : Nat) (a0 : ByteArray) (r : Bool) (HRT : Aside0 (r = true)) (w : World) (h : laws_FnExactReadSchema.f k a0 = some r) :
  Calls Try.prog 5 #[.string a0] w fun e w' => e = .returned (.bool r) ∧ Below w.heap.size w w' := by
 have HB := aM (Below.refl w.heap.size w)
 have H : (if (a0.size : Int) > 1048576 then (some true) else ((spec_ReadSchema.f k a0).bind fun ba => ((impl_ReadSchema.f k a0).bind fun bo => ((laws_eqRuleS.f k bo.1 ba.1).bind fun ch => (if ch = true then (laws_FnExactReadSchema.j0 k a0 ba.1 ba.2 bo.1 (bo.2 != ba.2)) else (laws_FnExactReadSchema.j0 k a0 ba.1 ba.2 bo.1 true)))))) = some r := h
 clear h
 by_cases c2 : (a0.size : Int) > 1048576
 ·rw [if_pos c2] at H
  have c2b0 : decide (1048576 < (a0.size : Int)) = true := dT c2
  have c2b1 : decide (1048576 < a0.size) = true := dT (by omega)
  clear c2
  first | (cases H.trans (congrArg some HRT.out); done) | skip
  all_goals
   obtain rfl := sI H
   go_enter Try.func5, Try.ntmps5
   go_wp2
   go_ret
   exact ⟨y2, y3⟩
 ·rw [if_neg c2] at H
  have c2b0 : decide (1048576 < (a0.size : Int)) = false := dF c2
  have c2b1 : decide (1048576 < a0.size) = false := dF (by omega)
  clear c2
  replace H := oB H
  obtain ⟨⟨bB, cB⟩, cx, H⟩ := H
  try dsimp only at H
  have A3 := aM cx
  clear cx
  replace H := oB H
  obtain ⟨⟨aT, dg⟩, cD, H⟩ := H
  try dsimp only at H
  have A4 := aM cD
  clear cD
  have dc := aM H
  clear H
  go_enter Try.func5, Try.ntmps5
  go_upto_region 5 with (first | ((with_reducible refine aq (f := 13) rfl ?_); refine goesL_ (some 16) rfl rfl Try.func13 z0 rfl #[.string a0] rfl z7 ?_; (with_reducible refine (spec_ReadSchema.calls k a0 bB cB _ A3.out).mono ?_); rintro e w6 ⟨v177, rfl, ho0, hb⟩; refine ⟨_, rfl, ?_⟩; have aA := aM (Kd.R_lower ho0 (am z6)); have aC := aM (al z6 hb); clear HB; have aU := aA; have HB := aC; clear aA aC; (try clear hb); (try clear hb2); (try clear hk); (try clear hi); (try clear ho0)) | ((with_reducible refine aq (f := 14) rfl ?_); refine goesL_ (some 21) rfl rfl Try.func14 z0 rfl #[.string a0] rfl z7 ?_; (with_reducible refine (impl_ReadSchema.calls k a0 aT dg _ A4.out).mono ?_); rintro e w7 ⟨v181, rfl, ho0, hb⟩; refine ⟨_, rfl, ?_⟩; have aA := aM (Kd.R_elder' (by (with_reducible repeat (first | apply ac | apply ab | apply aa)); exact aU.out) (Kd.R_base ho0) hb); have aC := aM (Kd.R_lower (Kd.R_new' ho0 (Kd.R_lt (by (with_reducible repeat (first | apply ac | apply ab | apply aa)); exact aU.out))) (am z6)); have aG := aM (al z6 hb); clear aU; clear HB; have aU := aA; have a7 := aC; have HB := aG; clear aA aC aG; (try clear hb); (try clear hb2); (try clear hk); (try clear hi); (try clear ho0)))
  (try simp only [Act.put, sA, sB, sC])
  go_cut [32] (fun v32 wc => ∃ (kq : Nat) (x32_4 : Bool), v32 = .bool x32_4 ∧ Aside0 (laws_FnExactReadSchema.j0 kq a0 bB cB aT x32_4 = some r) ∧ Aside0 (kq ≤ k) ∧ Aside0 (Kd.R k38 38 wc w.heap.size (fun k_ => some k_ ≠ (v181 : Value).ownBlock) v177 bB) ∧ Aside0 (Kd.R k38 38 wc w.heap.size (fun k_ => some k_ ≠ (v177 : Value).ownBlock) v181 aT) ∧ Aside0 (Below w.heap.size w wc))
  case first =>
   have H := dc.out
   clear dc
   replace H := oB H
   obtain ⟨ch, dZ, H⟩ := H
   try dsimp only at H
   have A8 := aM dZ
   clear dZ
   by_cases c9 : ch = true
   ·subst c9
    rw [if_pos rfl] at H
    have H' := aM H
    clear H
    obtain ⟨Ao10, co10, eo10⟩ := Kd.R_slice a7.out
    subst eo10
    obtain ⟨Ao11, co11, eo11⟩ := Kd.R_slice aU.out
    subst eo11
    go_wp2_with (first | ((with_reducible refine aq (f := 10) rfl ?_); refine goesL_ (some 26) rfl rfl Try.func10 z0 rfl #[.slice Ao10 aT.length co10, .slice Ao11 bB.length co11] rfl z7 ?_; (with_reducible refine (laws_eqRuleS.calls k _ _ aT _ _ bB true _ ?side1 ?side2 ?side3 ?side4 A8.out).mono ?_); (case side1 => repeat (first | exact (ag a7.out).2.2 | (with_reducible refine ao ?_ _) | (with_reducible refine ap ?_ _) | (with_reducible refine Kd.C_drew ?_))); (case side2 => exact (ag a7.out).2.1); (case side3 => repeat (first | exact (ag aU.out).2.2 | (with_reducible refine ao ?_ _) | (with_reducible refine ap ?_ _) | (with_reducible refine Kd.C_drew ?_))); (case side4 => exact (ag aU.out).2.1); rintro e w12 ⟨rfl, hb⟩; refine ⟨_, rfl, ?_⟩; have aA := aM (af (by (with_reducible repeat (first | apply ac | apply ab | apply aa)); exact aU.out) hb); have aC := aM (af (by (with_reducible repeat (first | apply ac | apply ab | apply aa)); exact a7.out) hb); have aG := aM (al z6 hb); clear aU; clear a7; clear HB; have aU := aA; have a7 := aC; have HB := aG; clear aA aC aG; (try clear hb); (try clear hb2); (try clear hk); (try clear hi)))
    go_meet
    case rel => exact ⟨_, ((dg != cB)), z1, H', ⟨by first | omega | exact Nat.le_refl _⟩, ⟨by (with_reducible repeat (first | apply ac | apply ab | apply aa)); exact Kd.R_mono aU.out (fun _ hk => hk.2)⟩, ⟨by (with_reducible repeat (first | apply ac | apply ab | apply aa)); exact Kd.R_mono a7.out (fun _ hk => hk.2)⟩, ⟨y3⟩⟩
   ·replace c9 := Bool.eq_false_iff.mpr c9
    subst c9
    rw [if_neg (show ¬ (false = true) by decide)] at H
    have H' := aM H
    clear H
    obtain ⟨Ao13, co13, eo13⟩ := Kd.R_slice a7.out
    subst eo13
    obtain ⟨dr, dj, eo14⟩ := Kd.R_slice aU.out
    subst eo14
    go_wp2_with (first | ((with_reducible refine aq (f := 10) rfl ?_); refine goesL_ (some 26) rfl rfl Try.func10 z0 rfl #[.slice Ao13 aT.length co13, .slice dr bB.length dj] rfl z7 ?_; (with_reducible refine (laws_eqRuleS.calls k _ _ aT _ _ bB false _ ?side1 ?side2 ?side3 ?side4 A8.out).mono ?_); (case side1 => repeat (first | exact (ag a7.out).2.2 | (with_reducible refine ao ?_ _) | (with_reducible refine ap ?_ _) | (with_reducible refine Kd.C_drew ?_))); (case side2 => exact (ag a7.out).2.1); (case side3 => repeat (first | exact (ag aU.out).2.2 | (with_reducible refine ao ?_ _) | (with_reducible refine ap ?_ _) | (with_reducible refine Kd.C_drew ?_))); (case side4 => exact (ag aU.out).2.1); rintro e w15 ⟨rfl, hb⟩; refine ⟨_, rfl, ?_⟩; have aA := aM (af (by (with_reducible repeat (first | apply ac | apply ab | apply aa)); exact aU.out) hb); have aC := aM (af (by (with_reducible repeat (first | apply ac | apply ab | apply aa)); exact a7.out) hb); have aG := aM (al z6 hb); clear aU; clear a7; clear HB; have aU := aA; have a7 := aC; have HB := aG; clear aA aC aG; (try clear hb); (try clear hb2); (try clear hk); (try clear hi)))
    go_meet
    case rel => exact ⟨_, (true), z1, H', ⟨by first | omega | exact Nat.le_refl _⟩, ⟨by (with_reducible repeat (first | apply ac | apply ab | apply aa)); exact Kd.R_mono aU.out (fun _ hk => hk.2)⟩, ⟨by (with_reducible repeat (first | apply ac | apply ab | apply aa)); exact Kd.R_mono a7.out (fun _ hk => hk.2)⟩, ⟨y3⟩⟩
  case rest =>
   clear dc
   try clear c1
   try clear c2
   try clear c2b0
   try clear c2b1
   try clear p2
   try clear c5
   try clear c9
   try clear bK
   try clear bG
   try clear b9
   obtain ⟨kq, x32_4, rfl, HA, dX, aQ, aE, HB⟩ := hcut
   cases kq with
   | zero => exact absurd HA.out (by simp [laws_FnExactReadSchema.j0])
   | succ kj4 =>
    have H := HA.out
    clear HA
    simp only [laws_FnExactReadSchema.j0] at H
    by_cases cp : x32_4 = true
    ·subst cp
     rw [if_pos rfl] at H
     first | (cases H.trans (congrArg some HRT.out); done) | skip
     all_goals
      obtain rfl := sI H
      go_wp2
      go_ret
      exact ⟨y2, y3⟩
    ·replace cp := Bool.eq_false_iff.mpr cp
     subst cp
     rw [if_neg (show ¬ (false = true) by decide)] at H
     replace H := oB H
     obtain ⟨⟨bm, a6⟩, dE, H⟩ := H
     try dsimp only at H
     have dV := aM dE
     clear dE
     replace H := oB H
     obtain ⟨bl, dD, H⟩ := H
     try dsimp only at H
     have dU := aM dD
     clear dD
     by_cases cd : bl < 0
     ·rw [if_pos cd] at H
      have c19b0 : decide (bl < 0) = true := dT cd
      clear cd
      first | (cases H.trans (congrArg some HRT.out); done) | skip
      all_goals
       obtain rfl := sI H
       obtain ⟨cu, cl, eo20⟩ := Kd.R_slice aE.out
       subst eo20
       go_wp2_with (first | ((with_reducible refine aq (f := 15) rfl ?_); refine goesL_ (some 35) rfl rfl Try.func15 z0 rfl #[.slice cu aT.length cl, .int .i64 1] rfl z7 ?_; (with_reducible refine (laws_markRuleS.calls kj4 (fun k_ => some k_ = (.slice cu aT.length cl : Value).ownBlock) (.slice cu aT.length cl) aT 1 bm a6 w _ ?side1 ?side2 dV.out).mono ?_); (case side1 => repeat (first | (with_reducible first | exact HB.out | apply bA | apply pD | apply bD) | exact HB.out)); (case side2 => exact Kd.R_tight rfl aE.out); rintro e w21 ⟨rfl, hy0, hb, hkp⟩; refine ⟨_, rfl, ?_⟩; have aA := aM (Kd.R_mono (ok' := fun k_ => some k_ ≠ (.slice cu aT.length cl : Value).ownBlock) (Kd.R_keptB (aQ.out) hkp (fun k_ hk_ hs_ => (hk_) hs_)) (fun k_ hk_ => hk_.1)); have aC := aM (Kd.R_reok rfl hy0 (fun k_ e_ => aE.out.1 k_ e_)); have aG := aM (hb); clear aQ; clear aE; clear HB; have aQ := aA; have aE := aC; have HB := aG; clear aA aC aG; (try clear hb); (try clear hkp); (try clear hy0)) | ((with_reducible refine aq (f := 16) rfl ?_); refine goesL_ (some 38) rfl rfl Try.func16 z0 rfl #[.slice cu a6.length cl, .int .i64 1] rfl (by (try simp only [List.map_toArray, List.map_cons, List.map_nil]); first | done | (rw [show a6.length = aT.length from (ag aE.out).1.symm] <;> rfl) | rfl | (simp only [List.length_drop, List.length_take]; rfl)) ?_; (with_reducible refine (laws_heldRuleS.calls kj4 _ _ a6 1 bl _ ?side1 ?side2 dU.out).mono ?_); (case side1 => repeat (first | exact (ag aE.out).2.2 | (with_reducible refine ao ?_ _) | (with_reducible refine ap ?_ _) | (with_reducible refine Kd.C_drew ?_))); (case side2 => rw [show a6.length = aT.length from (ag aE.out).1.symm]; exact (ag aE.out).2.1); rintro e w22 ⟨rfl, hb⟩; refine ⟨_, rfl, ?_⟩; have aA := aM (af (by (with_reducible repeat (first | apply ac | apply ab | apply aa)); exact aQ.out) hb); have aC := aM (af (by (with_reducible repeat (first | apply ac | apply ab | apply aa)); exact aE.out) hb); have aG := aM (al z6 hb); clear aQ; clear aE; clear HB; have aQ := aA; have aE := aC; have HB := aG; clear aA aC aG; (try clear hb); (try clear hb2); (try clear hk); (try clear hi)))
       go_ret
       exact ⟨y2, y3⟩
     ·rw [if_neg cd] at H
      have c19b0 : decide (bl < 0) = false := dF cd
      clear cd
      by_cases cb : bl = bm
      ·rw [if_pos cb] at H
       have c23b0 : (bl == bm) = true := qT cb
       have c23b1 : (bl != bm) = false := nF cb
       clear cb
       replace H := oB H
       obtain ⟨⟨cg, df⟩, dC, H⟩ := H
       try dsimp only at H
       have A24 := aM dC
       clear dC
       have da := aM H
       clear H
       obtain ⟨bU, bS, eo26⟩ := Kd.R_slice aE.out
       subst eo26
       go_upto_region 16 with (first | ((with_reducible refine aq (f := 15) rfl ?_); refine goesL_ (some 35) rfl rfl Try.func15 z0 rfl #[.slice bU aT.length bS, .int .i64 1] rfl z7 ?_; (with_reducible refine (laws_markRuleS.calls kj4 (fun k_ => some k_ = (.slice bU aT.length bS : Value).ownBlock) (.slice bU aT.length bS) aT 1 bm a6 w _ ?side1 ?side2 dV.out).mono ?_); (case side1 => repeat (first | (with_reducible first | exact HB.out | apply bA | apply pD | apply bD) | exact HB.out)); (case side2 => exact Kd.R_tight rfl aE.out); rintro e w27 ⟨rfl, hy0, hb, hkp⟩; refine ⟨_, rfl, ?_⟩; have aA := aM (Kd.R_mono (ok' := fun k_ => some k_ ≠ (.slice bU aT.length bS : Value).ownBlock) (Kd.R_keptB (aQ.out) hkp (fun k_ hk_ hs_ => (hk_) hs_)) (fun k_ hk_ => hk_.1)); have aC := aM (Kd.R_reok rfl hy0 (fun k_ e_ => aE.out.1 k_ e_)); have aG := aM (hb); clear aQ; clear aE; clear HB; have aQ := aA; have aE := aC; have HB := aG; clear aA aC aG; (try clear hb); (try clear hkp); (try clear hy0)) | ((with_reducible refine aq (f := 16) rfl ?_); refine goesL_ (some 38) rfl rfl Try.func16 z0 rfl #[.slice bU a6.length bS, .int .i64 1] rfl (by (try simp only [List.map_toArray, List.map_cons, List.map_nil]); first | done | (rw [show a6.length = aT.length from (ag aE.out).1.symm] <;> rfl) | rfl | (simp only [List.length_drop, List.length_take]; rfl)) ?_; (with_reducible refine (laws_heldRuleS.calls kj4 _ _ a6 1 bl _ ?side1 ?side2 dU.out).mono ?_); (case side1 => repeat (first | exact (ag aE.out).2.2 | (with_reducible refine ao ?_ _) | (with_reducible refine ap ?_ _) | (with_reducible refine Kd.C_drew ?_))); (case side2 => rw [show a6.length = aT.length from (ag aE.out).1.symm]; exact (ag aE.out).2.1); rintro e w28 ⟨rfl, hb⟩; refine ⟨_, rfl, ?_⟩; have aA := aM (af (by (with_reducible repeat (first | apply ac | apply ab | apply aa)); exact aQ.out) hb); have aC := aM (af (by (with_reducible repeat (first | apply ac | apply ab | apply aa)); exact aE.out) hb); have aG := aM (al z6 hb); clear aQ; clear aE; clear HB; have aQ := aA; have aE := aC; have HB := aG; clear aA aC aG; (try clear hb); (try clear hb2); (try clear hk); (try clear hi)) | ((with_reducible refine aq (f := 14) rfl ?_); refine goesL_ (some 46) rfl rfl Try.func14 z0 rfl #[.string a0] rfl z7 ?_; (with_reducible refine (impl_ReadSchema.calls kj4 a0 cg df _ A24.out).mono ?_); rintro e w29 ⟨v189, rfl, ho0, hb⟩; refine ⟨_, rfl, ?_⟩; have aA := aM (Kd.R_elder' (by (with_reducible repeat (first | apply ac | apply ab | apply aa)); exact aQ.out) (Kd.R_base ho0) hb); have aC := aM (Kd.R_elder' (by (with_reducible repeat (first | apply ac | apply ab | apply aa)); exact aE.out) (Kd.R_base ho0) hb); have aG := aM (Kd.R_lower (Kd.R_new' (Kd.R_new' ho0 (Kd.R_lt (by (with_reducible repeat (first | apply ac | apply ab | apply aa)); exact aQ.out))) (Kd.R_lt (by (with_reducible repeat (first | apply ac | apply ab | apply aa)); exact aE.out))) (am z6)); have aN := aM (al z6 hb); clear aQ; clear aE; clear HB; have aQ := aA; have aE := aC; have bd := aG; have HB := aN; clear aA aC aG aN; (try clear hb); (try clear hb2); (try clear hk); (try clear hi); (try clear ho0)))
       (try simp only [Act.put, sA, sB, sC])
       go_cut [57] (fun v57 wc => ∃ (kq : Nat) (x57_24 : Bool), v57 = .bool x57_24 ∧ Aside0 (laws_FnExactReadSchema.j1 kq a6 bm x57_24 = some r) ∧ Aside0 (kq ≤ kj4) ∧ Aside0 (Kd.R k38 38 wc w.heap.size (fun _ => True) (.slice bU aT.length bS) a6) ∧ Aside0 (Below w.heap.size w wc))
       case first =>
        have H := da.out
        clear da
        replace H := oB H
        obtain ⟨cN, dB, H⟩ := H
        try dsimp only at H
        have cx := aM dB
        clear dB
        by_cases cn : cN = true
        ·subst cn
         rw [if_pos rfl] at H
         have H' := aM H
         clear H
         obtain ⟨Ao32, co32, eo32⟩ := Kd.R_slice bd.out
         subst eo32
         obtain ⟨Ao33, co33, eo33⟩ := Kd.R_slice aQ.out
         subst eo33
         go_wp2_with (first | ((with_reducible refine aq (f := 10) rfl ?_); refine goesL_ (some 51) rfl rfl Try.func10 z0 rfl #[.slice Ao32 cg.length co32, .slice Ao33 bB.length co33] rfl z7 ?_; (with_reducible refine (laws_eqRuleS.calls kj4 _ _ cg _ _ bB true _ ?side1 ?side2 ?side3 ?side4 cx.out).mono ?_); (case side1 => repeat (first | exact (ag bd.out).2.2 | (with_reducible refine ao ?_ _) | (with_reducible refine ap ?_ _) | (with_reducible refine Kd.C_drew ?_))); (case side2 => exact (ag bd.out).2.1); (case side3 => repeat (first | exact (ag aQ.out).2.2 | (with_reducible refine ao ?_ _) | (with_reducible refine ap ?_ _) | (with_reducible refine Kd.C_drew ?_))); (case side4 => exact (ag aQ.out).2.1); rintro e w34 ⟨rfl, hb⟩; refine ⟨_, rfl, ?_⟩; have aA := aM (af (by (with_reducible repeat (first | apply ac | apply ab | apply aa)); exact aQ.out) hb); have aC := aM (af (by (with_reducible repeat (first | apply ac | apply ab | apply aa)); exact aE.out) hb); have aG := aM (af (by (with_reducible repeat (first | apply ac | apply ab | apply aa)); exact bd.out) hb); have aN := aM (al z6 hb); clear aQ; clear aE; clear bd; clear HB; have aQ := aA; have aE := aC; have bd := aG; have HB := aN; clear aA aC aG aN; (try clear hb); (try clear hb2); (try clear hk); (try clear hi)))
         go_meet
         case rel => exact ⟨_, ((df != cB)), z1, H', ⟨by have := dX.out; first | omega | exact Nat.le_refl _⟩, ⟨by (with_reducible repeat (first | apply ac | apply ab | apply aa)); exact Kd.R_mono aE.out (fun _ hk => trivial)⟩, ⟨y3⟩⟩
        ·replace cn := Bool.eq_false_iff.mpr cn
         subst cn
         rw [if_neg (show ¬ (false = true) by decide)] at H
         have H' := aM H
         clear H
         obtain ⟨Ao35, co35, eo35⟩ := Kd.R_slice bd.out
         subst eo35
         obtain ⟨Ao36, co36, eo36⟩ := Kd.R_slice aQ.out
         subst eo36
         go_wp2_with (first | ((with_reducible refine aq (f := 10) rfl ?_); refine goesL_ (some 51) rfl rfl Try.func10 z0 rfl #[.slice Ao35 cg.length co35, .slice Ao36 bB.length co36] rfl z7 ?_; (with_reducible refine (laws_eqRuleS.calls kj4 _ _ cg _ _ bB false _ ?side1 ?side2 ?side3 ?side4 cx.out).mono ?_); (case side1 => repeat (first | exact (ag bd.out).2.2 | (with_reducible refine ao ?_ _) | (with_reducible refine ap ?_ _) | (with_reducible refine Kd.C_drew ?_))); (case side2 => exact (ag bd.out).2.1); (case side3 => repeat (first | exact (ag aQ.out).2.2 | (with_reducible refine ao ?_ _) | (with_reducible refine ap ?_ _) | (with_reducible refine Kd.C_drew ?_))); (case side4 => exact (ag aQ.out).2.1); rintro e w37 ⟨rfl, hb⟩; refine ⟨_, rfl, ?_⟩; have aA := aM (af (by (with_reducible repeat (first | apply ac | apply ab | apply aa)); exact aQ.out) hb); have aC := aM (af (by (with_reducible repeat (first | apply ac | apply ab | apply aa)); exact aE.out) hb); have aG := aM (af (by (with_reducible repeat (first | apply ac | apply ab | apply aa)); exact bd.out) hb); have aN := aM (al z6 hb); clear aQ; clear aE; clear bd; clear HB; have aQ := aA; have aE := aC; have bd := aG; have HB := aN; clear aA aC aG aN; (try clear hb); (try clear hb2); (try clear hk); (try clear hi)))
         go_meet
         case rel => exact ⟨_, (true), z1, H', ⟨by have := dX.out; first | omega | exact Nat.le_refl _⟩, ⟨by (with_reducible repeat (first | apply ac | apply ab | apply aa)); exact Kd.R_mono aE.out (fun _ hk => trivial)⟩, ⟨y3⟩⟩
       case rest =>
        clear da
        try clear c1
        try clear c2
        try clear c2b0
        try clear c2b1
        try clear p2
        try clear c3
        try clear c5
        try clear c9
        try clear bK
        try clear bG
        try clear b9
        try clear cq
        try clear cp
        try clear cd
        try clear c19b0
        try clear cb
        try clear c23b0
        try clear c23b1
        try clear cn
        try clear p2
        obtain ⟨kq, x57_24, rfl, HA, HJ24, aE, HB⟩ := hcut
        have hl5_24 := (ag aE.out).1
        rw [hl5_24] at aE
        (try simp only [hl5_24])
        cases kq with
        | zero => exact absurd HA.out (by simp [laws_FnExactReadSchema.j1])
        | succ kj24 =>
         have H := HA.out
         clear HA
         simp only [laws_FnExactReadSchema.j1] at H
         by_cases cm : x57_24 = true
         ·subst cm
          rw [if_pos rfl] at H
          first | (cases H.trans (congrArg some HRT.out); done) | skip
          all_goals
           obtain rfl := sI H
           go_wp2
           go_ret
           exact ⟨y2, y3⟩
         ·replace cm := Bool.eq_false_iff.mpr cm
          subst cm
          rw [if_neg (show ¬ (false = true) by decide)] at H
          replace H := oB H
          obtain ⟨bk, du, H⟩ := H
          try dsimp only at H
          have dS := aM du
          clear du
          by_cases b4 : bk < 0
          ·rw [if_pos b4] at H
           have c40b0 : decide (bk < 0) = true := dT b4
           clear b4
           first | (cases H.trans (congrArg some HRT.out); done) | skip
           all_goals
            obtain rfl := sI H
            go_wp2_with (first | ((with_reducible refine aq (f := 16) rfl ?_); refine goesL_ (some 60) rfl rfl Try.func16 z0 rfl #[.slice bU a6.length bS, .int .i64 1] rfl z7 ?_; (with_reducible refine (laws_heldRuleS.calls kj24 _ _ a6 1 bk _ ?side1 ?side2 dS.out).mono ?_); (case side1 => repeat (first | exact (ag aE.out).2.2 | (with_reducible refine ao ?_ _) | (with_reducible refine ap ?_ _) | (with_reducible refine Kd.C_drew ?_))); (case side2 => exact (ag aE.out).2.1); rintro e w41 ⟨rfl, hb⟩; refine ⟨_, rfl, ?_⟩; have aA := aM (af (by (with_reducible repeat (first | apply ac | apply ab | apply aa)); exact aE.out) hb); have aC := aM (al z6 hb); clear aE; clear HB; have aE := aA; have HB := aC; clear aA aC; (try clear hb); (try clear hb2); (try clear hk); (try clear hi)))
            go_ret
            exact ⟨y2, y3⟩
          ·rw [if_neg b4] at H
           have c40b0 : decide (bk < 0) = false := dF b4
           clear b4
           by_cases bH : bk = bm
           ·rw [if_pos bH] at H
            have c42b0 : (bk == bm) = true := qT bH
            have c42b1 : (bk != bm) = false := nF bH
            clear bH
            first | (cases H.trans (congrArg some HRT.out); done) | skip
            all_goals
             obtain rfl := sI H
             go_wp2_with (first | ((with_reducible refine aq (f := 16) rfl ?_); refine goesL_ (some 60) rfl rfl Try.func16 z0 rfl #[.slice bU a6.length bS, .int .i64 1] rfl z7 ?_; (with_reducible refine (laws_heldRuleS.calls kj24 _ _ a6 1 bk _ ?side1 ?side2 dS.out).mono ?_); (case side1 => repeat (first | exact (ag aE.out).2.2 | (with_reducible refine ao ?_ _) | (with_reducible refine ap ?_ _) | (with_reducible refine Kd.C_drew ?_))); (case side2 => exact (ag aE.out).2.1); rintro e w43 ⟨rfl, hb⟩; refine ⟨_, rfl, ?_⟩; have aA := aM (af (by (with_reducible repeat (first | apply ac | apply ab | apply aa)); exact aE.out) hb); have aC := aM (al z6 hb); clear aE; clear HB; have aE := aA; have HB := aC; clear aA aC; (try clear hb); (try clear hb2); (try clear hk); (try clear hi)))
             go_ret
             exact ⟨y2, y3⟩
           ·rw [if_neg bH] at H
            have c42b0 : (bk == bm) = false := qF bH
            have c42b1 : (bk != bm) = true := nT bH
            first | (cases H.trans (congrArg some HRT.out); done) | skip
            all_goals
             obtain rfl := sI H
             go_wp2_with (first | ((with_reducible refine aq (f := 16) rfl ?_); refine goesL_ (some 60) rfl rfl Try.func16 z0 rfl #[.slice bU a6.length bS, .int .i64 1] rfl z7 ?_; (with_reducible refine (laws_heldRuleS.calls kj24 _ _ a6 1 bk _ ?side1 ?side2 dS.out).mono ?_); (case side1 => repeat (first | exact (ag aE.out).2.2 | (with_reducible refine ao ?_ _) | (with_reducible refine ap ?_ _) | (with_reducible refine Kd.C_drew ?_))); (case side2 => exact (ag aE.out).2.1); rintro e w44 ⟨rfl, hb⟩; refine ⟨_, rfl, ?_⟩; have aA := aM (af (by (with_reducible repeat (first | apply ac | apply ab | apply aa)); exact aE.out) hb); have aC := aM (al z6 hb); clear aE; clear HB; have aE := aA; have HB := aC; clear aA aC; (try clear hb); (try clear hb2); (try clear hk); (try clear hi)))
             go_ret
             exact ⟨y2, y3⟩
      ·rw [if_neg cb] at H
       have c23b0 : (bl == bm) = false := qF cb
       have c23b1 : (bl != bm) = true := nT cb
       first | (cases H.trans (congrArg some HRT.out); done) | skip
       all_goals
        obtain rfl := sI H
        obtain ⟨b7, b6, eo45⟩ := Kd.R_slice aE.out
        subst eo45
        go_wp2_with (first | ((with_reducible refine aq (f := 15) rfl ?_); refine goesL_ (some 35) rfl rfl Try.func15 z0 rfl #[.slice b7 aT.length b6, .int .i64 1] rfl z7 ?_; (with_reducible refine (laws_markRuleS.calls kj4 (fun k_ => some k_ = (.slice b7 aT.length b6 : Value).ownBlock) (.slice b7 aT.length b6) aT 1 bm a6 w _ ?side1 ?side2 dV.out).mono ?_); (case side1 => repeat (first | (with_reducible first | exact HB.out | apply bA | apply pD | apply bD) | exact HB.out)); (case side2 => exact Kd.R_tight rfl aE.out); rintro e w46 ⟨rfl, hy0, hb, hkp⟩; refine ⟨_, rfl, ?_⟩; have aA := aM (Kd.R_mono (ok' := fun k_ => some k_ ≠ (.slice b7 aT.length b6 : Value).ownBlock) (Kd.R_keptB (aQ.out) hkp (fun k_ hk_ hs_ => (hk_) hs_)) (fun k_ hk_ => hk_.1)); have aC := aM (Kd.R_reok rfl hy0 (fun k_ e_ => aE.out.1 k_ e_)); have aG := aM (hb); clear aQ; clear aE; clear HB; have aQ := aA; have aE := aC; have HB := aG; clear aA aC aG; (try clear hb); (try clear hkp); (try clear hy0)) | ((with_reducible refine aq (f := 16) rfl ?_); refine goesL_ (some 38) rfl rfl Try.func16 z0 rfl #[.slice b7 a6.length b6, .int .i64 1] rfl (by (try simp only [List.map_toArray, List.map_cons, List.map_nil]); first | done | (rw [show a6.length = aT.length from (ag aE.out).1.symm] <;> rfl) | rfl | (simp only [List.length_drop, List.length_take]; rfl)) ?_; (with_reducible refine (laws_heldRuleS.calls kj4 _ _ a6 1 bl _ ?side1 ?side2 dU.out).mono ?_); (case side1 => repeat (first | exact (ag aE.out).2.2 | (with_reducible refine ao ?_ _) | (with_reducible refine ap ?_ _) | (with_reducible refine Kd.C_drew ?_))); (case side2 => rw [show a6.length = aT.length from (ag aE.out).1.symm]; exact (ag aE.out).2.1); rintro e w47 ⟨rfl, hb⟩; refine ⟨_, rfl, ?_⟩; have aA := aM (af (by (with_reducible repeat (first | apply ac | apply ab | apply aa)); exact aQ.out) hb); have aC := aM (af (by (with_reducible repeat (first | apply ac | apply ab | apply aa)); exact aE.out) hb); have aG := aM (al z6 hb); clear aQ; clear aE; clear HB; have aQ := aA; have aE := aC; have HB := aG; clear aA aC aG; (try clear hb); (try clear hb2); (try clear hk); (try clear hi)))
        go_ret
        exact ⟨y2, y3⟩

/-- THE ONE PURE STATEMENT of laws_FnExactReadSchema: yours. -/
def laws_FnExactReadSchema.Pure : Prop := ∀ (a0 : ByteArray), a0.size ≤ 140737488351232 → ∃ k, laws_FnExactReadSchema.f k a0 = some true
theorem laws_FnExactReadSchema.walk (P : laws_FnExactReadSchema.Pure) (a0 : ByteArray) (w : World) (w0 : a0.size ≤ 140737488351232) :
  Calls Try.prog 5 #[.string a0] w fun e w' => e = .returned (.bool true) ∧ Below w.heap.size w w' := by
 obtain ⟨k, h⟩ := P a0 w0
 refine (laws_FnExactReadSchema.calls k a0 true ⟨rfl⟩ w h).mono ?_
 rintro e w' ⟨rfl, hd⟩
 exact ⟨rfl, hd⟩

end Go.Proofs.Ytihjaagamihhkaa.AFnExactReadSchema
