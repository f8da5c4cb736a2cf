-- this session's own text: written by wip/tools/ownprint.py over the kit's print
import Derived.Test.YtifllccpfiobfaaAFnExactMergeThreex0
import Derived.Test.YtifllccpfiobfaaAFnExactMergeThreex5
import Derived.Test.YtifllccpfiobfaaAFnExactMergeThreex6
namespace Go.Proofs.Ytifllccpfiobfaa.AFnExactMergeThree
open Go.RowKit Go.Proofs.YtifllccpfiobfaaW.PrintWords Go.Proofs.YtifllccpfiobfaaW.PrintLast Go.Proofs.YtifllccpfiobfaaW.PrintMore
attribute [local go_sem] max2_int min2_int max_two min_two max_three min_three max_four min_four   -- for this text's walks alone
set_option linter.unusedVariables false
set_option linter.unusedSimpArgs false

/-! ### spec_TransformOps: function 16 -/
def spec_TransformOps.j0 : Nat → List (S44) → List (S44) → Bool → Option ((List (S44)) × (List (S44)) × Bool)
 | 0, _, _, _ => none
 | k + 1, x0, x1, x17 => if x17 = true then (some (([] : List (S44)), ([] : List (S44)), false)) else ((spec_l4Transform.f k x0 x1).bind fun hX => (if hX.2.2 = true then ((spec_GoodOp.f k hX.1).bind fun l4 => (if l4 = true then ((spec_GoodOp.f k hX.2.1).bind fun l3 => (if l3 = true then (some (hX.1, hX.2.1, true)) else (some (([] : List (S44)), ([] : List (S44)), false)))) else (some (([] : List (S44)), ([] : List (S44)), false)))) else (some (([] : List (S44)), ([] : List (S44)), false))))
def spec_TransformOps.f (k : Nat) (l0 : List (S44)) (l1 : List (S44)) : Option ((List (S44)) × (List (S44)) × Bool) := (spec_GoodOp.f k l0).bind fun kt => (if kt = true then ((spec_GoodOp.f k l1).bind fun jI => (spec_TransformOps.j0 k l0 l1 (!jI))) else (spec_TransformOps.j0 k l0 l1 true))
theorem spec_TransformOps.mono_l : ∀ k, (∀ y0 y1 y2, LeO (spec_TransformOps.j0 k y0 y1 y2) (spec_TransformOps.j0 (k + 1) y0 y1 y2))
 | 0 => fun _ _ _ r h => by simp [spec_TransformOps.j0] at h
 | k + 1 => by
  have ih0 := spec_TransformOps.mono_l k
  ·intro y0 y1 y2
   unfold spec_TransformOps.j0
   repeat' first
   | (with_reducible exact ih0 _ _ _)
   | (with_reducible exact spec_GoodOp.mono _ _)
   | (with_reducible exact spec_l4Transform.mono _ _ _)
   | (with_reducible exact LeO.refl _)
   | (with_reducible exact LeO.none _)
   | (with_reducible refine LeO.ite ?_ ?_)
   | (with_reducible refine LeO.bind ?_ (fun _ => ?_))
   | exact ih0 _ _ _
   | exact spec_GoodOp.mono _ _
   | exact spec_l4Transform.mono _ _ _
   | exact LeO.none _
   | refine LeO.ite ?_ ?_
   | refine LeO.bind ?_ (fun _ => ?_)
theorem spec_TransformOps.mono : ∀ a0 a1 k, LeO (spec_TransformOps.f k a0 a1) (spec_TransformOps.f (k + 1) a0 a1) := by
 intro a0 a1 k
 have ih0 := spec_TransformOps.mono_l k
 unfold spec_TransformOps.f
 repeat' first
   | (with_reducible exact ih0 _ _ _)
   | (with_reducible exact spec_GoodOp.mono _ _)
   | (with_reducible exact spec_l4Transform.mono _ _ _)
   | (with_reducible exact LeO.refl _)
   | (with_reducible exact LeO.none _)
   | (with_reducible refine LeO.ite ?_ ?_)
   | (with_reducible refine LeO.bind ?_ (fun _ => ?_))
   | exact ih0 _ _ _
   | exact spec_GoodOp.mono _ _
   | exact spec_l4Transform.mono _ _ _
   | exact LeO.none _
   | refine LeO.ite ?_ ?_
   | refine LeO.bind ?_ (fun _ => ?_)
set_option maxHeartbeats 8000000 in
set_option maxRecDepth 100000 in
theorem spec_TransformOps.calls (k : Nat) (A0 : Option Addr) (c0 : Nat) (l0 : List (S44)) (A1 : Option Addr) (c1 : Nat) (l1 : List (S44)) (r1 : List (S44)) (r2 : List (S44)) (r3 : Bool) (w : World) (hr0 : Kd.C k44 w A0 l0.length l0) (hc0 : l0.length ≤ c0) (hr1 : Kd.C k44 w A1 l1.length l1) (hc1 : l1.length ≤ c1) (h : spec_TransformOps.f k l0 l1 = some (r1, r2, r3)) :
  Calls Try.prog 16 #[.slice A0 l0.length c0, .slice A1 l1.length c1] w fun e w' => ∃ v0_ v1_ : Value, e = .returned (.tuple #[v0_, v1_, .bool r3]) ∧ Kd.R k44 44 w' w.heap.size (fun k_ => some k_ ≠ (v1_ : Value).ownBlock) v0_ r1 ∧ Kd.R k44 44 w' w.heap.size (fun k_ => some k_ ≠ (v0_ : Value).ownBlock) v1_ r2 ∧ Below w.heap.size w w' := by
 have bG := aM hr0
 have b8 := aM hc0
 clear hr0 hc0
 have cz := aM hr1
 have dg := aM hc1
 clear hr1 hc1
 have HB := aM (Below.refl w.heap.size w)
 have H : ((spec_GoodOp.f k l0).bind fun kt => (if kt = true then ((spec_GoodOp.f k l1).bind fun jI => (spec_TransformOps.j0 k l0 l1 (!jI))) else (spec_TransformOps.j0 k l0 l1 true))) = some (r1, r2, r3) := h
 clear h
 have gT := aM H
 clear H
 go_enter Try.func16, Try.ntmps16
 go_upto_region 1 with (fail)
 go_cut [17] (fun v17 wc => ∃ (kq : Nat) (x17_2 : Bool), v17 = .bool x17_2 ∧ Aside0 (spec_TransformOps.j0 kq l0 l1 x17_2 = some (r1, r2, r3)) ∧ Aside0 (kq ≤ k) ∧ Aside0 (Below w.heap.size w wc))
 case first =>
  have H := gT.out
  clear gT
  replace H := oB H
  obtain ⟨kt, eE, H⟩ := H
  try dsimp only at H
  have A4 := aM eE
  clear eE
  by_cases c5 : kt = true
  ·subst c5
   rw [if_pos rfl] at H
   replace H := oB H
   obtain ⟨jI, ez, H⟩ := H
   try dsimp only at H
   have A6 := aM ez
   clear ez
   have H' := aM H
   clear H
   go_wp2_with (first | ((with_reducible refine aC (f := 40) rfl ?_); refine aG (some 11) rfl rfl Try.func40 z0 rfl #[.slice A0 l0.length c0] rfl z10 ?_; (with_reducible refine (spec_GoodOp.calls k _ _ l0 true _ ?side1 ?side2 A4.out).mono ?_); (case side1 => repeat (first | exact (au bG.out HB.out) | (with_reducible refine av ?_ _) | (with_reducible refine aw ?_ _) | (with_reducible refine ay ?_))); (case side2 => exact b8.out); rintro e w7 ⟨rfl, hb⟩; refine ⟨_, rfl, ?_⟩; have aT := aM (ap z9 hb); clear HB; have HB := aT; clear aT; (try clear hb); (try clear hb2); (try clear hk); (try clear hi)) | (go_at_call 40; (with_reducible refine (spec_GoodOp.calls k _ _ l1 jI _ ?side1 ?side2 A6.out).mono ?_); (case side1 => repeat (first | exact (au cz.out HB.out) | (with_reducible refine av ?_ _) | (with_reducible refine aw ?_ _) | (with_reducible refine ay ?_))); (case side2 => exact dg.out); rintro e w8 ⟨rfl, hb⟩; have aT := aM (ap z9 hb); clear HB; have HB := aT; clear aT; (try clear hb); (try clear hb2); (try clear hk); (try clear hi)))
   go_meet
   case rel => exact ⟨_, (!jI), z1, H', ⟨y1⟩, ⟨y5⟩⟩
  ·replace c5 := Bool.eq_false_iff.mpr c5
   subst c5
   rw [if_neg (show ¬ (false = true) by decide)] at H
   have H' := aM H
   clear H
   go_wp2_with (first | ((with_reducible refine aC (f := 40) rfl ?_); refine aG (some 11) rfl rfl Try.func40 z0 rfl #[.slice A0 l0.length c0] rfl z10 ?_; (with_reducible refine (spec_GoodOp.calls k _ _ l0 false _ ?side1 ?side2 A4.out).mono ?_); (case side1 => repeat (first | exact (au bG.out HB.out) | (with_reducible refine av ?_ _) | (with_reducible refine aw ?_ _) | (with_reducible refine ay ?_))); (case side2 => exact b8.out); rintro e w9 ⟨rfl, hb⟩; refine ⟨_, rfl, ?_⟩; have aT := aM (ap z9 hb); clear HB; have HB := aT; clear aT; (try clear hb); (try clear hb2); (try clear hk); (try clear hi)))
   go_meet
   case rel => exact ⟨_, (true), z1, H', ⟨y1⟩, ⟨y5⟩⟩
 case rest =>
  clear gT
  try clear c1
  try clear p2
  try clear c4
  try clear c5
  obtain ⟨kq, x17_2, rfl, HA, eB, HB⟩ := hcut
  cases kq with
  | zero => exact absurd HA.out (by simp [spec_TransformOps.j0])
  | succ kj2 =>
   have H := HA.out
   clear HA
   simp only [spec_TransformOps.j0] at H
   by_cases bz : x17_2 = true
   ·subst bz
    rw [if_pos rfl] at H
    simp only [Option.some.injEq, Prod.mk.injEq] at H
    obtain ⟨rfl, rfl, rfl⟩ := H
    go_wp2
    go_ret3
    exact ⟨_, _, y4, y21, y21, y5⟩
   ·replace bz := Bool.eq_false_iff.mpr bz
    subst bz
    rw [if_neg (show ¬ (false = true) by decide)] at H
    replace H := oB H
    obtain ⟨⟨il, jH, t220⟩, da, H⟩ := H
    try dsimp only at H
    have eG := aM da
    clear da
    by_cases cd : t220 = true
    ·subst cd
     rw [if_pos rfl] at H
     replace H := oB H
     obtain ⟨l4, fv, H⟩ := H
     try dsimp only at H
     have iE := aM fv
     clear fv
     by_cases ce : l4 = true
     ·subst ce
      rw [if_pos rfl] at H
      replace H := oB H
      obtain ⟨l3, k9, H⟩ := H
      try dsimp only at H
      have mw := aM k9
      clear k9
      by_cases cG : l3 = true
      ·subst cG
       rw [if_pos rfl] at H
       simp only [Option.some.injEq, Prod.mk.injEq] at H
       obtain ⟨rfl, rfl, rfl⟩ := H
       go_wp2_with (first | ((with_reducible refine aC (f := 41) rfl ?_); refine aG (some 21) rfl rfl Try.func41 z0 rfl #[.slice A0 l0.length c0, .slice A1 l1.length c1] rfl z10 ?_; (with_reducible refine (spec_l4Transform.calls kj2 _ _ l0 _ _ l1 il jH true _ ?side1 ?side2 ?side3 ?side4 eG.out).mono ?_); (case side1 => repeat (first | exact (au bG.out HB.out) | (with_reducible refine av ?_ _) | (with_reducible refine aw ?_ _) | (with_reducible refine ay ?_))); (case side2 => exact b8.out); (case side3 => repeat (first | exact (au cz.out HB.out) | (with_reducible refine av ?_ _) | (with_reducible refine aw ?_ _) | (with_reducible refine ay ?_))); (case side4 => exact dg.out); rintro e w17 ⟨v221, v223, rfl, ho0, ho1, hb⟩; refine ⟨_, rfl, ?_⟩; have aT := aM (aH ho0 (aq z9)); have aU := aM (aH ho1 (aq z9)); have aX := aM (ap z9 hb); clear HB; have bS := aT; have b7 := aU; have HB := aX; clear aT aU aX; (try clear hb); (try clear hb2); (try clear hk); (try clear hi); (try clear ho0); (try clear ho1); obtain ⟨iD, iw, eo18⟩ := Kd.R_slice bS.out; subst eo18) | (go_at_call 40; (with_reducible refine (spec_GoodOp.calls kj2 _ _ il true _ ?side1 ?side2 iE.out).mono ?_); (case side1 => repeat (first | exact (ag bS.out).2.2 | (with_reducible refine av ?_ _) | (with_reducible refine aw ?_ _) | (with_reducible refine ay ?_))); (case side2 => exact (ag bS.out).2.1); rintro e w19 ⟨rfl, hb⟩; have aT := aM (ae (by (with_reducible repeat (first | apply ac | apply ab | apply aa)); exact bS.out) hb); have aU := aM (ae (by (with_reducible repeat (first | apply ac | apply ab | apply aa)); exact b7.out) hb); have aX := aM (ap z9 hb); clear bS; clear b7; clear HB; have bS := aT; have b7 := aU; have HB := aX; clear aT aU aX; (try clear hb); (try clear hb2); (try clear hk); (try clear hi); obtain ⟨jY, jR, eo20⟩ := Kd.R_slice b7.out; subst eo20) | (go_at_call 40; (with_reducible refine (spec_GoodOp.calls kj2 _ _ jH true _ ?side1 ?side2 mw.out).mono ?_); (case side1 => repeat (first | exact (ag b7.out).2.2 | (with_reducible refine av ?_ _) | (with_reducible refine aw ?_ _) | (with_reducible refine ay ?_))); (case side2 => exact (ag b7.out).2.1); rintro e w21 ⟨rfl, hb⟩; have aT := aM (ae (by (with_reducible repeat (first | apply ac | apply ab | apply aa)); exact bS.out) hb); have aU := aM (ae (by (with_reducible repeat (first | apply ac | apply ab | apply aa)); exact b7.out) hb); have aX := aM (ap z9 hb); clear bS; clear b7; clear HB; have bS := aT; have b7 := aU; have HB := aX; clear aT aU aX; (try clear hb); (try clear hb2); (try clear hk); (try clear hi)))
       go_ret3
       exact ⟨_, _, y4, by (with_reducible repeat (first | apply ac | apply ab | apply aa)); exact bS.out, by (with_reducible repeat (first | apply ac | apply ab | apply aa)); exact b7.out, y5⟩
      ·replace cG := Bool.eq_false_iff.mpr cG
       subst cG
       rw [if_neg (show ¬ (false = true) by decide)] at H
       simp only [Option.some.injEq, Prod.mk.injEq] at H
       obtain ⟨rfl, rfl, rfl⟩ := H
       go_wp2_with (first | ((with_reducible refine aC (f := 41) rfl ?_); refine aG (some 21) rfl rfl Try.func41 z0 rfl #[.slice A0 l0.length c0, .slice A1 l1.length c1] rfl z10 ?_; (with_reducible refine (spec_l4Transform.calls kj2 _ _ l0 _ _ l1 il jH true _ ?side1 ?side2 ?side3 ?side4 eG.out).mono ?_); (case side1 => repeat (first | exact (au bG.out HB.out) | (with_reducible refine av ?_ _) | (with_reducible refine aw ?_ _) | (with_reducible refine ay ?_))); (case side2 => exact b8.out); (case side3 => repeat (first | exact (au cz.out HB.out) | (with_reducible refine av ?_ _) | (with_reducible refine aw ?_ _) | (with_reducible refine ay ?_))); (case side4 => exact dg.out); rintro e w22 ⟨v221, v223, rfl, ho0, ho1, hb⟩; refine ⟨_, rfl, ?_⟩; have aT := aM (aH ho0 (aq z9)); have aU := aM (aH ho1 (aq z9)); have aX := aM (ap z9 hb); clear HB; have bS := aT; have b7 := aU; have HB := aX; clear aT aU aX; (try clear hb); (try clear hb2); (try clear hk); (try clear hi); (try clear ho0); (try clear ho1); obtain ⟨nc, m5, eo23⟩ := Kd.R_slice bS.out; subst eo23) | (go_at_call 40; (with_reducible refine (spec_GoodOp.calls kj2 _ _ il true _ ?side1 ?side2 iE.out).mono ?_); (case side1 => repeat (first | exact (ag bS.out).2.2 | (with_reducible refine av ?_ _) | (with_reducible refine aw ?_ _) | (with_reducible refine ay ?_))); (case side2 => exact (ag bS.out).2.1); rintro e w24 ⟨rfl, hb⟩; have aT := aM (ae (by (with_reducible repeat (first | apply ac | apply ab | apply aa)); exact bS.out) hb); have aU := aM (ae (by (with_reducible repeat (first | apply ac | apply ab | apply aa)); exact b7.out) hb); have aX := aM (ap z9 hb); clear bS; clear b7; clear HB; have bS := aT; have b7 := aU; have HB := aX; clear aT aU aX; (try clear hb); (try clear hb2); (try clear hk); (try clear hi); obtain ⟨jX, jQ, eo25⟩ := Kd.R_slice b7.out; subst eo25) | (go_at_call 40; (with_reducible refine (spec_GoodOp.calls kj2 _ _ jH false _ ?side1 ?side2 mw.out).mono ?_); (case side1 => repeat (first | exact (ag b7.out).2.2 | (with_reducible refine av ?_ _) | (with_reducible refine aw ?_ _) | (with_reducible refine ay ?_))); (case side2 => exact (ag b7.out).2.1); rintro e w26 ⟨rfl, hb⟩; have aT := aM (ae (by (with_reducible repeat (first | apply ac | apply ab | apply aa)); exact bS.out) hb); have aU := aM (ae (by (with_reducible repeat (first | apply ac | apply ab | apply aa)); exact b7.out) hb); have aX := aM (ap z9 hb); clear bS; clear b7; clear HB; have bS := aT; have b7 := aU; have HB := aX; clear aT aU aX; (try clear hb); (try clear hb2); (try clear hk); (try clear hi)))
       go_ret3
       exact ⟨_, _, y4, y21, y21, y5⟩
     ·replace ce := Bool.eq_false_iff.mpr ce
      subst ce
      rw [if_neg (show ¬ (false = true) by decide)] at H
      simp only [Option.some.injEq, Prod.mk.injEq] at H
      obtain ⟨rfl, rfl, rfl⟩ := H
      go_wp2_with (first | ((with_reducible refine aC (f := 41) rfl ?_); refine aG (some 21) rfl rfl Try.func41 z0 rfl #[.slice A0 l0.length c0, .slice A1 l1.length c1] rfl z10 ?_; (with_reducible refine (spec_l4Transform.calls kj2 _ _ l0 _ _ l1 il jH true _ ?side1 ?side2 ?side3 ?side4 eG.out).mono ?_); (case side1 => repeat (first | exact (au bG.out HB.out) | (with_reducible refine av ?_ _) | (with_reducible refine aw ?_ _) | (with_reducible refine ay ?_))); (case side2 => exact b8.out); (case side3 => repeat (first | exact (au cz.out HB.out) | (with_reducible refine av ?_ _) | (with_reducible refine aw ?_ _) | (with_reducible refine ay ?_))); (case side4 => exact dg.out); rintro e w27 ⟨v221, v223, rfl, ho0, ho1, hb⟩; refine ⟨_, rfl, ?_⟩; have aT := aM (aH ho0 (aq z9)); have aU := aM (aH ho1 (aq z9)); have aX := aM (ap z9 hb); clear HB; have bS := aT; have b7 := aU; have HB := aX; clear aT aU aX; (try clear hb); (try clear hb2); (try clear hk); (try clear hi); (try clear ho0); (try clear ho1); obtain ⟨jW, jP, eo28⟩ := Kd.R_slice bS.out; subst eo28) | (go_at_call 40; (with_reducible refine (spec_GoodOp.calls kj2 _ _ il false _ ?side1 ?side2 iE.out).mono ?_); (case side1 => repeat (first | exact (ag bS.out).2.2 | (with_reducible refine av ?_ _) | (with_reducible refine aw ?_ _) | (with_reducible refine ay ?_))); (case side2 => exact (ag bS.out).2.1); rintro e w29 ⟨rfl, hb⟩; have aT := aM (ae (by (with_reducible repeat (first | apply ac | apply ab | apply aa)); exact bS.out) hb); have aU := aM (ae (by (with_reducible repeat (first | apply ac | apply ab | apply aa)); exact b7.out) hb); have aX := aM (ap z9 hb); clear bS; clear b7; clear HB; have bS := aT; have b7 := aU; have HB := aX; clear aT aU aX; (try clear hb); (try clear hb2); (try clear hk); (try clear hi)))
      go_ret3
      exact ⟨_, _, y4, y21, y21, y5⟩
    ·replace cd := Bool.eq_false_iff.mpr cd
     subst cd
     rw [if_neg (show ¬ (false = true) by decide)] at H
     simp only [Option.some.injEq, Prod.mk.injEq] at H
     obtain ⟨rfl, rfl, rfl⟩ := H
     go_wp2_with (first | ((with_reducible refine aC (f := 41) rfl ?_); refine aG (some 21) rfl rfl Try.func41 z0 rfl #[.slice A0 l0.length c0, .slice A1 l1.length c1] rfl z10 ?_; (with_reducible refine (spec_l4Transform.calls kj2 _ _ l0 _ _ l1 il jH false _ ?side1 ?side2 ?side3 ?side4 eG.out).mono ?_); (case side1 => repeat (first | exact (au bG.out HB.out) | (with_reducible refine av ?_ _) | (with_reducible refine aw ?_ _) | (with_reducible refine ay ?_))); (case side2 => exact b8.out); (case side3 => repeat (first | exact (au cz.out HB.out) | (with_reducible refine av ?_ _) | (with_reducible refine aw ?_ _) | (with_reducible refine ay ?_))); (case side4 => exact dg.out); rintro e w30 ⟨v221, v223, rfl, ho0, ho1, hb⟩; refine ⟨_, rfl, ?_⟩; have aT := aM (aH ho0 (aq z9)); have aU := aM (aH ho1 (aq z9)); have aX := aM (ap z9 hb); clear HB; have bS := aT; have b7 := aU; have HB := aX; clear aT aU aX; (try clear hb); (try clear hb2); (try clear hk); (try clear hi); (try clear ho0); (try clear ho1)))
     go_ret3
     exact ⟨_, _, y4, y21, y21, y5⟩

/-! ### spec_l4Runs: function 57 -/
mutual
def spec_l4Runs.l0 : Nat → List Int → Int → List (S44) → Int → Int → Option (List Int)
 | 0, _, _, _, _, _ => none
 | k + 1, x3, x4, x9, x10, x11 => if x11 < x10 then (if 0 ≤ x11 then (if x11 < (x9.length : Int) then (if 0 ≤ ((rd_T44 x9 x11).f0) then (if x3.length + ((rd_T44 x9 x11).f0 : Int).toNat < 17592186044416 then ((some (x3 ++ List.replicate ((rd_T44 x9 x11).f0 : Int).toNat 0 : List Int)).bind fun y232 => (if ((rd_T44 x9 x11).f2).toList = ([] : List UInt8) then (spec_l4Runs.j1 k y232 x4 x9 x10 x11 ((rd_T44 x9 x11).f0) ((rd_T44 x9 x11).f1) ((rd_T44 x9 x11).f2)) else (spec_l4Runs.j1 k y232 (wrap64 (x4 + 1)) x9 x10 x11 ((rd_T44 x9 x11).f0) ((rd_T44 x9 x11).f1) ((rd_T44 x9 x11).f2)))) else (none)) else (none)) else (none)) else (none)) else (some x3)
def spec_l4Runs.j1 : Nat → List Int → Int → List (S44) → Int → Int → Int → ByteArray → ByteArray → Option (List Int)
 | 0, _, _, _, _, _, _, _, _ => none
 | k + 1, x3, x4, x9, x10, x11, x232000, x232001, x232002 => spec_l4Runs.l1 k x3 x4 0 x9 x10 x11 x232000 x232001 x232002
def spec_l4Runs.l1 : Nat → List Int → Int → Int → List (S44) → Int → Int → Int → ByteArray → ByteArray → Option (List Int)
 | 0, _, _, _, _, _, _, _, _, _ => none
 | k + 1, x3, x4, x7, x9, x10, x11, x232000, x232001, x232002 => if x7 < (x232002.size : Int) then (if x3.length < 17592186044416 then (spec_l4Runs.l1 k (x3 ++ [x4]) x4 (wrap64 (x7 + 1)) x9 x10 x11 x232000 x232001 x232002) else (none)) else (spec_l4Runs.l0 k x3 x4 x9 x10 (wrap64 (x11 + 1)))
end
def spec_l4Runs.f (k : Nat) (l0 : List (S44)) : Option (List Int) := (spec_l3Normal.f k l0).bind fun bd => (spec_l4Runs.l0 k ([] : List Int) 0 bd (bd.length : Int) 0)
theorem spec_l4Runs.mono_l : ∀ k, (∀ y0 y1 y2 y3 y4, LeO (spec_l4Runs.l0 k y0 y1 y2 y3 y4) (spec_l4Runs.l0 (k + 1) y0 y1 y2 y3 y4)) ∧ (∀ y0 y1 y2 y3 y4 y5 y6 y7, LeO (spec_l4Runs.j1 k y0 y1 y2 y3 y4 y5 y6 y7) (spec_l4Runs.j1 (k + 1) y0 y1 y2 y3 y4 y5 y6 y7)) ∧ (∀ y0 y1 y2 y3 y4 y5 y6 y7 y8, LeO (spec_l4Runs.l1 k y0 y1 y2 y3 y4 y5 y6 y7 y8) (spec_l4Runs.l1 (k + 1) y0 y1 y2 y3 y4 y5 y6 y7 y8))
 | 0 => ⟨fun _ _ _ _ _ r h => by simp [spec_l4Runs.l0] at h, fun _ _ _ _ _ _ _ _ r h => by simp [spec_l4Runs.j1] at h, fun _ _ _ _ _ _ _ _ _ r h => by simp [spec_l4Runs.l1] at h⟩
 | k + 1 => by
  obtain ⟨ih0, ih1, ih2⟩ := spec_l4Runs.mono_l k
  refine ⟨?_, ?_, ?_⟩
  ·intro y0 y1 y2 y3 y4
   unfold spec_l4Runs.l0
   repeat' first
   | (with_reducible exact ih0 _ _ _ _ _)
   | (with_reducible exact ih1 _ _ _ _ _ _ _ _)
   | (with_reducible exact ih2 _ _ _ _ _ _ _ _ _)
   | (with_reducible exact spec_l3Normal.mono _ _)
   | (with_reducible exact LeO.refl _)
   | (with_reducible exact LeO.none _)
   | (with_reducible refine LeO.ite ?_ ?_)
   | (with_reducible refine LeO.bind ?_ (fun _ => ?_))
   | exact ih0 _ _ _ _ _
   | exact ih1 _ _ _ _ _ _ _ _
   | exact ih2 _ _ _ _ _ _ _ _ _
   | exact spec_l3Normal.mono _ _
   | exact LeO.none _
   | refine LeO.ite ?_ ?_
   | refine LeO.bind ?_ (fun _ => ?_)
  ·intro y0 y1 y2 y3 y4 y5 y6 y7
   unfold spec_l4Runs.j1
   repeat' first
   | (with_reducible exact ih0 _ _ _ _ _)
   | (with_reducible exact ih1 _ _ _ _ _ _ _ _)
   | (with_reducible exact ih2 _ _ _ _ _ _ _ _ _)
   | (with_reducible exact spec_l3Normal.mono _ _)
   | (with_reducible exact LeO.refl _)
   | (with_reducible exact LeO.none _)
   | (with_reducible refine LeO.ite ?_ ?_)
   | (with_reducible refine LeO.bind ?_ (fun _ => ?_))
   | exact ih0 _ _ _ _ _
   | exact ih1 _ _ _ _ _ _ _ _
   | exact ih2 _ _ _ _ _ _ _ _ _
   | exact spec_l3Normal.mono _ _
   | exact LeO.none _
   | refine LeO.ite ?_ ?_
   | refine LeO.bind ?_ (fun _ => ?_)
  ·intro y0 y1 y2 y3 y4 y5 y6 y7 y8
   unfold spec_l4Runs.l1
   repeat' first
   | (with_reducible exact ih0 _ _ _ _ _)
   | (with_reducible exact ih1 _ _ _ _ _ _ _ _)
   | (with_reducible exact ih2 _ _ _ _ _ _ _ _ _)
   | (with_reducible exact spec_l3Normal.mono _ _)
   | (with_reducible exact LeO.refl _)
   | (with_reducible exact LeO.none _)
   | (with_reducible refine LeO.ite ?_ ?_)
   | (with_reducible refine LeO.bind ?_ (fun _ => ?_))
   | exact ih0 _ _ _ _ _
   | exact ih1 _ _ _ _ _ _ _ _
   | exact ih2 _ _ _ _ _ _ _ _ _
   | exact spec_l3Normal.mono _ _
   | exact LeO.none _
   | refine LeO.ite ?_ ?_
   | refine LeO.bind ?_ (fun _ => ?_)
theorem spec_l4Runs.mono : ∀ a0 k, LeO (spec_l4Runs.f k a0) (spec_l4Runs.f (k + 1) a0) := by
 intro a0 k
 obtain ⟨ih0, ih1, ih2⟩ := spec_l4Runs.mono_l k
 unfold spec_l4Runs.f
 repeat' first
   | (with_reducible exact ih0 _ _ _ _ _)
   | (with_reducible exact ih1 _ _ _ _ _ _ _ _)
   | (with_reducible exact ih2 _ _ _ _ _ _ _ _ _)
   | (with_reducible exact spec_l3Normal.mono _ _)
   | (with_reducible exact LeO.refl _)
   | (with_reducible exact LeO.none _)
   | (with_reducible refine LeO.ite ?_ ?_)
   | (with_reducible refine LeO.bind ?_ (fun _ => ?_))
   | exact ih0 _ _ _ _ _
   | exact ih1 _ _ _ _ _ _ _ _
   | exact ih2 _ _ _ _ _ _ _ _ _
   | exact spec_l3Normal.mono _ _
   | exact LeO.none _
   | refine LeO.ite ?_ ?_
   | refine LeO.bind ?_ (fun _ => ?_)
set_option maxHeartbeats 8000000 in
set_option maxRecDepth 100000 in
theorem spec_l4Runs.calls (k : Nat) (A0 : Option Addr) (c0 : Nat) (l0 : List (S44)) (r : List Int) (w : World) (hr0 : Kd.C k44 w A0 l0.length l0) (hc0 : l0.length ≤ c0) (h : spec_l4Runs.f k l0 = some r) :
  Calls Try.prog 57 #[.slice A0 l0.length c0] w fun e w' => ∃ v0_ : Value, e = .returned (v0_) ∧ Kd.R (Kd.int .i64) 3 w' w.heap.size (fun _ => True) v0_ r ∧ Below w.heap.size w w' := by
 have hu44 := Try.underlying44
 have bG := aM hr0
 have b8 := aM hc0
 clear hr0 hc0
 have HB := aM (Below.refl w.heap.size w)
 have H : ((spec_l3Normal.f k l0).bind fun bd => (spec_l4Runs.l0 k ([] : List Int) 0 bd (bd.length : Int) 0)) = some r := h
 clear h
 replace H := oB H
 obtain ⟨bd, k7, H⟩ := H
 try dsimp only at H
 have A2 := aM k7
 clear k7
 have H' := aM H
 clear H
 go_enter Try.func57, Try.ntmps57
 go_wp2_with (first | ((with_reducible refine aC (f := 53) rfl ?_); refine aG (some 9) rfl rfl Try.func53 z0 rfl #[.slice A0 l0.length c0] rfl z10 ?_; (with_reducible refine (spec_l3Normal.calls k _ _ l0 bd _ ?side1 ?side2 A2.out).mono ?_); (case side1 => repeat (first | exact bG.out | (with_reducible refine av ?_ _) | (with_reducible refine aw ?_ _) | (with_reducible refine ay ?_))); (case side2 => exact b8.out); rintro e w3 ⟨v228, rfl, ho0, hb⟩; refine ⟨_, rfl, ?_⟩; have aT := aM (aH ho0 (aq z9)); have aU := aM (ap z9 hb); clear HB; have lN := aT; have HB := aU; clear aT aU; (try clear hb); (try clear hb2); (try clear hk); (try clear hi); (try clear ho0); obtain ⟨nN, mZ, eo4⟩ := Kd.R_slice lN.out; subst eo4))
 go_loopg [3, 4, 11] k (fun kq v3 v4 v11 w' => ∃ (x3_1 : List Int) (x4_1 : Int) (x11_1 : Int), v4 = .int .i64 x4_1 ∧ v11 = .int .i64 x11_1 ∧ Aside0 (spec_l4Runs.l0 kq x3_1 x4_1 bd (bd.length : Int) x11_1 = some r) ∧ Aside0 (kq ≤ k) ∧ Aside0 (Kd.R (Kd.int .i64) 3 w' w.heap.size (fun _ => True) v3 x3_1) ∧ Aside0 (Kd.R k44 44 w' w.heap.size (fun _ => True) (.slice nN bd.length mZ) bd) ∧ Aside0 (Below w.heap.size w w'))
 case atStart => exact ⟨(([] : List Int)), (0), (0), z1, z1, H', ⟨Nat.le_refl _⟩, ⟨y21⟩, ⟨by (with_reducible repeat (first | apply ac | apply ab | apply aa)); exact lN.out⟩, ⟨y5⟩⟩
 case round =>
  clear H'
  try clear p2
  obtain ⟨x3_1, x4_1, x11_1, rfl, rfl, HA, HK1, bY, ba, HB⟩ := hrel
  cases gk with
  | zero => exact absurd HA.out (by simp [spec_l4Runs.l0])
  | succ k1 =>
   have H := HA.out
   clear HA
   simp only [spec_l4Runs.l0] at H
   by_cases c5 : x11_1 < (bd.length : Int)
   ·rw [if_pos c5] at H
    have c5b0 : decide (x11_1 < (bd.length : Int)) = true := dT c5
    clear c5
    by_cases c6 : 0 ≤ x11_1
    ·rw [if_pos c6] at H
     have c6b0 : decide (0 ≤ x11_1) = true := dT c6
     clear c6
     by_cases c7 : x11_1 < (bd.length : Int)
     ·rw [if_pos c7] at H
      have c7b0 : decide (x11_1 < (bd.length : Int)) = true := dT c7
      clear c7
      by_cases c8 : 0 ≤ ((rd_T44 bd x11_1).f0)
      ·rw [if_pos c8] at H
       have c8b0 := eq_true c8
       have c8b1 : decide (0 ≤ ((rd_T44 bd x11_1).f0)) = true := dT c8
       clear c8
       by_cases c9 : x3_1.length + ((rd_T44 bd x11_1).f0 : Int).toNat < 17592186044416
       ·rw [if_pos c9] at H
        have LMc9 := aM c9
        clear c9
        obtain ⟨y232, hy232⟩ : ∃ y_ : List Int, y_ = (x3_1 ++ List.replicate ((rd_T44 bd x11_1).f0 : Int).toNat 0) := ⟨_, rfl⟩
        replace H : (if ((rd_T44 bd x11_1).f2).toList = ([] : List UInt8) then (spec_l4Runs.j1 k1 y232 x4_1 bd (bd.length : Int) x11_1 ((rd_T44 bd x11_1).f0) ((rd_T44 bd x11_1).f1) ((rd_T44 bd x11_1).f2)) else (spec_l4Runs.j1 k1 y232 (wrap64 (x4_1 + 1)) bd (bd.length : Int) x11_1 ((rd_T44 bd x11_1).f0) ((rd_T44 bd x11_1).f1) ((rd_T44 bd x11_1).f2))) = some r := by first | (rw [hy232]; with_reducible exact H) | (have H2_ := (Option.bind_some _ _).symm.trans H; rw [hy232]; with_reducible exact H2_) | (have H2_ := (Option.bind_some _ _).symm.trans H; with_reducible exact H2_) | with_reducible exact H | (rw [hy232]; exact H) | exact H
        have Ny232 := aM hy232
        clear hy232
        have mj := aM H
        clear H
        have p230 : 0 ≤ (x11_1 : Int) := oD z2
        have q230 : x11_1 < (bd.length : Int) := oD z2
        obtain ⟨ad230, e230, hx230_0, hx230_1, hx230_2⟩ := at_T44 (ag ba.out).2.2 x11_1 p230 q230
        cases e230
        replace p230 := eq_true p230
        replace q230 := eq_true q230
        go_upto_if 21 with (first | ((with_reducible refine aD (N := 6) rfl ?_); refine aE ?hg (N := 6) ?hd (cs := #[.int .i64 0, .string (⟨#[]⟩ : ByteArray), .string (⟨#[]⟩ : ByteArray)]) (t := 44) ?hr ?_; (case hd => rfl); (case hg => rfl); (case hr => first | (go_simp; done) | (go_simp; rfl)); intro bN hg w11 hbox hb; have aT := aM (ae (by (with_reducible repeat (first | apply ac | apply ab | apply aa)); exact bY.out) hb); have aU := aM (ae (Kd.R_elderB z3 bN (Nat.le_of_eq hg.symm)) hb); have aX := aM (ap z9 hb); have a5 := aM (hbox); have bf := aM ((by rw [hg]; exact (aq z9) : w.heap.size ≤ bN)); have cf := aM ((by rw [hg]; exact (aq z9) : w.heap.size ≤ bN)); clear bY; clear ba; clear HB; have bY := aT; have ba := aU; have HB := aX; have bu := a5; have GW231 := bf; have jC := cf; clear aT aU aX a5 bf cf; clear hb hbox hg; have gI : w11.cell? ⟨bN, 0, none⟩ = some (.int .i64 0) := (bC bu.out 0).trans rfl; have gH : w11.cell? ⟨bN, 1, none⟩ = some (.string (⟨#[]⟩ : ByteArray)) := (bC bu.out 1).trans rfl; have gG : w11.cell? ⟨bN, 2, none⟩ = some (.string (⟨#[]⟩ : ByteArray)) := (bC bu.out 2).trans rfl; have gi := bF bu.out 0; have gh := bF bu.out 1; have gg := bF bu.out 2) | (at_builtin; refine Kd.R_append_zeros (Kd.int .i64) (w0 := w) w.heap.size rfl (.tmp 15) (.tmp 17) 41 3 3 (.int .i64 0) 8 rfl Try.underlying41 Try.underlying3 info3 rfl (by decide) (by omega) u3 x3_1 0 ((rd_T44 bd x11_1).f0 : Int) (fun _ => True) rfl rfl rfl ?aF ?aO (oD z2) ?aB ?aS ?aL ?_; (case aB => exact (by repeat (first | (with_reducible first | exact HB.out | apply bA | apply pD | apply bD | refine ao ?_ jC.out) | exact HB.out))); (case aF => exact (fun _ _ => trivial)); (case aO => exact (by (with_reducible repeat (first | apply ac | apply ab | apply aa)); exact af (Kd.R_far (p := ⟨bN, 2, none⟩) (Kd.R_far (p := ⟨bN, 1, none⟩) (Kd.R_far (p := ⟨bN, 0, none⟩) (Kd.R_types bY.out bu.out (by decide)) (fun _ hk => hk.2) (.int .i64 ((rd_T44 bd x11_1).f0))) (fun _ hk => hk.2) (.string ((rd_T44 bd x11_1).f1))) (fun _ hk => hk.2) (.string ((rd_T44 bd x11_1).f2))) (fun _ hk => trivial))); (case aS => exact (aq (by repeat (first | (with_reducible first | exact HB.out | apply bA | apply pD | apply bD | refine ao ?_ jC.out) | exact HB.out)))); (case aL => have := LMc9.out; omega); intro v233 w13 ho hb hg hat; rw [← Ny232.out] at ho; have aT := aM (Kd.R_over' (by (with_reducible repeat (first | apply ac | apply ab | apply aa)); exact (af (Kd.R_far (p := ⟨bN, 2, none⟩) (Kd.R_far (p := ⟨bN, 1, none⟩) (Kd.R_far (p := ⟨bN, 0, none⟩) (af ba.out (fun k_ hk => (⟨hk, hk.2⟩ : _ ∧ k_ ≠ bN))) (fun _ hk => hk.2) (.int .i64 ((rd_T44 bd x11_1).f0))) (fun _ hk => hk.2) (.string ((rd_T44 bd x11_1).f1))) (fun _ hk => hk.2) (.string ((rd_T44 bd x11_1).f2))) (fun _ h_ => h_.1))) (Kd.R_typed (by (with_reducible repeat (first | apply ac | apply ab | apply aa)); exact (af (Kd.R_far (p := ⟨bN, 2, none⟩) (Kd.R_far (p := ⟨bN, 1, none⟩) (Kd.R_far (p := ⟨bN, 0, none⟩) (Kd.R_types bY.out bu.out (by decide)) (fun _ hk => hk.2) (.int .i64 ((rd_T44 bd x11_1).f0))) (fun _ hk => hk.2) (.string ((rd_T44 bd x11_1).f1))) (fun _ hk => hk.2) (.string ((rd_T44 bd x11_1).f2))) (fun _ h_ => h_.1)))) (by decide) hg); have aU := aM (blk_grown (g := bN) (o := .cells #[.int .i64 ((rd_T44 bd x11_1).f0), .string ((rd_T44 bd x11_1).f1), .string ((rd_T44 bd x11_1).f2)] 44 (0, 0)) (by (with_reducible repeat (first | refine al ?_ _ | refine ak ?_ | refine am ?_ _)); refine blk_put (cs := #[.int .i64 ((rd_T44 bd x11_1).f0), .string ((rd_T44 bd x11_1).f1), .string (⟨#[]⟩ : ByteArray)]) ?_ 2 _ rfl; (with_reducible repeat (first | refine al ?_ _ | refine ak ?_ | refine am ?_ _)); refine blk_put (cs := #[.int .i64 ((rd_T44 bd x11_1).f0), .string (⟨#[]⟩ : ByteArray), .string (⟨#[]⟩ : ByteArray)]) ?_ 1 _ rfl; (with_reducible repeat (first | refine al ?_ _ | refine ak ?_ | refine am ?_ _)); refine blk_put (cs := #[.int .i64 0, .string (⟨#[]⟩ : ByteArray), .string (⟨#[]⟩ : ByteArray)]) ?_ 0 _ rfl; (with_reducible repeat (first | refine al ?_ _ | refine ak ?_ | refine am ?_ _)); exact bu.out) hg (aA bY.out bu.out (by decide))); have aX := aM (hb); have a5 := aM (ho); clear ba; clear bu; clear HB; clear bY; have ba := aT; have bu := aU; have HB := aX; have lM := a5; clear aT aU aX a5; clear ho hb hg hat; have dM : w13.cell? ⟨bN, 0, none⟩ = some (.int .i64 ((rd_T44 bd x11_1).f0)) := (bC bu.out 0).trans rfl; have dL : w13.cell? ⟨bN, 1, none⟩ = some (.string ((rd_T44 bd x11_1).f1)) := (bC bu.out 1).trans rfl; have dK : w13.cell? ⟨bN, 2, none⟩ = some (.string ((rd_T44 bd x11_1).f2)) := (bC bu.out 2).trans rfl; have dG := bF bu.out 0; have dE := bF bu.out 1; have dD := bF bu.out 2))
        (try simp only [Act.put, sA, sB, sC])
        go_cut [4] (fun v4 wc => ∃ (kq : Nat) (x4_9 : Int), v4 = .int .i64 x4_9 ∧ Aside0 (spec_l4Runs.j1 kq y232 x4_9 bd (bd.length : Int) x11_1 ((rd_T44 bd x11_1).f0) ((rd_T44 bd x11_1).f1) ((rd_T44 bd x11_1).f2) = some r) ∧ Aside0 (kq ≤ k1) ∧ Aside0 (Kd.R (Kd.int .i64) 3 wc w.heap.size (fun _ => True) v233 y232) ∧ Aside0 (Kd.R k44 44 wc w.heap.size (fun k_ => k_ ≠ bN) (.slice (some ad230) bd.length mZ) bd) ∧ Aside0 (wc.heap[bN]? = some (.cells #[.int .i64 ((rd_T44 bd x11_1).f0), .string ((rd_T44 bd x11_1).f1), .string ((rd_T44 bd x11_1).f2)] 44 (0, 0))) ∧ Aside0 (Below w.heap.size w wc))
        case first =>
         have H := mj.out
         clear mj
         by_cases ck : ((rd_T44 bd x11_1).f2).toList = ([] : List UInt8)
         ·rw [if_pos ck] at H
          have c15b0 : (((rd_T44 bd x11_1).f2).toList == ([] : List UInt8)) = true := qT ck
          have c15b1 : (((rd_T44 bd x11_1).f2).toList != ([] : List UInt8)) = false := nF ck
          have c15b8 : (!((rd_T44 bd x11_1).f2).toList.isEmpty) = false := by have h_ := c15b1; revert h_; cases ((rd_T44 bd x11_1).f2).toList <;> simp
          clear ck
          (first | rw [c15b0] | (simp only [i64_w, i32_w]; rw [c15b0]) | rw [c15b8] | skip)
          have H' := aM H
          clear H
          go_wp2
          all_goals (try (exfalso; rename_i h_; rw [c15b0] at h_; cases h_; done))
          go_meet
          case rel => exact ⟨_, (x4_1), z1, H', ⟨by have := HK1.out; first | omega | exact Nat.le_refl _⟩, ⟨by (with_reducible repeat (first | apply ac | apply ab | apply aa)); exact lM.out⟩, ⟨by (with_reducible repeat (first | apply ac | apply ab | apply aa)); exact af ba.out (fun _ hk => hk.2)⟩, ⟨by (with_reducible repeat (first | refine al ?_ _ | refine ak ?_ | refine am ?_ _)); exact bu.out⟩, ⟨y18⟩⟩
         ·rw [if_neg ck] at H
          have c15b0 : (((rd_T44 bd x11_1).f2).toList == ([] : List UInt8)) = false := qF ck
          have c15b1 : (((rd_T44 bd x11_1).f2).toList != ([] : List UInt8)) = true := nT ck
          have c15b8 : (!((rd_T44 bd x11_1).f2).toList.isEmpty) = true := by have h_ := c15b1; revert h_; cases ((rd_T44 bd x11_1).f2).toList <;> simp
          (first | rw [c15b0] | (simp only [i64_w, i32_w]; rw [c15b0]) | rw [c15b8] | skip)
          have H' := aM H
          clear H
          go_wp2
          all_goals (try (exfalso; rename_i h_; rw [c15b0] at h_; cases h_; done))
          go_meet
          case rel => exact ⟨_, (wrap64 (x4_1 + 1)), z1, H', ⟨by have := HK1.out; first | omega | exact Nat.le_refl _⟩, ⟨by (with_reducible repeat (first | apply ac | apply ab | apply aa)); exact lM.out⟩, ⟨by (with_reducible repeat (first | apply ac | apply ab | apply aa)); exact af ba.out (fun _ hk => hk.2)⟩, ⟨by (with_reducible repeat (first | refine al ?_ _ | refine ak ?_ | refine am ?_ _)); exact bu.out⟩, ⟨y18⟩⟩
        case rest =>
         clear mj
         try clear c1
         try clear p2
         try clear q2
         try clear hx2
         try clear c5
         try clear c5b0
         try clear c6
         try clear c6b0
         try clear p6
         try clear c7
         try clear c7b0
         try clear c8
         try clear c8b0
         try clear c8b1
         try clear c9
         try clear ck
         try clear c15b0
         try clear c15b1
         try clear gI
         try clear gH
         try clear gG
         try clear dM
         try clear dL
         try clear dK
         try clear gi
         try clear gh
         try clear gg
         try clear dG
         try clear dE
         try clear dD
         try clear hx230_0
         try clear hx230_1
         try clear hx230_2
         try clear p2
         try clear p230
         try clear q230
         obtain ⟨kq, x4_9, rfl, HA, nE, bY, ba, bu, HB⟩ := hcut
         cases kq with
         | zero => exact absurd HA.out (by simp [spec_l4Runs.j1])
         | succ kj9 =>
          have H := HA.out
          clear HA
          simp only [spec_l4Runs.j1] at H
          have H' := aM H
          clear H
          go_wp2
          go_loopg [3, 7] kj9 (fun kq v3 v7 w' => ∃ (x3_3 : List Int) (x7_3 : Int), v7 = .int .i64 x7_3 ∧ Aside0 (spec_l4Runs.l1 kq x3_3 x4_9 x7_3 bd (bd.length : Int) x11_1 ((rd_T44 bd x11_1).f0) ((rd_T44 bd x11_1).f1) ((rd_T44 bd x11_1).f2) = some r) ∧ Aside0 (kq ≤ kj9) ∧ Aside0 (Kd.R (Kd.int .i64) 3 w' w.heap.size (fun _ => True) v3 x3_3) ∧ Aside0 (Kd.R k44 44 w' w.heap.size (fun k_ => k_ ≠ bN) (.slice (some ad230) bd.length mZ) bd) ∧ Aside0 (w'.heap[bN]? = some (.cells #[.int .i64 ((rd_T44 bd x11_1).f0), .string ((rd_T44 bd x11_1).f1), .string ((rd_T44 bd x11_1).f2)] 44 (0, 0))) ∧ Aside0 (Below w.heap.size w w'))
          case atStart => exact ⟨(y232), (0), z1, H', ⟨Nat.le_refl _⟩, ⟨y7⟩, ⟨y9⟩, ⟨by (with_reducible repeat (first | refine al ?_ _ | refine ak ?_ | refine am ?_ _)); exact bu.out⟩, ⟨y18⟩⟩
          case round =>
           clear H'
           try clear c1
           try clear p2
           try clear q2
           try clear hx2
           try clear c5
           try clear c5b0
           try clear c6
           try clear c6b0
           try clear p6
           try clear c7
           try clear c7b0
           try clear c8
           try clear c8b0
           try clear c8b1
           try clear c9
           try clear ck
           try clear c15b0
           try clear c15b1
           try clear gI
           try clear gH
           try clear gG
           try clear dM
           try clear dL
           try clear dK
           try clear gi
           try clear gh
           try clear gg
           try clear dG
           try clear dE
           try clear dD
           try clear hx230_0
           try clear hx230_1
           try clear hx230_2
           try clear p2
           try clear p230
           try clear p6
           try clear q2
           try clear q230
           obtain ⟨x3_3, x7_3, rfl, HA, HK3, bY, ba, bu, HB⟩ := hrel
           cases gk with
           | zero => exact absurd HA.out (by simp [spec_l4Runs.l1])
           | succ k3 =>
            have H := HA.out
            clear HA
            simp only [spec_l4Runs.l1] at H
            by_cases cG : x7_3 < (((rd_T44 bd x11_1).f2).size : Int)
            ·rw [if_pos cG] at H
             have c16b0 : decide (x7_3 < (((rd_T44 bd x11_1).f2).size : Int)) = true := dT cG
             clear cG
             by_cases cB : x3_3.length < 17592186044416
             ·rw [if_pos cB] at H
              have LMc17 := aM cB
              clear cB
              obtain ⟨y235, hy235⟩ : ∃ y_ : List Int, y_ = (x3_3 ++ [x4_9]) := ⟨_, rfl⟩
              replace H : (spec_l4Runs.l1 k3 y235 x4_9 (wrap64 (x7_3 + 1)) bd (bd.length : Int) x11_1 ((rd_T44 bd x11_1).f0) ((rd_T44 bd x11_1).f1) ((rd_T44 bd x11_1).f2)) = some r := by first | (rw [hy235]; with_reducible exact H) | (have H2_ := (Option.bind_some _ _).symm.trans H; rw [hy235]; with_reducible exact H2_) | (have H2_ := (Option.bind_some _ _).symm.trans H; with_reducible exact H2_) | with_reducible exact H | (rw [hy235]; exact H) | exact H
              have Ny235 := aM hy235
              clear hy235
              have H' := aM H
              clear H
              have hcz18_0 : wr.cell? ⟨bN, 0, none⟩ = some (.int .i64 ((rd_T44 bd x11_1).f0)) := (bC bu.out 0).trans rfl
              have hcz18_1 : wr.cell? ⟨bN, 1, none⟩ = some (.string ((rd_T44 bd x11_1).f1)) := (bC bu.out 1).trans rfl
              have hcz18_2 : wr.cell? ⟨bN, 2, none⟩ = some (.string ((rd_T44 bd x11_1).f2)) := (bC bu.out 2).trans rfl
              have hfz18_0 := bF bu.out 0
              have hfz18_1 := bF bu.out 1
              have hfz18_2 := bF bu.out 2
              go_wp2_with (first | ((with_reducible refine gate_builtin (b := .append) (xs := #[.tmp 31, .tmp 33]) rfl ?_); at_builtin; refine Kd.R_append (Kd.int .i64) (w0 := w) w.heap.size rfl (.tmp 31) (.tmp 33) 41 3 (.int .i64 0) 8 rfl Try.underlying41 info3 rfl (by decide) (by omega) u3 x3_3 x4_9 [.int .i64 x4_9] (fun _ => True) (fun _ => False) rfl rfl ?aP (fun _ hk => hk.elim) ?aF ?aO ?aB ?aS ?aL ?_; (case aP => exact rfl); (case aB => exact (by repeat (first | (with_reducible first | exact HB.out | apply bA | apply pD | apply bD | refine ao ?_ jC.out) | exact HB.out))); (case aF => exact (fun _ _ => trivial)); (case aO => exact (by (with_reducible repeat (first | apply ac | apply ab | apply aa)); exact bY.out)); (case aS => exact (aq (by repeat (first | (with_reducible first | exact HB.out | apply bA | apply pD | apply bD | refine ao ?_ jC.out) | exact HB.out)))); (case aL => have := LMc17.out; omega); intro v236 w19 ho hb hg hat; rw [← Ny235.out] at ho; have aT := aM (Kd.R_over' z3 (Kd.R_typed (by (with_reducible repeat (first | apply ac | apply ab | apply aa)); exact bY.out)) (by decide) hg); have aU := aM (blk_grown (g := bN) (o := .cells #[.int .i64 ((rd_T44 bd x11_1).f0), .string ((rd_T44 bd x11_1).f1), .string ((rd_T44 bd x11_1).f2)] 44 (0, 0)) (by (with_reducible repeat (first | refine al ?_ _ | refine ak ?_ | refine am ?_ _)); exact bu.out) hg (aA bY.out bu.out (by decide))); have aX := aM (hb); have a5 := aM (ho); clear ba; clear bu; clear HB; clear bY; have ba := aT; have bu := aU; have HB := aX; have HO237 := a5; clear aT aU aX a5; clear ho hb hg hat))
              go_roundg k3
              case measure => have := HK1.out; have := nE.out; have := HK3.out; omega
              case rel => exact ⟨(y235), (wrap64 (x7_3 + 1)), z1, H', ⟨by have := HK1.out; have := nE.out; have := HK3.out; omega⟩, ⟨by (with_reducible repeat (first | apply ac | apply ab | apply aa)); exact HO237.out⟩, ⟨y9⟩, ⟨by (with_reducible repeat (first | refine al ?_ _ | refine ak ?_ | refine am ?_ _)); exact bu.out⟩, ⟨y18⟩⟩
             ·rw [if_neg cB] at H
              exact absurd H (by simp)
            ·rw [if_neg cG] at H
             have c16b0 : decide (x7_3 < (((rd_T44 bd x11_1).f2).size : Int)) = false := dF cG
             clear cG
             have H' := aM H
             clear H
             have gF : wr.cell? ⟨bN, 0, none⟩ = some (.int .i64 ((rd_T44 bd x11_1).f0)) := (bC bu.out 0).trans rfl
             have gE : wr.cell? ⟨bN, 1, none⟩ = some (.string ((rd_T44 bd x11_1).f1)) := (bC bu.out 1).trans rfl
             have gD : wr.cell? ⟨bN, 2, none⟩ = some (.string ((rd_T44 bd x11_1).f2)) := (bC bu.out 2).trans rfl
             have gf := bF bu.out 0
             have gc := bF bu.out 1
             have gb := bF bu.out 2
             go_wp2
             go_roundg k3
             case measure => have := HK1.out; have := nE.out; have := HK3.out; omega
             case rel => exact ⟨(x3_3), (x4_9), (wrap64 (x11_1 + 1)), z1, z1, H', ⟨by have := HK1.out; have := nE.out; have := HK3.out; omega⟩, ⟨y7⟩, ⟨by (with_reducible repeat (first | apply ac | apply ab | apply aa)); exact af ba.out (fun _ hk => trivial)⟩, ⟨y18⟩⟩
       ·rw [if_neg c9] at H
        exact absurd H (by simp)
      ·rw [if_neg c8] at H
       exact absurd H (by simp)
     ·rw [if_neg c7] at H
      exact absurd H (by simp)
    ·rw [if_neg c6] at H
     exact absurd H (by simp)
   ·rw [if_neg c5] at H
    have c5b0 : decide (x11_1 < (bd.length : Int)) = false := dF c5
    clear c5
    obtain rfl := sI H
    go_wp2
    go_ret
    exact ⟨_, y4, y7, y5⟩

/-! ### spec_l4Within: function 43 -/
def spec_l4Within.l0 : Nat → List Int → List Int → Int → Int → List (S44) → Int → Int → Option (Int)
 | 0, _, _, _, _, _, _, _ => none
 | k + 1, x5, x6, x7, x8, x16, x17, x18 => if x18 < x17 then (if 0 ≤ x18 then (if x18 < (x16.length : Int) then (if ((rd_T44 x16 x18).f1).toList = ([] : List UInt8) then (spec_l4Within.l0 k x5 x6 x7 (wrap64 (x8 + (wrap64 (((rd_T44 x16 x18).f0) + (((rd_T44 x16 x18).f2).size : Int))))) x16 x17 (wrap64 (x18 + 1))) else (if x8 > 0 then (if x8 < (x5.length : Int) then (if 0 ≤ (wrap64 (x8 - 1)) then (if (wrap64 (x8 - 1)) < (x6.length : Int) then (if (rd x6 (wrap64 (x8 - 1))) > 0 then (if 0 ≤ x8 then (if x8 < (x6.length : Int) then (if (rd x6 (wrap64 (x8 - 1))) = (rd x6 x8) then (spec_l4Within.l0 k x5 x6 (wrap64 (x7 + 1)) (wrap64 (x8 + (wrap64 (((rd_T44 x16 x18).f0) + (((rd_T44 x16 x18).f2).size : Int))))) x16 x17 (wrap64 (x18 + 1))) else (spec_l4Within.l0 k x5 x6 x7 (wrap64 (x8 + (wrap64 (((rd_T44 x16 x18).f0) + (((rd_T44 x16 x18).f2).size : Int))))) x16 x17 (wrap64 (x18 + 1)))) else (none)) else (none)) else (spec_l4Within.l0 k x5 x6 x7 (wrap64 (x8 + (wrap64 (((rd_T44 x16 x18).f0) + (((rd_T44 x16 x18).f2).size : Int))))) x16 x17 (wrap64 (x18 + 1)))) else (none)) else (none)) else (spec_l4Within.l0 k x5 x6 x7 (wrap64 (x8 + (wrap64 (((rd_T44 x16 x18).f0) + (((rd_T44 x16 x18).f2).size : Int))))) x16 x17 (wrap64 (x18 + 1)))) else (spec_l4Within.l0 k x5 x6 x7 (wrap64 (x8 + (wrap64 (((rd_T44 x16 x18).f0) + (((rd_T44 x16 x18).f2).size : Int))))) x16 x17 (wrap64 (x18 + 1))))) else (none)) else (none)) else (some x7)
def spec_l4Within.f (k : Nat) (l0 : List (S44)) (l1 : List (S44)) : Option (Int) := (spec_l4Bytes.f k l1).bind fun ee => ((spec_l4Runs.f k l1).bind fun bB => ((spec_l3Normal.f k l0).bind fun aZ => (spec_l4Within.l0 k ee bB 0 0 aZ (aZ.length : Int) 0)))
theorem spec_l4Within.mono_l : ∀ k, (∀ y0 y1 y2 y3 y4 y5 y6, LeO (spec_l4Within.l0 k y0 y1 y2 y3 y4 y5 y6) (spec_l4Within.l0 (k + 1) y0 y1 y2 y3 y4 y5 y6))
 | 0 => fun _ _ _ _ _ _ _ r h => by simp [spec_l4Within.l0] at h
 | k + 1 => by
  have ih0 := spec_l4Within.mono_l k
  ·intro y0 y1 y2 y3 y4 y5 y6
   unfold spec_l4Within.l0
   repeat' first
   | (with_reducible exact ih0 _ _ _ _ _ _ _)
   | (with_reducible exact spec_l3Normal.mono _ _)
   | (with_reducible exact spec_l4Bytes.mono _ _)
   | (with_reducible exact spec_l4Runs.mono _ _)
   | (with_reducible exact LeO.refl _)
   | (with_reducible exact LeO.none _)
   | (with_reducible refine LeO.ite ?_ ?_)
   | (with_reducible refine LeO.bind ?_ (fun _ => ?_))
   | exact ih0 _ _ _ _ _ _ _
   | exact spec_l3Normal.mono _ _
   | exact spec_l4Bytes.mono _ _
   | exact spec_l4Runs.mono _ _
   | exact LeO.none _
   | refine LeO.ite ?_ ?_
   | refine LeO.bind ?_ (fun _ => ?_)
theorem spec_l4Within.mono : ∀ a0 a1 k, LeO (spec_l4Within.f k a0 a1) (spec_l4Within.f (k + 1) a0 a1) := by
 intro a0 a1 k
 have ih0 := spec_l4Within.mono_l k
 unfold spec_l4Within.f
 repeat' first
   | (with_reducible exact ih0 _ _ _ _ _ _ _)
   | (with_reducible exact spec_l3Normal.mono _ _)
   | (with_reducible exact spec_l4Bytes.mono _ _)
   | (with_reducible exact spec_l4Runs.mono _ _)
   | (with_reducible exact LeO.refl _)
   | (with_reducible exact LeO.none _)
   | (with_reducible refine LeO.ite ?_ ?_)
   | (with_reducible refine LeO.bind ?_ (fun _ => ?_))
   | exact ih0 _ _ _ _ _ _ _
   | exact spec_l3Normal.mono _ _
   | exact spec_l4Bytes.mono _ _
   | exact spec_l4Runs.mono _ _
   | exact LeO.none _
   | refine LeO.ite ?_ ?_
   | refine LeO.bind ?_ (fun _ => ?_)
set_option maxHeartbeats 8000000 in
set_option maxRecDepth 100000 in
theorem spec_l4Within.calls (k : Nat) (A0 : Option Addr) (c0 : Nat) (l0 : List (S44)) (A1 : Option Addr) (c1 : Nat) (l1 : List (S44)) (r : Int) (w : World) (hr0 : Kd.C k44 w A0 l0.length l0) (hc0 : l0.length ≤ c0) (hr1 : Kd.C k44 w A1 l1.length l1) (hc1 : l1.length ≤ c1) (h : spec_l4Within.f k l0 l1 = some r) :
  Calls Try.prog 43 #[.slice A0 l0.length c0, .slice A1 l1.length c1] w fun e w' => e = .returned (.int .i64 r) ∧ Below w.heap.size w w' := by
 have hu44 := Try.underlying44
 have bG := aM hr0
 have b8 := aM hc0
 clear hr0 hc0
 have cz := aM hr1
 have dg := aM hc1
 clear hr1 hc1
 have HB := aM (Below.refl w.heap.size w)
 have H : ((spec_l4Bytes.f k l1).bind fun ee => ((spec_l4Runs.f k l1).bind fun bB => ((spec_l3Normal.f k l0).bind fun aZ => (spec_l4Within.l0 k ee bB 0 0 aZ (aZ.length : Int) 0)))) = some r := h
 clear h
 replace H := oB H
 obtain ⟨ee, eF, H⟩ := H
 try dsimp only at H
 have A3 := aM eF
 clear eF
 replace H := oB H
 obtain ⟨bB, eE, H⟩ := H
 try dsimp only at H
 have A4 := aM eE
 clear eE
 replace H := oB H
 obtain ⟨aZ, ft, H⟩ := H
 try dsimp only at H
 have A5 := aM ft
 clear ft
 have H' := aM H
 clear H
 go_enter Try.func43, Try.ntmps43
 go_wp2_with (first | (go_at_call 44; (with_reducible refine (spec_l4Bytes.calls k _ _ l1 ee _ ?side1 ?side2 A3.out).mono ?_); (case side1 => repeat (first | exact cz.out | (with_reducible refine av ?_ _) | (with_reducible refine aw ?_ _) | (with_reducible refine ay ?_))); (case side2 => exact dg.out); rintro e w6 ⟨v239, rfl, ho0, hb⟩; have aT := aM (aH ho0 (aq z9)); have aU := aM (ap z9 hb); clear HB; have ch := aT; have HB := aU; clear aT aU; (try clear hb); (try clear hb2); (try clear hk); (try clear hi); (try clear ho0)) | (go_at_call 57; (with_reducible refine (spec_l4Runs.calls k _ _ l1 bB _ ?side1 ?side2 A4.out).mono ?_); (case side1 => repeat (first | exact (au cz.out HB.out) | (with_reducible refine av ?_ _) | (with_reducible refine aw ?_ _) | (with_reducible refine ay ?_))); (case side2 => exact dg.out); rintro e w7 ⟨v242, rfl, ho0, hb⟩; have aT := aM (ae (by (with_reducible repeat (first | apply ac | apply ab | apply aa)); exact ch.out) hb); have aU := aM (aH ho0 (aq z9)); have aX := aM (ap z9 hb); clear ch; clear HB; have ch := aT; have dP := aU; have HB := aX; clear aT aU aX; (try clear hb); (try clear hb2); (try clear hk); (try clear hi); (try clear ho0)) | (go_at_call 53; (with_reducible refine (spec_l3Normal.calls k _ _ l0 aZ _ ?side1 ?side2 A5.out).mono ?_); (case side1 => repeat (first | exact (au bG.out HB.out) | (with_reducible refine av ?_ _) | (with_reducible refine aw ?_ _) | (with_reducible refine ay ?_))); (case side2 => exact b8.out); rintro e w8 ⟨v245, rfl, ho0, hb⟩; have aT := aM (ae (by (with_reducible repeat (first | apply ac | apply ab | apply aa)); exact ch.out) hb); have aU := aM (ae (by (with_reducible repeat (first | apply ac | apply ab | apply aa)); exact dP.out) hb); have aX := aM (aH ho0 (aq z9)); have a5 := aM (ap z9 hb); clear ch; clear dP; clear HB; have ch := aT; have dP := aU; have fJ := aX; have HB := a5; clear aT aU aX a5; (try clear hb); (try clear hb2); (try clear hk); (try clear hi); (try clear ho0); obtain ⟨lf, lb, eo9⟩ := Kd.R_slice fJ.out; subst eo9))
 repeat (go_quiet (first | (go_at_call 44; (with_reducible refine (spec_l4Bytes.calls k _ _ l1 ee _ ?side1 ?side2 A3.out).mono ?_); (case side1 => repeat (first | exact cz.out | (with_reducible refine av ?_ _) | (with_reducible refine aw ?_ _) | (with_reducible refine ay ?_))); (case side2 => exact dg.out); rintro e w6 ⟨v239, rfl, ho0, hb⟩; have aT := aM (aH ho0 (aq z9)); have aU := aM (ap z9 hb); clear HB; have ch := aT; have HB := aU; clear aT aU; (try clear hb); (try clear hb2); (try clear hk); (try clear hi); (try clear ho0)) | (go_at_call 57; (with_reducible refine (spec_l4Runs.calls k _ _ l1 bB _ ?side1 ?side2 A4.out).mono ?_); (case side1 => repeat (first | exact (au cz.out HB.out) | (with_reducible refine av ?_ _) | (with_reducible refine aw ?_ _) | (with_reducible refine ay ?_))); (case side2 => exact dg.out); rintro e w7 ⟨v242, rfl, ho0, hb⟩; have aT := aM (ae (by (with_reducible repeat (first | apply ac | apply ab | apply aa)); exact ch.out) hb); have aU := aM (aH ho0 (aq z9)); have aX := aM (ap z9 hb); clear ch; clear HB; have ch := aT; have dP := aU; have HB := aX; clear aT aU aX; (try clear hb); (try clear hb2); (try clear hk); (try clear hi); (try clear ho0)) | (go_at_call 53; (with_reducible refine (spec_l3Normal.calls k _ _ l0 aZ _ ?side1 ?side2 A5.out).mono ?_); (case side1 => repeat (first | exact (au bG.out HB.out) | (with_reducible refine av ?_ _) | (with_reducible refine aw ?_ _) | (with_reducible refine ay ?_))); (case side2 => exact b8.out); rintro e w8 ⟨v245, rfl, ho0, hb⟩; have aT := aM (ae (by (with_reducible repeat (first | apply ac | apply ab | apply aa)); exact ch.out) hb); have aU := aM (ae (by (with_reducible repeat (first | apply ac | apply ab | apply aa)); exact dP.out) hb); have aX := aM (aH ho0 (aq z9)); have a5 := aM (ap z9 hb); clear ch; clear dP; clear HB; have ch := aT; have dP := aU; have fJ := aX; have HB := a5; clear aT aU aX a5; (try clear hb); (try clear hb2); (try clear hk); (try clear hi); (try clear ho0); obtain ⟨lf, lb, eo9⟩ := Kd.R_slice fJ.out; subst eo9)); try go_wp2_with (first | (go_at_call 44; (with_reducible refine (spec_l4Bytes.calls k _ _ l1 ee _ ?side1 ?side2 A3.out).mono ?_); (case side1 => repeat (first | exact cz.out | (with_reducible refine av ?_ _) | (with_reducible refine aw ?_ _) | (with_reducible refine ay ?_))); (case side2 => exact dg.out); rintro e w6 ⟨v239, rfl, ho0, hb⟩; have aT := aM (aH ho0 (aq z9)); have aU := aM (ap z9 hb); clear HB; have ch := aT; have HB := aU; clear aT aU; (try clear hb); (try clear hb2); (try clear hk); (try clear hi); (try clear ho0)) | (go_at_call 57; (with_reducible refine (spec_l4Runs.calls k _ _ l1 bB _ ?side1 ?side2 A4.out).mono ?_); (case side1 => repeat (first | exact (au cz.out HB.out) | (with_reducible refine av ?_ _) | (with_reducible refine aw ?_ _) | (with_reducible refine ay ?_))); (case side2 => exact dg.out); rintro e w7 ⟨v242, rfl, ho0, hb⟩; have aT := aM (ae (by (with_reducible repeat (first | apply ac | apply ab | apply aa)); exact ch.out) hb); have aU := aM (aH ho0 (aq z9)); have aX := aM (ap z9 hb); clear ch; clear HB; have ch := aT; have dP := aU; have HB := aX; clear aT aU aX; (try clear hb); (try clear hb2); (try clear hk); (try clear hi); (try clear ho0)) | (go_at_call 53; (with_reducible refine (spec_l3Normal.calls k _ _ l0 aZ _ ?side1 ?side2 A5.out).mono ?_); (case side1 => repeat (first | exact (au bG.out HB.out) | (with_reducible refine av ?_ _) | (with_reducible refine aw ?_ _) | (with_reducible refine ay ?_))); (case side2 => exact b8.out); rintro e w8 ⟨v245, rfl, ho0, hb⟩; have aT := aM (ae (by (with_reducible repeat (first | apply ac | apply ab | apply aa)); exact ch.out) hb); have aU := aM (ae (by (with_reducible repeat (first | apply ac | apply ab | apply aa)); exact dP.out) hb); have aX := aM (aH ho0 (aq z9)); have a5 := aM (ap z9 hb); clear ch; clear dP; clear HB; have ch := aT; have dP := aU; have fJ := aX; have HB := a5; clear aT aU aX a5; (try clear hb); (try clear hb2); (try clear hk); (try clear hi); (try clear ho0); obtain ⟨lf, lb, eo9⟩ := Kd.R_slice fJ.out; subst eo9)))
 go_loopg [7, 8, 18] k (fun kq v7 v8 v18 w' => ∃ (x7_1 : Int) (x8_1 : Int) (x18_1 : Int), v7 = .int .i64 x7_1 ∧ v8 = .int .i64 x8_1 ∧ v18 = .int .i64 x18_1 ∧ Aside0 (spec_l4Within.l0 kq ee bB x7_1 x8_1 aZ (aZ.length : Int) x18_1 = some r) ∧ Aside0 (kq ≤ k) ∧ Aside0 (Kd.R (Kd.int .u8) 5 w' w.heap.size (fun _ => True) v239 ee) ∧ Aside0 (Kd.R (Kd.int .i64) 3 w' w.heap.size (fun _ => True) v242 bB) ∧ Aside0 (Kd.R k44 44 w' w.heap.size (fun _ => True) (.slice lf aZ.length lb) aZ) ∧ Aside0 (Below w.heap.size w w'))
 case atStart => exact ⟨(0), (0), (0), z1, z1, z1, H', ⟨Nat.le_refl _⟩, ⟨by (with_reducible repeat (first | apply ac | apply ab | apply aa)); exact ch.out⟩, ⟨by (with_reducible repeat (first | apply ac | apply ab | apply aa)); exact dP.out⟩, ⟨by (with_reducible repeat (first | apply ac | apply ab | apply aa)); exact fJ.out⟩, ⟨y5⟩⟩
 case round =>
  clear H'
  try clear c1
  try clear p2
  try clear c4
  obtain ⟨x7_1, x8_1, x18_1, rfl, rfl, rfl, HA, HK1, aW, a4, bp, HB⟩ := hrel
  cases gk with
  | zero => exact absurd HA.out (by simp [spec_l4Within.l0])
  | succ k1 =>
   have H := HA.out
   clear HA
   simp only [spec_l4Within.l0] at H
   by_cases bz : x18_1 < (aZ.length : Int)
   ·rw [if_pos bz] at H
    have c10b0 : decide (x18_1 < (aZ.length : Int)) = true := dT bz
    clear bz
    by_cases bV : 0 ≤ x18_1
    ·rw [if_pos bV] at H
     have c11b0 : decide (0 ≤ x18_1) = true := dT bV
     clear bV
     by_cases cd : x18_1 < (aZ.length : Int)
     ·rw [if_pos cd] at H
      have c12b0 : decide (x18_1 < (aZ.length : Int)) = true := dT cd
      clear cd
      by_cases bR : ((rd_T44 aZ x18_1).f1).toList = ([] : List UInt8)
      ·rw [if_pos bR] at H
       have c13b0 : (((rd_T44 aZ x18_1).f1).toList == ([] : List UInt8)) = true := qT bR
       have c13b1 : (((rd_T44 aZ x18_1).f1).toList != ([] : List UInt8)) = false := nF bR
       have c13b8 : (!((rd_T44 aZ x18_1).f1).toList.isEmpty) = false := by have h_ := c13b1; revert h_; cases ((rd_T44 aZ x18_1).f1).toList <;> simp
       clear bR
       have H' := aM H
       clear H
       have p247 : 0 ≤ (x18_1 : Int) := oD z2
       have q247 : x18_1 < (aZ.length : Int) := oD z2
       obtain ⟨ad247, e247, hx247_0, hx247_1, hx247_2⟩ := at_T44 (ag bp.out).2.2 x18_1 p247 q247
       cases e247
       replace p247 := eq_true p247
       replace q247 := eq_true q247
       go_wp2_with (first | ((with_reducible refine aD (N := 10) rfl ?_); (try (refine gate_guard (by rfl) ?_; dsimp only)); refine aE ?hg (N := 10) ?hd (cs := #[.int .i64 0, .string (⟨#[]⟩ : ByteArray), .string (⟨#[]⟩ : ByteArray)]) (t := 44) ?hr ?_; (case hd => rfl); (case hg => rfl); (case hr => first | (go_simp; done) | (go_simp; rfl)); intro aQ hg w14 hbox hb; have aT := aM (ae z4 hb); have aU := aM (ae z5 hb); have aX := aM (ae (Kd.R_elderB z6 aQ (Nat.le_of_eq hg.symm)) hb); have a5 := aM (ap z9 hb); have bf := aM (hbox); have cf := aM ((by rw [hg]; exact (aq z9) : w.heap.size ≤ aQ)); have cA := aM ((by rw [hg]; exact (aq z9) : w.heap.size ≤ aQ)); clear aW; clear a4; clear bp; clear HB; have aW := aT; have a4 := aU; have bp := aX; have HB := a5; have aV := bf; have cD := cf; have cE := cA; clear aT aU aX a5 bf cf cA; clear hb hbox hg; have d6 : w14.cell? ⟨aQ, 0, none⟩ = some (.int .i64 0) := (bC aV.out 0).trans rfl; have d5 : w14.cell? ⟨aQ, 1, none⟩ = some (.string (⟨#[]⟩ : ByteArray)) := (bC aV.out 1).trans rfl; have d4 : w14.cell? ⟨aQ, 2, none⟩ = some (.string (⟨#[]⟩ : ByteArray)) := (bC aV.out 2).trans rfl; have dZ := bF aV.out 0; have dY := bF aV.out 1; have dX := bF aV.out 2))
       all_goals (try (exfalso; rename_i h_; rw [c13b0] at h_; cases h_; done))
       repeat (go_quiet (first | ((with_reducible refine aD (N := 10) rfl ?_); (try (refine gate_guard (by rfl) ?_; dsimp only)); refine aE ?hg (N := 10) ?hd (cs := #[.int .i64 0, .string (⟨#[]⟩ : ByteArray), .string (⟨#[]⟩ : ByteArray)]) (t := 44) ?hr ?_; (case hd => rfl); (case hg => rfl); (case hr => first | (go_simp; done) | (go_simp; rfl)); intro aQ hg w14 hbox hb; have aT := aM (ae z4 hb); have aU := aM (ae z5 hb); have aX := aM (ae (Kd.R_elderB z6 aQ (Nat.le_of_eq hg.symm)) hb); have a5 := aM (ap z9 hb); have bf := aM (hbox); have cf := aM ((by rw [hg]; exact (aq z9) : w.heap.size ≤ aQ)); have cA := aM ((by rw [hg]; exact (aq z9) : w.heap.size ≤ aQ)); clear aW; clear a4; clear bp; clear HB; have aW := aT; have a4 := aU; have bp := aX; have HB := a5; have aV := bf; have cD := cf; have cE := cA; clear aT aU aX a5 bf cf cA; clear hb hbox hg; have d6 : w14.cell? ⟨aQ, 0, none⟩ = some (.int .i64 0) := (bC aV.out 0).trans rfl; have d5 : w14.cell? ⟨aQ, 1, none⟩ = some (.string (⟨#[]⟩ : ByteArray)) := (bC aV.out 1).trans rfl; have d4 : w14.cell? ⟨aQ, 2, none⟩ = some (.string (⟨#[]⟩ : ByteArray)) := (bC aV.out 2).trans rfl; have dZ := bF aV.out 0; have dY := bF aV.out 1; have dX := bF aV.out 2)); try go_wp2_with (first | ((with_reducible refine aD (N := 10) rfl ?_); (try (refine gate_guard (by rfl) ?_; dsimp only)); refine aE ?hg (N := 10) ?hd (cs := #[.int .i64 0, .string (⟨#[]⟩ : ByteArray), .string (⟨#[]⟩ : ByteArray)]) (t := 44) ?hr ?_; (case hd => rfl); (case hg => rfl); (case hr => first | (go_simp; done) | (go_simp; rfl)); intro aQ hg w14 hbox hb; have aT := aM (ae z4 hb); have aU := aM (ae z5 hb); have aX := aM (ae (Kd.R_elderB z6 aQ (Nat.le_of_eq hg.symm)) hb); have a5 := aM (ap z9 hb); have bf := aM (hbox); have cf := aM ((by rw [hg]; exact (aq z9) : w.heap.size ≤ aQ)); have cA := aM ((by rw [hg]; exact (aq z9) : w.heap.size ≤ aQ)); clear aW; clear a4; clear bp; clear HB; have aW := aT; have a4 := aU; have bp := aX; have HB := a5; have aV := bf; have cD := cf; have cE := cA; clear aT aU aX a5 bf cf cA; clear hb hbox hg; have d6 : w14.cell? ⟨aQ, 0, none⟩ = some (.int .i64 0) := (bC aV.out 0).trans rfl; have d5 : w14.cell? ⟨aQ, 1, none⟩ = some (.string (⟨#[]⟩ : ByteArray)) := (bC aV.out 1).trans rfl; have d4 : w14.cell? ⟨aQ, 2, none⟩ = some (.string (⟨#[]⟩ : ByteArray)) := (bC aV.out 2).trans rfl; have dZ := bF aV.out 0; have dY := bF aV.out 1; have dX := bF aV.out 2)))
       all_goals (try (exfalso; rename_i h_; rw [c13b0] at h_; cases h_; done))
       go_roundg k1
       case measure => have := HK1.out; omega
       case rel => exact ⟨(x7_1), (wrap64 (x8_1 + (wrap64 (((rd_T44 aZ x18_1).f0) + (((rd_T44 aZ x18_1).f2).size : Int))))), (wrap64 (x18_1 + 1)), z1, z1, z1, H', ⟨y0⟩, ⟨y25⟩, ⟨y26⟩, ⟨y27⟩, ⟨y19⟩⟩
      ·rw [if_neg bR] at H
       have c13b0 : (((rd_T44 aZ x18_1).f1).toList == ([] : List UInt8)) = false := qF bR
       have c13b1 : (((rd_T44 aZ x18_1).f1).toList != ([] : List UInt8)) = true := nT bR
       have c13b8 : (!((rd_T44 aZ x18_1).f1).toList.isEmpty) = true := by have h_ := c13b1; revert h_; cases ((rd_T44 aZ x18_1).f1).toList <;> simp
       by_cases cG : x8_1 > 0
       ·rw [if_pos cG] at H
        have c16b0 : decide (0 < x8_1) = true := dT cG
        clear cG
        by_cases cB : x8_1 < (ee.length : Int)
        ·rw [if_pos cB] at H
         have c17b0 : decide (x8_1 < (ee.length : Int)) = true := dT cB
         clear cB
         obtain ⟨bg, cC⟩ : ∃ j_ : Int, (wrap64 (x8_1 - 1)) = j_ := ⟨_, rfl⟩
         replace H : (if 0 ≤ (bg) then (if (bg) < (bB.length : Int) then (if (rd bB (bg)) > 0 then (if 0 ≤ x8_1 then (if x8_1 < (bB.length : Int) then (if (rd bB (bg)) = (rd bB x8_1) then (spec_l4Within.l0 k1 ee bB (wrap64 (x7_1 + 1)) (wrap64 (x8_1 + (wrap64 (((rd_T44 aZ x18_1).f0) + (((rd_T44 aZ x18_1).f2).size : Int))))) aZ (aZ.length : Int) (wrap64 (x18_1 + 1))) else (spec_l4Within.l0 k1 ee bB x7_1 (wrap64 (x8_1 + (wrap64 (((rd_T44 aZ x18_1).f0) + (((rd_T44 aZ x18_1).f2).size : Int))))) aZ (aZ.length : Int) (wrap64 (x18_1 + 1)))) else (none)) else (none)) else (spec_l4Within.l0 k1 ee bB x7_1 (wrap64 (x8_1 + (wrap64 (((rd_T44 aZ x18_1).f0) + (((rd_T44 aZ x18_1).f2).size : Int))))) aZ (aZ.length : Int) (wrap64 (x18_1 + 1)))) else (none)) else (none)) = some r := by first | (rw [cC] at H; exact H) | (simp only [cC] at H ⊢; exact H)
         have hji18w : (IntKind.i64.wrap (x8_1 - 1)) = bg := (i64_w _).trans cC
         by_cases fy : 0 ≤ (bg)
         ·rw [if_pos fy] at H
          have c19b0 : decide (0 ≤ (bg)) = true := dT fy
          clear fy
          by_cases dd : (bg) < (bB.length : Int)
          ·rw [if_pos dd] at H
           have c20b0 : decide ((bg) < (bB.length : Int)) = true := dT dd
           clear dd
           by_cases cF : (rd bB (bg)) > 0
           ·rw [if_pos cF] at H
            have c21b0 : decide (0 < (rd bB (bg))) = true := dT cF
            clear cF
            by_cases ec : 0 ≤ x8_1
            ·rw [if_pos ec] at H
             have c22b0 : decide (0 ≤ x8_1) = true := dT ec
             clear ec
             by_cases dw : x8_1 < (bB.length : Int)
             ·rw [if_pos dw] at H
              have c23b0 : decide (x8_1 < (bB.length : Int)) = true := dT dw
              clear dw
              by_cases dN : (rd bB (bg)) = (rd bB x8_1)
              ·rw [if_pos dN] at H
               have c24b0 : ((rd bB (bg)) == (rd bB x8_1)) = true := qT dN
               have c24b1 : ((rd bB (bg)) != (rd bB x8_1)) = false := nF dN
               clear dN
               have H' := aM H
               clear H
               have p247 : 0 ≤ (x18_1 : Int) := oD z2
               have q247 : x18_1 < (aZ.length : Int) := oD z2
               obtain ⟨ad247, e247, hx247_0, hx247_1, hx247_2⟩ := at_T44 (ag bp.out).2.2 x18_1 p247 q247
               cases e247
               replace p247 := eq_true p247
               replace q247 := eq_true q247
               go_wp2_with (first | ((with_reducible refine aD (N := 10) rfl ?_); (try (refine gate_guard (by rfl) ?_; dsimp only)); refine aE ?hg (N := 10) ?hd (cs := #[.int .i64 0, .string (⟨#[]⟩ : ByteArray), .string (⟨#[]⟩ : ByteArray)]) (t := 44) ?hr ?_; (case hd => rfl); (case hg => rfl); (case hr => first | (go_simp; done) | (go_simp; rfl)); intro aQ hg w25 hbox hb; have aT := aM (ae z4 hb); have aU := aM (ae z5 hb); have aX := aM (ae (Kd.R_elderB z6 aQ (Nat.le_of_eq hg.symm)) hb); have a5 := aM (ap z9 hb); have bf := aM (hbox); have cf := aM ((by rw [hg]; exact (aq z9) : w.heap.size ≤ aQ)); have cA := aM ((by rw [hg]; exact (aq z9) : w.heap.size ≤ aQ)); clear aW; clear a4; clear bp; clear HB; have aW := aT; have a4 := aU; have bp := aX; have HB := a5; have aV := bf; have cD := cf; have cE := cA; clear aT aU aX a5 bf cf cA; clear hb hbox hg; have cT : w25.cell? ⟨aQ, 0, none⟩ = some (.int .i64 0) := (bC aV.out 0).trans rfl; have cS : w25.cell? ⟨aQ, 1, none⟩ = some (.string (⟨#[]⟩ : ByteArray)) := (bC aV.out 1).trans rfl; have cR : w25.cell? ⟨aQ, 2, none⟩ = some (.string (⟨#[]⟩ : ByteArray)) := (bC aV.out 2).trans rfl; have cQ := bF aV.out 0; have cP := bF aV.out 1; have cO := bF aV.out 2; obtain ⟨mm, l9, eo27⟩ := Kd.R_slice aW.out; subst eo27; obtain ⟨jW, jP, eo28⟩ := Kd.R_slice a4.out; subst eo28; have p249 : 0 ≤ ((bg) : Int) := oD z2; have q249 : (bg) < (bB.length : Int) := oD z2; obtain ⟨ad249, e249, hx249_0⟩ := Kd.at_int (ag a4.out).2.2 (bg) p249 q249; cases e249; have hn249_0 : ad249.block ≠ aQ := az (aA a4.out aV.out (by decide)); have hn249_1 : ad249.block ≠ aQ := az (aA a4.out aV.out (by decide)); have hn249_2 : ad249.block ≠ aQ := az (aA a4.out aV.out (by decide)); replace hx249_0 := (cell_far (p := ⟨aQ, 0, none⟩) (by first | (rw [add_block]; exact hn249_0) | (show (Addr.add _ _).block ≠ _; rw [add_block]; exact hn249_0) | exact hn249_0) (.int .i64 ((rd_T44 aZ x18_1).f0))).trans hx249_0; replace hx249_0 := (cell_far (p := ⟨aQ, 1, none⟩) (by first | (rw [add_block]; exact hn249_1) | (show (Addr.add _ _).block ≠ _; rw [add_block]; exact hn249_1) | exact hn249_1) (.string ((rd_T44 aZ x18_1).f1))).trans hx249_0; replace hx249_0 := (cell_far (p := ⟨aQ, 2, none⟩) (by first | (rw [add_block]; exact hn249_2) | (show (Addr.add _ _).block ≠ _; rw [add_block]; exact hn249_2) | exact hn249_2) (.string ((rd_T44 aZ x18_1).f2))).trans hx249_0; (try have hy249_0 := fun (n_ : Nat) => (show (((((w25.drewN n_).setCell ⟨aQ, 0, none⟩ (.int .i64 ((rd_T44 aZ x18_1).f0))).setCell ⟨aQ, 1, none⟩ (.string ((rd_T44 aZ x18_1).f1))).setCell ⟨aQ, 2, none⟩ (.string ((rd_T44 aZ x18_1).f2)))).cell? _ = some _ from hx249_0)); clear hn249_0; clear hn249_1; clear hn249_2; replace p249 := eq_true p249; replace q249 := eq_true q249; have p250 : 0 ≤ ((bg) : Int) := oD z2; have q250 : (bg) < (bB.length : Int) := oD z2; obtain ⟨ad250, e250, hx250_0⟩ := Kd.at_int (ag a4.out).2.2 (bg) p250 q250; obtain rfl : ad249 = ad250 := (by injection e250); have hn250_0 : ad249.block ≠ aQ := az (aA a4.out aV.out (by decide)); have hn250_1 : ad249.block ≠ aQ := az (aA a4.out aV.out (by decide)); have hn250_2 : ad249.block ≠ aQ := az (aA a4.out aV.out (by decide)); replace hx250_0 := (cell_far (p := ⟨aQ, 0, none⟩) (by first | (rw [add_block]; exact hn250_0) | (show (Addr.add _ _).block ≠ _; rw [add_block]; exact hn250_0) | exact hn250_0) (.int .i64 ((rd_T44 aZ x18_1).f0))).trans hx250_0; replace hx250_0 := (cell_far (p := ⟨aQ, 1, none⟩) (by first | (rw [add_block]; exact hn250_1) | (show (Addr.add _ _).block ≠ _; rw [add_block]; exact hn250_1) | exact hn250_1) (.string ((rd_T44 aZ x18_1).f1))).trans hx250_0; replace hx250_0 := (cell_far (p := ⟨aQ, 2, none⟩) (by first | (rw [add_block]; exact hn250_2) | (show (Addr.add _ _).block ≠ _; rw [add_block]; exact hn250_2) | exact hn250_2) (.string ((rd_T44 aZ x18_1).f2))).trans hx250_0; (try have hy250_0 := fun (n_ : Nat) => (show (((((w25.drewN n_).setCell ⟨aQ, 0, none⟩ (.int .i64 ((rd_T44 aZ x18_1).f0))).setCell ⟨aQ, 1, none⟩ (.string ((rd_T44 aZ x18_1).f1))).setCell ⟨aQ, 2, none⟩ (.string ((rd_T44 aZ x18_1).f2)))).cell? _ = some _ from hx250_0)); clear hn250_0; clear hn250_1; clear hn250_2; replace p250 := eq_true p250; replace q250 := eq_true q250; have p251 : 0 ≤ (x8_1 : Int) := oD z2; have q251 : x8_1 < (bB.length : Int) := oD z2; obtain ⟨ad251, e251, hx251_0⟩ := Kd.at_int (ag a4.out).2.2 x8_1 p251 q251; obtain rfl : ad249 = ad251 := (by injection e251); have hn251_0 : ad249.block ≠ aQ := az (aA a4.out aV.out (by decide)); have hn251_1 : ad249.block ≠ aQ := az (aA a4.out aV.out (by decide)); have hn251_2 : ad249.block ≠ aQ := az (aA a4.out aV.out (by decide)); replace hx251_0 := (cell_far (p := ⟨aQ, 0, none⟩) (by first | (rw [add_block]; exact hn251_0) | (show (Addr.add _ _).block ≠ _; rw [add_block]; exact hn251_0) | exact hn251_0) (.int .i64 ((rd_T44 aZ x18_1).f0))).trans hx251_0; replace hx251_0 := (cell_far (p := ⟨aQ, 1, none⟩) (by first | (rw [add_block]; exact hn251_1) | (show (Addr.add _ _).block ≠ _; rw [add_block]; exact hn251_1) | exact hn251_1) (.string ((rd_T44 aZ x18_1).f1))).trans hx251_0; replace hx251_0 := (cell_far (p := ⟨aQ, 2, none⟩) (by first | (rw [add_block]; exact hn251_2) | (show (Addr.add _ _).block ≠ _; rw [add_block]; exact hn251_2) | exact hn251_2) (.string ((rd_T44 aZ x18_1).f2))).trans hx251_0; (try have hy251_0 := fun (n_ : Nat) => (show (((((w25.drewN n_).setCell ⟨aQ, 0, none⟩ (.int .i64 ((rd_T44 aZ x18_1).f0))).setCell ⟨aQ, 1, none⟩ (.string ((rd_T44 aZ x18_1).f1))).setCell ⟨aQ, 2, none⟩ (.string ((rd_T44 aZ x18_1).f2)))).cell? _ = some _ from hx251_0)); clear hn251_0; clear hn251_1; clear hn251_2; replace p251 := eq_true p251; replace q251 := eq_true q251))
               all_goals (try (exfalso; rename_i h_; rw [c13b0] at h_; cases h_; done))
               repeat (go_quiet (first | ((with_reducible refine aD (N := 10) rfl ?_); (try (refine gate_guard (by rfl) ?_; dsimp only)); refine aE ?hg (N := 10) ?hd (cs := #[.int .i64 0, .string (⟨#[]⟩ : ByteArray), .string (⟨#[]⟩ : ByteArray)]) (t := 44) ?hr ?_; (case hd => rfl); (case hg => rfl); (case hr => first | (go_simp; done) | (go_simp; rfl)); intro aQ hg w25 hbox hb; have aT := aM (ae z4 hb); have aU := aM (ae z5 hb); have aX := aM (ae (Kd.R_elderB z6 aQ (Nat.le_of_eq hg.symm)) hb); have a5 := aM (ap z9 hb); have bf := aM (hbox); have cf := aM ((by rw [hg]; exact (aq z9) : w.heap.size ≤ aQ)); have cA := aM ((by rw [hg]; exact (aq z9) : w.heap.size ≤ aQ)); clear aW; clear a4; clear bp; clear HB; have aW := aT; have a4 := aU; have bp := aX; have HB := a5; have aV := bf; have cD := cf; have cE := cA; clear aT aU aX a5 bf cf cA; clear hb hbox hg; have cT : w25.cell? ⟨aQ, 0, none⟩ = some (.int .i64 0) := (bC aV.out 0).trans rfl; have cS : w25.cell? ⟨aQ, 1, none⟩ = some (.string (⟨#[]⟩ : ByteArray)) := (bC aV.out 1).trans rfl; have cR : w25.cell? ⟨aQ, 2, none⟩ = some (.string (⟨#[]⟩ : ByteArray)) := (bC aV.out 2).trans rfl; have cQ := bF aV.out 0; have cP := bF aV.out 1; have cO := bF aV.out 2; obtain ⟨mm, l9, eo27⟩ := Kd.R_slice aW.out; subst eo27; obtain ⟨jW, jP, eo28⟩ := Kd.R_slice a4.out; subst eo28; have p249 : 0 ≤ ((bg) : Int) := oD z2; have q249 : (bg) < (bB.length : Int) := oD z2; obtain ⟨ad249, e249, hx249_0⟩ := Kd.at_int (ag a4.out).2.2 (bg) p249 q249; cases e249; have hn249_0 : ad249.block ≠ aQ := az (aA a4.out aV.out (by decide)); have hn249_1 : ad249.block ≠ aQ := az (aA a4.out aV.out (by decide)); have hn249_2 : ad249.block ≠ aQ := az (aA a4.out aV.out (by decide)); replace hx249_0 := (cell_far (p := ⟨aQ, 0, none⟩) (by first | (rw [add_block]; exact hn249_0) | (show (Addr.add _ _).block ≠ _; rw [add_block]; exact hn249_0) | exact hn249_0) (.int .i64 ((rd_T44 aZ x18_1).f0))).trans hx249_0; replace hx249_0 := (cell_far (p := ⟨aQ, 1, none⟩) (by first | (rw [add_block]; exact hn249_1) | (show (Addr.add _ _).block ≠ _; rw [add_block]; exact hn249_1) | exact hn249_1) (.string ((rd_T44 aZ x18_1).f1))).trans hx249_0; replace hx249_0 := (cell_far (p := ⟨aQ, 2, none⟩) (by first | (rw [add_block]; exact hn249_2) | (show (Addr.add _ _).block ≠ _; rw [add_block]; exact hn249_2) | exact hn249_2) (.string ((rd_T44 aZ x18_1).f2))).trans hx249_0; (try have hy249_0 := fun (n_ : Nat) => (show (((((w25.drewN n_).setCell ⟨aQ, 0, none⟩ (.int .i64 ((rd_T44 aZ x18_1).f0))).setCell ⟨aQ, 1, none⟩ (.string ((rd_T44 aZ x18_1).f1))).setCell ⟨aQ, 2, none⟩ (.string ((rd_T44 aZ x18_1).f2)))).cell? _ = some _ from hx249_0)); clear hn249_0; clear hn249_1; clear hn249_2; replace p249 := eq_true p249; replace q249 := eq_true q249; have p250 : 0 ≤ ((bg) : Int) := oD z2; have q250 : (bg) < (bB.length : Int) := oD z2; obtain ⟨ad250, e250, hx250_0⟩ := Kd.at_int (ag a4.out).2.2 (bg) p250 q250; obtain rfl : ad249 = ad250 := (by injection e250); have hn250_0 : ad249.block ≠ aQ := az (aA a4.out aV.out (by decide)); have hn250_1 : ad249.block ≠ aQ := az (aA a4.out aV.out (by decide)); have hn250_2 : ad249.block ≠ aQ := az (aA a4.out aV.out (by decide)); replace hx250_0 := (cell_far (p := ⟨aQ, 0, none⟩) (by first | (rw [add_block]; exact hn250_0) | (show (Addr.add _ _).block ≠ _; rw [add_block]; exact hn250_0) | exact hn250_0) (.int .i64 ((rd_T44 aZ x18_1).f0))).trans hx250_0; replace hx250_0 := (cell_far (p := ⟨aQ, 1, none⟩) (by first | (rw [add_block]; exact hn250_1) | (show (Addr.add _ _).block ≠ _; rw [add_block]; exact hn250_1) | exact hn250_1) (.string ((rd_T44 aZ x18_1).f1))).trans hx250_0; replace hx250_0 := (cell_far (p := ⟨aQ, 2, none⟩) (by first | (rw [add_block]; exact hn250_2) | (show (Addr.add _ _).block ≠ _; rw [add_block]; exact hn250_2) | exact hn250_2) (.string ((rd_T44 aZ x18_1).f2))).trans hx250_0; (try have hy250_0 := fun (n_ : Nat) => (show (((((w25.drewN n_).setCell ⟨aQ, 0, none⟩ (.int .i64 ((rd_T44 aZ x18_1).f0))).setCell ⟨aQ, 1, none⟩ (.string ((rd_T44 aZ x18_1).f1))).setCell ⟨aQ, 2, none⟩ (.string ((rd_T44 aZ x18_1).f2)))).cell? _ = some _ from hx250_0)); clear hn250_0; clear hn250_1; clear hn250_2; replace p250 := eq_true p250; replace q250 := eq_true q250; have p251 : 0 ≤ (x8_1 : Int) := oD z2; have q251 : x8_1 < (bB.length : Int) := oD z2; obtain ⟨ad251, e251, hx251_0⟩ := Kd.at_int (ag a4.out).2.2 x8_1 p251 q251; obtain rfl : ad249 = ad251 := (by injection e251); have hn251_0 : ad249.block ≠ aQ := az (aA a4.out aV.out (by decide)); have hn251_1 : ad249.block ≠ aQ := az (aA a4.out aV.out (by decide)); have hn251_2 : ad249.block ≠ aQ := az (aA a4.out aV.out (by decide)); replace hx251_0 := (cell_far (p := ⟨aQ, 0, none⟩) (by first | (rw [add_block]; exact hn251_0) | (show (Addr.add _ _).block ≠ _; rw [add_block]; exact hn251_0) | exact hn251_0) (.int .i64 ((rd_T44 aZ x18_1).f0))).trans hx251_0; replace hx251_0 := (cell_far (p := ⟨aQ, 1, none⟩) (by first | (rw [add_block]; exact hn251_1) | (show (Addr.add _ _).block ≠ _; rw [add_block]; exact hn251_1) | exact hn251_1) (.string ((rd_T44 aZ x18_1).f1))).trans hx251_0; replace hx251_0 := (cell_far (p := ⟨aQ, 2, none⟩) (by first | (rw [add_block]; exact hn251_2) | (show (Addr.add _ _).block ≠ _; rw [add_block]; exact hn251_2) | exact hn251_2) (.string ((rd_T44 aZ x18_1).f2))).trans hx251_0; (try have hy251_0 := fun (n_ : Nat) => (show (((((w25.drewN n_).setCell ⟨aQ, 0, none⟩ (.int .i64 ((rd_T44 aZ x18_1).f0))).setCell ⟨aQ, 1, none⟩ (.string ((rd_T44 aZ x18_1).f1))).setCell ⟨aQ, 2, none⟩ (.string ((rd_T44 aZ x18_1).f2)))).cell? _ = some _ from hx251_0)); clear hn251_0; clear hn251_1; clear hn251_2; replace p251 := eq_true p251; replace q251 := eq_true q251)); try go_wp2_with (first | ((with_reducible refine aD (N := 10) rfl ?_); (try (refine gate_guard (by rfl) ?_; dsimp only)); refine aE ?hg (N := 10) ?hd (cs := #[.int .i64 0, .string (⟨#[]⟩ : ByteArray), .string (⟨#[]⟩ : ByteArray)]) (t := 44) ?hr ?_; (case hd => rfl); (case hg => rfl); (case hr => first | (go_simp; done) | (go_simp; rfl)); intro aQ hg w25 hbox hb; have aT := aM (ae z4 hb); have aU := aM (ae z5 hb); have aX := aM (ae (Kd.R_elderB z6 aQ (Nat.le_of_eq hg.symm)) hb); have a5 := aM (ap z9 hb); have bf := aM (hbox); have cf := aM ((by rw [hg]; exact (aq z9) : w.heap.size ≤ aQ)); have cA := aM ((by rw [hg]; exact (aq z9) : w.heap.size ≤ aQ)); clear aW; clear a4; clear bp; clear HB; have aW := aT; have a4 := aU; have bp := aX; have HB := a5; have aV := bf; have cD := cf; have cE := cA; clear aT aU aX a5 bf cf cA; clear hb hbox hg; have cT : w25.cell? ⟨aQ, 0, none⟩ = some (.int .i64 0) := (bC aV.out 0).trans rfl; have cS : w25.cell? ⟨aQ, 1, none⟩ = some (.string (⟨#[]⟩ : ByteArray)) := (bC aV.out 1).trans rfl; have cR : w25.cell? ⟨aQ, 2, none⟩ = some (.string (⟨#[]⟩ : ByteArray)) := (bC aV.out 2).trans rfl; have cQ := bF aV.out 0; have cP := bF aV.out 1; have cO := bF aV.out 2; obtain ⟨mm, l9, eo27⟩ := Kd.R_slice aW.out; subst eo27; obtain ⟨jW, jP, eo28⟩ := Kd.R_slice a4.out; subst eo28; have p249 : 0 ≤ ((bg) : Int) := oD z2; have q249 : (bg) < (bB.length : Int) := oD z2; obtain ⟨ad249, e249, hx249_0⟩ := Kd.at_int (ag a4.out).2.2 (bg) p249 q249; cases e249; have hn249_0 : ad249.block ≠ aQ := az (aA a4.out aV.out (by decide)); have hn249_1 : ad249.block ≠ aQ := az (aA a4.out aV.out (by decide)); have hn249_2 : ad249.block ≠ aQ := az (aA a4.out aV.out (by decide)); replace hx249_0 := (cell_far (p := ⟨aQ, 0, none⟩) (by first | (rw [add_block]; exact hn249_0) | (show (Addr.add _ _).block ≠ _; rw [add_block]; exact hn249_0) | exact hn249_0) (.int .i64 ((rd_T44 aZ x18_1).f0))).trans hx249_0; replace hx249_0 := (cell_far (p := ⟨aQ, 1, none⟩) (by first | (rw [add_block]; exact hn249_1) | (show (Addr.add _ _).block ≠ _; rw [add_block]; exact hn249_1) | exact hn249_1) (.string ((rd_T44 aZ x18_1).f1))).trans hx249_0; replace hx249_0 := (cell_far (p := ⟨aQ, 2, none⟩) (by first | (rw [add_block]; exact hn249_2) | (show (Addr.add _ _).block ≠ _; rw [add_block]; exact hn249_2) | exact hn249_2) (.string ((rd_T44 aZ x18_1).f2))).trans hx249_0; (try have hy249_0 := fun (n_ : Nat) => (show (((((w25.drewN n_).setCell ⟨aQ, 0, none⟩ (.int .i64 ((rd_T44 aZ x18_1).f0))).setCell ⟨aQ, 1, none⟩ (.string ((rd_T44 aZ x18_1).f1))).setCell ⟨aQ, 2, none⟩ (.string ((rd_T44 aZ x18_1).f2)))).cell? _ = some _ from hx249_0)); clear hn249_0; clear hn249_1; clear hn249_2; replace p249 := eq_true p249; replace q249 := eq_true q249; have p250 : 0 ≤ ((bg) : Int) := oD z2; have q250 : (bg) < (bB.length : Int) := oD z2; obtain ⟨ad250, e250, hx250_0⟩ := Kd.at_int (ag a4.out).2.2 (bg) p250 q250; obtain rfl : ad249 = ad250 := (by injection e250); have hn250_0 : ad249.block ≠ aQ := az (aA a4.out aV.out (by decide)); have hn250_1 : ad249.block ≠ aQ := az (aA a4.out aV.out (by decide)); have hn250_2 : ad249.block ≠ aQ := az (aA a4.out aV.out (by decide)); replace hx250_0 := (cell_far (p := ⟨aQ, 0, none⟩) (by first | (rw [add_block]; exact hn250_0) | (show (Addr.add _ _).block ≠ _; rw [add_block]; exact hn250_0) | exact hn250_0) (.int .i64 ((rd_T44 aZ x18_1).f0))).trans hx250_0; replace hx250_0 := (cell_far (p := ⟨aQ, 1, none⟩) (by first | (rw [add_block]; exact hn250_1) | (show (Addr.add _ _).block ≠ _; rw [add_block]; exact hn250_1) | exact hn250_1) (.string ((rd_T44 aZ x18_1).f1))).trans hx250_0; replace hx250_0 := (cell_far (p := ⟨aQ, 2, none⟩) (by first | (rw [add_block]; exact hn250_2) | (show (Addr.add _ _).block ≠ _; rw [add_block]; exact hn250_2) | exact hn250_2) (.string ((rd_T44 aZ x18_1).f2))).trans hx250_0; (try have hy250_0 := fun (n_ : Nat) => (show (((((w25.drewN n_).setCell ⟨aQ, 0, none⟩ (.int .i64 ((rd_T44 aZ x18_1).f0))).setCell ⟨aQ, 1, none⟩ (.string ((rd_T44 aZ x18_1).f1))).setCell ⟨aQ, 2, none⟩ (.string ((rd_T44 aZ x18_1).f2)))).cell? _ = some _ from hx250_0)); clear hn250_0; clear hn250_1; clear hn250_2; replace p250 := eq_true p250; replace q250 := eq_true q250; have p251 : 0 ≤ (x8_1 : Int) := oD z2; have q251 : x8_1 < (bB.length : Int) := oD z2; obtain ⟨ad251, e251, hx251_0⟩ := Kd.at_int (ag a4.out).2.2 x8_1 p251 q251; obtain rfl : ad249 = ad251 := (by injection e251); have hn251_0 : ad249.block ≠ aQ := az (aA a4.out aV.out (by decide)); have hn251_1 : ad249.block ≠ aQ := az (aA a4.out aV.out (by decide)); have hn251_2 : ad249.block ≠ aQ := az (aA a4.out aV.out (by decide)); replace hx251_0 := (cell_far (p := ⟨aQ, 0, none⟩) (by first | (rw [add_block]; exact hn251_0) | (show (Addr.add _ _).block ≠ _; rw [add_block]; exact hn251_0) | exact hn251_0) (.int .i64 ((rd_T44 aZ x18_1).f0))).trans hx251_0; replace hx251_0 := (cell_far (p := ⟨aQ, 1, none⟩) (by first | (rw [add_block]; exact hn251_1) | (show (Addr.add _ _).block ≠ _; rw [add_block]; exact hn251_1) | exact hn251_1) (.string ((rd_T44 aZ x18_1).f1))).trans hx251_0; replace hx251_0 := (cell_far (p := ⟨aQ, 2, none⟩) (by first | (rw [add_block]; exact hn251_2) | (show (Addr.add _ _).block ≠ _; rw [add_block]; exact hn251_2) | exact hn251_2) (.string ((rd_T44 aZ x18_1).f2))).trans hx251_0; (try have hy251_0 := fun (n_ : Nat) => (show (((((w25.drewN n_).setCell ⟨aQ, 0, none⟩ (.int .i64 ((rd_T44 aZ x18_1).f0))).setCell ⟨aQ, 1, none⟩ (.string ((rd_T44 aZ x18_1).f1))).setCell ⟨aQ, 2, none⟩ (.string ((rd_T44 aZ x18_1).f2)))).cell? _ = some _ from hx251_0)); clear hn251_0; clear hn251_1; clear hn251_2; replace p251 := eq_true p251; replace q251 := eq_true q251)))
               all_goals (try (exfalso; rename_i h_; rw [c13b0] at h_; cases h_; done))
               go_roundg k1
               case measure => have := HK1.out; omega
               case rel => exact ⟨(wrap64 (x7_1 + 1)), (wrap64 (x8_1 + (wrap64 (((rd_T44 aZ x18_1).f0) + (((rd_T44 aZ x18_1).f2).size : Int))))), (wrap64 (x18_1 + 1)), z1, z1, z1, (by first | exact H' | (simp only [cC]; exact H') | (simp only [← cC]; exact H')), ⟨y0⟩, ⟨y25⟩, ⟨y26⟩, ⟨y27⟩, ⟨y19⟩⟩
              ·rw [if_neg dN] at H
               have c24b0 : ((rd bB (bg)) == (rd bB x8_1)) = false := qF dN
               have c24b1 : ((rd bB (bg)) != (rd bB x8_1)) = true := nT dN
               have H' := aM H
               clear H
               have p247 : 0 ≤ (x18_1 : Int) := oD z2
               have q247 : x18_1 < (aZ.length : Int) := oD z2
               obtain ⟨ad247, e247, hx247_0, hx247_1, hx247_2⟩ := at_T44 (ag bp.out).2.2 x18_1 p247 q247
               cases e247
               replace p247 := eq_true p247
               replace q247 := eq_true q247
               go_wp2_with (first | ((with_reducible refine aD (N := 10) rfl ?_); (try (refine gate_guard (by rfl) ?_; dsimp only)); refine aE ?hg (N := 10) ?hd (cs := #[.int .i64 0, .string (⟨#[]⟩ : ByteArray), .string (⟨#[]⟩ : ByteArray)]) (t := 44) ?hr ?_; (case hd => rfl); (case hg => rfl); (case hr => first | (go_simp; done) | (go_simp; rfl)); intro aQ hg w29 hbox hb; have aT := aM (ae z4 hb); have aU := aM (ae z5 hb); have aX := aM (ae (Kd.R_elderB z6 aQ (Nat.le_of_eq hg.symm)) hb); have a5 := aM (ap z9 hb); have bf := aM (hbox); have cf := aM ((by rw [hg]; exact (aq z9) : w.heap.size ≤ aQ)); have cA := aM ((by rw [hg]; exact (aq z9) : w.heap.size ≤ aQ)); clear aW; clear a4; clear bp; clear HB; have aW := aT; have a4 := aU; have bp := aX; have HB := a5; have aV := bf; have cD := cf; have cE := cA; clear aT aU aX a5 bf cf cA; clear hb hbox hg; have gC : w29.cell? ⟨aQ, 0, none⟩ = some (.int .i64 0) := (bC aV.out 0).trans rfl; have gB : w29.cell? ⟨aQ, 1, none⟩ = some (.string (⟨#[]⟩ : ByteArray)) := (bC aV.out 1).trans rfl; have gA : w29.cell? ⟨aQ, 2, none⟩ = some (.string (⟨#[]⟩ : ByteArray)) := (bC aV.out 2).trans rfl; have ga := bF aV.out 0; have f9 := bF aV.out 1; have f8 := bF aV.out 2; obtain ⟨gU, gM, eo31⟩ := Kd.R_slice aW.out; subst eo31; obtain ⟨jV, jO, eo32⟩ := Kd.R_slice a4.out; subst eo32; have p249 : 0 ≤ ((bg) : Int) := oD z2; have q249 : (bg) < (bB.length : Int) := oD z2; obtain ⟨ad249, e249, hx249_0⟩ := Kd.at_int (ag a4.out).2.2 (bg) p249 q249; cases e249; have hn249_0 : ad249.block ≠ aQ := az (aA a4.out aV.out (by decide)); have hn249_1 : ad249.block ≠ aQ := az (aA a4.out aV.out (by decide)); have hn249_2 : ad249.block ≠ aQ := az (aA a4.out aV.out (by decide)); replace hx249_0 := (cell_far (p := ⟨aQ, 0, none⟩) (by first | (rw [add_block]; exact hn249_0) | (show (Addr.add _ _).block ≠ _; rw [add_block]; exact hn249_0) | exact hn249_0) (.int .i64 ((rd_T44 aZ x18_1).f0))).trans hx249_0; replace hx249_0 := (cell_far (p := ⟨aQ, 1, none⟩) (by first | (rw [add_block]; exact hn249_1) | (show (Addr.add _ _).block ≠ _; rw [add_block]; exact hn249_1) | exact hn249_1) (.string ((rd_T44 aZ x18_1).f1))).trans hx249_0; replace hx249_0 := (cell_far (p := ⟨aQ, 2, none⟩) (by first | (rw [add_block]; exact hn249_2) | (show (Addr.add _ _).block ≠ _; rw [add_block]; exact hn249_2) | exact hn249_2) (.string ((rd_T44 aZ x18_1).f2))).trans hx249_0; (try have hy249_0 := fun (n_ : Nat) => (show (((((w29.drewN n_).setCell ⟨aQ, 0, none⟩ (.int .i64 ((rd_T44 aZ x18_1).f0))).setCell ⟨aQ, 1, none⟩ (.string ((rd_T44 aZ x18_1).f1))).setCell ⟨aQ, 2, none⟩ (.string ((rd_T44 aZ x18_1).f2)))).cell? _ = some _ from hx249_0)); clear hn249_0; clear hn249_1; clear hn249_2; replace p249 := eq_true p249; replace q249 := eq_true q249; have p250 : 0 ≤ ((bg) : Int) := oD z2; have q250 : (bg) < (bB.length : Int) := oD z2; obtain ⟨ad250, e250, hx250_0⟩ := Kd.at_int (ag a4.out).2.2 (bg) p250 q250; obtain rfl : ad249 = ad250 := (by injection e250); have hn250_0 : ad249.block ≠ aQ := az (aA a4.out aV.out (by decide)); have hn250_1 : ad249.block ≠ aQ := az (aA a4.out aV.out (by decide)); have hn250_2 : ad249.block ≠ aQ := az (aA a4.out aV.out (by decide)); replace hx250_0 := (cell_far (p := ⟨aQ, 0, none⟩) (by first | (rw [add_block]; exact hn250_0) | (show (Addr.add _ _).block ≠ _; rw [add_block]; exact hn250_0) | exact hn250_0) (.int .i64 ((rd_T44 aZ x18_1).f0))).trans hx250_0; replace hx250_0 := (cell_far (p := ⟨aQ, 1, none⟩) (by first | (rw [add_block]; exact hn250_1) | (show (Addr.add _ _).block ≠ _; rw [add_block]; exact hn250_1) | exact hn250_1) (.string ((rd_T44 aZ x18_1).f1))).trans hx250_0; replace hx250_0 := (cell_far (p := ⟨aQ, 2, none⟩) (by first | (rw [add_block]; exact hn250_2) | (show (Addr.add _ _).block ≠ _; rw [add_block]; exact hn250_2) | exact hn250_2) (.string ((rd_T44 aZ x18_1).f2))).trans hx250_0; (try have hy250_0 := fun (n_ : Nat) => (show (((((w29.drewN n_).setCell ⟨aQ, 0, none⟩ (.int .i64 ((rd_T44 aZ x18_1).f0))).setCell ⟨aQ, 1, none⟩ (.string ((rd_T44 aZ x18_1).f1))).setCell ⟨aQ, 2, none⟩ (.string ((rd_T44 aZ x18_1).f2)))).cell? _ = some _ from hx250_0)); clear hn250_0; clear hn250_1; clear hn250_2; replace p250 := eq_true p250; replace q250 := eq_true q250; have p251 : 0 ≤ (x8_1 : Int) := oD z2; have q251 : x8_1 < (bB.length : Int) := oD z2; obtain ⟨ad251, e251, hx251_0⟩ := Kd.at_int (ag a4.out).2.2 x8_1 p251 q251; obtain rfl : ad249 = ad251 := (by injection e251); have hn251_0 : ad249.block ≠ aQ := az (aA a4.out aV.out (by decide)); have hn251_1 : ad249.block ≠ aQ := az (aA a4.out aV.out (by decide)); have hn251_2 : ad249.block ≠ aQ := az (aA a4.out aV.out (by decide)); replace hx251_0 := (cell_far (p := ⟨aQ, 0, none⟩) (by first | (rw [add_block]; exact hn251_0) | (show (Addr.add _ _).block ≠ _; rw [add_block]; exact hn251_0) | exact hn251_0) (.int .i64 ((rd_T44 aZ x18_1).f0))).trans hx251_0; replace hx251_0 := (cell_far (p := ⟨aQ, 1, none⟩) (by first | (rw [add_block]; exact hn251_1) | (show (Addr.add _ _).block ≠ _; rw [add_block]; exact hn251_1) | exact hn251_1) (.string ((rd_T44 aZ x18_1).f1))).trans hx251_0; replace hx251_0 := (cell_far (p := ⟨aQ, 2, none⟩) (by first | (rw [add_block]; exact hn251_2) | (show (Addr.add _ _).block ≠ _; rw [add_block]; exact hn251_2) | exact hn251_2) (.string ((rd_T44 aZ x18_1).f2))).trans hx251_0; (try have hy251_0 := fun (n_ : Nat) => (show (((((w29.drewN n_).setCell ⟨aQ, 0, none⟩ (.int .i64 ((rd_T44 aZ x18_1).f0))).setCell ⟨aQ, 1, none⟩ (.string ((rd_T44 aZ x18_1).f1))).setCell ⟨aQ, 2, none⟩ (.string ((rd_T44 aZ x18_1).f2)))).cell? _ = some _ from hx251_0)); clear hn251_0; clear hn251_1; clear hn251_2; replace p251 := eq_true p251; replace q251 := eq_true q251))
               all_goals (try (exfalso; rename_i h_; rw [c13b0] at h_; cases h_; done))
               repeat (go_quiet (first | ((with_reducible refine aD (N := 10) rfl ?_); (try (refine gate_guard (by rfl) ?_; dsimp only)); refine aE ?hg (N := 10) ?hd (cs := #[.int .i64 0, .string (⟨#[]⟩ : ByteArray), .string (⟨#[]⟩ : ByteArray)]) (t := 44) ?hr ?_; (case hd => rfl); (case hg => rfl); (case hr => first | (go_simp; done) | (go_simp; rfl)); intro aQ hg w29 hbox hb; have aT := aM (ae z4 hb); have aU := aM (ae z5 hb); have aX := aM (ae (Kd.R_elderB z6 aQ (Nat.le_of_eq hg.symm)) hb); have a5 := aM (ap z9 hb); have bf := aM (hbox); have cf := aM ((by rw [hg]; exact (aq z9) : w.heap.size ≤ aQ)); have cA := aM ((by rw [hg]; exact (aq z9) : w.heap.size ≤ aQ)); clear aW; clear a4; clear bp; clear HB; have aW := aT; have a4 := aU; have bp := aX; have HB := a5; have aV := bf; have cD := cf; have cE := cA; clear aT aU aX a5 bf cf cA; clear hb hbox hg; have gC : w29.cell? ⟨aQ, 0, none⟩ = some (.int .i64 0) := (bC aV.out 0).trans rfl; have gB : w29.cell? ⟨aQ, 1, none⟩ = some (.string (⟨#[]⟩ : ByteArray)) := (bC aV.out 1).trans rfl; have gA : w29.cell? ⟨aQ, 2, none⟩ = some (.string (⟨#[]⟩ : ByteArray)) := (bC aV.out 2).trans rfl; have ga := bF aV.out 0; have f9 := bF aV.out 1; have f8 := bF aV.out 2; obtain ⟨gU, gM, eo31⟩ := Kd.R_slice aW.out; subst eo31; obtain ⟨jV, jO, eo32⟩ := Kd.R_slice a4.out; subst eo32; have p249 : 0 ≤ ((bg) : Int) := oD z2; have q249 : (bg) < (bB.length : Int) := oD z2; obtain ⟨ad249, e249, hx249_0⟩ := Kd.at_int (ag a4.out).2.2 (bg) p249 q249; cases e249; have hn249_0 : ad249.block ≠ aQ := az (aA a4.out aV.out (by decide)); have hn249_1 : ad249.block ≠ aQ := az (aA a4.out aV.out (by decide)); have hn249_2 : ad249.block ≠ aQ := az (aA a4.out aV.out (by decide)); replace hx249_0 := (cell_far (p := ⟨aQ, 0, none⟩) (by first | (rw [add_block]; exact hn249_0) | (show (Addr.add _ _).block ≠ _; rw [add_block]; exact hn249_0) | exact hn249_0) (.int .i64 ((rd_T44 aZ x18_1).f0))).trans hx249_0; replace hx249_0 := (cell_far (p := ⟨aQ, 1, none⟩) (by first | (rw [add_block]; exact hn249_1) | (show (Addr.add _ _).block ≠ _; rw [add_block]; exact hn249_1) | exact hn249_1) (.string ((rd_T44 aZ x18_1).f1))).trans hx249_0; replace hx249_0 := (cell_far (p := ⟨aQ, 2, none⟩) (by first | (rw [add_block]; exact hn249_2) | (show (Addr.add _ _).block ≠ _; rw [add_block]; exact hn249_2) | exact hn249_2) (.string ((rd_T44 aZ x18_1).f2))).trans hx249_0; (try have hy249_0 := fun (n_ : Nat) => (show (((((w29.drewN n_).setCell ⟨aQ, 0, none⟩ (.int .i64 ((rd_T44 aZ x18_1).f0))).setCell ⟨aQ, 1, none⟩ (.string ((rd_T44 aZ x18_1).f1))).setCell ⟨aQ, 2, none⟩ (.string ((rd_T44 aZ x18_1).f2)))).cell? _ = some _ from hx249_0)); clear hn249_0; clear hn249_1; clear hn249_2; replace p249 := eq_true p249; replace q249 := eq_true q249; have p250 : 0 ≤ ((bg) : Int) := oD z2; have q250 : (bg) < (bB.length : Int) := oD z2; obtain ⟨ad250, e250, hx250_0⟩ := Kd.at_int (ag a4.out).2.2 (bg) p250 q250; obtain rfl : ad249 = ad250 := (by injection e250); have hn250_0 : ad249.block ≠ aQ := az (aA a4.out aV.out (by decide)); have hn250_1 : ad249.block ≠ aQ := az (aA a4.out aV.out (by decide)); have hn250_2 : ad249.block ≠ aQ := az (aA a4.out aV.out (by decide)); replace hx250_0 := (cell_far (p := ⟨aQ, 0, none⟩) (by first | (rw [add_block]; exact hn250_0) | (show (Addr.add _ _).block ≠ _; rw [add_block]; exact hn250_0) | exact hn250_0) (.int .i64 ((rd_T44 aZ x18_1).f0))).trans hx250_0; replace hx250_0 := (cell_far (p := ⟨aQ, 1, none⟩) (by first | (rw [add_block]; exact hn250_1) | (show (Addr.add _ _).block ≠ _; rw [add_block]; exact hn250_1) | exact hn250_1) (.string ((rd_T44 aZ x18_1).f1))).trans hx250_0; replace hx250_0 := (cell_far (p := ⟨aQ, 2, none⟩) (by first | (rw [add_block]; exact hn250_2) | (show (Addr.add _ _).block ≠ _; rw [add_block]; exact hn250_2) | exact hn250_2) (.string ((rd_T44 aZ x18_1).f2))).trans hx250_0; (try have hy250_0 := fun (n_ : Nat) => (show (((((w29.drewN n_).setCell ⟨aQ, 0, none⟩ (.int .i64 ((rd_T44 aZ x18_1).f0))).setCell ⟨aQ, 1, none⟩ (.string ((rd_T44 aZ x18_1).f1))).setCell ⟨aQ, 2, none⟩ (.string ((rd_T44 aZ x18_1).f2)))).cell? _ = some _ from hx250_0)); clear hn250_0; clear hn250_1; clear hn250_2; replace p250 := eq_true p250; replace q250 := eq_true q250; have p251 : 0 ≤ (x8_1 : Int) := oD z2; have q251 : x8_1 < (bB.length : Int) := oD z2; obtain ⟨ad251, e251, hx251_0⟩ := Kd.at_int (ag a4.out).2.2 x8_1 p251 q251; obtain rfl : ad249 = ad251 := (by injection e251); have hn251_0 : ad249.block ≠ aQ := az (aA a4.out aV.out (by decide)); have hn251_1 : ad249.block ≠ aQ := az (aA a4.out aV.out (by decide)); have hn251_2 : ad249.block ≠ aQ := az (aA a4.out aV.out (by decide)); replace hx251_0 := (cell_far (p := ⟨aQ, 0, none⟩) (by first | (rw [add_block]; exact hn251_0) | (show (Addr.add _ _).block ≠ _; rw [add_block]; exact hn251_0) | exact hn251_0) (.int .i64 ((rd_T44 aZ x18_1).f0))).trans hx251_0; replace hx251_0 := (cell_far (p := ⟨aQ, 1, none⟩) (by first | (rw [add_block]; exact hn251_1) | (show (Addr.add _ _).block ≠ _; rw [add_block]; exact hn251_1) | exact hn251_1) (.string ((rd_T44 aZ x18_1).f1))).trans hx251_0; replace hx251_0 := (cell_far (p := ⟨aQ, 2, none⟩) (by first | (rw [add_block]; exact hn251_2) | (show (Addr.add _ _).block ≠ _; rw [add_block]; exact hn251_2) | exact hn251_2) (.string ((rd_T44 aZ x18_1).f2))).trans hx251_0; (try have hy251_0 := fun (n_ : Nat) => (show (((((w29.drewN n_).setCell ⟨aQ, 0, none⟩ (.int .i64 ((rd_T44 aZ x18_1).f0))).setCell ⟨aQ, 1, none⟩ (.string ((rd_T44 aZ x18_1).f1))).setCell ⟨aQ, 2, none⟩ (.string ((rd_T44 aZ x18_1).f2)))).cell? _ = some _ from hx251_0)); clear hn251_0; clear hn251_1; clear hn251_2; replace p251 := eq_true p251; replace q251 := eq_true q251)); try go_wp2_with (first | ((with_reducible refine aD (N := 10) rfl ?_); (try (refine gate_guard (by rfl) ?_; dsimp only)); refine aE ?hg (N := 10) ?hd (cs := #[.int .i64 0, .string (⟨#[]⟩ : ByteArray), .string (⟨#[]⟩ : ByteArray)]) (t := 44) ?hr ?_; (case hd => rfl); (case hg => rfl); (case hr => first | (go_simp; done) | (go_simp; rfl)); intro aQ hg w29 hbox hb; have aT := aM (ae z4 hb); have aU := aM (ae z5 hb); have aX := aM (ae (Kd.R_elderB z6 aQ (Nat.le_of_eq hg.symm)) hb); have a5 := aM (ap z9 hb); have bf := aM (hbox); have cf := aM ((by rw [hg]; exact (aq z9) : w.heap.size ≤ aQ)); have cA := aM ((by rw [hg]; exact (aq z9) : w.heap.size ≤ aQ)); clear aW; clear a4; clear bp; clear HB; have aW := aT; have a4 := aU; have bp := aX; have HB := a5; have aV := bf; have cD := cf; have cE := cA; clear aT aU aX a5 bf cf cA; clear hb hbox hg; have gC : w29.cell? ⟨aQ, 0, none⟩ = some (.int .i64 0) := (bC aV.out 0).trans rfl; have gB : w29.cell? ⟨aQ, 1, none⟩ = some (.string (⟨#[]⟩ : ByteArray)) := (bC aV.out 1).trans rfl; have gA : w29.cell? ⟨aQ, 2, none⟩ = some (.string (⟨#[]⟩ : ByteArray)) := (bC aV.out 2).trans rfl; have ga := bF aV.out 0; have f9 := bF aV.out 1; have f8 := bF aV.out 2; obtain ⟨gU, gM, eo31⟩ := Kd.R_slice aW.out; subst eo31; obtain ⟨jV, jO, eo32⟩ := Kd.R_slice a4.out; subst eo32; have p249 : 0 ≤ ((bg) : Int) := oD z2; have q249 : (bg) < (bB.length : Int) := oD z2; obtain ⟨ad249, e249, hx249_0⟩ := Kd.at_int (ag a4.out).2.2 (bg) p249 q249; cases e249; have hn249_0 : ad249.block ≠ aQ := az (aA a4.out aV.out (by decide)); have hn249_1 : ad249.block ≠ aQ := az (aA a4.out aV.out (by decide)); have hn249_2 : ad249.block ≠ aQ := az (aA a4.out aV.out (by decide)); replace hx249_0 := (cell_far (p := ⟨aQ, 0, none⟩) (by first | (rw [add_block]; exact hn249_0) | (show (Addr.add _ _).block ≠ _; rw [add_block]; exact hn249_0) | exact hn249_0) (.int .i64 ((rd_T44 aZ x18_1).f0))).trans hx249_0; replace hx249_0 := (cell_far (p := ⟨aQ, 1, none⟩) (by first | (rw [add_block]; exact hn249_1) | (show (Addr.add _ _).block ≠ _; rw [add_block]; exact hn249_1) | exact hn249_1) (.string ((rd_T44 aZ x18_1).f1))).trans hx249_0; replace hx249_0 := (cell_far (p := ⟨aQ, 2, none⟩) (by first | (rw [add_block]; exact hn249_2) | (show (Addr.add _ _).block ≠ _; rw [add_block]; exact hn249_2) | exact hn249_2) (.string ((rd_T44 aZ x18_1).f2))).trans hx249_0; (try have hy249_0 := fun (n_ : Nat) => (show (((((w29.drewN n_).setCell ⟨aQ, 0, none⟩ (.int .i64 ((rd_T44 aZ x18_1).f0))).setCell ⟨aQ, 1, none⟩ (.string ((rd_T44 aZ x18_1).f1))).setCell ⟨aQ, 2, none⟩ (.string ((rd_T44 aZ x18_1).f2)))).cell? _ = some _ from hx249_0)); clear hn249_0; clear hn249_1; clear hn249_2; replace p249 := eq_true p249; replace q249 := eq_true q249; have p250 : 0 ≤ ((bg) : Int) := oD z2; have q250 : (bg) < (bB.length : Int) := oD z2; obtain ⟨ad250, e250, hx250_0⟩ := Kd.at_int (ag a4.out).2.2 (bg) p250 q250; obtain rfl : ad249 = ad250 := (by injection e250); have hn250_0 : ad249.block ≠ aQ := az (aA a4.out aV.out (by decide)); have hn250_1 : ad249.block ≠ aQ := az (aA a4.out aV.out (by decide)); have hn250_2 : ad249.block ≠ aQ := az (aA a4.out aV.out (by decide)); replace hx250_0 := (cell_far (p := ⟨aQ, 0, none⟩) (by first | (rw [add_block]; exact hn250_0) | (show (Addr.add _ _).block ≠ _; rw [add_block]; exact hn250_0) | exact hn250_0) (.int .i64 ((rd_T44 aZ x18_1).f0))).trans hx250_0; replace hx250_0 := (cell_far (p := ⟨aQ, 1, none⟩) (by first | (rw [add_block]; exact hn250_1) | (show (Addr.add _ _).block ≠ _; rw [add_block]; exact hn250_1) | exact hn250_1) (.string ((rd_T44 aZ x18_1).f1))).trans hx250_0; replace hx250_0 := (cell_far (p := ⟨aQ, 2, none⟩) (by first | (rw [add_block]; exact hn250_2) | (show (Addr.add _ _).block ≠ _; rw [add_block]; exact hn250_2) | exact hn250_2) (.string ((rd_T44 aZ x18_1).f2))).trans hx250_0; (try have hy250_0 := fun (n_ : Nat) => (show (((((w29.drewN n_).setCell ⟨aQ, 0, none⟩ (.int .i64 ((rd_T44 aZ x18_1).f0))).setCell ⟨aQ, 1, none⟩ (.string ((rd_T44 aZ x18_1).f1))).setCell ⟨aQ, 2, none⟩ (.string ((rd_T44 aZ x18_1).f2)))).cell? _ = some _ from hx250_0)); clear hn250_0; clear hn250_1; clear hn250_2; replace p250 := eq_true p250; replace q250 := eq_true q250; have p251 : 0 ≤ (x8_1 : Int) := oD z2; have q251 : x8_1 < (bB.length : Int) := oD z2; obtain ⟨ad251, e251, hx251_0⟩ := Kd.at_int (ag a4.out).2.2 x8_1 p251 q251; obtain rfl : ad249 = ad251 := (by injection e251); have hn251_0 : ad249.block ≠ aQ := az (aA a4.out aV.out (by decide)); have hn251_1 : ad249.block ≠ aQ := az (aA a4.out aV.out (by decide)); have hn251_2 : ad249.block ≠ aQ := az (aA a4.out aV.out (by decide)); replace hx251_0 := (cell_far (p := ⟨aQ, 0, none⟩) (by first | (rw [add_block]; exact hn251_0) | (show (Addr.add _ _).block ≠ _; rw [add_block]; exact hn251_0) | exact hn251_0) (.int .i64 ((rd_T44 aZ x18_1).f0))).trans hx251_0; replace hx251_0 := (cell_far (p := ⟨aQ, 1, none⟩) (by first | (rw [add_block]; exact hn251_1) | (show (Addr.add _ _).block ≠ _; rw [add_block]; exact hn251_1) | exact hn251_1) (.string ((rd_T44 aZ x18_1).f1))).trans hx251_0; replace hx251_0 := (cell_far (p := ⟨aQ, 2, none⟩) (by first | (rw [add_block]; exact hn251_2) | (show (Addr.add _ _).block ≠ _; rw [add_block]; exact hn251_2) | exact hn251_2) (.string ((rd_T44 aZ x18_1).f2))).trans hx251_0; (try have hy251_0 := fun (n_ : Nat) => (show (((((w29.drewN n_).setCell ⟨aQ, 0, none⟩ (.int .i64 ((rd_T44 aZ x18_1).f0))).setCell ⟨aQ, 1, none⟩ (.string ((rd_T44 aZ x18_1).f1))).setCell ⟨aQ, 2, none⟩ (.string ((rd_T44 aZ x18_1).f2)))).cell? _ = some _ from hx251_0)); clear hn251_0; clear hn251_1; clear hn251_2; replace p251 := eq_true p251; replace q251 := eq_true q251)))
               all_goals (try (exfalso; rename_i h_; rw [c13b0] at h_; cases h_; done))
               go_roundg k1
               case measure => have := HK1.out; omega
               case rel => exact ⟨(x7_1), (wrap64 (x8_1 + (wrap64 (((rd_T44 aZ x18_1).f0) + (((rd_T44 aZ x18_1).f2).size : Int))))), (wrap64 (x18_1 + 1)), z1, z1, z1, (by first | exact H' | (simp only [cC]; exact H') | (simp only [← cC]; exact H')), ⟨y0⟩, ⟨y25⟩, ⟨y26⟩, ⟨y27⟩, ⟨y19⟩⟩
             ·rw [if_neg dw] at H
              exact absurd H (by simp)
            ·rw [if_neg ec] at H
             exact absurd H (by simp)
           ·rw [if_neg cF] at H
            have c21b0 : decide (0 < (rd bB (bg))) = false := dF cF
            clear cF
            have H' := aM H
            clear H
            have p247 : 0 ≤ (x18_1 : Int) := oD z2
            have q247 : x18_1 < (aZ.length : Int) := oD z2
            obtain ⟨ad247, e247, hx247_0, hx247_1, hx247_2⟩ := at_T44 (ag bp.out).2.2 x18_1 p247 q247
            cases e247
            replace p247 := eq_true p247
            replace q247 := eq_true q247
            go_wp2_with (first | ((with_reducible refine aD (N := 10) rfl ?_); (try (refine gate_guard (by rfl) ?_; dsimp only)); refine aE ?hg (N := 10) ?hd (cs := #[.int .i64 0, .string (⟨#[]⟩ : ByteArray), .string (⟨#[]⟩ : ByteArray)]) (t := 44) ?hr ?_; (case hd => rfl); (case hg => rfl); (case hr => first | (go_simp; done) | (go_simp; rfl)); intro aQ hg w33 hbox hb; have aT := aM (ae z4 hb); have aU := aM (ae z5 hb); have aX := aM (ae (Kd.R_elderB z6 aQ (Nat.le_of_eq hg.symm)) hb); have a5 := aM (ap z9 hb); have bf := aM (hbox); have cf := aM ((by rw [hg]; exact (aq z9) : w.heap.size ≤ aQ)); have cA := aM ((by rw [hg]; exact (aq z9) : w.heap.size ≤ aQ)); clear aW; clear a4; clear bp; clear HB; have aW := aT; have a4 := aU; have bp := aX; have HB := a5; have aV := bf; have cD := cf; have cE := cA; clear aT aU aX a5 bf cf cA; clear hb hbox hg; have jn : w33.cell? ⟨aQ, 0, none⟩ = some (.int .i64 0) := (bC aV.out 0).trans rfl; have jm : w33.cell? ⟨aQ, 1, none⟩ = some (.string (⟨#[]⟩ : ByteArray)) := (bC aV.out 1).trans rfl; have jl : w33.cell? ⟨aQ, 2, none⟩ = some (.string (⟨#[]⟩ : ByteArray)) := (bC aV.out 2).trans rfl; have iX := bF aV.out 0; have iW := bF aV.out 1; have iV := bF aV.out 2; obtain ⟨lB, lv, eo35⟩ := Kd.R_slice aW.out; subst eo35; obtain ⟨eO, eL, eo36⟩ := Kd.R_slice a4.out; subst eo36; have p249 : 0 ≤ ((bg) : Int) := oD z2; have q249 : (bg) < (bB.length : Int) := oD z2; obtain ⟨ad249, e249, hx249_0⟩ := Kd.at_int (ag a4.out).2.2 (bg) p249 q249; cases e249; have hn249_0 : ad249.block ≠ aQ := az (aA a4.out aV.out (by decide)); have hn249_1 : ad249.block ≠ aQ := az (aA a4.out aV.out (by decide)); have hn249_2 : ad249.block ≠ aQ := az (aA a4.out aV.out (by decide)); replace hx249_0 := (cell_far (p := ⟨aQ, 0, none⟩) (by first | (rw [add_block]; exact hn249_0) | (show (Addr.add _ _).block ≠ _; rw [add_block]; exact hn249_0) | exact hn249_0) (.int .i64 ((rd_T44 aZ x18_1).f0))).trans hx249_0; replace hx249_0 := (cell_far (p := ⟨aQ, 1, none⟩) (by first | (rw [add_block]; exact hn249_1) | (show (Addr.add _ _).block ≠ _; rw [add_block]; exact hn249_1) | exact hn249_1) (.string ((rd_T44 aZ x18_1).f1))).trans hx249_0; replace hx249_0 := (cell_far (p := ⟨aQ, 2, none⟩) (by first | (rw [add_block]; exact hn249_2) | (show (Addr.add _ _).block ≠ _; rw [add_block]; exact hn249_2) | exact hn249_2) (.string ((rd_T44 aZ x18_1).f2))).trans hx249_0; (try have hy249_0 := fun (n_ : Nat) => (show (((((w33.drewN n_).setCell ⟨aQ, 0, none⟩ (.int .i64 ((rd_T44 aZ x18_1).f0))).setCell ⟨aQ, 1, none⟩ (.string ((rd_T44 aZ x18_1).f1))).setCell ⟨aQ, 2, none⟩ (.string ((rd_T44 aZ x18_1).f2)))).cell? _ = some _ from hx249_0)); clear hn249_0; clear hn249_1; clear hn249_2; replace p249 := eq_true p249; replace q249 := eq_true q249))
            all_goals (try (exfalso; rename_i h_; rw [c13b0] at h_; cases h_; done))
            repeat (go_quiet (first | ((with_reducible refine aD (N := 10) rfl ?_); (try (refine gate_guard (by rfl) ?_; dsimp only)); refine aE ?hg (N := 10) ?hd (cs := #[.int .i64 0, .string (⟨#[]⟩ : ByteArray), .string (⟨#[]⟩ : ByteArray)]) (t := 44) ?hr ?_; (case hd => rfl); (case hg => rfl); (case hr => first | (go_simp; done) | (go_simp; rfl)); intro aQ hg w33 hbox hb; have aT := aM (ae z4 hb); have aU := aM (ae z5 hb); have aX := aM (ae (Kd.R_elderB z6 aQ (Nat.le_of_eq hg.symm)) hb); have a5 := aM (ap z9 hb); have bf := aM (hbox); have cf := aM ((by rw [hg]; exact (aq z9) : w.heap.size ≤ aQ)); have cA := aM ((by rw [hg]; exact (aq z9) : w.heap.size ≤ aQ)); clear aW; clear a4; clear bp; clear HB; have aW := aT; have a4 := aU; have bp := aX; have HB := a5; have aV := bf; have cD := cf; have cE := cA; clear aT aU aX a5 bf cf cA; clear hb hbox hg; have jn : w33.cell? ⟨aQ, 0, none⟩ = some (.int .i64 0) := (bC aV.out 0).trans rfl; have jm : w33.cell? ⟨aQ, 1, none⟩ = some (.string (⟨#[]⟩ : ByteArray)) := (bC aV.out 1).trans rfl; have jl : w33.cell? ⟨aQ, 2, none⟩ = some (.string (⟨#[]⟩ : ByteArray)) := (bC aV.out 2).trans rfl; have iX := bF aV.out 0; have iW := bF aV.out 1; have iV := bF aV.out 2; obtain ⟨lB, lv, eo35⟩ := Kd.R_slice aW.out; subst eo35; obtain ⟨eO, eL, eo36⟩ := Kd.R_slice a4.out; subst eo36; have p249 : 0 ≤ ((bg) : Int) := oD z2; have q249 : (bg) < (bB.length : Int) := oD z2; obtain ⟨ad249, e249, hx249_0⟩ := Kd.at_int (ag a4.out).2.2 (bg) p249 q249; cases e249; have hn249_0 : ad249.block ≠ aQ := az (aA a4.out aV.out (by decide)); have hn249_1 : ad249.block ≠ aQ := az (aA a4.out aV.out (by decide)); have hn249_2 : ad249.block ≠ aQ := az (aA a4.out aV.out (by decide)); replace hx249_0 := (cell_far (p := ⟨aQ, 0, none⟩) (by first | (rw [add_block]; exact hn249_0) | (show (Addr.add _ _).block ≠ _; rw [add_block]; exact hn249_0) | exact hn249_0) (.int .i64 ((rd_T44 aZ x18_1).f0))).trans hx249_0; replace hx249_0 := (cell_far (p := ⟨aQ, 1, none⟩) (by first | (rw [add_block]; exact hn249_1) | (show (Addr.add _ _).block ≠ _; rw [add_block]; exact hn249_1) | exact hn249_1) (.string ((rd_T44 aZ x18_1).f1))).trans hx249_0; replace hx249_0 := (cell_far (p := ⟨aQ, 2, none⟩) (by first | (rw [add_block]; exact hn249_2) | (show (Addr.add _ _).block ≠ _; rw [add_block]; exact hn249_2) | exact hn249_2) (.string ((rd_T44 aZ x18_1).f2))).trans hx249_0; (try have hy249_0 := fun (n_ : Nat) => (show (((((w33.drewN n_).setCell ⟨aQ, 0, none⟩ (.int .i64 ((rd_T44 aZ x18_1).f0))).setCell ⟨aQ, 1, none⟩ (.string ((rd_T44 aZ x18_1).f1))).setCell ⟨aQ, 2, none⟩ (.string ((rd_T44 aZ x18_1).f2)))).cell? _ = some _ from hx249_0)); clear hn249_0; clear hn249_1; clear hn249_2; replace p249 := eq_true p249; replace q249 := eq_true q249)); try go_wp2_with (first | ((with_reducible refine aD (N := 10) rfl ?_); (try (refine gate_guard (by rfl) ?_; dsimp only)); refine aE ?hg (N := 10) ?hd (cs := #[.int .i64 0, .string (⟨#[]⟩ : ByteArray), .string (⟨#[]⟩ : ByteArray)]) (t := 44) ?hr ?_; (case hd => rfl); (case hg => rfl); (case hr => first | (go_simp; done) | (go_simp; rfl)); intro aQ hg w33 hbox hb; have aT := aM (ae z4 hb); have aU := aM (ae z5 hb); have aX := aM (ae (Kd.R_elderB z6 aQ (Nat.le_of_eq hg.symm)) hb); have a5 := aM (ap z9 hb); have bf := aM (hbox); have cf := aM ((by rw [hg]; exact (aq z9) : w.heap.size ≤ aQ)); have cA := aM ((by rw [hg]; exact (aq z9) : w.heap.size ≤ aQ)); clear aW; clear a4; clear bp; clear HB; have aW := aT; have a4 := aU; have bp := aX; have HB := a5; have aV := bf; have cD := cf; have cE := cA; clear aT aU aX a5 bf cf cA; clear hb hbox hg; have jn : w33.cell? ⟨aQ, 0, none⟩ = some (.int .i64 0) := (bC aV.out 0).trans rfl; have jm : w33.cell? ⟨aQ, 1, none⟩ = some (.string (⟨#[]⟩ : ByteArray)) := (bC aV.out 1).trans rfl; have jl : w33.cell? ⟨aQ, 2, none⟩ = some (.string (⟨#[]⟩ : ByteArray)) := (bC aV.out 2).trans rfl; have iX := bF aV.out 0; have iW := bF aV.out 1; have iV := bF aV.out 2; obtain ⟨lB, lv, eo35⟩ := Kd.R_slice aW.out; subst eo35; obtain ⟨eO, eL, eo36⟩ := Kd.R_slice a4.out; subst eo36; have p249 : 0 ≤ ((bg) : Int) := oD z2; have q249 : (bg) < (bB.length : Int) := oD z2; obtain ⟨ad249, e249, hx249_0⟩ := Kd.at_int (ag a4.out).2.2 (bg) p249 q249; cases e249; have hn249_0 : ad249.block ≠ aQ := az (aA a4.out aV.out (by decide)); have hn249_1 : ad249.block ≠ aQ := az (aA a4.out aV.out (by decide)); have hn249_2 : ad249.block ≠ aQ := az (aA a4.out aV.out (by decide)); replace hx249_0 := (cell_far (p := ⟨aQ, 0, none⟩) (by first | (rw [add_block]; exact hn249_0) | (show (Addr.add _ _).block ≠ _; rw [add_block]; exact hn249_0) | exact hn249_0) (.int .i64 ((rd_T44 aZ x18_1).f0))).trans hx249_0; replace hx249_0 := (cell_far (p := ⟨aQ, 1, none⟩) (by first | (rw [add_block]; exact hn249_1) | (show (Addr.add _ _).block ≠ _; rw [add_block]; exact hn249_1) | exact hn249_1) (.string ((rd_T44 aZ x18_1).f1))).trans hx249_0; replace hx249_0 := (cell_far (p := ⟨aQ, 2, none⟩) (by first | (rw [add_block]; exact hn249_2) | (show (Addr.add _ _).block ≠ _; rw [add_block]; exact hn249_2) | exact hn249_2) (.string ((rd_T44 aZ x18_1).f2))).trans hx249_0; (try have hy249_0 := fun (n_ : Nat) => (show (((((w33.drewN n_).setCell ⟨aQ, 0, none⟩ (.int .i64 ((rd_T44 aZ x18_1).f0))).setCell ⟨aQ, 1, none⟩ (.string ((rd_T44 aZ x18_1).f1))).setCell ⟨aQ, 2, none⟩ (.string ((rd_T44 aZ x18_1).f2)))).cell? _ = some _ from hx249_0)); clear hn249_0; clear hn249_1; clear hn249_2; replace p249 := eq_true p249; replace q249 := eq_true q249)))
            all_goals (try (exfalso; rename_i h_; rw [c13b0] at h_; cases h_; done))
            go_roundg k1
            case measure => have := HK1.out; omega
            case rel => exact ⟨(x7_1), (wrap64 (x8_1 + (wrap64 (((rd_T44 aZ x18_1).f0) + (((rd_T44 aZ x18_1).f2).size : Int))))), (wrap64 (x18_1 + 1)), z1, z1, z1, (by first | exact H' | (simp only [cC]; exact H') | (simp only [← cC]; exact H')), ⟨y0⟩, ⟨y25⟩, ⟨y26⟩, ⟨y27⟩, ⟨y19⟩⟩
          ·rw [if_neg dd] at H
           exact absurd H (by simp)
         ·rw [if_neg fy] at H
          exact absurd H (by simp)
        ·rw [if_neg cB] at H
         have c17b0 : decide (x8_1 < (ee.length : Int)) = false := dF cB
         clear cB
         have H' := aM H
         clear H
         have p247 : 0 ≤ (x18_1 : Int) := oD z2
         have q247 : x18_1 < (aZ.length : Int) := oD z2
         obtain ⟨ad247, e247, hx247_0, hx247_1, hx247_2⟩ := at_T44 (ag bp.out).2.2 x18_1 p247 q247
         cases e247
         replace p247 := eq_true p247
         replace q247 := eq_true q247
         go_wp2_with (first | ((with_reducible refine aD (N := 10) rfl ?_); (try (refine gate_guard (by rfl) ?_; dsimp only)); refine aE ?hg (N := 10) ?hd (cs := #[.int .i64 0, .string (⟨#[]⟩ : ByteArray), .string (⟨#[]⟩ : ByteArray)]) (t := 44) ?hr ?_; (case hd => rfl); (case hg => rfl); (case hr => first | (go_simp; done) | (go_simp; rfl)); intro aQ hg w37 hbox hb; have aT := aM (ae z4 hb); have aU := aM (ae z5 hb); have aX := aM (ae (Kd.R_elderB z6 aQ (Nat.le_of_eq hg.symm)) hb); have a5 := aM (ap z9 hb); have bf := aM (hbox); have cf := aM ((by rw [hg]; exact (aq z9) : w.heap.size ≤ aQ)); have cA := aM ((by rw [hg]; exact (aq z9) : w.heap.size ≤ aQ)); clear aW; clear a4; clear bp; clear HB; have aW := aT; have a4 := aU; have bp := aX; have HB := a5; have aV := bf; have cD := cf; have cE := cA; clear aT aU aX a5 bf cf cA; clear hb hbox hg; have jk : w37.cell? ⟨aQ, 0, none⟩ = some (.int .i64 0) := (bC aV.out 0).trans rfl; have jj : w37.cell? ⟨aQ, 1, none⟩ = some (.string (⟨#[]⟩ : ByteArray)) := (bC aV.out 1).trans rfl; have ji : w37.cell? ⟨aQ, 2, none⟩ = some (.string (⟨#[]⟩ : ByteArray)) := (bC aV.out 2).trans rfl; have iU := bF aV.out 0; have iT := bF aV.out 1; have iS := bF aV.out 2; obtain ⟨m9, m0, eo39⟩ := Kd.R_slice aW.out; subst eo39))
         all_goals (try (exfalso; rename_i h_; rw [c13b0] at h_; cases h_; done))
         repeat (go_quiet (first | ((with_reducible refine aD (N := 10) rfl ?_); (try (refine gate_guard (by rfl) ?_; dsimp only)); refine aE ?hg (N := 10) ?hd (cs := #[.int .i64 0, .string (⟨#[]⟩ : ByteArray), .string (⟨#[]⟩ : ByteArray)]) (t := 44) ?hr ?_; (case hd => rfl); (case hg => rfl); (case hr => first | (go_simp; done) | (go_simp; rfl)); intro aQ hg w37 hbox hb; have aT := aM (ae z4 hb); have aU := aM (ae z5 hb); have aX := aM (ae (Kd.R_elderB z6 aQ (Nat.le_of_eq hg.symm)) hb); have a5 := aM (ap z9 hb); have bf := aM (hbox); have cf := aM ((by rw [hg]; exact (aq z9) : w.heap.size ≤ aQ)); have cA := aM ((by rw [hg]; exact (aq z9) : w.heap.size ≤ aQ)); clear aW; clear a4; clear bp; clear HB; have aW := aT; have a4 := aU; have bp := aX; have HB := a5; have aV := bf; have cD := cf; have cE := cA; clear aT aU aX a5 bf cf cA; clear hb hbox hg; have jk : w37.cell? ⟨aQ, 0, none⟩ = some (.int .i64 0) := (bC aV.out 0).trans rfl; have jj : w37.cell? ⟨aQ, 1, none⟩ = some (.string (⟨#[]⟩ : ByteArray)) := (bC aV.out 1).trans rfl; have ji : w37.cell? ⟨aQ, 2, none⟩ = some (.string (⟨#[]⟩ : ByteArray)) := (bC aV.out 2).trans rfl; have iU := bF aV.out 0; have iT := bF aV.out 1; have iS := bF aV.out 2; obtain ⟨m9, m0, eo39⟩ := Kd.R_slice aW.out; subst eo39)); try go_wp2_with (first | ((with_reducible refine aD (N := 10) rfl ?_); (try (refine gate_guard (by rfl) ?_; dsimp only)); refine aE ?hg (N := 10) ?hd (cs := #[.int .i64 0, .string (⟨#[]⟩ : ByteArray), .string (⟨#[]⟩ : ByteArray)]) (t := 44) ?hr ?_; (case hd => rfl); (case hg => rfl); (case hr => first | (go_simp; done) | (go_simp; rfl)); intro aQ hg w37 hbox hb; have aT := aM (ae z4 hb); have aU := aM (ae z5 hb); have aX := aM (ae (Kd.R_elderB z6 aQ (Nat.le_of_eq hg.symm)) hb); have a5 := aM (ap z9 hb); have bf := aM (hbox); have cf := aM ((by rw [hg]; exact (aq z9) : w.heap.size ≤ aQ)); have cA := aM ((by rw [hg]; exact (aq z9) : w.heap.size ≤ aQ)); clear aW; clear a4; clear bp; clear HB; have aW := aT; have a4 := aU; have bp := aX; have HB := a5; have aV := bf; have cD := cf; have cE := cA; clear aT aU aX a5 bf cf cA; clear hb hbox hg; have jk : w37.cell? ⟨aQ, 0, none⟩ = some (.int .i64 0) := (bC aV.out 0).trans rfl; have jj : w37.cell? ⟨aQ, 1, none⟩ = some (.string (⟨#[]⟩ : ByteArray)) := (bC aV.out 1).trans rfl; have ji : w37.cell? ⟨aQ, 2, none⟩ = some (.string (⟨#[]⟩ : ByteArray)) := (bC aV.out 2).trans rfl; have iU := bF aV.out 0; have iT := bF aV.out 1; have iS := bF aV.out 2; obtain ⟨m9, m0, eo39⟩ := Kd.R_slice aW.out; subst eo39)))
         all_goals (try (exfalso; rename_i h_; rw [c13b0] at h_; cases h_; done))
         go_roundg k1
         case measure => have := HK1.out; omega
         case rel => exact ⟨(x7_1), (wrap64 (x8_1 + (wrap64 (((rd_T44 aZ x18_1).f0) + (((rd_T44 aZ x18_1).f2).size : Int))))), (wrap64 (x18_1 + 1)), z1, z1, z1, H', ⟨y0⟩, ⟨y25⟩, ⟨y26⟩, ⟨y27⟩, ⟨y19⟩⟩
       ·rw [if_neg cG] at H
        have c16b0 : decide (0 < x8_1) = false := dF cG
        clear cG
        have H' := aM H
        clear H
        have p247 : 0 ≤ (x18_1 : Int) := oD z2
        have q247 : x18_1 < (aZ.length : Int) := oD z2
        obtain ⟨ad247, e247, hx247_0, hx247_1, hx247_2⟩ := at_T44 (ag bp.out).2.2 x18_1 p247 q247
        cases e247
        replace p247 := eq_true p247
        replace q247 := eq_true q247
        go_wp2_with (first | ((with_reducible refine aD (N := 10) rfl ?_); (try (refine gate_guard (by rfl) ?_; dsimp only)); refine aE ?hg (N := 10) ?hd (cs := #[.int .i64 0, .string (⟨#[]⟩ : ByteArray), .string (⟨#[]⟩ : ByteArray)]) (t := 44) ?hr ?_; (case hd => rfl); (case hg => rfl); (case hr => first | (go_simp; done) | (go_simp; rfl)); intro aQ hg w40 hbox hb; have aT := aM (ae z4 hb); have aU := aM (ae z5 hb); have aX := aM (ae (Kd.R_elderB z6 aQ (Nat.le_of_eq hg.symm)) hb); have a5 := aM (ap z9 hb); have bf := aM (hbox); have cf := aM ((by rw [hg]; exact (aq z9) : w.heap.size ≤ aQ)); have cA := aM ((by rw [hg]; exact (aq z9) : w.heap.size ≤ aQ)); clear aW; clear a4; clear bp; clear HB; have aW := aT; have a4 := aU; have bp := aX; have HB := a5; have aV := bf; have cD := cf; have cE := cA; clear aT aU aX a5 bf cf cA; clear hb hbox hg; have d3 : w40.cell? ⟨aQ, 0, none⟩ = some (.int .i64 0) := (bC aV.out 0).trans rfl; have d2 : w40.cell? ⟨aQ, 1, none⟩ = some (.string (⟨#[]⟩ : ByteArray)) := (bC aV.out 1).trans rfl; have d1 : w40.cell? ⟨aQ, 2, none⟩ = some (.string (⟨#[]⟩ : ByteArray)) := (bC aV.out 2).trans rfl; have dW := bF aV.out 0; have dV := bF aV.out 1; have dU := bF aV.out 2))
        all_goals (try (exfalso; rename_i h_; rw [c13b0] at h_; cases h_; done))
        repeat (go_quiet (first | ((with_reducible refine aD (N := 10) rfl ?_); (try (refine gate_guard (by rfl) ?_; dsimp only)); refine aE ?hg (N := 10) ?hd (cs := #[.int .i64 0, .string (⟨#[]⟩ : ByteArray), .string (⟨#[]⟩ : ByteArray)]) (t := 44) ?hr ?_; (case hd => rfl); (case hg => rfl); (case hr => first | (go_simp; done) | (go_simp; rfl)); intro aQ hg w40 hbox hb; have aT := aM (ae z4 hb); have aU := aM (ae z5 hb); have aX := aM (ae (Kd.R_elderB z6 aQ (Nat.le_of_eq hg.symm)) hb); have a5 := aM (ap z9 hb); have bf := aM (hbox); have cf := aM ((by rw [hg]; exact (aq z9) : w.heap.size ≤ aQ)); have cA := aM ((by rw [hg]; exact (aq z9) : w.heap.size ≤ aQ)); clear aW; clear a4; clear bp; clear HB; have aW := aT; have a4 := aU; have bp := aX; have HB := a5; have aV := bf; have cD := cf; have cE := cA; clear aT aU aX a5 bf cf cA; clear hb hbox hg; have d3 : w40.cell? ⟨aQ, 0, none⟩ = some (.int .i64 0) := (bC aV.out 0).trans rfl; have d2 : w40.cell? ⟨aQ, 1, none⟩ = some (.string (⟨#[]⟩ : ByteArray)) := (bC aV.out 1).trans rfl; have d1 : w40.cell? ⟨aQ, 2, none⟩ = some (.string (⟨#[]⟩ : ByteArray)) := (bC aV.out 2).trans rfl; have dW := bF aV.out 0; have dV := bF aV.out 1; have dU := bF aV.out 2)); try go_wp2_with (first | ((with_reducible refine aD (N := 10) rfl ?_); (try (refine gate_guard (by rfl) ?_; dsimp only)); refine aE ?hg (N := 10) ?hd (cs := #[.int .i64 0, .string (⟨#[]⟩ : ByteArray), .string (⟨#[]⟩ : ByteArray)]) (t := 44) ?hr ?_; (case hd => rfl); (case hg => rfl); (case hr => first | (go_simp; done) | (go_simp; rfl)); intro aQ hg w40 hbox hb; have aT := aM (ae z4 hb); have aU := aM (ae z5 hb); have aX := aM (ae (Kd.R_elderB z6 aQ (Nat.le_of_eq hg.symm)) hb); have a5 := aM (ap z9 hb); have bf := aM (hbox); have cf := aM ((by rw [hg]; exact (aq z9) : w.heap.size ≤ aQ)); have cA := aM ((by rw [hg]; exact (aq z9) : w.heap.size ≤ aQ)); clear aW; clear a4; clear bp; clear HB; have aW := aT; have a4 := aU; have bp := aX; have HB := a5; have aV := bf; have cD := cf; have cE := cA; clear aT aU aX a5 bf cf cA; clear hb hbox hg; have d3 : w40.cell? ⟨aQ, 0, none⟩ = some (.int .i64 0) := (bC aV.out 0).trans rfl; have d2 : w40.cell? ⟨aQ, 1, none⟩ = some (.string (⟨#[]⟩ : ByteArray)) := (bC aV.out 1).trans rfl; have d1 : w40.cell? ⟨aQ, 2, none⟩ = some (.string (⟨#[]⟩ : ByteArray)) := (bC aV.out 2).trans rfl; have dW := bF aV.out 0; have dV := bF aV.out 1; have dU := bF aV.out 2)))
        all_goals (try (exfalso; rename_i h_; rw [c13b0] at h_; cases h_; done))
        go_roundg k1
        case measure => have := HK1.out; omega
        case rel => exact ⟨(x7_1), (wrap64 (x8_1 + (wrap64 (((rd_T44 aZ x18_1).f0) + (((rd_T44 aZ x18_1).f2).size : Int))))), (wrap64 (x18_1 + 1)), z1, z1, z1, H', ⟨y0⟩, ⟨y25⟩, ⟨y26⟩, ⟨y27⟩, ⟨y19⟩⟩
     ·rw [if_neg cd] at H
      exact absurd H (by simp)
    ·rw [if_neg bV] at H
     exact absurd H (by simp)
   ·rw [if_neg bz] at H
    have c10b0 : decide (x18_1 < (aZ.length : Int)) = false := dF bz
    clear bz
    obtain rfl := sI H
    go_wp2
    repeat (go_quiet (fail); try go_wp2)
    go_ret
    exact ⟨y4, y5⟩

end Go.Proofs.Ytifllccpfiobfaa.AFnExactMergeThree
