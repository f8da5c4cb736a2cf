-- this session's own text: written by wip/tools/ownprint.py over the kit's print
import Derived.Test.YtifllccpfiobfaaAFnExactMergeThreex0
import Derived.Test.YtifllccpfiobfaaAFnExactMergeThreex1
import Derived.Test.YtifllccpfiobfaaAFnExactMergeThreex5
import Derived.Test.YtifllccpfiobfaaAFnExactMergeThreex7
import Derived.Test.YtifllccpfiobfaaAFnExactMergeThreex8
namespace Go.Proofs.Ytifllccpfiobfaa.AFnExactMergeThree
open Go.RowKit Go.Proofs.YtifllccpfiobfaaW.PrintWords Go.Proofs.YtifllccpfiobfaaW.PrintLast Go.Proofs.YtifllccpfiobfaaW.PrintMore
attribute [local go_sem] max2_int min2_int max_two min_two max_three min_three max_four min_four   -- for this text's walks alone
set_option linter.unusedVariables false
set_option linter.unusedSimpArgs false

/-! ### spec_l10Merge: function 8 -/
def spec_l10Merge.j0 : Nat → ByteArray → List (S44) → List (S44) → Bool → Option (ByteArray × Int × Bool)
 | 0, _, _, _, _ => none
 | k + 1, x1, x9, x11, x37 => if x37 = true then (some ((⟨#[]⟩ : ByteArray), 0, false)) else ((spec_TransformOps.f k x9 x11).bind fun lH => ((spec_ClashesOf.f k x9 x11).bind fun bt283 => ((spec_l3Apply.f k lH.2.1 x1).bind fun kM => (if lH.2.2 = true then (if kM.2 = true then ((spec_GoodText.f k kM.1).bind fun lZ => (if lZ = true then (some (kM.1, bt283.1, true)) else (some ((⟨#[]⟩ : ByteArray), 0, false)))) else (some ((⟨#[]⟩ : ByteArray), 0, false))) else (some ((⟨#[]⟩ : ByteArray), 0, false))))))
def spec_l10Merge.f (k : Nat) (a0 : ByteArray) (a1 : ByteArray) (a2 : ByteArray) : Option (ByteArray × Int × Bool) := (spec_DiffOps.f k a0 a1).bind fun fh => ((spec_DiffOps.f k a0 a2).bind fun fg => (if fh.2 = true then (spec_l10Merge.j0 k a1 fh.1 fg.1 (!fg.2)) else (spec_l10Merge.j0 k a1 fh.1 fg.1 true)))
theorem spec_l10Merge.mono_l : ∀ k, (∀ y0 y1 y2 y3, LeO (spec_l10Merge.j0 k y0 y1 y2 y3) (spec_l10Merge.j0 (k + 1) y0 y1 y2 y3))
 | 0 => fun _ _ _ _ r h => by simp [spec_l10Merge.j0] at h
 | k + 1 => by
  have ih0 := spec_l10Merge.mono_l k
  ·intro y0 y1 y2 y3
   unfold spec_l10Merge.j0
   repeat' first
   | (with_reducible exact ih0 _ _ _ _)
   | (with_reducible exact spec_ClashesOf.mono _ _ _)
   | (with_reducible exact spec_DiffOps.mono _ _ _)
   | (with_reducible exact spec_GoodText.mono _ _)
   | (with_reducible exact spec_TransformOps.mono _ _ _)
   | (with_reducible exact spec_l3Apply.mono _ _ _)
   | (with_reducible exact LeO.refl _)
   | (with_reducible exact LeO.none _)
   | (with_reducible refine LeO.ite ?_ ?_)
   | (with_reducible refine LeO.bind ?_ (fun _ => ?_))
   | exact ih0 _ _ _ _
   | exact spec_ClashesOf.mono _ _ _
   | exact spec_DiffOps.mono _ _ _
   | exact spec_GoodText.mono _ _
   | exact spec_TransformOps.mono _ _ _
   | exact spec_l3Apply.mono _ _ _
   | exact LeO.none _
   | refine LeO.ite ?_ ?_
   | refine LeO.bind ?_ (fun _ => ?_)
theorem spec_l10Merge.mono : ∀ a0 a1 a2 k, LeO (spec_l10Merge.f k a0 a1 a2) (spec_l10Merge.f (k + 1) a0 a1 a2) := by
 intro a0 a1 a2 k
 have ih0 := spec_l10Merge.mono_l k
 unfold spec_l10Merge.f
 repeat' first
   | (with_reducible exact ih0 _ _ _ _)
   | (with_reducible exact spec_ClashesOf.mono _ _ _)
   | (with_reducible exact spec_DiffOps.mono _ _ _)
   | (with_reducible exact spec_GoodText.mono _ _)
   | (with_reducible exact spec_TransformOps.mono _ _ _)
   | (with_reducible exact spec_l3Apply.mono _ _ _)
   | (with_reducible exact LeO.refl _)
   | (with_reducible exact LeO.none _)
   | (with_reducible refine LeO.ite ?_ ?_)
   | (with_reducible refine LeO.bind ?_ (fun _ => ?_))
   | exact ih0 _ _ _ _
   | exact spec_ClashesOf.mono _ _ _
   | exact spec_DiffOps.mono _ _ _
   | exact spec_GoodText.mono _ _
   | exact spec_TransformOps.mono _ _ _
   | exact spec_l3Apply.mono _ _ _
   | exact LeO.none _
   | refine LeO.ite ?_ ?_
   | refine LeO.bind ?_ (fun _ => ?_)
set_option maxHeartbeats 8000000 in
set_option maxRecDepth 100000 in
theorem spec_l10Merge.calls (k : Nat) (a0 : ByteArray) (a1 : ByteArray) (a2 : ByteArray) (r1 : ByteArray) (r2 : Int) (r3 : Bool) (w : World) (h : spec_l10Merge.f k a0 a1 a2 = some (r1, r2, r3)) :
  Calls Try.prog 8 #[.string a0, .string a1, .string a2] w fun e w' => e = .returned (.tuple #[.string r1, .int .i64 r2, .bool r3]) ∧ Below w.heap.size w w' := by
 have HB := aM (Below.refl w.heap.size w)
 have H : ((spec_DiffOps.f k a0 a1).bind fun fh => ((spec_DiffOps.f k a0 a2).bind fun fg => (if fh.2 = true then (spec_l10Merge.j0 k a1 fh.1 fg.1 (!fg.2)) else (spec_l10Merge.j0 k a1 fh.1 fg.1 true)))) = some (r1, r2, r3) := h
 clear h
 replace H := oB H
 obtain ⟨⟨dz, mG⟩, eE, H⟩ := H
 try dsimp only at H
 have A4 := aM eE
 clear eE
 replace H := oB H
 obtain ⟨⟨dy, mF⟩, ft, H⟩ := H
 try dsimp only at H
 have A5 := aM ft
 clear ft
 have kY := aM H
 clear H
 go_enter Try.func8, Try.ntmps8
 go_upto_region 3 with (first | ((with_reducible refine aC (f := 15) rfl ?_); refine aG (some 23) rfl rfl Try.func15 z0 rfl #[.string a0, .string a1] rfl z10 ?_; (with_reducible refine (spec_DiffOps.calls k a0 a1 dz mG _ A4.out).mono ?_); rintro e w7 ⟨v270, rfl, ho0, hb⟩; refine ⟨_, rfl, ?_⟩; have aT := aM (aH ho0 (aq z9)); have aU := aM (ap z9 hb); clear HB; have fH := aT; have HB := aU; clear aT aU; (try clear hb); (try clear hb2); (try clear hk); (try clear hi); (try clear ho0)) | ((with_reducible refine aC (f := 15) rfl ?_); refine aG (some 29) rfl rfl Try.func15 z0 rfl #[.string a0, .string a2] rfl z10 ?_; (with_reducible refine (spec_DiffOps.calls k a0 a2 dy mF _ A5.out).mono ?_); rintro e w8 ⟨v274, rfl, ho0, hb⟩; refine ⟨_, rfl, ?_⟩; have aT := aM (Kd.R_elder' (by (with_reducible repeat (first | apply ac | apply ab | apply aa)); exact fH.out) (ai ho0) hb); have aU := aM (aH (ah ho0 (aj (by (with_reducible repeat (first | apply ac | apply ab | apply aa)); exact fH.out))) (aq z9)); have aX := aM (ap z9 hb); clear fH; clear HB; have fH := aT; have lL := aU; have HB := aX; clear aT aU aX; (try clear hb); (try clear hb2); (try clear hk); (try clear hi); (try clear ho0)))
 (try simp only [Act.put, sA, sB, sC])
 go_cut [37] (fun v37 wc => ∃ (kq : Nat) (x37_5 : Bool), v37 = .bool x37_5 ∧ Aside0 (spec_l10Merge.j0 kq a1 dz dy x37_5 = some (r1, r2, r3)) ∧ Aside0 (kq ≤ k) ∧ Aside0 (Kd.R k44 44 wc w.heap.size (fun k_ => some k_ ≠ (v274 : Value).ownBlock) v270 dz) ∧ Aside0 (Kd.R k44 44 wc w.heap.size (fun k_ => some k_ ≠ (v270 : Value).ownBlock) v274 dy) ∧ Aside0 (Below w.heap.size w wc))
 case first =>
  have H := kY.out
  clear kY
  by_cases c9 : mG = true
  ·subst c9
   rw [if_pos rfl] at H
   have H' := aM H
   clear H
   go_wp2
   go_meet
   case rel => exact ⟨_, (!mF), z1, H', ⟨y1⟩, ⟨by (with_reducible repeat (first | apply ac | apply ab | apply aa)); exact af fH.out (fun _ hk => hk.2)⟩, ⟨by (with_reducible repeat (first | apply ac | apply ab | apply aa)); exact af lL.out (fun _ hk => hk.2)⟩, ⟨y5⟩⟩
  ·replace c9 := Bool.eq_false_iff.mpr c9
   subst c9
   rw [if_neg (show ¬ (false = true) by decide)] at H
   have H' := aM H
   clear H
   go_wp2
   go_meet
   case rel => exact ⟨_, (true), z1, H', ⟨y1⟩, ⟨by (with_reducible repeat (first | apply ac | apply ab | apply aa)); exact af fH.out (fun _ hk => hk.2)⟩, ⟨by (with_reducible repeat (first | apply ac | apply ab | apply aa)); exact af lL.out (fun _ hk => hk.2)⟩, ⟨y5⟩⟩
 case rest =>
  clear kY
  try clear c1
  try clear p2
  try clear c8
  try clear c9
  obtain ⟨kq, x37_5, rfl, HA, mu, ba, a7, HB⟩ := hcut
  cases kq with
  | zero => exact absurd HA.out (by simp [spec_l10Merge.j0])
  | succ kj5 =>
   have H := HA.out
   clear HA
   simp only [spec_l10Merge.j0] at H
   by_cases bz : x37_5 = true
   ·subst bz
    rw [if_pos rfl] at H
    simp only [Option.some.injEq, Prod.mk.injEq] at H
    obtain ⟨rfl, rfl, rfl⟩ := H
    go_wp2
    go_ret3
    exact ⟨y4, y5⟩
   ·replace bz := Bool.eq_false_iff.mpr bz
    subst bz
    rw [if_neg (show ¬ (false = true) by decide)] at H
    replace H := oB H
    obtain ⟨⟨lp, eJ, t278⟩, da, H⟩ := H
    try dsimp only at H
    have eG := aM da
    clear da
    replace H := oB H
    obtain ⟨⟨ln, lm⟩, ii, H⟩ := H
    try dsimp only at H
    have lC := aM ii
    clear ii
    replace H := oB H
    obtain ⟨⟨jF, mD⟩, fv, H⟩ := H
    try dsimp only at H
    have iE := aM fv
    clear fv
    by_cases ce : t278 = true
    ·subst ce
     rw [if_pos rfl] at H
     by_cases ck : mD = true
     ·subst ck
      rw [if_pos rfl] at H
      replace H := oB H
      obtain ⟨lZ, fu, H⟩ := H
      try dsimp only at H
      have j9 := aM fu
      clear fu
      by_cases cB : lZ = true
      ·subst cB
       rw [if_pos rfl] at H
       simp only [Option.some.injEq, Prod.mk.injEq] at H
       obtain ⟨rfl, rfl, rfl⟩ := H
       obtain ⟨iD, iw, eo18⟩ := Kd.R_slice ba.out
       subst eo18
       obtain ⟨ig, hO, eo19⟩ := Kd.R_slice a7.out
       subst eo19
       go_wp2_with (first | ((with_reducible refine aC (f := 16) rfl ?_); refine aG (some 41) rfl rfl Try.func16 z0 rfl #[.slice iD dz.length iw, .slice ig dy.length hO] rfl z10 ?_; (with_reducible refine (spec_TransformOps.calls kj5 _ _ dz _ _ dy lp eJ true _ ?side1 ?side2 ?side3 ?side4 eG.out).mono ?_); (case side1 => repeat (first | exact (ag ba.out).2.2 | (with_reducible refine av ?_ _) | (with_reducible refine aw ?_ _) | (with_reducible refine ay ?_))); (case side2 => exact (ag ba.out).2.1); (case side3 => repeat (first | exact (ag a7.out).2.2 | (with_reducible refine av ?_ _) | (with_reducible refine aw ?_ _) | (with_reducible refine ay ?_))); (case side4 => exact (ag a7.out).2.1); rintro e w20 ⟨v279, v281, rfl, ho0, ho1, hb⟩; refine ⟨_, rfl, ?_⟩; have aT := aM (af (Kd.R_told (Kd.R_told (Kd.R_old z3 hb) (ai ho0)) (ai ho1)) (fun _ h_ => h_.1)); have aU := aM (af (Kd.R_told (Kd.R_told (Kd.R_old z7 hb) (ai ho0)) (ai ho1)) (fun _ h_ => h_.1)); have aX := aM (aH (ah (ah ho0 (aj z3)) (aj z7)) (aq z9)); have a5 := aM (aH (ah (ah ho1 (aj z3)) (aj z7)) (aq z9)); have bf := aM (ap z9 hb); clear ba; clear a7; clear HB; have ba := aT; have a7 := aU; have bT := aX; have bw := a5; have HB := bf; clear aT aU aX a5 bf; (try clear hb); (try clear hb2); (try clear hk); (try clear hi); (try clear ho0); (try clear ho1)) | ((with_reducible refine aC (f := 17) rfl ?_); refine aG (some 48) rfl rfl Try.func17 z0 rfl #[.slice iD dz.length iw, .slice ig dy.length hO] rfl z10 ?_; (with_reducible refine (spec_ClashesOf.calls kj5 _ _ dz _ _ dy ln lm _ ?side1 ?side2 ?side3 ?side4 lC.out).mono ?_); (case side1 => repeat (first | exact (ag ba.out).2.2 | (with_reducible refine av ?_ _) | (with_reducible refine aw ?_ _) | (with_reducible refine ay ?_))); (case side2 => exact (ag ba.out).2.1); (case side3 => repeat (first | exact (ag a7.out).2.2 | (with_reducible refine av ?_ _) | (with_reducible refine aw ?_ _) | (with_reducible refine ay ?_))); (case side4 => exact (ag a7.out).2.1); rintro e w21 ⟨rfl, hb⟩; refine ⟨_, rfl, ?_⟩; have aT := aM (ae z3 hb); have aU := aM (ae z7 hb); have aX := aM (ae (by (with_reducible repeat (first | apply ac | apply ab | apply aa)); exact bT.out) hb); have a5 := aM (ae (by (with_reducible repeat (first | apply ac | apply ab | apply aa)); exact bw.out) hb); have bf := aM (ap z9 hb); clear ba; clear a7; clear bT; clear bw; clear HB; have ba := aT; have a7 := aU; have bT := aX; have bw := a5; have HB := bf; clear aT aU aX a5 bf; (try clear hb); (try clear hb2); (try clear hk); (try clear hi); obtain ⟨k5, kG, eo22⟩ := Kd.R_slice bw.out; subst eo22) | ((with_reducible refine aC (f := 18) rfl ?_); refine aG (some 54) rfl rfl Try.func18 z0 rfl #[.slice k5 eJ.length kG, .string a1] rfl z10 ?_; (with_reducible refine (spec_l3Apply.calls kj5 _ _ eJ a1 jF true _ ?side1 ?side2 iE.out).mono ?_); (case side1 => repeat (first | exact (ag bw.out).2.2 | (with_reducible refine av ?_ _) | (with_reducible refine aw ?_ _) | (with_reducible refine ay ?_))); (case side2 => exact (ag bw.out).2.1); rintro e w23 ⟨rfl, hb⟩; refine ⟨_, rfl, ?_⟩; have aT := aM (ae z3 hb); have aU := aM (ae z7 hb); have aX := aM (ae (by (with_reducible repeat (first | apply ac | apply ab | apply aa)); exact bT.out) hb); have a5 := aM (ae (by (with_reducible repeat (first | apply ac | apply ab | apply aa)); exact bw.out) hb); have bf := aM (ap z9 hb); clear ba; clear a7; clear bT; clear bw; clear HB; have ba := aT; have a7 := aU; have bT := aX; have bw := a5; have HB := bf; clear aT aU aX a5 bf; (try clear hb); (try clear hb2); (try clear hk); (try clear hi)) | (go_at_call 6; (with_reducible refine (spec_GoodText.calls kj5 jF true _ j9.out).mono ?_); rintro e w' ⟨rfl, ⟨nd, rfl⟩⟩))
       go_ret3
       exact ⟨y4, y5⟩
      ·replace cB := Bool.eq_false_iff.mpr cB
       subst cB
       rw [if_neg (show ¬ (false = true) by decide)] at H
       simp only [Option.some.injEq, Prod.mk.injEq] at H
       obtain ⟨rfl, rfl, rfl⟩ := H
       obtain ⟨k4, kF, eo24⟩ := Kd.R_slice ba.out
       subst eo24
       obtain ⟨jX, jQ, eo25⟩ := Kd.R_slice a7.out
       subst eo25
       go_wp2_with (first | ((with_reducible refine aC (f := 16) rfl ?_); refine aG (some 41) rfl rfl Try.func16 z0 rfl #[.slice k4 dz.length kF, .slice jX dy.length jQ] rfl z10 ?_; (with_reducible refine (spec_TransformOps.calls kj5 _ _ dz _ _ dy lp eJ true _ ?side1 ?side2 ?side3 ?side4 eG.out).mono ?_); (case side1 => repeat (first | exact (ag ba.out).2.2 | (with_reducible refine av ?_ _) | (with_reducible refine aw ?_ _) | (with_reducible refine ay ?_))); (case side2 => exact (ag ba.out).2.1); (case side3 => repeat (first | exact (ag a7.out).2.2 | (with_reducible refine av ?_ _) | (with_reducible refine aw ?_ _) | (with_reducible refine ay ?_))); (case side4 => exact (ag a7.out).2.1); rintro e w26 ⟨v279, v281, rfl, ho0, ho1, hb⟩; refine ⟨_, rfl, ?_⟩; have aT := aM (af (Kd.R_told (Kd.R_told (Kd.R_old z3 hb) (ai ho0)) (ai ho1)) (fun _ h_ => h_.1)); have aU := aM (af (Kd.R_told (Kd.R_told (Kd.R_old z7 hb) (ai ho0)) (ai ho1)) (fun _ h_ => h_.1)); have aX := aM (aH (ah (ah ho0 (aj z3)) (aj z7)) (aq z9)); have a5 := aM (aH (ah (ah ho1 (aj z3)) (aj z7)) (aq z9)); have bf := aM (ap z9 hb); clear ba; clear a7; clear HB; have ba := aT; have a7 := aU; have bT := aX; have bw := a5; have HB := bf; clear aT aU aX a5 bf; (try clear hb); (try clear hb2); (try clear hk); (try clear hi); (try clear ho0); (try clear ho1)) | ((with_reducible refine aC (f := 17) rfl ?_); refine aG (some 48) rfl rfl Try.func17 z0 rfl #[.slice k4 dz.length kF, .slice jX dy.length jQ] rfl z10 ?_; (with_reducible refine (spec_ClashesOf.calls kj5 _ _ dz _ _ dy ln lm _ ?side1 ?side2 ?side3 ?side4 lC.out).mono ?_); (case side1 => repeat (first | exact (ag ba.out).2.2 | (with_reducible refine av ?_ _) | (with_reducible refine aw ?_ _) | (with_reducible refine ay ?_))); (case side2 => exact (ag ba.out).2.1); (case side3 => repeat (first | exact (ag a7.out).2.2 | (with_reducible refine av ?_ _) | (with_reducible refine aw ?_ _) | (with_reducible refine ay ?_))); (case side4 => exact (ag a7.out).2.1); rintro e w27 ⟨rfl, hb⟩; refine ⟨_, rfl, ?_⟩; have aT := aM (ae z3 hb); have aU := aM (ae z7 hb); have aX := aM (ae (by (with_reducible repeat (first | apply ac | apply ab | apply aa)); exact bT.out) hb); have a5 := aM (ae (by (with_reducible repeat (first | apply ac | apply ab | apply aa)); exact bw.out) hb); have bf := aM (ap z9 hb); clear ba; clear a7; clear bT; clear bw; clear HB; have ba := aT; have a7 := aU; have bT := aX; have bw := a5; have HB := bf; clear aT aU aX a5 bf; (try clear hb); (try clear hb2); (try clear hk); (try clear hi); obtain ⟨jW, jP, eo28⟩ := Kd.R_slice bw.out; subst eo28) | ((with_reducible refine aC (f := 18) rfl ?_); refine aG (some 54) rfl rfl Try.func18 z0 rfl #[.slice jW eJ.length jP, .string a1] rfl z10 ?_; (with_reducible refine (spec_l3Apply.calls kj5 _ _ eJ a1 jF true _ ?side1 ?side2 iE.out).mono ?_); (case side1 => repeat (first | exact (ag bw.out).2.2 | (with_reducible refine av ?_ _) | (with_reducible refine aw ?_ _) | (with_reducible refine ay ?_))); (case side2 => exact (ag bw.out).2.1); rintro e w29 ⟨rfl, hb⟩; refine ⟨_, rfl, ?_⟩; have aT := aM (ae z3 hb); have aU := aM (ae z7 hb); have aX := aM (ae (by (with_reducible repeat (first | apply ac | apply ab | apply aa)); exact bT.out) hb); have a5 := aM (ae (by (with_reducible repeat (first | apply ac | apply ab | apply aa)); exact bw.out) hb); have bf := aM (ap z9 hb); clear ba; clear a7; clear bT; clear bw; clear HB; have ba := aT; have a7 := aU; have bT := aX; have bw := a5; have HB := bf; clear aT aU aX a5 bf; (try clear hb); (try clear hb2); (try clear hk); (try clear hi)) | (go_at_call 6; (with_reducible refine (spec_GoodText.calls kj5 jF false _ j9.out).mono ?_); rintro e w' ⟨rfl, ⟨nd, rfl⟩⟩))
       go_ret3
       exact ⟨y4, y5⟩
     ·replace ck := Bool.eq_false_iff.mpr ck
      subst ck
      rw [if_neg (show ¬ (false = true) by decide)] at H
      simp only [Option.some.injEq, Prod.mk.injEq] at H
      obtain ⟨rfl, rfl, rfl⟩ := H
      obtain ⟨ml, l8, eo30⟩ := Kd.R_slice ba.out
      subst eo30
      obtain ⟨gU, gM, eo31⟩ := Kd.R_slice a7.out
      subst eo31
      go_wp2_with (first | ((with_reducible refine aC (f := 16) rfl ?_); refine aG (some 41) rfl rfl Try.func16 z0 rfl #[.slice ml dz.length l8, .slice gU dy.length gM] rfl z10 ?_; (with_reducible refine (spec_TransformOps.calls kj5 _ _ dz _ _ dy lp eJ true _ ?side1 ?side2 ?side3 ?side4 eG.out).mono ?_); (case side1 => repeat (first | exact (ag ba.out).2.2 | (with_reducible refine av ?_ _) | (with_reducible refine aw ?_ _) | (with_reducible refine ay ?_))); (case side2 => exact (ag ba.out).2.1); (case side3 => repeat (first | exact (ag a7.out).2.2 | (with_reducible refine av ?_ _) | (with_reducible refine aw ?_ _) | (with_reducible refine ay ?_))); (case side4 => exact (ag a7.out).2.1); rintro e w32 ⟨v279, v281, rfl, ho0, ho1, hb⟩; refine ⟨_, rfl, ?_⟩; have aT := aM (af (Kd.R_told (Kd.R_told (Kd.R_old z3 hb) (ai ho0)) (ai ho1)) (fun _ h_ => h_.1)); have aU := aM (af (Kd.R_told (Kd.R_told (Kd.R_old z7 hb) (ai ho0)) (ai ho1)) (fun _ h_ => h_.1)); have aX := aM (aH (ah (ah ho0 (aj z3)) (aj z7)) (aq z9)); have a5 := aM (aH (ah (ah ho1 (aj z3)) (aj z7)) (aq z9)); have bf := aM (ap z9 hb); clear ba; clear a7; clear HB; have ba := aT; have a7 := aU; have bT := aX; have bw := a5; have HB := bf; clear aT aU aX a5 bf; (try clear hb); (try clear hb2); (try clear hk); (try clear hi); (try clear ho0); (try clear ho1)) | ((with_reducible refine aC (f := 17) rfl ?_); refine aG (some 48) rfl rfl Try.func17 z0 rfl #[.slice ml dz.length l8, .slice gU dy.length gM] rfl z10 ?_; (with_reducible refine (spec_ClashesOf.calls kj5 _ _ dz _ _ dy ln lm _ ?side1 ?side2 ?side3 ?side4 lC.out).mono ?_); (case side1 => repeat (first | exact (ag ba.out).2.2 | (with_reducible refine av ?_ _) | (with_reducible refine aw ?_ _) | (with_reducible refine ay ?_))); (case side2 => exact (ag ba.out).2.1); (case side3 => repeat (first | exact (ag a7.out).2.2 | (with_reducible refine av ?_ _) | (with_reducible refine aw ?_ _) | (with_reducible refine ay ?_))); (case side4 => exact (ag a7.out).2.1); rintro e w33 ⟨rfl, hb⟩; refine ⟨_, rfl, ?_⟩; have aT := aM (ae z3 hb); have aU := aM (ae z7 hb); have aX := aM (ae (by (with_reducible repeat (first | apply ac | apply ab | apply aa)); exact bT.out) hb); have a5 := aM (ae (by (with_reducible repeat (first | apply ac | apply ab | apply aa)); exact bw.out) hb); have bf := aM (ap z9 hb); clear ba; clear a7; clear bT; clear bw; clear HB; have ba := aT; have a7 := aU; have bT := aX; have bw := a5; have HB := bf; clear aT aU aX a5 bf; (try clear hb); (try clear hb2); (try clear hk); (try clear hi); obtain ⟨Ao34, co34, eo34⟩ := Kd.R_slice bw.out; subst eo34) | ((with_reducible refine aC (f := 18) rfl ?_); refine aG (some 54) rfl rfl Try.func18 z0 rfl #[.slice Ao34 eJ.length co34, .string a1] rfl z10 ?_; (with_reducible refine (spec_l3Apply.calls kj5 _ _ eJ a1 jF false _ ?side1 ?side2 iE.out).mono ?_); (case side1 => repeat (first | exact (ag bw.out).2.2 | (with_reducible refine av ?_ _) | (with_reducible refine aw ?_ _) | (with_reducible refine ay ?_))); (case side2 => exact (ag bw.out).2.1); rintro e w35 ⟨rfl, hb⟩; refine ⟨_, rfl, ?_⟩; have aT := aM (ae z3 hb); have aU := aM (ae z7 hb); have aX := aM (ae (by (with_reducible repeat (first | apply ac | apply ab | apply aa)); exact bT.out) hb); have a5 := aM (ae (by (with_reducible repeat (first | apply ac | apply ab | apply aa)); exact bw.out) hb); have bf := aM (ap z9 hb); clear ba; clear a7; clear bT; clear bw; clear HB; have ba := aT; have a7 := aU; have bT := aX; have bw := a5; have HB := bf; clear aT aU aX a5 bf; (try clear hb); (try clear hb2); (try clear hk); (try clear hi)))
      go_ret3
      exact ⟨y4, y5⟩
    ·replace ce := Bool.eq_false_iff.mpr ce
     subst ce
     rw [if_neg (show ¬ (false = true) by decide)] at H
     simp only [Option.some.injEq, Prod.mk.injEq] at H
     obtain ⟨rfl, rfl, rfl⟩ := H
     obtain ⟨eO, eL, eo36⟩ := Kd.R_slice ba.out
     subst eo36
     obtain ⟨k0, jN, eo37⟩ := Kd.R_slice a7.out
     subst eo37
     go_wp2_with (first | ((with_reducible refine aC (f := 16) rfl ?_); refine aG (some 41) rfl rfl Try.func16 z0 rfl #[.slice eO dz.length eL, .slice k0 dy.length jN] rfl z10 ?_; (with_reducible refine (spec_TransformOps.calls kj5 _ _ dz _ _ dy lp eJ false _ ?side1 ?side2 ?side3 ?side4 eG.out).mono ?_); (case side1 => repeat (first | exact (ag ba.out).2.2 | (with_reducible refine av ?_ _) | (with_reducible refine aw ?_ _) | (with_reducible refine ay ?_))); (case side2 => exact (ag ba.out).2.1); (case side3 => repeat (first | exact (ag a7.out).2.2 | (with_reducible refine av ?_ _) | (with_reducible refine aw ?_ _) | (with_reducible refine ay ?_))); (case side4 => exact (ag a7.out).2.1); rintro e w38 ⟨v279, v281, rfl, ho0, ho1, hb⟩; refine ⟨_, rfl, ?_⟩; have aT := aM (af (Kd.R_told (Kd.R_told (Kd.R_old z3 hb) (ai ho0)) (ai ho1)) (fun _ h_ => h_.1)); have aU := aM (af (Kd.R_told (Kd.R_told (Kd.R_old z7 hb) (ai ho0)) (ai ho1)) (fun _ h_ => h_.1)); have aX := aM (aH (ah (ah ho0 (aj z3)) (aj z7)) (aq z9)); have a5 := aM (aH (ah (ah ho1 (aj z3)) (aj z7)) (aq z9)); have bf := aM (ap z9 hb); clear ba; clear a7; clear HB; have ba := aT; have a7 := aU; have bT := aX; have bw := a5; have HB := bf; clear aT aU aX a5 bf; (try clear hb); (try clear hb2); (try clear hk); (try clear hi); (try clear ho0); (try clear ho1)) | ((with_reducible refine aC (f := 17) rfl ?_); refine aG (some 48) rfl rfl Try.func17 z0 rfl #[.slice eO dz.length eL, .slice k0 dy.length jN] rfl z10 ?_; (with_reducible refine (spec_ClashesOf.calls kj5 _ _ dz _ _ dy ln lm _ ?side1 ?side2 ?side3 ?side4 lC.out).mono ?_); (case side1 => repeat (first | exact (ag ba.out).2.2 | (with_reducible refine av ?_ _) | (with_reducible refine aw ?_ _) | (with_reducible refine ay ?_))); (case side2 => exact (ag ba.out).2.1); (case side3 => repeat (first | exact (ag a7.out).2.2 | (with_reducible refine av ?_ _) | (with_reducible refine aw ?_ _) | (with_reducible refine ay ?_))); (case side4 => exact (ag a7.out).2.1); rintro e w39 ⟨rfl, hb⟩; refine ⟨_, rfl, ?_⟩; have aT := aM (ae z3 hb); have aU := aM (ae z7 hb); have aX := aM (ae (by (with_reducible repeat (first | apply ac | apply ab | apply aa)); exact bT.out) hb); have a5 := aM (ae (by (with_reducible repeat (first | apply ac | apply ab | apply aa)); exact bw.out) hb); have bf := aM (ap z9 hb); clear ba; clear a7; clear bT; clear bw; clear HB; have ba := aT; have a7 := aU; have bT := aX; have bw := a5; have HB := bf; clear aT aU aX a5 bf; (try clear hb); (try clear hb2); (try clear hk); (try clear hi); obtain ⟨Ao40, co40, eo40⟩ := Kd.R_slice bw.out; subst eo40) | ((with_reducible refine aC (f := 18) rfl ?_); refine aG (some 54) rfl rfl Try.func18 z0 rfl #[.slice Ao40 eJ.length co40, .string a1] rfl z10 ?_; (with_reducible refine (spec_l3Apply.calls kj5 _ _ eJ a1 jF mD _ ?side1 ?side2 iE.out).mono ?_); (case side1 => repeat (first | exact (ag bw.out).2.2 | (with_reducible refine av ?_ _) | (with_reducible refine aw ?_ _) | (with_reducible refine ay ?_))); (case side2 => exact (ag bw.out).2.1); rintro e w41 ⟨rfl, hb⟩; refine ⟨_, rfl, ?_⟩; have aT := aM (ae z3 hb); have aU := aM (ae z7 hb); have aX := aM (ae (by (with_reducible repeat (first | apply ac | apply ab | apply aa)); exact bT.out) hb); have a5 := aM (ae (by (with_reducible repeat (first | apply ac | apply ab | apply aa)); exact bw.out) hb); have bf := aM (ap z9 hb); clear ba; clear a7; clear bT; clear bw; clear HB; have ba := aT; have a7 := aU; have bT := aX; have bw := a5; have HB := bf; clear aT aU aX a5 bf; (try clear hb); (try clear hb2); (try clear hk); (try clear hi)))
     go_ret3
     exact ⟨y4, y5⟩

/-! ### spec_MergeThree: function 4 -/
def spec_MergeThree.f (k : Nat) (a0 : ByteArray) (a1 : ByteArray) (a2 : ByteArray) : Option (ByteArray × Int × Bool) := (spec_GoodText.f k a0).bind fun kr => (if kr = true then ((spec_l9Texts.f k a1 a2).bind fun kp => (if kp = true then ((spec_l10Merge.f k a0 a1 a2).bind fun ff => (some (ff.1, ff.2.1, ff.2.2))) else (some ((⟨#[]⟩ : ByteArray), 0, false)))) else (some ((⟨#[]⟩ : ByteArray), 0, false)))
theorem spec_MergeThree.mono : ∀ a0 a1 a2 k, LeO (spec_MergeThree.f k a0 a1 a2) (spec_MergeThree.f (k + 1) a0 a1 a2) := by
 intro a0 a1 a2 k
 unfold spec_MergeThree.f
 repeat' first
   | (with_reducible exact spec_GoodText.mono _ _)
   | (with_reducible exact spec_l10Merge.mono _ _ _ _)
   | (with_reducible exact spec_l9Texts.mono _ _ _)
   | (with_reducible exact LeO.refl _)
   | (with_reducible exact LeO.none _)
   | (with_reducible refine LeO.ite ?_ ?_)
   | (with_reducible refine LeO.bind ?_ (fun _ => ?_))
   | exact spec_GoodText.mono _ _
   | exact spec_l10Merge.mono _ _ _ _
   | exact spec_l9Texts.mono _ _ _
   | exact LeO.none _
   | refine LeO.ite ?_ ?_
   | refine LeO.bind ?_ (fun _ => ?_)
set_option maxHeartbeats 8000000 in
set_option maxRecDepth 100000 in
theorem spec_MergeThree.calls (k : Nat) (a0 : ByteArray) (a1 : ByteArray) (a2 : ByteArray) (r1 : ByteArray) (r2 : Int) (r3 : Bool) (w : World) (h : spec_MergeThree.f k a0 a1 a2 = some (r1, r2, r3)) :
  Calls Try.prog 4 #[.string a0, .string a1, .string a2] w fun e w' => e = .returned (.tuple #[.string r1, .int .i64 r2, .bool r3]) ∧ Below w.heap.size w w' := by
 have HB := aM (Below.refl w.heap.size w)
 have H : ((spec_GoodText.f k a0).bind fun kr => (if kr = true then ((spec_l9Texts.f k a1 a2).bind fun kp => (if kp = true then ((spec_l10Merge.f k a0 a1 a2).bind fun ff => (some (ff.1, ff.2.1, ff.2.2))) else (some ((⟨#[]⟩ : ByteArray), 0, false)))) else (some ((⟨#[]⟩ : ByteArray), 0, false)))) = some (r1, r2, r3) := h
 clear h
 replace H := oB H
 obtain ⟨kr, eE, H⟩ := H
 try dsimp only at H
 have A4 := aM eE
 clear eE
 by_cases c5 : kr = true
 ·subst c5
  rw [if_pos rfl] at H
  replace H := oB H
  obtain ⟨kp, ez, H⟩ := H
  try dsimp only at H
  have A6 := aM ez
  clear ez
  by_cases c7 : kp = true
  ·subst c7
   rw [if_pos rfl] at H
   replace H := oB H
   obtain ⟨⟨t290, t291, t292⟩, k6, H⟩ := H
   try dsimp only at H
   have A8 := aM k6
   clear k6
   simp only [Option.some.injEq, Prod.mk.injEq] at H
   obtain ⟨rfl, rfl, rfl⟩ := H
   go_enter Try.func4, Try.ntmps4
   go_wp2_with (first | ((with_reducible refine aC (f := 6) rfl ?_); refine aG (some 10) rfl rfl Try.func6 z0 rfl #[.string a0] rfl z10 ?_; (with_reducible refine (spec_GoodText.calls k a0 true _ A4.out).mono ?_); rintro e w' ⟨rfl, ⟨nd, rfl⟩⟩; refine ⟨_, rfl, ?_⟩) | (go_at_call 7; (with_reducible refine (spec_l9Texts.calls k a1 a2 true _ A6.out).mono ?_); rintro e w' ⟨rfl, ⟨nd, rfl⟩⟩) | ((with_reducible refine aC (f := 8) rfl ?_); refine aG (some 21) rfl rfl Try.func8 z0 rfl #[.string a0, .string a1, .string a2] rfl z10 ?_; (with_reducible refine (spec_l10Merge.calls k a0 a1 a2 t290 t291 t292 _ A8.out).mono ?_); rintro e w9 ⟨rfl, hb⟩; refine ⟨_, rfl, ?_⟩; have aT := aM (ap z9 hb); clear HB; have HB := aT; clear aT; (try clear hb); (try clear hb2); (try clear hk); (try clear hi)))
   go_ret3
   exact ⟨y4, y5⟩
  ·replace c7 := Bool.eq_false_iff.mpr c7
   subst c7
   rw [if_neg (show ¬ (false = true) by decide)] at H
   simp only [Option.some.injEq, Prod.mk.injEq] at H
   obtain ⟨rfl, rfl, rfl⟩ := H
   go_enter Try.func4, Try.ntmps4
   go_wp2_with (first | ((with_reducible refine aC (f := 6) rfl ?_); refine aG (some 10) rfl rfl Try.func6 z0 rfl #[.string a0] rfl z10 ?_; (with_reducible refine (spec_GoodText.calls k a0 true _ A4.out).mono ?_); rintro e w' ⟨rfl, ⟨nd, rfl⟩⟩; refine ⟨_, rfl, ?_⟩) | (go_at_call 7; (with_reducible refine (spec_l9Texts.calls k a1 a2 false _ A6.out).mono ?_); rintro e w' ⟨rfl, ⟨nd, rfl⟩⟩))
   go_ret3
   exact ⟨y4, y5⟩
 ·replace c5 := Bool.eq_false_iff.mpr c5
  subst c5
  rw [if_neg (show ¬ (false = true) by decide)] at H
  simp only [Option.some.injEq, Prod.mk.injEq] at H
  obtain ⟨rfl, rfl, rfl⟩ := H
  go_enter Try.func4, Try.ntmps4
  go_wp2_with (first | ((with_reducible refine aC (f := 6) rfl ?_); refine aG (some 10) rfl rfl Try.func6 z0 rfl #[.string a0] rfl z10 ?_; (with_reducible refine (spec_GoodText.calls k a0 false _ A4.out).mono ?_); rintro e w' ⟨rfl, ⟨nd, rfl⟩⟩; refine ⟨_, rfl, ?_⟩))
  go_ret3
  exact ⟨y4, y5⟩

/-! ### impl_isName: function 35 -/
def impl_isName.f (a0 : Int) : Option (Bool) := if a0 ≥ 65 then (some (decide (a0 ≤ 70))) else (some false)
set_option maxHeartbeats 8000000 in
set_option maxRecDepth 100000 in
theorem impl_isName.calls (a0 : Int) (r : Bool) (w : World) (h : impl_isName.f a0 = some r) :
  Calls Try.prog 35 #[.int .u8 a0] w fun e w' => e = .returned (.bool r) ∧ Drawn0 w w' := by
 have H : (if a0 ≥ 65 then (some (decide (a0 ≤ 70))) else (some false)) = some r := h
 clear h
 by_cases c2 : a0 ≥ 65
 ·rw [if_pos c2] at H
  have c2b0 : decide (65 ≤ a0) = true := dT c2
  clear c2
  obtain rfl := sI H
  go_enter Try.func35, Try.ntmps35
  go_wp2
  go_ret
  exact ⟨y2, y3⟩
 ·rw [if_neg c2] at H
  have c2b0 : decide (65 ≤ a0) = false := dF c2
  clear c2
  obtain rfl := sI H
  go_enter Try.func35, Try.ntmps35
  go_wp2
  go_ret
  exact ⟨y2, y3⟩

/-! ### impl_isPlain: function 36 -/
def impl_isPlain.f (a0 : Int) : Option (Bool) := if a0 ≥ 97 then (if a0 ≤ 122 then (some true) else (if a0 ≥ 48 then (if a0 ≤ 57 then (some true) else (if a0 = 32 then (some true) else (if a0 = 46 then (some true) else (some (a0 == 44))))) else (if a0 = 32 then (some true) else (if a0 = 46 then (some true) else (some (a0 == 44)))))) else (if a0 ≥ 48 then (if a0 ≤ 57 then (some true) else (if a0 = 32 then (some true) else (if a0 = 46 then (some true) else (some (a0 == 44))))) else (if a0 = 32 then (some true) else (if a0 = 46 then (some true) else (some (a0 == 44)))))
set_option maxHeartbeats 8000000 in
set_option maxRecDepth 100000 in
theorem impl_isPlain.calls (a0 : Int) (r : Bool) (w : World) (h : impl_isPlain.f a0 = some r) :
  Calls Try.prog 36 #[.int .u8 a0] w fun e w' => e = .returned (.bool r) ∧ Drawn0 w w' := by
 have H : (if a0 ≥ 97 then (if a0 ≤ 122 then (some true) else (if a0 ≥ 48 then (if a0 ≤ 57 then (some true) else (if a0 = 32 then (some true) else (if a0 = 46 then (some true) else (some (a0 == 44))))) else (if a0 = 32 then (some true) else (if a0 = 46 then (some true) else (some (a0 == 44)))))) else (if a0 ≥ 48 then (if a0 ≤ 57 then (some true) else (if a0 = 32 then (some true) else (if a0 = 46 then (some true) else (some (a0 == 44))))) else (if a0 = 32 then (some true) else (if a0 = 46 then (some true) else (some (a0 == 44)))))) = some r := h
 clear h
 by_cases c2 : a0 ≥ 97
 ·rw [if_pos c2] at H
  have c2b0 : decide (97 ≤ a0) = true := dT c2
  clear c2
  by_cases c3 : a0 ≤ 122
  ·rw [if_pos c3] at H
   have c3b0 : decide (a0 ≤ 122) = true := dT c3
   clear c3
   obtain rfl := sI H
   go_enter Try.func36, Try.ntmps36
   go_wp2
   go_ret
   exact ⟨y2, y3⟩
  ·rw [if_neg c3] at H
   have c3b0 : decide (a0 ≤ 122) = false := dF c3
   clear c3
   by_cases c4 : a0 ≥ 48
   ·rw [if_pos c4] at H
    have c4b0 : decide (48 ≤ a0) = true := dT c4
    clear c4
    by_cases c5 : a0 ≤ 57
    ·rw [if_pos c5] at H
     have c5b0 : decide (a0 ≤ 57) = true := dT c5
     clear c5
     obtain rfl := sI H
     go_enter Try.func36, Try.ntmps36
     go_wp2
     go_ret
     exact ⟨y2, y3⟩
    ·rw [if_neg c5] at H
     have c5b0 : decide (a0 ≤ 57) = false := dF c5
     clear c5
     by_cases c6 : a0 = 32
     ·rw [if_pos c6] at H
      have c6b0 : (a0 == 32) = true := qT c6
      have c6b1 : (a0 != 32) = false := nF c6
      clear c6
      obtain rfl := sI H
      go_enter Try.func36, Try.ntmps36
      go_wp2
      go_ret
      exact ⟨y2, y3⟩
     ·rw [if_neg c6] at H
      have c6b0 : (a0 == 32) = false := qF c6
      have c6b1 : (a0 != 32) = true := nT c6
      by_cases c7 : a0 = 46
      ·rw [if_pos c7] at H
       have c7b0 : (a0 == 46) = true := qT c7
       have c7b1 : (a0 != 46) = false := nF c7
       clear c7
       obtain rfl := sI H
       go_enter Try.func36, Try.ntmps36
       go_wp2
       go_ret
       exact ⟨y2, y3⟩
      ·rw [if_neg c7] at H
       have c7b0 : (a0 == 46) = false := qF c7
       have c7b1 : (a0 != 46) = true := nT c7
       obtain rfl := sI H
       go_enter Try.func36, Try.ntmps36
       go_wp2
       go_ret
       exact ⟨y2, y3⟩
   ·rw [if_neg c4] at H
    have c4b0 : decide (48 ≤ a0) = false := dF c4
    clear c4
    by_cases c8 : a0 = 32
    ·rw [if_pos c8] at H
     have c8b0 : (a0 == 32) = true := qT c8
     have c8b1 : (a0 != 32) = false := nF c8
     clear c8
     obtain rfl := sI H
     go_enter Try.func36, Try.ntmps36
     go_wp2
     go_ret
     exact ⟨y2, y3⟩
    ·rw [if_neg c8] at H
     have c8b0 : (a0 == 32) = false := qF c8
     have c8b1 : (a0 != 32) = true := nT c8
     by_cases c9 : a0 = 46
     ·rw [if_pos c9] at H
      have c9b0 : (a0 == 46) = true := qT c9
      have c9b1 : (a0 != 46) = false := nF c9
      clear c9
      obtain rfl := sI H
      go_enter Try.func36, Try.ntmps36
      go_wp2
      go_ret
      exact ⟨y2, y3⟩
     ·rw [if_neg c9] at H
      have c9b0 : (a0 == 46) = false := qF c9
      have c9b1 : (a0 != 46) = true := nT c9
      obtain rfl := sI H
      go_enter Try.func36, Try.ntmps36
      go_wp2
      go_ret
      exact ⟨y2, y3⟩
 ·rw [if_neg c2] at H
  have c2b0 : decide (97 ≤ a0) = false := dF c2
  clear c2
  by_cases bz : a0 ≥ 48
  ·rw [if_pos bz] at H
   have c10b0 : decide (48 ≤ a0) = true := dT bz
   clear bz
   by_cases bV : a0 ≤ 57
   ·rw [if_pos bV] at H
    have c11b0 : decide (a0 ≤ 57) = true := dT bV
    clear bV
    obtain rfl := sI H
    go_enter Try.func36, Try.ntmps36
    go_wp2
    go_ret
    exact ⟨y2, y3⟩
   ·rw [if_neg bV] at H
    have c11b0 : decide (a0 ≤ 57) = false := dF bV
    clear bV
    by_cases cd : a0 = 32
    ·rw [if_pos cd] at H
     have c12b0 : (a0 == 32) = true := qT cd
     have c12b1 : (a0 != 32) = false := nF cd
     clear cd
     obtain rfl := sI H
     go_enter Try.func36, Try.ntmps36
     go_wp2
     go_ret
     exact ⟨y2, y3⟩
    ·rw [if_neg cd] at H
     have c12b0 : (a0 == 32) = false := qF cd
     have c12b1 : (a0 != 32) = true := nT cd
     by_cases bR : a0 = 46
     ·rw [if_pos bR] at H
      have c13b0 : (a0 == 46) = true := qT bR
      have c13b1 : (a0 != 46) = false := nF bR
      clear bR
      obtain rfl := sI H
      go_enter Try.func36, Try.ntmps36
      go_wp2
      go_ret
      exact ⟨y2, y3⟩
     ·rw [if_neg bR] at H
      have c13b0 : (a0 == 46) = false := qF bR
      have c13b1 : (a0 != 46) = true := nT bR
      obtain rfl := sI H
      go_enter Try.func36, Try.ntmps36
      go_wp2
      go_ret
      exact ⟨y2, y3⟩
  ·rw [if_neg bz] at H
   have c10b0 : decide (48 ≤ a0) = false := dF bz
   clear bz
   by_cases ce : a0 = 32
   ·rw [if_pos ce] at H
    have c14b0 : (a0 == 32) = true := qT ce
    have c14b1 : (a0 != 32) = false := nF ce
    clear ce
    obtain rfl := sI H
    go_enter Try.func36, Try.ntmps36
    go_wp2
    go_ret
    exact ⟨y2, y3⟩
   ·rw [if_neg ce] at H
    have c14b0 : (a0 == 32) = false := qF ce
    have c14b1 : (a0 != 32) = true := nT ce
    by_cases ck : a0 = 46
    ·rw [if_pos ck] at H
     have c15b0 : (a0 == 46) = true := qT ck
     have c15b1 : (a0 != 46) = false := nF ck
     clear ck
     obtain rfl := sI H
     go_enter Try.func36, Try.ntmps36
     go_wp2
     go_ret
     exact ⟨y2, y3⟩
    ·rw [if_neg ck] at H
     have c15b0 : (a0 == 46) = false := qF ck
     have c15b1 : (a0 != 46) = true := nT ck
     obtain rfl := sI H
     go_enter Try.func36, Try.ntmps36
     go_wp2
     go_ret
     exact ⟨y2, y3⟩

/-! ### impl_GoodText: function 13 -/
def impl_GoodText.l0 : Nat → ByteArray → Int → Int → Option (Bool)
 | 0, _, _, _ => none
 | k + 1, x0, x5, x6 => if x6 < x5 then (if 0 ≤ x6 then (if x6 < (x0.size : Int) then ((impl_isName.f (bt x0 x6)).bind fun lY => (if lY = true then (impl_GoodText.l0 k x0 x5 (wrap64 (x6 + 1))) else ((impl_isPlain.f (bt x0 x6)).bind fun lX => (if lX = true then (impl_GoodText.l0 k x0 x5 (wrap64 (x6 + 1))) else (if (bt x0 x6) = 47 then (impl_GoodText.l0 k x0 x5 (wrap64 (x6 + 1))) else (some false)))))) else (none)) else (none)) else (some (decide ((x0.size : Int) ≤ 300)))
def impl_GoodText.f (k : Nat) (a0 : ByteArray) : Option (Bool) := impl_GoodText.l0 k a0 (a0.size : Int) 0
theorem impl_GoodText.mono_l : ∀ k, (∀ y0 y1 y2, LeO (impl_GoodText.l0 k y0 y1 y2) (impl_GoodText.l0 (k + 1) y0 y1 y2))
 | 0 => fun _ _ _ r h => by simp [impl_GoodText.l0] at h
 | k + 1 => by
  have ih0 := impl_GoodText.mono_l k
  ·intro y0 y1 y2
   unfold impl_GoodText.l0
   repeat' first
   | (with_reducible exact ih0 _ _ _)
   | (with_reducible exact LeO.refl _)
   | (with_reducible exact LeO.none _)
   | (with_reducible refine LeO.ite ?_ ?_)
   | (with_reducible refine LeO.bind ?_ (fun _ => ?_))
   | exact ih0 _ _ _
   | exact LeO.none _
   | refine LeO.ite ?_ ?_
   | refine LeO.bind ?_ (fun _ => ?_)
theorem impl_GoodText.mono : ∀ a0 k, LeO (impl_GoodText.f k a0) (impl_GoodText.f (k + 1) a0) := by
 intro a0 k
 have ih0 := impl_GoodText.mono_l k
 unfold impl_GoodText.f
 repeat' first
   | (with_reducible exact ih0 _ _ _)
   | (with_reducible exact LeO.refl _)
   | (with_reducible exact LeO.none _)
   | (with_reducible refine LeO.ite ?_ ?_)
   | (with_reducible refine LeO.bind ?_ (fun _ => ?_))
   | exact ih0 _ _ _
   | exact LeO.none _
   | refine LeO.ite ?_ ?_
   | refine LeO.bind ?_ (fun _ => ?_)
set_option maxHeartbeats 8000000 in
set_option maxRecDepth 100000 in
theorem impl_GoodText.calls (k : Nat) (a0 : ByteArray) (r : Bool) (w : World) (h : impl_GoodText.f k a0 = some r) :
  Calls Try.prog 13 #[.string a0] w fun e w' => e = .returned (.bool r) ∧ Drawn0 w w' := by
 have H : (impl_GoodText.l0 k a0 (a0.size : Int) 0) = some r := h
 clear h
 have H' := aM H
 clear H
 go_enter Try.func13, Try.ntmps13
 go_wp2
 go_loopg [6] k (fun kq v6 w' => ∃ (x6_1 : Int), v6 = .int .i64 x6_1 ∧ Aside0 (impl_GoodText.l0 kq a0 (a0.size : Int) x6_1 = some r) ∧ Aside0 (kq ≤ k) ∧ Drawn0 w w')
 case atStart => exact ⟨(0), z1, H', ⟨Nat.le_refl _⟩, y3⟩
 case round =>
  clear H'
  try clear c1
  obtain ⟨x6_1, rfl, HA, HK1, ⟨m1, rfl⟩⟩ := hrel
  cases gk with
  | zero => exact absurd HA.out (by simp [impl_GoodText.l0])
  | succ k1 =>
   have H := HA.out
   clear HA
   simp only [impl_GoodText.l0] at H
   by_cases c2 : x6_1 < (a0.size : Int)
   ·rw [if_pos c2] at H
    have c2b0 : decide (x6_1 < (a0.size : Int)) = true := dT c2
    clear c2
    by_cases c3 : 0 ≤ x6_1
    ·rw [if_pos c3] at H
     have c3b0 : decide (0 ≤ x6_1) = true := dT c3
     clear c3
     by_cases c4 : x6_1 < (a0.size : Int)
     ·rw [if_pos c4] at H
      have c4b0 : decide (x6_1 < (a0.size : Int)) = true := dT c4
      clear c4
      replace H := oB H
      obtain ⟨lY, ez, H⟩ := H
      try dsimp only at H
      have A6 := aM ez
      clear ez
      by_cases c7 : lY = true
      ·subst c7
       rw [if_pos rfl] at H
       have H' := aM H
       clear H
       have p5 : 0 ≤ (x6_1 : Int) := oD z2
       have q5 : x6_1 < (a0.size : Int) := oD z2
       have hx5 := bt_at a0 x6_1
       replace p5 := eq_true p5
       replace q5 := eq_true q5
       go_wp2_with (first | ((with_reducible refine aC (f := 35) rfl ?_); refine aG (some 12) rfl rfl Try.func35 z0 rfl #[.int .u8 (bt a0 x6_1)] rfl z10 ?_; (with_reducible refine (impl_isName.calls (bt a0 x6_1) true _ A6.out).mono ?_); rintro e w' ⟨rfl, ⟨nd, rfl⟩⟩; refine ⟨_, rfl, ?_⟩))
       go_roundg k1
       case measure => have := HK1.out; omega
       case rel => exact ⟨(wrap64 (x6_1 + 1)), z1, H', ⟨y0⟩, y3⟩
      ·replace c7 := Bool.eq_false_iff.mpr c7
       subst c7
       rw [if_neg (show ¬ (false = true) by decide)] at H
       replace H := oB H
       obtain ⟨lX, ng, H⟩ := H
       try dsimp only at H
       have A9 := aM ng
       clear ng
       by_cases bz : lX = true
       ·subst bz
        rw [if_pos rfl] at H
        have H' := aM H
        clear H
        have p5 : 0 ≤ (x6_1 : Int) := oD z2
        have q5 : x6_1 < (a0.size : Int) := oD z2
        have hx5 := bt_at a0 x6_1
        replace p5 := eq_true p5
        replace q5 := eq_true q5
        go_wp2_with (first | ((with_reducible refine aC (f := 35) rfl ?_); refine aG (some 12) rfl rfl Try.func35 z0 rfl #[.int .u8 (bt a0 x6_1)] rfl z10 ?_; (with_reducible refine (impl_isName.calls (bt a0 x6_1) false _ A6.out).mono ?_); rintro e w' ⟨rfl, ⟨nd, rfl⟩⟩; refine ⟨_, rfl, ?_⟩; have p8 : 0 ≤ (x6_1 : Int) := oD z2; have q8 : x6_1 < (a0.size : Int) := oD z2; have hx8 := bt_at a0 x6_1; replace p8 := eq_true p8; replace q8 := eq_true q8) | (go_at_call 36; (with_reducible refine (impl_isPlain.calls (bt a0 x6_1) true _ A9.out).mono ?_); rintro e w' ⟨rfl, ⟨nd, rfl⟩⟩))
        go_roundg k1
        case measure => have := HK1.out; omega
        case rel => exact ⟨(wrap64 (x6_1 + 1)), z1, H', ⟨y0⟩, y3⟩
       ·replace bz := Bool.eq_false_iff.mpr bz
        subst bz
        rw [if_neg (show ¬ (false = true) by decide)] at H
        by_cases cd : (bt a0 x6_1) = 47
        ·rw [if_pos cd] at H
         have c12b0 : ((bt a0 x6_1) == 47) = true := qT cd
         have c12b1 : ((bt a0 x6_1) != 47) = false := nF cd
         clear cd
         have H' := aM H
         clear H
         have p5 : 0 ≤ (x6_1 : Int) := oD z2
         have q5 : x6_1 < (a0.size : Int) := oD z2
         have hx5 := bt_at a0 x6_1
         replace p5 := eq_true p5
         replace q5 := eq_true q5
         go_wp2_with (first | ((with_reducible refine aC (f := 35) rfl ?_); refine aG (some 12) rfl rfl Try.func35 z0 rfl #[.int .u8 (bt a0 x6_1)] rfl z10 ?_; (with_reducible refine (impl_isName.calls (bt a0 x6_1) false _ A6.out).mono ?_); rintro e w' ⟨rfl, ⟨nd, rfl⟩⟩; refine ⟨_, rfl, ?_⟩; have p8 : 0 ≤ (x6_1 : Int) := oD z2; have q8 : x6_1 < (a0.size : Int) := oD z2; have hx8 := bt_at a0 x6_1; replace p8 := eq_true p8; replace q8 := eq_true q8) | (go_at_call 36; (with_reducible refine (impl_isPlain.calls (bt a0 x6_1) false _ A9.out).mono ?_); rintro e w' ⟨rfl, ⟨nd, rfl⟩⟩; have p11 : 0 ≤ (x6_1 : Int) := oD z2; have q11 : x6_1 < (a0.size : Int) := oD z2; have hx11 := bt_at a0 x6_1; replace p11 := eq_true p11; replace q11 := eq_true q11))
         go_roundg k1
         case measure => have := HK1.out; omega
         case rel => exact ⟨(wrap64 (x6_1 + 1)), z1, H', ⟨y0⟩, y3⟩
        ·rw [if_neg cd] at H
         have c12b0 : ((bt a0 x6_1) == 47) = false := qF cd
         have c12b1 : ((bt a0 x6_1) != 47) = true := nT cd
         obtain rfl := sI H
         have p5 : 0 ≤ (x6_1 : Int) := oD z2
         have q5 : x6_1 < (a0.size : Int) := oD z2
         have hx5 := bt_at a0 x6_1
         replace p5 := eq_true p5
         replace q5 := eq_true q5
         go_wp2_with (first | ((with_reducible refine aC (f := 35) rfl ?_); refine aG (some 12) rfl rfl Try.func35 z0 rfl #[.int .u8 (bt a0 x6_1)] rfl z10 ?_; (with_reducible refine (impl_isName.calls (bt a0 x6_1) false _ A6.out).mono ?_); rintro e w' ⟨rfl, ⟨nd, rfl⟩⟩; refine ⟨_, rfl, ?_⟩; have p8 : 0 ≤ (x6_1 : Int) := oD z2; have q8 : x6_1 < (a0.size : Int) := oD z2; have hx8 := bt_at a0 x6_1; replace p8 := eq_true p8; replace q8 := eq_true q8) | (go_at_call 36; (with_reducible refine (impl_isPlain.calls (bt a0 x6_1) false _ A9.out).mono ?_); rintro e w' ⟨rfl, ⟨nd, rfl⟩⟩; have p11 : 0 ≤ (x6_1 : Int) := oD z2; have q11 : x6_1 < (a0.size : Int) := oD z2; have hx11 := bt_at a0 x6_1; replace p11 := eq_true p11; replace q11 := eq_true q11))
         go_ret
         exact ⟨y2, y3⟩
     ·rw [if_neg c4] at H
      exact absurd H (by simp)
    ·rw [if_neg c3] at H
     exact absurd H (by simp)
   ·rw [if_neg c2] at H
    have c2b0 : decide (x6_1 < (a0.size : Int)) = false := dF c2
    clear c2
    obtain rfl := sI H
    go_wp2
    go_ret
    exact ⟨y2, y3⟩

/-! ### impl_areTexts: function 19 -/
def impl_areTexts.f (k : Nat) (a0 : ByteArray) (a1 : ByteArray) : Option (Bool) := (impl_GoodText.f k a0).bind fun ko => (if ko = true then ((impl_GoodText.f k a1).bind fun kn => (some kn)) else (some false))
theorem impl_areTexts.mono : ∀ a0 a1 k, LeO (impl_areTexts.f k a0 a1) (impl_areTexts.f (k + 1) a0 a1) := by
 intro a0 a1 k
 unfold impl_areTexts.f
 repeat' first
   | (with_reducible exact impl_GoodText.mono _ _)
   | (with_reducible exact LeO.refl _)
   | (with_reducible exact LeO.none _)
   | (with_reducible refine LeO.ite ?_ ?_)
   | (with_reducible refine LeO.bind ?_ (fun _ => ?_))
   | exact impl_GoodText.mono _ _
   | exact LeO.none _
   | refine LeO.ite ?_ ?_
   | refine LeO.bind ?_ (fun _ => ?_)
set_option maxHeartbeats 8000000 in
set_option maxRecDepth 100000 in
theorem impl_areTexts.calls (k : Nat) (a0 : ByteArray) (a1 : ByteArray) (r : Bool) (w : World) (h : impl_areTexts.f k a0 a1 = some r) :
  Calls Try.prog 19 #[.string a0, .string a1] w fun e w' => e = .returned (.bool r) ∧ Drawn0 w w' := by
 have H : ((impl_GoodText.f k a0).bind fun ko => (if ko = true then ((impl_GoodText.f k a1).bind fun kn => (some kn)) else (some false))) = some r := h
 clear h
 replace H := oB H
 obtain ⟨ko, eF, H⟩ := H
 try dsimp only at H
 have A3 := aM eF
 clear eF
 by_cases c4 : ko = true
 ·subst c4
  rw [if_pos rfl] at H
  replace H := oB H
  obtain ⟨kn, ft, H⟩ := H
  try dsimp only at H
  have A5 := aM ft
  clear ft
  obtain rfl := sI H
  go_enter Try.func19, Try.ntmps19
  go_wp2_with (first | ((with_reducible refine aC (f := 13) rfl ?_); refine aG (some 6) rfl rfl Try.func13 z0 rfl #[.string a0] rfl z10 ?_; (with_reducible refine (impl_GoodText.calls k a0 true _ A3.out).mono ?_); rintro e w' ⟨rfl, ⟨nd, rfl⟩⟩; refine ⟨_, rfl, ?_⟩) | (go_at_call 13; (with_reducible refine (impl_GoodText.calls k a1 kn _ A5.out).mono ?_); rintro e w' ⟨rfl, ⟨nd, rfl⟩⟩))
  go_ret
  exact ⟨y2, y3⟩
 ·replace c4 := Bool.eq_false_iff.mpr c4
  subst c4
  rw [if_neg (show ¬ (false = true) by decide)] at H
  obtain rfl := sI H
  go_enter Try.func19, Try.ntmps19
  go_wp2_with (first | ((with_reducible refine aC (f := 13) rfl ?_); refine aG (some 6) rfl rfl Try.func13 z0 rfl #[.string a0] rfl z10 ?_; (with_reducible refine (impl_GoodText.calls k a0 false _ A3.out).mono ?_); rintro e w' ⟨rfl, ⟨nd, rfl⟩⟩; refine ⟨_, rfl, ?_⟩))
  go_ret
  exact ⟨y2, y3⟩

end Go.Proofs.Ytifllccpfiobfaa.AFnExactMergeThree
