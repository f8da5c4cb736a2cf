-- this session's own text: written by wip/tools/ownprint.py over the kit's print
import Derived.Test.YtifllccpfiobfaaAFnExactMergeThreex0
import Derived.Test.YtifllccpfiobfaaAFnExactMergeThreex9
import Derived.Test.YtifllccpfiobfaaAFnExactMergeThreex12
import Derived.Test.YtifllccpfiobfaaAFnExactMergeThreex13
import Derived.Test.YtifllccpfiobfaaAFnExactMergeThreex14
namespace Go.Proofs.Ytifllccpfiobfaa.AFnExactMergeThree
open Go.RowKit Go.Proofs.YtifllccpfiobfaaW.PrintWords Go.Proofs.YtifllccpfiobfaaW.PrintLast Go.Proofs.YtifllccpfiobfaaW.PrintMore
attribute [local go_sem] max2_int min2_int max_two min_two max_three min_three max_four min_four   -- for this text's walks alone
set_option linter.unusedVariables false
set_option linter.unusedSimpArgs false

/-! ### impl_MergeThree: function 5 -/
def impl_MergeThree.j0 : Nat → ByteArray → List (S44) → List (S44) → Bool → Option (ByteArray × Int × Bool)
 | 0, _, _, _, _ => none
 | k + 1, x1, x9, x11, x35 => if x35 = true then (some ((⟨#[]⟩ : ByteArray), 0, false)) else ((impl_TransformOps.f k x9 x11).bind fun lG => (if lG.2.2 = true then ((impl_ClashesOf.f k x9 x11).bind fun lF => (if lF.2 = true then ((impl_ApplyOp.f k lG.2.1 x1).bind fun kL => (if kL.2 = true then ((impl_GoodText.f k kL.1).bind fun lV => (if lV = true then (some (kL.1, lF.1, true)) else (some ((⟨#[]⟩ : ByteArray), 0, false)))) else (some ((⟨#[]⟩ : ByteArray), 0, false)))) else (some ((⟨#[]⟩ : ByteArray), 0, false)))) else (some ((⟨#[]⟩ : ByteArray), 0, false))))
def impl_MergeThree.f (k : Nat) (a0 : ByteArray) (a1 : ByteArray) (a2 : ByteArray) : Option (ByteArray × Int × Bool) := (impl_DiffOps.f k a0 a1).bind fun fe => ((impl_DiffOps.f k a0 a2).bind fun fd => (if fe.2 = true then (impl_MergeThree.j0 k a1 fe.1 fd.1 (!fd.2)) else (impl_MergeThree.j0 k a1 fe.1 fd.1 true)))
theorem impl_MergeThree.mono_l : ∀ k, (∀ y0 y1 y2 y3, LeO (impl_MergeThree.j0 k y0 y1 y2 y3) (impl_MergeThree.j0 (k + 1) y0 y1 y2 y3))
 | 0 => fun _ _ _ _ r h => by simp [impl_MergeThree.j0] at h
 | k + 1 => by
  have ih0 := impl_MergeThree.mono_l k
  ·intro y0 y1 y2 y3
   unfold impl_MergeThree.j0
   repeat' first
   | (with_reducible exact ih0 _ _ _ _)
   | (with_reducible exact impl_ApplyOp.mono _ _ _)
   | (with_reducible exact impl_ClashesOf.mono _ _ _)
   | (with_reducible exact impl_DiffOps.mono _ _ _)
   | (with_reducible exact impl_GoodText.mono _ _)
   | (with_reducible exact impl_TransformOps.mono _ _ _)
   | (with_reducible exact LeO.refl _)
   | (with_reducible exact LeO.none _)
   | (with_reducible refine LeO.ite ?_ ?_)
   | (with_reducible refine LeO.bind ?_ (fun _ => ?_))
   | exact ih0 _ _ _ _
   | exact impl_ApplyOp.mono _ _ _
   | exact impl_ClashesOf.mono _ _ _
   | exact impl_DiffOps.mono _ _ _
   | exact impl_GoodText.mono _ _
   | exact impl_TransformOps.mono _ _ _
   | exact LeO.none _
   | refine LeO.ite ?_ ?_
   | refine LeO.bind ?_ (fun _ => ?_)
theorem impl_MergeThree.mono : ∀ a0 a1 a2 k, LeO (impl_MergeThree.f k a0 a1 a2) (impl_MergeThree.f (k + 1) a0 a1 a2) := by
 intro a0 a1 a2 k
 have ih0 := impl_MergeThree.mono_l k
 unfold impl_MergeThree.f
 repeat' first
   | (with_reducible exact ih0 _ _ _ _)
   | (with_reducible exact impl_ApplyOp.mono _ _ _)
   | (with_reducible exact impl_ClashesOf.mono _ _ _)
   | (with_reducible exact impl_DiffOps.mono _ _ _)
   | (with_reducible exact impl_GoodText.mono _ _)
   | (with_reducible exact impl_TransformOps.mono _ _ _)
   | (with_reducible exact LeO.refl _)
   | (with_reducible exact LeO.none _)
   | (with_reducible refine LeO.ite ?_ ?_)
   | (with_reducible refine LeO.bind ?_ (fun _ => ?_))
   | exact ih0 _ _ _ _
   | exact impl_ApplyOp.mono _ _ _
   | exact impl_ClashesOf.mono _ _ _
   | exact impl_DiffOps.mono _ _ _
   | exact impl_GoodText.mono _ _
   | exact impl_TransformOps.mono _ _ _
   | exact LeO.none _
   | refine LeO.ite ?_ ?_
   | refine LeO.bind ?_ (fun _ => ?_)
set_option maxHeartbeats 8000000 in
set_option maxRecDepth 100000 in
theorem impl_MergeThree.calls (k : Nat) (a0 : ByteArray) (a1 : ByteArray) (a2 : ByteArray) (r1 : ByteArray) (r2 : Int) (r3 : Bool) (w : World) (h : impl_MergeThree.f k a0 a1 a2 = some (r1, r2, r3)) :
  Calls Try.prog 5 #[.string a0, .string a1, .string a2] w fun e w' => e = .returned (.tuple #[.string r1, .int .i64 r2, .bool r3]) ∧ Below w.heap.size w w' := by
 have HB := aM (Below.refl w.heap.size w)
 have H : ((impl_DiffOps.f k a0 a1).bind fun fe => ((impl_DiffOps.f k a0 a2).bind fun fd => (if fe.2 = true then (impl_MergeThree.j0 k a1 fe.1 fd.1 (!fd.2)) else (impl_MergeThree.j0 k a1 fe.1 fd.1 true)))) = some (r1, r2, r3) := h
 clear h
 replace H := oB H
 obtain ⟨⟨dj, mz⟩, eE, H⟩ := H
 try dsimp only at H
 have A4 := aM eE
 clear eE
 replace H := oB H
 obtain ⟨⟨di, my⟩, ft, H⟩ := H
 try dsimp only at H
 have A5 := aM ft
 clear ft
 have kY := aM H
 clear H
 go_enter Try.func5, Try.ntmps5
 go_upto_region 3 with (first | ((with_reducible refine aC (f := 9) rfl ?_); refine aG (some 21) rfl rfl Try.func9 z0 rfl #[.string a0, .string a1] rfl z10 ?_; (with_reducible refine (impl_DiffOps.calls k a0 a1 dj mz _ A4.out).mono ?_); rintro e w7 ⟨v386, rfl, ho0, hb⟩; refine ⟨_, rfl, ?_⟩; have aT := aM (aH ho0 (aq z9)); have aU := aM (ap z9 hb); clear HB; have fF := aT; have HB := aU; clear aT aU; (try clear hb); (try clear hb2); (try clear hk); (try clear hi); (try clear ho0)) | ((with_reducible refine aC (f := 9) rfl ?_); refine aG (some 27) rfl rfl Try.func9 z0 rfl #[.string a0, .string a2] rfl z10 ?_; (with_reducible refine (impl_DiffOps.calls k a0 a2 di my _ A5.out).mono ?_); rintro e w8 ⟨v390, rfl, ho0, hb⟩; refine ⟨_, rfl, ?_⟩; have aT := aM (Kd.R_elder' (by (with_reducible repeat (first | apply ac | apply ab | apply aa)); exact fF.out) (ai ho0) hb); have aU := aM (aH (ah ho0 (aj (by (with_reducible repeat (first | apply ac | apply ab | apply aa)); exact fF.out))) (aq z9)); have aX := aM (ap z9 hb); clear fF; clear HB; have fF := aT; have lK := aU; have HB := aX; clear aT aU aX; (try clear hb); (try clear hb2); (try clear hk); (try clear hi); (try clear ho0)))
 (try simp only [Act.put, sA, sB, sC])
 go_cut [35] (fun v35 wc => ∃ (kq : Nat) (x35_5 : Bool), v35 = .bool x35_5 ∧ Aside0 (impl_MergeThree.j0 kq a1 dj di x35_5 = some (r1, r2, r3)) ∧ Aside0 (kq ≤ k) ∧ Aside0 (Kd.R k44 44 wc w.heap.size (fun k_ => some k_ ≠ (v390 : Value).ownBlock) v386 dj) ∧ Aside0 (Kd.R k44 44 wc w.heap.size (fun k_ => some k_ ≠ (v386 : Value).ownBlock) v390 di) ∧ Aside0 (Below w.heap.size w wc))
 case first =>
  have H := kY.out
  clear kY
  by_cases c9 : mz = true
  ·subst c9
   rw [if_pos rfl] at H
   have H' := aM H
   clear H
   go_wp2
   go_meet
   case rel => exact ⟨_, (!my), z1, H', ⟨y1⟩, ⟨by (with_reducible repeat (first | apply ac | apply ab | apply aa)); exact af fF.out (fun _ hk => hk.2)⟩, ⟨by (with_reducible repeat (first | apply ac | apply ab | apply aa)); exact af lK.out (fun _ hk => hk.2)⟩, ⟨y5⟩⟩
  ·replace c9 := Bool.eq_false_iff.mpr c9
   subst c9
   rw [if_neg (show ¬ (false = true) by decide)] at H
   have H' := aM H
   clear H
   go_wp2
   go_meet
   case rel => exact ⟨_, (true), z1, H', ⟨y1⟩, ⟨by (with_reducible repeat (first | apply ac | apply ab | apply aa)); exact af fF.out (fun _ hk => hk.2)⟩, ⟨by (with_reducible repeat (first | apply ac | apply ab | apply aa)); exact af lK.out (fun _ hk => hk.2)⟩, ⟨y5⟩⟩
 case rest =>
  clear kY
  try clear p2
  try clear c5
  try clear c9
  obtain ⟨kq, x35_5, rfl, HA, mu, ba, a7, HB⟩ := hcut
  cases kq with
  | zero => exact absurd HA.out (by simp [impl_MergeThree.j0])
  | succ kj5 =>
   have H := HA.out
   clear HA
   simp only [impl_MergeThree.j0] at H
   by_cases bz : x35_5 = true
   ·subst bz
    rw [if_pos rfl] at H
    simp only [Option.some.injEq, Prod.mk.injEq] at H
    obtain ⟨rfl, rfl, rfl⟩ := H
    go_wp2
    go_ret3
    exact ⟨y4, y5⟩
   ·replace bz := Bool.eq_false_iff.mpr bz
    subst bz
    rw [if_neg (show ¬ (false = true) by decide)] at H
    replace H := oB H
    obtain ⟨⟨kb, eV, t394⟩, da, H⟩ := H
    try dsimp only at H
    have eG := aM da
    clear da
    by_cases cd : t394 = true
    ·subst cd
     rw [if_pos rfl] at H
     replace H := oB H
     obtain ⟨⟨lg, t400⟩, fv, H⟩ := H
     try dsimp only at H
     have iE := aM fv
     clear fv
     by_cases ce : t400 = true
     ·subst ce
      rw [if_pos rfl] at H
      replace H := oB H
      obtain ⟨⟨ka, t402⟩, k9, H⟩ := H
      try dsimp only at H
      have mw := aM k9
      clear k9
      by_cases cG : t402 = true
      ·subst cG
       rw [if_pos rfl] at H
       replace H := oB H
       obtain ⟨lV, k8, H⟩ := H
       try dsimp only at H
       have nG := aM k8
       clear k8
       by_cases cn : lV = true
       ·subst cn
        rw [if_pos rfl] at H
        simp only [Option.some.injEq, Prod.mk.injEq] at H
        obtain ⟨rfl, rfl, rfl⟩ := H
        obtain ⟨ig, hO, eo19⟩ := Kd.R_slice ba.out
        subst eo19
        obtain ⟨jY, jR, eo20⟩ := Kd.R_slice a7.out
        subst eo20
        go_wp2_with (first | ((with_reducible refine aC (f := 10) rfl ?_); refine aG (some 39) rfl rfl Try.func10 z0 rfl #[.slice ig dj.length hO, .slice jY di.length jR] rfl z10 ?_; (with_reducible refine (impl_TransformOps.calls kj5 _ _ dj _ _ di kb eV true _ ?side1 ?side2 ?side3 ?side4 eG.out).mono ?_); (case side1 => repeat (first | exact (ag ba.out).2.2 | (with_reducible refine av ?_ _) | (with_reducible refine aw ?_ _) | (with_reducible refine ay ?_))); (case side2 => exact (ag ba.out).2.1); (case side3 => repeat (first | exact (ag a7.out).2.2 | (with_reducible refine av ?_ _) | (with_reducible refine aw ?_ _) | (with_reducible refine ay ?_))); (case side4 => exact (ag a7.out).2.1); rintro e w21 ⟨v395, v397, rfl, ho0, ho1, hb⟩; refine ⟨_, rfl, ?_⟩; have aT := aM (af (Kd.R_told (Kd.R_told (Kd.R_old z3 hb) (ai ho0)) (ai ho1)) (fun _ h_ => h_.1)); have aU := aM (af (Kd.R_told (Kd.R_told (Kd.R_old z7 hb) (ai ho0)) (ai ho1)) (fun _ h_ => h_.1)); have aX := aM (aH (ah (ah ho0 (aj z3)) (aj z7)) (aq z9)); have a5 := aM (aH (ah (ah ho1 (aj z3)) (aj z7)) (aq z9)); have bf := aM (ap z9 hb); clear ba; clear a7; clear HB; have ba := aT; have a7 := aU; have b6 := aX; have bJ := a5; have HB := bf; clear aT aU aX a5 bf; (try clear hb); (try clear hb2); (try clear hk); (try clear hi); (try clear ho0); (try clear ho1)) | ((with_reducible refine aC (f := 11) rfl ?_); refine aG (some 48) rfl rfl Try.func11 z0 rfl #[.slice ig dj.length hO, .slice jY di.length jR] rfl z10 ?_; (with_reducible refine (impl_ClashesOf.calls kj5 _ _ dj _ _ di lg true _ ?side1 ?side2 ?side3 ?side4 iE.out).mono ?_); (case side1 => repeat (first | exact (ag ba.out).2.2 | (with_reducible refine av ?_ _) | (with_reducible refine aw ?_ _) | (with_reducible refine ay ?_))); (case side2 => exact (ag ba.out).2.1); (case side3 => repeat (first | exact (ag a7.out).2.2 | (with_reducible refine av ?_ _) | (with_reducible refine aw ?_ _) | (with_reducible refine ay ?_))); (case side4 => exact (ag a7.out).2.1); rintro e w22 ⟨rfl, hb⟩; refine ⟨_, rfl, ?_⟩; have aT := aM (ae z3 hb); have aU := aM (ae z7 hb); have aX := aM (ae (by (with_reducible repeat (first | apply ac | apply ab | apply aa)); exact b6.out) hb); have a5 := aM (ae (by (with_reducible repeat (first | apply ac | apply ab | apply aa)); exact bJ.out) hb); have bf := aM (ap z9 hb); clear ba; clear a7; clear b6; clear bJ; clear HB; have ba := aT; have a7 := aU; have b6 := aX; have bJ := a5; have HB := bf; clear aT aU aX a5 bf; (try clear hb); (try clear hb2); (try clear hk); (try clear hi); obtain ⟨nc, m5, eo23⟩ := Kd.R_slice bJ.out; subst eo23) | ((with_reducible refine aC (f := 12) rfl ?_); refine aG (some 56) rfl rfl Try.func12 z0 rfl #[.slice nc eV.length m5, .string a1] rfl z10 ?_; (with_reducible refine (impl_ApplyOp.calls kj5 _ _ eV a1 ka true _ ?side1 ?side2 mw.out).mono ?_); (case side1 => repeat (first | exact (ag bJ.out).2.2 | (with_reducible refine av ?_ _) | (with_reducible refine aw ?_ _) | (with_reducible refine ay ?_))); (case side2 => exact (ag bJ.out).2.1); rintro e w24 ⟨rfl, hb⟩; refine ⟨_, rfl, ?_⟩; have aT := aM (ae z3 hb); have aU := aM (ae z7 hb); have aX := aM (ae (by (with_reducible repeat (first | apply ac | apply ab | apply aa)); exact b6.out) hb); have a5 := aM (ae (by (with_reducible repeat (first | apply ac | apply ab | apply aa)); exact bJ.out) hb); have bf := aM (ap z9 hb); clear ba; clear a7; clear b6; clear bJ; clear HB; have ba := aT; have a7 := aU; have b6 := aX; have bJ := a5; have HB := bf; clear aT aU aX a5 bf; (try clear hb); (try clear hb2); (try clear hk); (try clear hi)) | (go_at_call 13; (with_reducible refine (impl_GoodText.calls kj5 ka true _ nG.out).mono ?_); rintro e w' ⟨rfl, ⟨nd, rfl⟩⟩))
        go_ret3
        exact ⟨y4, y5⟩
       ·replace cn := Bool.eq_false_iff.mpr cn
        subst cn
        rw [if_neg (show ¬ (false = true) by decide)] at H
        simp only [Option.some.injEq, Prod.mk.injEq] at H
        obtain ⟨rfl, rfl, rfl⟩ := H
        obtain ⟨jX, jQ, eo25⟩ := Kd.R_slice ba.out
        subst eo25
        obtain ⟨nb, m4, eo26⟩ := Kd.R_slice a7.out
        subst eo26
        go_wp2_with (first | ((with_reducible refine aC (f := 10) rfl ?_); refine aG (some 39) rfl rfl Try.func10 z0 rfl #[.slice jX dj.length jQ, .slice nb di.length m4] rfl z10 ?_; (with_reducible refine (impl_TransformOps.calls kj5 _ _ dj _ _ di kb eV true _ ?side1 ?side2 ?side3 ?side4 eG.out).mono ?_); (case side1 => repeat (first | exact (ag ba.out).2.2 | (with_reducible refine av ?_ _) | (with_reducible refine aw ?_ _) | (with_reducible refine ay ?_))); (case side2 => exact (ag ba.out).2.1); (case side3 => repeat (first | exact (ag a7.out).2.2 | (with_reducible refine av ?_ _) | (with_reducible refine aw ?_ _) | (with_reducible refine ay ?_))); (case side4 => exact (ag a7.out).2.1); rintro e w27 ⟨v395, v397, rfl, ho0, ho1, hb⟩; refine ⟨_, rfl, ?_⟩; have aT := aM (af (Kd.R_told (Kd.R_told (Kd.R_old z3 hb) (ai ho0)) (ai ho1)) (fun _ h_ => h_.1)); have aU := aM (af (Kd.R_told (Kd.R_told (Kd.R_old z7 hb) (ai ho0)) (ai ho1)) (fun _ h_ => h_.1)); have aX := aM (aH (ah (ah ho0 (aj z3)) (aj z7)) (aq z9)); have a5 := aM (aH (ah (ah ho1 (aj z3)) (aj z7)) (aq z9)); have bf := aM (ap z9 hb); clear ba; clear a7; clear HB; have ba := aT; have a7 := aU; have b6 := aX; have bJ := a5; have HB := bf; clear aT aU aX a5 bf; (try clear hb); (try clear hb2); (try clear hk); (try clear hi); (try clear ho0); (try clear ho1)) | ((with_reducible refine aC (f := 11) rfl ?_); refine aG (some 48) rfl rfl Try.func11 z0 rfl #[.slice jX dj.length jQ, .slice nb di.length m4] rfl z10 ?_; (with_reducible refine (impl_ClashesOf.calls kj5 _ _ dj _ _ di lg true _ ?side1 ?side2 ?side3 ?side4 iE.out).mono ?_); (case side1 => repeat (first | exact (ag ba.out).2.2 | (with_reducible refine av ?_ _) | (with_reducible refine aw ?_ _) | (with_reducible refine ay ?_))); (case side2 => exact (ag ba.out).2.1); (case side3 => repeat (first | exact (ag a7.out).2.2 | (with_reducible refine av ?_ _) | (with_reducible refine aw ?_ _) | (with_reducible refine ay ?_))); (case side4 => exact (ag a7.out).2.1); rintro e w28 ⟨rfl, hb⟩; refine ⟨_, rfl, ?_⟩; have aT := aM (ae z3 hb); have aU := aM (ae z7 hb); have aX := aM (ae (by (with_reducible repeat (first | apply ac | apply ab | apply aa)); exact b6.out) hb); have a5 := aM (ae (by (with_reducible repeat (first | apply ac | apply ab | apply aa)); exact bJ.out) hb); have bf := aM (ap z9 hb); clear ba; clear a7; clear b6; clear bJ; clear HB; have ba := aT; have a7 := aU; have b6 := aX; have bJ := a5; have HB := bf; clear aT aU aX a5 bf; (try clear hb); (try clear hb2); (try clear hk); (try clear hi); obtain ⟨Ao29, co29, eo29⟩ := Kd.R_slice bJ.out; subst eo29) | ((with_reducible refine aC (f := 12) rfl ?_); refine aG (some 56) rfl rfl Try.func12 z0 rfl #[.slice Ao29 eV.length co29, .string a1] rfl z10 ?_; (with_reducible refine (impl_ApplyOp.calls kj5 _ _ eV a1 ka true _ ?side1 ?side2 mw.out).mono ?_); (case side1 => repeat (first | exact (ag bJ.out).2.2 | (with_reducible refine av ?_ _) | (with_reducible refine aw ?_ _) | (with_reducible refine ay ?_))); (case side2 => exact (ag bJ.out).2.1); rintro e w30 ⟨rfl, hb⟩; refine ⟨_, rfl, ?_⟩; have aT := aM (ae z3 hb); have aU := aM (ae z7 hb); have aX := aM (ae (by (with_reducible repeat (first | apply ac | apply ab | apply aa)); exact b6.out) hb); have a5 := aM (ae (by (with_reducible repeat (first | apply ac | apply ab | apply aa)); exact bJ.out) hb); have bf := aM (ap z9 hb); clear ba; clear a7; clear b6; clear bJ; clear HB; have ba := aT; have a7 := aU; have b6 := aX; have bJ := a5; have HB := bf; clear aT aU aX a5 bf; (try clear hb); (try clear hb2); (try clear hk); (try clear hi)) | (go_at_call 13; (with_reducible refine (impl_GoodText.calls kj5 ka false _ nG.out).mono ?_); rintro e w' ⟨rfl, ⟨nd, rfl⟩⟩))
        go_ret3
        exact ⟨y4, y5⟩
      ·replace cG := Bool.eq_false_iff.mpr cG
       subst cG
       rw [if_neg (show ¬ (false = true) by decide)] at H
       simp only [Option.some.injEq, Prod.mk.injEq] at H
       obtain ⟨rfl, rfl, rfl⟩ := H
       obtain ⟨gU, gM, eo31⟩ := Kd.R_slice ba.out
       subst eo31
       obtain ⟨jV, jO, eo32⟩ := Kd.R_slice a7.out
       subst eo32
       go_wp2_with (first | ((with_reducible refine aC (f := 10) rfl ?_); refine aG (some 39) rfl rfl Try.func10 z0 rfl #[.slice gU dj.length gM, .slice jV di.length jO] rfl z10 ?_; (with_reducible refine (impl_TransformOps.calls kj5 _ _ dj _ _ di kb eV true _ ?side1 ?side2 ?side3 ?side4 eG.out).mono ?_); (case side1 => repeat (first | exact (ag ba.out).2.2 | (with_reducible refine av ?_ _) | (with_reducible refine aw ?_ _) | (with_reducible refine ay ?_))); (case side2 => exact (ag ba.out).2.1); (case side3 => repeat (first | exact (ag a7.out).2.2 | (with_reducible refine av ?_ _) | (with_reducible refine aw ?_ _) | (with_reducible refine ay ?_))); (case side4 => exact (ag a7.out).2.1); rintro e w33 ⟨v395, v397, rfl, ho0, ho1, hb⟩; refine ⟨_, rfl, ?_⟩; have aT := aM (af (Kd.R_told (Kd.R_told (Kd.R_old z3 hb) (ai ho0)) (ai ho1)) (fun _ h_ => h_.1)); have aU := aM (af (Kd.R_told (Kd.R_told (Kd.R_old z7 hb) (ai ho0)) (ai ho1)) (fun _ h_ => h_.1)); have aX := aM (aH (ah (ah ho0 (aj z3)) (aj z7)) (aq z9)); have a5 := aM (aH (ah (ah ho1 (aj z3)) (aj z7)) (aq z9)); have bf := aM (ap z9 hb); clear ba; clear a7; clear HB; have ba := aT; have a7 := aU; have b6 := aX; have bJ := a5; have HB := bf; clear aT aU aX a5 bf; (try clear hb); (try clear hb2); (try clear hk); (try clear hi); (try clear ho0); (try clear ho1)) | ((with_reducible refine aC (f := 11) rfl ?_); refine aG (some 48) rfl rfl Try.func11 z0 rfl #[.slice gU dj.length gM, .slice jV di.length jO] rfl z10 ?_; (with_reducible refine (impl_ClashesOf.calls kj5 _ _ dj _ _ di lg true _ ?side1 ?side2 ?side3 ?side4 iE.out).mono ?_); (case side1 => repeat (first | exact (ag ba.out).2.2 | (with_reducible refine av ?_ _) | (with_reducible refine aw ?_ _) | (with_reducible refine ay ?_))); (case side2 => exact (ag ba.out).2.1); (case side3 => repeat (first | exact (ag a7.out).2.2 | (with_reducible refine av ?_ _) | (with_reducible refine aw ?_ _) | (with_reducible refine ay ?_))); (case side4 => exact (ag a7.out).2.1); rintro e w34 ⟨rfl, hb⟩; refine ⟨_, rfl, ?_⟩; have aT := aM (ae z3 hb); have aU := aM (ae z7 hb); have aX := aM (ae (by (with_reducible repeat (first | apply ac | apply ab | apply aa)); exact b6.out) hb); have a5 := aM (ae (by (with_reducible repeat (first | apply ac | apply ab | apply aa)); exact bJ.out) hb); have bf := aM (ap z9 hb); clear ba; clear a7; clear b6; clear bJ; clear HB; have ba := aT; have a7 := aU; have b6 := aX; have bJ := a5; have HB := bf; clear aT aU aX a5 bf; (try clear hb); (try clear hb2); (try clear hk); (try clear hi); obtain ⟨lB, lv, eo35⟩ := Kd.R_slice bJ.out; subst eo35) | ((with_reducible refine aC (f := 12) rfl ?_); refine aG (some 56) rfl rfl Try.func12 z0 rfl #[.slice lB eV.length lv, .string a1] rfl z10 ?_; (with_reducible refine (impl_ApplyOp.calls kj5 _ _ eV a1 ka false _ ?side1 ?side2 mw.out).mono ?_); (case side1 => repeat (first | exact (ag bJ.out).2.2 | (with_reducible refine av ?_ _) | (with_reducible refine aw ?_ _) | (with_reducible refine ay ?_))); (case side2 => exact (ag bJ.out).2.1); rintro e w36 ⟨rfl, hb⟩; refine ⟨_, rfl, ?_⟩; have aT := aM (ae z3 hb); have aU := aM (ae z7 hb); have aX := aM (ae (by (with_reducible repeat (first | apply ac | apply ab | apply aa)); exact b6.out) hb); have a5 := aM (ae (by (with_reducible repeat (first | apply ac | apply ab | apply aa)); exact bJ.out) hb); have bf := aM (ap z9 hb); clear ba; clear a7; clear b6; clear bJ; clear HB; have ba := aT; have a7 := aU; have b6 := aX; have bJ := a5; have HB := bf; clear aT aU aX a5 bf; (try clear hb); (try clear hb2); (try clear hk); (try clear hi)))
       go_ret3
       exact ⟨y4, y5⟩
     ·replace ce := Bool.eq_false_iff.mpr ce
      subst ce
      rw [if_neg (show ¬ (false = true) by decide)] at H
      simp only [Option.some.injEq, Prod.mk.injEq] at H
      obtain ⟨rfl, rfl, rfl⟩ := H
      obtain ⟨k0, jN, eo37⟩ := Kd.R_slice ba.out
      subst eo37
      obtain ⟨na, m3, eo38⟩ := Kd.R_slice a7.out
      subst eo38
      go_wp2_with (first | ((with_reducible refine aC (f := 10) rfl ?_); refine aG (some 39) rfl rfl Try.func10 z0 rfl #[.slice k0 dj.length jN, .slice na di.length m3] rfl z10 ?_; (with_reducible refine (impl_TransformOps.calls kj5 _ _ dj _ _ di kb eV true _ ?side1 ?side2 ?side3 ?side4 eG.out).mono ?_); (case side1 => repeat (first | exact (ag ba.out).2.2 | (with_reducible refine av ?_ _) | (with_reducible refine aw ?_ _) | (with_reducible refine ay ?_))); (case side2 => exact (ag ba.out).2.1); (case side3 => repeat (first | exact (ag a7.out).2.2 | (with_reducible refine av ?_ _) | (with_reducible refine aw ?_ _) | (with_reducible refine ay ?_))); (case side4 => exact (ag a7.out).2.1); rintro e w39 ⟨v395, v397, rfl, ho0, ho1, hb⟩; refine ⟨_, rfl, ?_⟩; have aT := aM (af (Kd.R_told (Kd.R_told (Kd.R_old z3 hb) (ai ho0)) (ai ho1)) (fun _ h_ => h_.1)); have aU := aM (af (Kd.R_told (Kd.R_told (Kd.R_old z7 hb) (ai ho0)) (ai ho1)) (fun _ h_ => h_.1)); have aX := aM (aH (ah (ah ho0 (aj z3)) (aj z7)) (aq z9)); have a5 := aM (aH (ah (ah ho1 (aj z3)) (aj z7)) (aq z9)); have bf := aM (ap z9 hb); clear ba; clear a7; clear HB; have ba := aT; have a7 := aU; have b6 := aX; have bJ := a5; have HB := bf; clear aT aU aX a5 bf; (try clear hb); (try clear hb2); (try clear hk); (try clear hi); (try clear ho0); (try clear ho1)) | ((with_reducible refine aC (f := 11) rfl ?_); refine aG (some 48) rfl rfl Try.func11 z0 rfl #[.slice k0 dj.length jN, .slice na di.length m3] rfl z10 ?_; (with_reducible refine (impl_ClashesOf.calls kj5 _ _ dj _ _ di lg false _ ?side1 ?side2 ?side3 ?side4 iE.out).mono ?_); (case side1 => repeat (first | exact (ag ba.out).2.2 | (with_reducible refine av ?_ _) | (with_reducible refine aw ?_ _) | (with_reducible refine ay ?_))); (case side2 => exact (ag ba.out).2.1); (case side3 => repeat (first | exact (ag a7.out).2.2 | (with_reducible refine av ?_ _) | (with_reducible refine aw ?_ _) | (with_reducible refine ay ?_))); (case side4 => exact (ag a7.out).2.1); rintro e w40 ⟨rfl, hb⟩; refine ⟨_, rfl, ?_⟩; have aT := aM (ae z3 hb); have aU := aM (ae z7 hb); have aX := aM (ae (by (with_reducible repeat (first | apply ac | apply ab | apply aa)); exact b6.out) hb); have a5 := aM (ae (by (with_reducible repeat (first | apply ac | apply ab | apply aa)); exact bJ.out) hb); have bf := aM (ap z9 hb); clear ba; clear a7; clear b6; clear bJ; clear HB; have ba := aT; have a7 := aU; have b6 := aX; have bJ := a5; have HB := bf; clear aT aU aX a5 bf; (try clear hb); (try clear hb2); (try clear hk); (try clear hi)))
      go_ret3
      exact ⟨y4, y5⟩
    ·replace cd := Bool.eq_false_iff.mpr cd
     subst cd
     rw [if_neg (show ¬ (false = true) by decide)] at H
     simp only [Option.some.injEq, Prod.mk.injEq] at H
     obtain ⟨rfl, rfl, rfl⟩ := H
     obtain ⟨Ao41, co41, eo41⟩ := Kd.R_slice ba.out
     subst eo41
     obtain ⟨ie, hL, eo42⟩ := Kd.R_slice a7.out
     subst eo42
     go_wp2_with (first | ((with_reducible refine aC (f := 10) rfl ?_); refine aG (some 39) rfl rfl Try.func10 z0 rfl #[.slice Ao41 dj.length co41, .slice ie di.length hL] rfl z10 ?_; (with_reducible refine (impl_TransformOps.calls kj5 _ _ dj _ _ di kb eV false _ ?side1 ?side2 ?side3 ?side4 eG.out).mono ?_); (case side1 => repeat (first | exact (ag ba.out).2.2 | (with_reducible refine av ?_ _) | (with_reducible refine aw ?_ _) | (with_reducible refine ay ?_))); (case side2 => exact (ag ba.out).2.1); (case side3 => repeat (first | exact (ag a7.out).2.2 | (with_reducible refine av ?_ _) | (with_reducible refine aw ?_ _) | (with_reducible refine ay ?_))); (case side4 => exact (ag a7.out).2.1); rintro e w43 ⟨v395, v397, rfl, ho0, ho1, hb⟩; refine ⟨_, rfl, ?_⟩; have aT := aM (af (Kd.R_told (Kd.R_told (Kd.R_old z3 hb) (ai ho0)) (ai ho1)) (fun _ h_ => h_.1)); have aU := aM (af (Kd.R_told (Kd.R_told (Kd.R_old z7 hb) (ai ho0)) (ai ho1)) (fun _ h_ => h_.1)); have aX := aM (aH (ah (ah ho0 (aj z3)) (aj z7)) (aq z9)); have a5 := aM (aH (ah (ah ho1 (aj z3)) (aj z7)) (aq z9)); have bf := aM (ap z9 hb); clear ba; clear a7; clear HB; have ba := aT; have a7 := aU; have b6 := aX; have bJ := a5; have HB := bf; clear aT aU aX a5 bf; (try clear hb); (try clear hb2); (try clear hk); (try clear hi); (try clear ho0); (try clear ho1)))
     go_ret3
     exact ⟨y4, y5⟩

/-! ### laws_FnExactMergeThree: function 3 -/
def laws_FnExactMergeThree.f (k : Nat) (a0 : ByteArray) (a1 : ByteArray) (a2 : ByteArray) : Option (Bool) := if (a0.size : Int) > 1048576 then (some true) else (if (a1.size : Int) > 1048576 then (some true) else (if (a2.size : Int) > 1048576 then (some true) else ((spec_MergeThree.f k a0 a1 a2).bind fun fc => ((impl_MergeThree.f k a0 a1 a2).bind fun fb => (if fb.1.toList = fc.1.toList then (if fb.2.1 = fc.2.1 then (if (fb.2.2 != fc.2.2) = true then (some false) else (some true)) else (some false)) else (some false))))))
theorem laws_FnExactMergeThree.mono : ∀ a0 a1 a2 k, LeO (laws_FnExactMergeThree.f k a0 a1 a2) (laws_FnExactMergeThree.f (k + 1) a0 a1 a2) := by
 intro a0 a1 a2 k
 unfold laws_FnExactMergeThree.f
 repeat' first
   | (with_reducible exact impl_MergeThree.mono _ _ _ _)
   | (with_reducible exact spec_MergeThree.mono _ _ _ _)
   | (with_reducible exact LeO.refl _)
   | (with_reducible exact LeO.none _)
   | (with_reducible refine LeO.ite ?_ ?_)
   | (with_reducible refine LeO.bind ?_ (fun _ => ?_))
   | exact impl_MergeThree.mono _ _ _ _
   | exact spec_MergeThree.mono _ _ _ _
   | exact LeO.none _
   | refine LeO.ite ?_ ?_
   | refine LeO.bind ?_ (fun _ => ?_)
set_option maxHeartbeats 8000000 in
set_option maxRecDepth 100000 in
theorem laws_FnExactMergeThree.calls (k : Nat) (a0 : ByteArray) (a1 : ByteArray) (a2 : ByteArray) (r : Bool) (HRT : Aside0 (r = true)) (w : World) (h : laws_FnExactMergeThree.f k a0 a1 a2 = some r) :
  Calls Try.prog 3 #[.string a0, .string a1, .string a2] w fun e w' => e = .returned (.bool r) ∧ Below w.heap.size w w' := by
 have HB := aM (Below.refl w.heap.size w)
 have H : (if (a0.size : Int) > 1048576 then (some true) else (if (a1.size : Int) > 1048576 then (some true) else (if (a2.size : Int) > 1048576 then (some true) else ((spec_MergeThree.f k a0 a1 a2).bind fun fc => ((impl_MergeThree.f k a0 a1 a2).bind fun fb => (if fb.1.toList = fc.1.toList then (if fb.2.1 = fc.2.1 then (if (fb.2.2 != fc.2.2) = true then (some false) else (some true)) else (some false)) else (some false))))))) = some r := h
 clear h
 by_cases c4 : (a0.size : Int) > 1048576
 ·rw [if_pos c4] at H
  have c4b0 : decide (1048576 < (a0.size : Int)) = true := dT c4
  have c4b1 : decide (1048576 < a0.size) = true := dT (by omega)
  clear c4
  first | (cases H.trans (congrArg some HRT.out); done) | skip
  all_goals
   obtain rfl := sI H
   go_enter Try.func3, Try.ntmps3
   go_wp2
   go_ret
   exact ⟨y4, y5⟩
 ·rw [if_neg c4] at H
  have c4b0 : decide (1048576 < (a0.size : Int)) = false := dF c4
  have c4b1 : decide (1048576 < a0.size) = false := dF (by omega)
  clear c4
  by_cases c5 : (a1.size : Int) > 1048576
  ·rw [if_pos c5] at H
   have c5b0 : decide (1048576 < (a1.size : Int)) = true := dT c5
   have c5b1 : decide (1048576 < a1.size) = true := dT (by omega)
   clear c5
   first | (cases H.trans (congrArg some HRT.out); done) | skip
   all_goals
    obtain rfl := sI H
    go_enter Try.func3, Try.ntmps3
    go_wp2
    go_ret
    exact ⟨y4, y5⟩
  ·rw [if_neg c5] at H
   have c5b0 : decide (1048576 < (a1.size : Int)) = false := dF c5
   have c5b1 : decide (1048576 < a1.size) = false := dF (by omega)
   clear c5
   by_cases c6 : (a2.size : Int) > 1048576
   ·rw [if_pos c6] at H
    have c6b0 : decide (1048576 < (a2.size : Int)) = true := dT c6
    have c6b1 : decide (1048576 < a2.size) = true := dT (by omega)
    clear c6
    first | (cases H.trans (congrArg some HRT.out); done) | skip
    all_goals
     obtain rfl := sI H
     go_enter Try.func3, Try.ntmps3
     go_wp2
     go_ret
     exact ⟨y4, y5⟩
   ·rw [if_neg c6] at H
    have c6b0 : decide (1048576 < (a2.size : Int)) = false := dF c6
    have c6b1 : decide (1048576 < a2.size) = false := dF (by omega)
    clear c6
    replace H := oB H
    obtain ⟨⟨fS, fR, eI⟩, lT, H⟩ := H
    try dsimp only at H
    have A7 := aM lT
    clear lT
    replace H := oB H
    obtain ⟨⟨fQ, fP, eH⟩, k6, H⟩ := H
    try dsimp only at H
    have A8 := aM k6
    clear k6
    by_cases c9 : fQ.toList = fS.toList
    ·rw [if_pos c9] at H
     have c9b0 : (fQ.toList == fS.toList) = true := qT c9
     have c9b1 : (fQ.toList != fS.toList) = false := nF c9
     clear c9
     by_cases bz : fP = fR
     ·rw [if_pos bz] at H
      have c10b0 : (fP == fR) = true := qT bz
      have c10b1 : (fP != fR) = false := nF bz
      clear bz
      by_cases bV : (eH != eI) = true
      ·rw [if_pos bV] at H
       have c11b0 : (eH != eI) = true := bV
       (try (have c11b1 : decide (eH = eI) = false := by simpa using bV))
       (try (have c11b2 : (eH == eI) = false := by simpa using bV))
       (try (have c11b3 : ¬ (eH = eI) := by simpa using bV))
       clear bV
       first | (cases H.trans (congrArg some HRT.out); done) | skip
       all_goals
        obtain rfl := sI H
        go_enter Try.func3, Try.ntmps3
        go_wp2_with (first | ((with_reducible refine aC (f := 4) rfl ?_); refine aG (some 26) rfl rfl Try.func4 z0 rfl #[.string a0, .string a1, .string a2] rfl z10 ?_; (with_reducible refine (spec_MergeThree.calls k a0 a1 a2 fS fR eI _ A7.out).mono ?_); rintro e w12 ⟨rfl, hb⟩; refine ⟨_, rfl, ?_⟩; have aT := aM (ap z9 hb); clear HB; have HB := aT; clear aT; (try clear hb); (try clear hb2); (try clear hk); (try clear hi)) | ((with_reducible refine aC (f := 5) rfl ?_); refine aG (some 34) rfl rfl Try.func5 z0 rfl #[.string a0, .string a1, .string a2] rfl z10 ?_; (with_reducible refine (impl_MergeThree.calls k a0 a1 a2 fQ fP eH _ A8.out).mono ?_); rintro e w13 ⟨rfl, hb⟩; refine ⟨_, rfl, ?_⟩; have aT := aM (ap z9 hb); clear HB; have HB := aT; clear aT; (try clear hb); (try clear hb2); (try clear hk); (try clear hi)))
        all_goals (try (exfalso; rename_i h_; rw [c9b0] at h_; cases h_; done))
        go_ret
        exact ⟨y4, y5⟩
      ·rw [if_neg bV] at H
       have c11b0 : (eH != eI) = false := by simpa using bV
       (try (have c11b1 : decide (eH = eI) = true := by simpa using bV))
       (try (have c11b2 : (eH == eI) = true := by simpa using bV))
       clear bV
       first | (cases H.trans (congrArg some HRT.out); done) | skip
       all_goals
        obtain rfl := sI H
        go_enter Try.func3, Try.ntmps3
        go_wp2_with (first | ((with_reducible refine aC (f := 4) rfl ?_); refine aG (some 26) rfl rfl Try.func4 z0 rfl #[.string a0, .string a1, .string a2] rfl z10 ?_; (with_reducible refine (spec_MergeThree.calls k a0 a1 a2 fS fR eI _ A7.out).mono ?_); rintro e w14 ⟨rfl, hb⟩; refine ⟨_, rfl, ?_⟩; have aT := aM (ap z9 hb); clear HB; have HB := aT; clear aT; (try clear hb); (try clear hb2); (try clear hk); (try clear hi)) | ((with_reducible refine aC (f := 5) rfl ?_); refine aG (some 34) rfl rfl Try.func5 z0 rfl #[.string a0, .string a1, .string a2] rfl z10 ?_; (with_reducible refine (impl_MergeThree.calls k a0 a1 a2 fQ fP eH _ A8.out).mono ?_); rintro e w15 ⟨rfl, hb⟩; refine ⟨_, rfl, ?_⟩; have aT := aM (ap z9 hb); clear HB; have HB := aT; clear aT; (try clear hb); (try clear hb2); (try clear hk); (try clear hi)))
        all_goals (try (exfalso; rename_i h_; rw [c9b0] at h_; cases h_; done))
        go_ret
        exact ⟨y4, y5⟩
     ·rw [if_neg bz] at H
      have c10b0 : (fP == fR) = false := qF bz
      have c10b1 : (fP != fR) = true := nT bz
      first | (cases H.trans (congrArg some HRT.out); done) | skip
      all_goals
       obtain rfl := sI H
       go_enter Try.func3, Try.ntmps3
       go_wp2_with (first | ((with_reducible refine aC (f := 4) rfl ?_); refine aG (some 26) rfl rfl Try.func4 z0 rfl #[.string a0, .string a1, .string a2] rfl z10 ?_; (with_reducible refine (spec_MergeThree.calls k a0 a1 a2 fS fR eI _ A7.out).mono ?_); rintro e w16 ⟨rfl, hb⟩; refine ⟨_, rfl, ?_⟩; have aT := aM (ap z9 hb); clear HB; have HB := aT; clear aT; (try clear hb); (try clear hb2); (try clear hk); (try clear hi)) | ((with_reducible refine aC (f := 5) rfl ?_); refine aG (some 34) rfl rfl Try.func5 z0 rfl #[.string a0, .string a1, .string a2] rfl z10 ?_; (with_reducible refine (impl_MergeThree.calls k a0 a1 a2 fQ fP eH _ A8.out).mono ?_); rintro e w17 ⟨rfl, hb⟩; refine ⟨_, rfl, ?_⟩; have aT := aM (ap z9 hb); clear HB; have HB := aT; clear aT; (try clear hb); (try clear hb2); (try clear hk); (try clear hi)))
       all_goals (try (exfalso; rename_i h_; rw [c9b0] at h_; cases h_; done))
       go_ret
       exact ⟨y4, y5⟩
    ·rw [if_neg c9] at H
     have c9b0 : (fQ.toList == fS.toList) = false := qF c9
     have c9b1 : (fQ.toList != fS.toList) = true := nT c9
     first | (cases H.trans (congrArg some HRT.out); done) | skip
     all_goals
      obtain rfl := sI H
      go_enter Try.func3, Try.ntmps3
      go_wp2_with (first | ((with_reducible refine aC (f := 4) rfl ?_); refine aG (some 26) rfl rfl Try.func4 z0 rfl #[.string a0, .string a1, .string a2] rfl z10 ?_; (with_reducible refine (spec_MergeThree.calls k a0 a1 a2 fS fR eI _ A7.out).mono ?_); rintro e w18 ⟨rfl, hb⟩; refine ⟨_, rfl, ?_⟩; have aT := aM (ap z9 hb); clear HB; have HB := aT; clear aT; (try clear hb); (try clear hb2); (try clear hk); (try clear hi)) | ((with_reducible refine aC (f := 5) rfl ?_); refine aG (some 34) rfl rfl Try.func5 z0 rfl #[.string a0, .string a1, .string a2] rfl z10 ?_; (with_reducible refine (impl_MergeThree.calls k a0 a1 a2 fQ fP eH _ A8.out).mono ?_); rintro e w19 ⟨rfl, hb⟩; refine ⟨_, rfl, ?_⟩; have aT := aM (ap z9 hb); clear HB; have HB := aT; clear aT; (try clear hb); (try clear hb2); (try clear hk); (try clear hi)))
      all_goals (try (exfalso; rename_i h_; rw [c9b0] at h_; cases h_; done))
      go_ret
      exact ⟨y4, y5⟩

/-- THE ONE PURE STATEMENT of laws_FnExactMergeThree: yours. -/
def laws_FnExactMergeThree.Pure : Prop := ∀ (a0 : ByteArray) (a1 : ByteArray) (a2 : ByteArray), a0.size ≤ 140737488351232 → a1.size ≤ 140737488351232 → a2.size ≤ 140737488351232 → ∃ k, laws_FnExactMergeThree.f k a0 a1 a2 = some true
theorem laws_FnExactMergeThree.walk (P : laws_FnExactMergeThree.Pure) (a0 : ByteArray) (a1 : ByteArray) (a2 : ByteArray) (w : World) (w0 : a0.size ≤ 140737488351232) (w1 : a1.size ≤ 140737488351232) (w2 : a2.size ≤ 140737488351232) :
  Calls Try.prog 3 #[.string a0, .string a1, .string a2] w fun e w' => e = .returned (.bool true) ∧ Below w.heap.size w w' := by
 obtain ⟨k, h⟩ := P a0 a1 a2 w0 w1 w2
 refine (laws_FnExactMergeThree.calls k a0 a1 a2 true ⟨rfl⟩ w h).mono ?_
 rintro e w' ⟨rfl, hd⟩
 exact ⟨rfl, hd⟩

end Go.Proofs.Ytifllccpfiobfaa.AFnExactMergeThree
