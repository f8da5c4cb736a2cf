-- this session's own text: written by wip/tools/ownprint.py over the kit's print
import Derived.Test.YtifllccpfiobfaaAFnExactMergeThreex0
import Derived.Test.YtifllccpfiobfaaAFnExactMergeThreex5
import Derived.Test.YtifllccpfiobfaaAFnExactMergeThreex7
namespace Go.Proofs.Ytifllccpfiobfaa.AFnExactMergeThree
open Go.RowKit Go.Proofs.YtifllccpfiobfaaW.PrintWords Go.Proofs.YtifllccpfiobfaaW.PrintLast Go.Proofs.YtifllccpfiobfaaW.PrintMore
attribute [local go_sem] max2_int min2_int max_two min_two max_three min_three max_four min_four   -- for this text's walks alone
set_option linter.unusedVariables false
set_option linter.unusedSimpArgs false

/-! ### spec_ClashesOf: function 17 -/
mutual
def spec_ClashesOf.j0 : Nat → List (S44) → List (S44) → Bool → Option (Int × Bool)
 | 0, _, _, _ => none
 | k + 1, x0, x1, x19 => if x19 = true then (some (0, false)) else ((spec_l4Same.f k x0 x1).bind fun lI => (if lI.1 = true then (spec_ClashesOf.j1 k x0 x1 (!lI.2)) else (spec_ClashesOf.j1 k x0 x1 true)))
def spec_ClashesOf.j1 : Nat → List (S44) → List (S44) → Bool → Option (Int × Bool)
 | 0, _, _, _ => none
 | k + 1, x0, x1, x31 => if x31 = true then (some (0, false)) else ((spec_l4Within.f k x0 x1).bind fun lr => ((spec_l4Within.f k x1 x0).bind fun lq => ((spec_l4Bytes.f k x0).bind fun db => ((spec_l4Bytes.f k x1).bind fun eh => (spec_ClashesOf.l0 k (wrap64 (lr + lq)) db eh (db.length : Int) 0)))))
def spec_ClashesOf.l0 : Nat → Int → List Int → List Int → Int → Int → Option (Int × Bool)
 | 0, _, _, _, _, _ => none
 | k + 1, x8, x9, x10, x44, x45 => if x45 < x44 then (if 0 ≤ x45 then (if x45 < (x9.length : Int) then (if (rd x9 x45) = 0 then (spec_ClashesOf.l0 k x8 x9 x10 x44 (wrap64 (x45 + 1))) else (if x45 < (x10.length : Int) then (if (rd x10 x45) = 0 then (spec_ClashesOf.l0 k x8 x9 x10 x44 (wrap64 (x45 + 1))) else (spec_ClashesOf.l0 k (wrap64 (x8 + 1)) x9 x10 x44 (wrap64 (x45 + 1)))) else (none))) else (none)) else (none)) else (some (x8, true))
end
def spec_ClashesOf.f (k : Nat) (l0 : List (S44)) (l1 : List (S44)) : Option (Int × Bool) := (spec_GoodOp.f k l0).bind fun ks => (if ks = true then ((spec_GoodOp.f k l1).bind fun jG => (spec_ClashesOf.j0 k l0 l1 (!jG))) else (spec_ClashesOf.j0 k l0 l1 true))
theorem spec_ClashesOf.mono_l : ∀ k, (∀ y0 y1 y2, LeO (spec_ClashesOf.j0 k y0 y1 y2) (spec_ClashesOf.j0 (k + 1) y0 y1 y2)) ∧ (∀ y0 y1 y2, LeO (spec_ClashesOf.j1 k y0 y1 y2) (spec_ClashesOf.j1 (k + 1) y0 y1 y2)) ∧ (∀ y0 y1 y2 y3 y4, LeO (spec_ClashesOf.l0 k y0 y1 y2 y3 y4) (spec_ClashesOf.l0 (k + 1) y0 y1 y2 y3 y4))
 | 0 => ⟨fun _ _ _ r h => by simp [spec_ClashesOf.j0] at h, fun _ _ _ r h => by simp [spec_ClashesOf.j1] at h, fun _ _ _ _ _ r h => by simp [spec_ClashesOf.l0] at h⟩
 | k + 1 => by
  obtain ⟨ih0, ih1, ih2⟩ := spec_ClashesOf.mono_l k
  refine ⟨?_, ?_, ?_⟩
  ·intro y0 y1 y2
   unfold spec_ClashesOf.j0
   repeat' first
   | (with_reducible exact ih0 _ _ _)
   | (with_reducible exact ih1 _ _ _)
   | (with_reducible exact ih2 _ _ _ _ _)
   | (with_reducible exact spec_GoodOp.mono _ _)
   | (with_reducible exact spec_l4Bytes.mono _ _)
   | (with_reducible exact spec_l4Same.mono _ _ _)
   | (with_reducible exact spec_l4Within.mono _ _ _)
   | (with_reducible exact LeO.refl _)
   | (with_reducible exact LeO.none _)
   | (with_reducible refine LeO.ite ?_ ?_)
   | (with_reducible refine LeO.bind ?_ (fun _ => ?_))
   | exact ih0 _ _ _
   | exact ih1 _ _ _
   | exact ih2 _ _ _ _ _
   | exact spec_GoodOp.mono _ _
   | exact spec_l4Bytes.mono _ _
   | exact spec_l4Same.mono _ _ _
   | exact spec_l4Within.mono _ _ _
   | exact LeO.none _
   | refine LeO.ite ?_ ?_
   | refine LeO.bind ?_ (fun _ => ?_)
  ·intro y0 y1 y2
   unfold spec_ClashesOf.j1
   repeat' first
   | (with_reducible exact ih0 _ _ _)
   | (with_reducible exact ih1 _ _ _)
   | (with_reducible exact ih2 _ _ _ _ _)
   | (with_reducible exact spec_GoodOp.mono _ _)
   | (with_reducible exact spec_l4Bytes.mono _ _)
   | (with_reducible exact spec_l4Same.mono _ _ _)
   | (with_reducible exact spec_l4Within.mono _ _ _)
   | (with_reducible exact LeO.refl _)
   | (with_reducible exact LeO.none _)
   | (with_reducible refine LeO.ite ?_ ?_)
   | (with_reducible refine LeO.bind ?_ (fun _ => ?_))
   | exact ih0 _ _ _
   | exact ih1 _ _ _
   | exact ih2 _ _ _ _ _
   | exact spec_GoodOp.mono _ _
   | exact spec_l4Bytes.mono _ _
   | exact spec_l4Same.mono _ _ _
   | exact spec_l4Within.mono _ _ _
   | exact LeO.none _
   | refine LeO.ite ?_ ?_
   | refine LeO.bind ?_ (fun _ => ?_)
  ·intro y0 y1 y2 y3 y4
   unfold spec_ClashesOf.l0
   repeat' first
   | (with_reducible exact ih0 _ _ _)
   | (with_reducible exact ih1 _ _ _)
   | (with_reducible exact ih2 _ _ _ _ _)
   | (with_reducible exact spec_GoodOp.mono _ _)
   | (with_reducible exact spec_l4Bytes.mono _ _)
   | (with_reducible exact spec_l4Same.mono _ _ _)
   | (with_reducible exact spec_l4Within.mono _ _ _)
   | (with_reducible exact LeO.refl _)
   | (with_reducible exact LeO.none _)
   | (with_reducible refine LeO.ite ?_ ?_)
   | (with_reducible refine LeO.bind ?_ (fun _ => ?_))
   | exact ih0 _ _ _
   | exact ih1 _ _ _
   | exact ih2 _ _ _ _ _
   | exact spec_GoodOp.mono _ _
   | exact spec_l4Bytes.mono _ _
   | exact spec_l4Same.mono _ _ _
   | exact spec_l4Within.mono _ _ _
   | exact LeO.none _
   | refine LeO.ite ?_ ?_
   | refine LeO.bind ?_ (fun _ => ?_)
theorem spec_ClashesOf.mono : ∀ a0 a1 k, LeO (spec_ClashesOf.f k a0 a1) (spec_ClashesOf.f (k + 1) a0 a1) := by
 intro a0 a1 k
 obtain ⟨ih0, ih1, ih2⟩ := spec_ClashesOf.mono_l k
 unfold spec_ClashesOf.f
 repeat' first
   | (with_reducible exact ih0 _ _ _)
   | (with_reducible exact ih1 _ _ _)
   | (with_reducible exact ih2 _ _ _ _ _)
   | (with_reducible exact spec_GoodOp.mono _ _)
   | (with_reducible exact spec_l4Bytes.mono _ _)
   | (with_reducible exact spec_l4Same.mono _ _ _)
   | (with_reducible exact spec_l4Within.mono _ _ _)
   | (with_reducible exact LeO.refl _)
   | (with_reducible exact LeO.none _)
   | (with_reducible refine LeO.ite ?_ ?_)
   | (with_reducible refine LeO.bind ?_ (fun _ => ?_))
   | exact ih0 _ _ _
   | exact ih1 _ _ _
   | exact ih2 _ _ _ _ _
   | exact spec_GoodOp.mono _ _
   | exact spec_l4Bytes.mono _ _
   | exact spec_l4Same.mono _ _ _
   | exact spec_l4Within.mono _ _ _
   | exact LeO.none _
   | refine LeO.ite ?_ ?_
   | refine LeO.bind ?_ (fun _ => ?_)
set_option maxHeartbeats 8000000 in
set_option maxRecDepth 100000 in
theorem spec_ClashesOf.calls (k : Nat) (A0 : Option Addr) (c0 : Nat) (l0 : List (S44)) (A1 : Option Addr) (c1 : Nat) (l1 : List (S44)) (r1 : Int) (r2 : Bool) (w : World) (hr0 : Kd.C k44 w A0 l0.length l0) (hc0 : l0.length ≤ c0) (hr1 : Kd.C k44 w A1 l1.length l1) (hc1 : l1.length ≤ c1) (h : spec_ClashesOf.f k l0 l1 = some (r1, r2)) :
  Calls Try.prog 17 #[.slice A0 l0.length c0, .slice A1 l1.length c1] w fun e w' => e = .returned (.tuple #[.int .i64 r1, .bool r2]) ∧ Below w.heap.size w w' := by
 have bG := aM hr0
 have b8 := aM hc0
 clear hr0 hc0
 have cz := aM hr1
 have dg := aM hc1
 clear hr1 hc1
 have HB := aM (Below.refl w.heap.size w)
 have H : ((spec_GoodOp.f k l0).bind fun ks => (if ks = true then ((spec_GoodOp.f k l1).bind fun jG => (spec_ClashesOf.j0 k l0 l1 (!jG))) else (spec_ClashesOf.j0 k l0 l1 true))) = some (r1, r2) := h
 clear h
 have gT := aM H
 clear H
 go_enter Try.func17, Try.ntmps17
 go_upto_region 1 with (fail)
 go_cut [19] (fun v19 wc => ∃ (kq : Nat) (x19_2 : Bool), v19 = .bool x19_2 ∧ Aside0 (spec_ClashesOf.j0 kq l0 l1 x19_2 = some (r1, r2)) ∧ Aside0 (kq ≤ k) ∧ Aside0 (Below w.heap.size w wc))
 case first =>
  have H := gT.out
  clear gT
  replace H := oB H
  obtain ⟨ks, eE, H⟩ := H
  try dsimp only at H
  have A4 := aM eE
  clear eE
  by_cases c5 : ks = true
  ·subst c5
   rw [if_pos rfl] at H
   replace H := oB H
   obtain ⟨jG, ez, H⟩ := H
   try dsimp only at H
   have A6 := aM ez
   clear ez
   have H' := aM H
   clear H
   go_wp2_with (first | ((with_reducible refine aC (f := 40) rfl ?_); refine aG (some 13) rfl rfl Try.func40 z0 rfl #[.slice A0 l0.length c0] rfl z10 ?_; (with_reducible refine (spec_GoodOp.calls k _ _ l0 true _ ?side1 ?side2 A4.out).mono ?_); (case side1 => repeat (first | exact (au bG.out HB.out) | (with_reducible refine av ?_ _) | (with_reducible refine aw ?_ _) | (with_reducible refine ay ?_))); (case side2 => exact b8.out); rintro e w7 ⟨rfl, hb⟩; refine ⟨_, rfl, ?_⟩; have aT := aM (ap z9 hb); clear HB; have HB := aT; clear aT; (try clear hb); (try clear hb2); (try clear hk); (try clear hi)) | (go_at_call 40; (with_reducible refine (spec_GoodOp.calls k _ _ l1 jG _ ?side1 ?side2 A6.out).mono ?_); (case side1 => repeat (first | exact (au cz.out HB.out) | (with_reducible refine av ?_ _) | (with_reducible refine aw ?_ _) | (with_reducible refine ay ?_))); (case side2 => exact dg.out); rintro e w8 ⟨rfl, hb⟩; have aT := aM (ap z9 hb); clear HB; have HB := aT; clear aT; (try clear hb); (try clear hb2); (try clear hk); (try clear hi)))
   go_meet
   case rel => exact ⟨_, (!jG), z1, H', ⟨y1⟩, ⟨y5⟩⟩
  ·replace c5 := Bool.eq_false_iff.mpr c5
   subst c5
   rw [if_neg (show ¬ (false = true) by decide)] at H
   have H' := aM H
   clear H
   go_wp2_with (first | ((with_reducible refine aC (f := 40) rfl ?_); refine aG (some 13) rfl rfl Try.func40 z0 rfl #[.slice A0 l0.length c0] rfl z10 ?_; (with_reducible refine (spec_GoodOp.calls k _ _ l0 false _ ?side1 ?side2 A4.out).mono ?_); (case side1 => repeat (first | exact (au bG.out HB.out) | (with_reducible refine av ?_ _) | (with_reducible refine aw ?_ _) | (with_reducible refine ay ?_))); (case side2 => exact b8.out); rintro e w9 ⟨rfl, hb⟩; refine ⟨_, rfl, ?_⟩; have aT := aM (ap z9 hb); clear HB; have HB := aT; clear aT; (try clear hb); (try clear hb2); (try clear hk); (try clear hi)))
   go_meet
   case rel => exact ⟨_, (true), z1, H', ⟨y1⟩, ⟨y5⟩⟩
 case rest =>
  clear gT
  try clear c1
  try clear p2
  try clear c4
  try clear c5
  obtain ⟨kq, x19_2, rfl, HA, eB, HB⟩ := hcut
  cases kq with
  | zero => exact absurd HA.out (by simp [spec_ClashesOf.j0])
  | succ kj2 =>
   have H := HA.out
   clear HA
   simp only [spec_ClashesOf.j0] at H
   by_cases bz : x19_2 = true
   ·subst bz
    rw [if_pos rfl] at H
    simp only [Option.some.injEq, Prod.mk.injEq] at H
    obtain ⟨rfl, rfl⟩ := H
    go_wp2
    go_ret2
    exact ⟨y4, y5⟩
   ·replace bz := Bool.eq_false_iff.mpr bz
    subst bz
    rw [if_neg (show ¬ (false = true) by decide)] at H
    replace H := oB H
    obtain ⟨⟨mI, mH⟩, da, H⟩ := H
    try dsimp only at H
    have eG := aM da
    clear da
    have mi := aM H
    clear H
    go_upto_region 4 with (first | ((with_reducible refine aC (f := 42) rfl ?_); refine aG (some 23) rfl rfl Try.func42 z0 rfl #[.slice A0 l0.length c0, .slice A1 l1.length c1] rfl z10 ?_; (with_reducible refine (spec_l4Same.calls kj2 _ _ l0 _ _ l1 mI mH _ ?side1 ?side2 ?side3 ?side4 eG.out).mono ?_); (case side1 => repeat (first | exact (au bG.out HB.out) | (with_reducible refine av ?_ _) | (with_reducible refine aw ?_ _) | (with_reducible refine ay ?_))); (case side2 => exact b8.out); (case side3 => repeat (first | exact (au cz.out HB.out) | (with_reducible refine av ?_ _) | (with_reducible refine aw ?_ _) | (with_reducible refine ay ?_))); (case side4 => exact dg.out); rintro e w13 ⟨rfl, hb⟩; refine ⟨_, rfl, ?_⟩; have aT := aM (ap z9 hb); clear HB; have HB := aT; clear aT; (try clear hb); (try clear hb2); (try clear hk); (try clear hi)))
    (try simp only [Act.put, sA, sB, sC])
    go_cut [31] (fun v31 wc => ∃ (kq : Nat) (x31_11 : Bool), v31 = .bool x31_11 ∧ Aside0 (spec_ClashesOf.j1 kq l0 l1 x31_11 = some (r1, r2)) ∧ Aside0 (kq ≤ kj2) ∧ Aside0 (Below w.heap.size w wc))
    case first =>
     have H := mi.out
     clear mi
     by_cases ce : mI = true
     ·subst ce
      rw [if_pos rfl] at H
      have H' := aM H
      clear H
      go_wp2
      go_meet
      case rel => exact ⟨_, (!mH), z1, H', ⟨by have := eB.out; first | omega | exact Nat.le_refl _⟩, ⟨y5⟩⟩
     ·replace ce := Bool.eq_false_iff.mpr ce
      subst ce
      rw [if_neg (show ¬ (false = true) by decide)] at H
      have H' := aM H
      clear H
      go_wp2
      go_meet
      case rel => exact ⟨_, (true), z1, H', ⟨by have := eB.out; first | omega | exact Nat.le_refl _⟩, ⟨y5⟩⟩
    case rest =>
     clear mi
     try clear c1
     try clear p2
     try clear c4
     try clear c5
     try clear bz
     try clear ce
     try clear p2
     obtain ⟨kq, x31_11, rfl, HA, jU, HB⟩ := hcut
     cases kq with
     | zero => exact absurd HA.out (by simp [spec_ClashesOf.j1])
     | succ kj11 =>
      have H := HA.out
      clear HA
      simp only [spec_ClashesOf.j1] at H
      by_cases ck : x31_11 = true
      ·subst ck
       rw [if_pos rfl] at H
       simp only [Option.some.injEq, Prod.mk.injEq] at H
       obtain ⟨rfl, rfl⟩ := H
       go_wp2
       go_ret2
       exact ⟨y4, y5⟩
      ·replace ck := Bool.eq_false_iff.mpr ck
       subst ck
       rw [if_neg (show ¬ (false = true) by decide)] at H
       replace H := oB H
       obtain ⟨lr, fu, H⟩ := H
       try dsimp only at H
       have j9 := aM fu
       clear fu
       replace H := oB H
       obtain ⟨lq, k8, H⟩ := H
       try dsimp only at H
       have nG := aM k8
       clear k8
       replace H := oB H
       obtain ⟨db, nk, H⟩ := H
       try dsimp only at H
       have A18 := aM nk
       clear nk
       replace H := oB H
       obtain ⟨eh, nj, H⟩ := H
       try dsimp only at H
       have A19 := aM nj
       clear nj
       have H' := aM H
       clear H
       go_wp2_with (first | ((with_reducible refine aC (f := 43) rfl ?_); refine aG (some 34) rfl rfl Try.func43 z0 rfl #[.slice A0 l0.length c0, .slice A1 l1.length c1] rfl z10 ?_; (with_reducible refine (spec_l4Within.calls kj11 _ _ l0 _ _ l1 lr _ ?side1 ?side2 ?side3 ?side4 j9.out).mono ?_); (case side1 => repeat (first | exact (au bG.out HB.out) | (with_reducible refine av ?_ _) | (with_reducible refine aw ?_ _) | (with_reducible refine ay ?_))); (case side2 => exact b8.out); (case side3 => repeat (first | exact (au cz.out HB.out) | (with_reducible refine av ?_ _) | (with_reducible refine aw ?_ _) | (with_reducible refine ay ?_))); (case side4 => exact dg.out); rintro e w20 ⟨rfl, hb⟩; refine ⟨_, rfl, ?_⟩; have aT := aM (ap z9 hb); clear HB; have HB := aT; clear aT; (try clear hb); (try clear hb2); (try clear hk); (try clear hi)) | ((with_reducible refine aC (f := 43) rfl ?_); refine aG (some 37) rfl rfl Try.func43 z0 rfl #[.slice A1 l1.length c1, .slice A0 l0.length c0] rfl z10 ?_; (with_reducible refine (spec_l4Within.calls kj11 _ _ l1 _ _ l0 lq _ ?side1 ?side2 ?side3 ?side4 nG.out).mono ?_); (case side1 => repeat (first | exact (au cz.out HB.out) | (with_reducible refine av ?_ _) | (with_reducible refine aw ?_ _) | (with_reducible refine ay ?_))); (case side2 => exact dg.out); (case side3 => repeat (first | exact (au bG.out HB.out) | (with_reducible refine av ?_ _) | (with_reducible refine aw ?_ _) | (with_reducible refine ay ?_))); (case side4 => exact b8.out); rintro e w21 ⟨rfl, hb⟩; refine ⟨_, rfl, ?_⟩; have aT := aM (ap z9 hb); clear HB; have HB := aT; clear aT; (try clear hb); (try clear hb2); (try clear hk); (try clear hi)) | ((with_reducible refine aC (f := 44) rfl ?_); refine aG (some 40) rfl rfl Try.func44 z0 rfl #[.slice A0 l0.length c0] rfl z10 ?_; (with_reducible refine (spec_l4Bytes.calls kj11 _ _ l0 db _ ?side1 ?side2 A18.out).mono ?_); (case side1 => repeat (first | exact (au bG.out HB.out) | (with_reducible refine av ?_ _) | (with_reducible refine aw ?_ _) | (with_reducible refine ay ?_))); (case side2 => exact b8.out); rintro e w22 ⟨v259, rfl, ho0, hb⟩; refine ⟨_, rfl, ?_⟩; have aT := aM (aH ho0 (aq z9)); have aU := aM (ap z9 hb); clear HB; have fI := aT; have HB := aU; clear aT aU; (try clear hb); (try clear hb2); (try clear hk); (try clear hi); (try clear ho0)) | ((with_reducible refine aC (f := 44) rfl ?_); refine aG (some 42) rfl rfl Try.func44 z0 rfl #[.slice A1 l1.length c1] rfl z10 ?_; (with_reducible refine (spec_l4Bytes.calls kj11 _ _ l1 eh _ ?side1 ?side2 A19.out).mono ?_); (case side1 => repeat (first | exact (au cz.out HB.out) | (with_reducible refine av ?_ _) | (with_reducible refine aw ?_ _) | (with_reducible refine ay ?_))); (case side2 => exact dg.out); rintro e w23 ⟨v262, rfl, ho0, hb⟩; refine ⟨_, rfl, ?_⟩; have aT := aM (Kd.R_elder' (by (with_reducible repeat (first | apply ac | apply ab | apply aa)); exact fI.out) (ai ho0) hb); have aU := aM (aH (ah ho0 (aj (by (with_reducible repeat (first | apply ac | apply ab | apply aa)); exact fI.out))) (aq z9)); have aX := aM (ap z9 hb); clear fI; clear HB; have fI := aT; have HO263 := aU; have HB := aX; clear aT aU aX; (try clear hb); (try clear hb2); (try clear hk); (try clear hi); (try clear ho0); obtain ⟨k4, kF, eo24⟩ := Kd.R_slice fI.out; subst eo24))
       go_loopg [8, 45] kj11 (fun kq v8 v45 w' => ∃ (x8_3 : Int) (x45_3 : Int), v8 = .int .i64 x8_3 ∧ v45 = .int .i64 x45_3 ∧ Aside0 (spec_ClashesOf.l0 kq x8_3 db eh (db.length : Int) x45_3 = some (r1, r2)) ∧ Aside0 (kq ≤ kj11) ∧ Aside0 (Kd.R (Kd.int .u8) 5 w' w.heap.size (fun k_ => some k_ ≠ (v262 : Value).ownBlock) (.slice k4 db.length kF) db) ∧ Aside0 (Kd.R (Kd.int .u8) 5 w' w.heap.size (fun k_ => some k_ ≠ ((.slice k4 db.length kF) : Value).ownBlock) v262 eh) ∧ Aside0 (Below w.heap.size w w'))
       case atStart => exact ⟨(wrap64 (lr + lq)), (0), z1, z1, H', ⟨Nat.le_refl _⟩, ⟨by (with_reducible repeat (first | apply ac | apply ab | apply aa)); exact af fI.out (fun _ hk => hk.2)⟩, ⟨by (with_reducible repeat (first | apply ac | apply ab | apply aa)); exact af HO263.out (fun _ hk => hk.2)⟩, ⟨y5⟩⟩
       case round =>
        clear H'
        try clear c1
        try clear p2
        try clear c4
        try clear c5
        try clear p6
        try clear bz
        try clear ce
        try clear ck
        try clear cB
        try clear p2
        obtain ⟨x8_3, x45_3, rfl, rfl, HA, HK3, ba, fk, HB⟩ := hrel
        cases gk with
        | zero => exact absurd HA.out (by simp [spec_ClashesOf.l0])
        | succ k3 =>
         have H := HA.out
         clear HA
         simp only [spec_ClashesOf.l0] at H
         by_cases eA : x45_3 < (db.length : Int)
         ·rw [if_pos eA] at H
          have c25b0 : decide (x45_3 < (db.length : Int)) = true := dT eA
          clear eA
          by_cases eD : 0 ≤ x45_3
          ·rw [if_pos eD] at H
           have c26b0 : decide (0 ≤ x45_3) = true := dT eD
           clear eD
           by_cases fa : x45_3 < (db.length : Int)
           ·rw [if_pos fa] at H
            have c27b0 : decide (x45_3 < (db.length : Int)) = true := dT fa
            clear fa
            by_cases d9 : (rd db x45_3) = 0
            ·rw [if_pos d9] at H
             have c28b0 : ((rd db x45_3) == 0) = true := qT d9
             have c28b1 : ((rd db x45_3) != 0) = false := nF d9
             clear d9
             have H' := aM H
             clear H
             have p264 : 0 ≤ (x45_3 : Int) := oD z2
             have q264 : x45_3 < (db.length : Int) := oD z2
             obtain ⟨ad264, e264, hx264_0⟩ := Kd.at_int (ag ba.out).2.2 x45_3 p264 q264
             cases e264
             replace p264 := eq_true p264
             replace q264 := eq_true q264
             go_wp2
             go_roundg k3
             case measure => have := eB.out; have := jU.out; have := HK3.out; omega
             case rel => exact ⟨(x8_3), (wrap64 (x45_3 + 1)), z1, z1, H', ⟨by have := eB.out; have := jU.out; have := HK3.out; omega⟩, ⟨y9⟩, ⟨by (with_reducible repeat (first | apply ac | apply ab | apply aa)); exact fk.out⟩, ⟨y5⟩⟩
            ·rw [if_neg d9] at H
             have c28b0 : ((rd db x45_3) == 0) = false := qF d9
             have c28b1 : ((rd db x45_3) != 0) = true := nT d9
             by_cases de : x45_3 < (eh.length : Int)
             ·rw [if_pos de] at H
              have c29b0 : decide (x45_3 < (eh.length : Int)) = true := dT de
              clear de
              by_cases j7 : (rd eh x45_3) = 0
              ·rw [if_pos j7] at H
               have c30b0 : ((rd eh x45_3) == 0) = true := qT j7
               have c30b1 : ((rd eh x45_3) != 0) = false := nF j7
               clear j7
               have H' := aM H
               clear H
               have p264 : 0 ≤ (x45_3 : Int) := oD z2
               have q264 : x45_3 < (db.length : Int) := oD z2
               obtain ⟨ad264, e264, hx264_0⟩ := Kd.at_int (ag ba.out).2.2 x45_3 p264 q264
               cases e264
               replace p264 := eq_true p264
               replace q264 := eq_true q264
               obtain ⟨gU, gM, eo31⟩ := Kd.R_slice fk.out
               subst eo31
               have p265 : 0 ≤ (x45_3 : Int) := oD z2
               have q265 : x45_3 < (eh.length : Int) := oD z2
               obtain ⟨ad265, e265, hx265_0⟩ := Kd.at_int (ag fk.out).2.2 x45_3 p265 q265
               cases e265
               replace p265 := eq_true p265
               replace q265 := eq_true q265
               go_wp2
               go_roundg k3
               case measure => have := eB.out; have := jU.out; have := HK3.out; omega
               case rel => exact ⟨(x8_3), (wrap64 (x45_3 + 1)), z1, z1, H', ⟨by have := eB.out; have := jU.out; have := HK3.out; omega⟩, ⟨y9⟩, ⟨by (with_reducible repeat (first | apply ac | apply ab | apply aa)); exact fk.out⟩, ⟨y5⟩⟩
              ·rw [if_neg j7] at H
               have c30b0 : ((rd eh x45_3) == 0) = false := qF j7
               have c30b1 : ((rd eh x45_3) != 0) = true := nT j7
               have H' := aM H
               clear H
               have p264 : 0 ≤ (x45_3 : Int) := oD z2
               have q264 : x45_3 < (db.length : Int) := oD z2
               obtain ⟨ad264, e264, hx264_0⟩ := Kd.at_int (ag ba.out).2.2 x45_3 p264 q264
               cases e264
               replace p264 := eq_true p264
               replace q264 := eq_true q264
               obtain ⟨jV, jO, eo32⟩ := Kd.R_slice fk.out
               subst eo32
               have p265 : 0 ≤ (x45_3 : Int) := oD z2
               have q265 : x45_3 < (eh.length : Int) := oD z2
               obtain ⟨ad265, e265, hx265_0⟩ := Kd.at_int (ag fk.out).2.2 x45_3 p265 q265
               cases e265
               replace p265 := eq_true p265
               replace q265 := eq_true q265
               go_wp2
               go_roundg k3
               case measure => have := eB.out; have := jU.out; have := HK3.out; omega
               case rel => exact ⟨(wrap64 (x8_3 + 1)), (wrap64 (x45_3 + 1)), z1, z1, H', ⟨by have := eB.out; have := jU.out; have := HK3.out; omega⟩, ⟨y9⟩, ⟨by (with_reducible repeat (first | apply ac | apply ab | apply aa)); exact fk.out⟩, ⟨y5⟩⟩
             ·rw [if_neg de] at H
              exact absurd H (by simp)
           ·rw [if_neg fa] at H
            exact absurd H (by simp)
          ·rw [if_neg eD] at H
           exact absurd H (by simp)
         ·rw [if_neg eA] at H
          have c25b0 : decide (x45_3 < (db.length : Int)) = false := dF eA
          clear eA
          simp only [Option.some.injEq, Prod.mk.injEq] at H
          obtain ⟨rfl, rfl⟩ := H
          go_wp2
          go_ret2
          exact ⟨y4, y5⟩

/-! ### spec_l3Apply: function 18 -/
mutual
def spec_l3Apply.l0 : Nat → ByteArray → ByteArray → List (S44) → Int → Int → Option (ByteArray × Bool)
 | 0, _, _, _, _, _ => none
 | k + 1, x1, x6, x10, x11, x12 => if x12 < x11 then (if 0 ≤ x12 then (if x12 < (x10.length : Int) then (if (wrap64 (((rd_T44 x10 x12).f0) + (((rd_T44 x10 x12).f2).size : Int))) > (x1.size : Int) then (spec_l3Apply.j1 k x1 x6 (wrap64 (((rd_T44 x10 x12).f0) + (((rd_T44 x10 x12).f2).size : Int))) x10 x11 x12 true ((rd_T44 x10 x12).f0) ((rd_T44 x10 x12).f1) ((rd_T44 x10 x12).f2)) else (if ((rd_T44 x10 x12).f2).toList = ([] : List UInt8) then (spec_l3Apply.j1 k x1 x6 (wrap64 (((rd_T44 x10 x12).f0) + (((rd_T44 x10 x12).f2).size : Int))) x10 x11 x12 false ((rd_T44 x10 x12).f0) ((rd_T44 x10 x12).f1) ((rd_T44 x10 x12).f2)) else (if 0 ≤ (wrap64 (((rd_T44 x10 x12).f0) + (((rd_T44 x10 x12).f2).size : Int))) then (if (wrap64 (((rd_T44 x10 x12).f0) + (((rd_T44 x10 x12).f2).size : Int))) ≤ (x1.size : Int) then (spec_l3Apply.j1 k x1 x6 (wrap64 (((rd_T44 x10 x12).f0) + (((rd_T44 x10 x12).f2).size : Int))) x10 x11 x12 ((x1.extract 0 ((wrap64 (((rd_T44 x10 x12).f0) + (((rd_T44 x10 x12).f2).size : Int))) : Int).toNat).toList != ((rd_T44 x10 x12).f2).toList) ((rd_T44 x10 x12).f0) ((rd_T44 x10 x12).f1) ((rd_T44 x10 x12).f2)) else (none)) else (none)))) else (none)) else (none)) else (some (x6, (x1.toList == ([] : List UInt8))))
def spec_l3Apply.j1 : Nat → ByteArray → ByteArray → Int → List (S44) → Int → Int → Bool → Int → ByteArray → ByteArray → Option (ByteArray × Bool)
 | 0, _, _, _, _, _, _, _, _, _, _ => none
 | k + 1, x1, x6, x9, x10, x11, x12, x38, x268000, x268001, x268002 => if x38 = true then (some ((⟨#[]⟩ : ByteArray), false)) else (if x268000 > 0 then (if 0 ≤ x9 then (if x9 ≤ (x1.size : Int) then (if x6.size + (x1.extract 0 (x9 : Int).toNat).size ≤ 9223372036854775807 then (if (x6 ++ (x1.extract 0 (x9 : Int).toNat)).size + x268001.size ≤ 9223372036854775807 then (spec_l3Apply.l0 k (x1.extract (x9 : Int).toNat x1.size) ((x6 ++ (x1.extract 0 (x9 : Int).toNat)) ++ x268001) x10 x11 (wrap64 (x12 + 1))) else (none)) else (none)) else (none)) else (none)) else (if x6.size + x268001.size ≤ 9223372036854775807 then (if 0 ≤ x9 then (if x9 ≤ (x1.size : Int) then (spec_l3Apply.l0 k (x1.extract (x9 : Int).toNat x1.size) (x6 ++ x268001) x10 x11 (wrap64 (x12 + 1))) else (none)) else (none)) else (none)))
end
def spec_l3Apply.f (k : Nat) (l0 : List (S44)) (a1 : ByteArray) : Option (ByteArray × Bool) := spec_l3Apply.l0 k a1 (⟨#[]⟩ : ByteArray) l0 (l0.length : Int) 0
theorem spec_l3Apply.mono_l : ∀ k, (∀ y0 y1 y2 y3 y4, LeO (spec_l3Apply.l0 k y0 y1 y2 y3 y4) (spec_l3Apply.l0 (k + 1) y0 y1 y2 y3 y4)) ∧ (∀ y0 y1 y2 y3 y4 y5 y6 y7 y8 y9, LeO (spec_l3Apply.j1 k y0 y1 y2 y3 y4 y5 y6 y7 y8 y9) (spec_l3Apply.j1 (k + 1) y0 y1 y2 y3 y4 y5 y6 y7 y8 y9))
 | 0 => ⟨fun _ _ _ _ _ r h => by simp [spec_l3Apply.l0] at h, fun _ _ _ _ _ _ _ _ _ _ r h => by simp [spec_l3Apply.j1] at h⟩
 | k + 1 => by
  obtain ⟨ih0, ih1⟩ := spec_l3Apply.mono_l k
  refine ⟨?_, ?_⟩
  ·intro y0 y1 y2 y3 y4
   unfold spec_l3Apply.l0
   repeat' first
   | (with_reducible exact ih0 _ _ _ _ _)
   | (with_reducible exact ih1 _ _ _ _ _ _ _ _ _ _)
   | (with_reducible exact LeO.refl _)
   | (with_reducible exact LeO.none _)
   | (with_reducible refine LeO.ite ?_ ?_)
   | (with_reducible refine LeO.bind ?_ (fun _ => ?_))
   | exact ih0 _ _ _ _ _
   | exact ih1 _ _ _ _ _ _ _ _ _ _
   | exact LeO.none _
   | refine LeO.ite ?_ ?_
   | refine LeO.bind ?_ (fun _ => ?_)
  ·intro y0 y1 y2 y3 y4 y5 y6 y7 y8 y9
   unfold spec_l3Apply.j1
   repeat' first
   | (with_reducible exact ih0 _ _ _ _ _)
   | (with_reducible exact ih1 _ _ _ _ _ _ _ _ _ _)
   | (with_reducible exact LeO.refl _)
   | (with_reducible exact LeO.none _)
   | (with_reducible refine LeO.ite ?_ ?_)
   | (with_reducible refine LeO.bind ?_ (fun _ => ?_))
   | exact ih0 _ _ _ _ _
   | exact ih1 _ _ _ _ _ _ _ _ _ _
   | exact LeO.none _
   | refine LeO.ite ?_ ?_
   | refine LeO.bind ?_ (fun _ => ?_)
theorem spec_l3Apply.mono : ∀ a0 a1 k, LeO (spec_l3Apply.f k a0 a1) (spec_l3Apply.f (k + 1) a0 a1) := by
 intro a0 a1 k
 obtain ⟨ih0, ih1⟩ := spec_l3Apply.mono_l k
 unfold spec_l3Apply.f
 repeat' first
   | (with_reducible exact ih0 _ _ _ _ _)
   | (with_reducible exact ih1 _ _ _ _ _ _ _ _ _ _)
   | (with_reducible exact LeO.refl _)
   | (with_reducible exact LeO.none _)
   | (with_reducible refine LeO.ite ?_ ?_)
   | (with_reducible refine LeO.bind ?_ (fun _ => ?_))
   | exact ih0 _ _ _ _ _
   | exact ih1 _ _ _ _ _ _ _ _ _ _
   | exact LeO.none _
   | refine LeO.ite ?_ ?_
   | refine LeO.bind ?_ (fun _ => ?_)
set_option maxHeartbeats 8000000 in
set_option maxRecDepth 100000 in
theorem spec_l3Apply.calls (k : Nat) (A0 : Option Addr) (c0 : Nat) (l0 : List (S44)) (a1 : ByteArray) (r1 : ByteArray) (r2 : Bool) (w : World) (hr0 : Kd.C k44 w A0 l0.length l0) (hc0 : l0.length ≤ c0) (h : spec_l3Apply.f k l0 a1 = some (r1, r2)) :
  Calls Try.prog 18 #[.slice A0 l0.length c0, .string a1] w fun e w' => e = .returned (.tuple #[.string r1, .bool r2]) ∧ Below w.heap.size w w' := by
 have hu44 := Try.underlying44
 have bG := aM hr0
 have b8 := aM hc0
 clear hr0 hc0
 have HB := aM (Below.refl w.heap.size w)
 have H : (spec_l3Apply.l0 k a1 (⟨#[]⟩ : ByteArray) l0 (l0.length : Int) 0) = some (r1, r2) := h
 clear h
 have H' := aM H
 clear H
 go_enter Try.func18, Try.ntmps18
 go_wp2
 repeat (go_quiet (fail); try go_wp2)
 go_loopg [1, 6, 12] k (fun kq v1 v6 v12 w' => ∃ (x1_1 : ByteArray) (x6_1 : ByteArray) (x12_1 : Int), v1 = .string x1_1 ∧ v6 = .string x6_1 ∧ v12 = .int .i64 x12_1 ∧ Aside0 (spec_l3Apply.l0 kq x1_1 x6_1 l0 (l0.length : Int) x12_1 = some (r1, r2)) ∧ Aside0 (kq ≤ k) ∧ Aside0 (Below w.heap.size w w'))
 case atStart => exact ⟨(a1), ((⟨#[]⟩ : ByteArray)), (0), z1, z1, z1, H', ⟨Nat.le_refl _⟩, ⟨y5⟩⟩
 case round =>
  clear H'
  try clear c1
  try clear p2
  obtain ⟨x1_1, x6_1, x12_1, rfl, rfl, rfl, HA, HK1, HB⟩ := hrel
  cases gk with
  | zero => exact absurd HA.out (by simp [spec_l3Apply.l0])
  | succ k1 =>
   have H := HA.out
   clear HA
   simp only [spec_l3Apply.l0] at H
   by_cases c3 : x12_1 < (l0.length : Int)
   ·rw [if_pos c3] at H
    have c3b0 : decide (x12_1 < (l0.length : Int)) = true := dT c3
    clear c3
    by_cases c4 : 0 ≤ x12_1
    ·rw [if_pos c4] at H
     have c4b0 : decide (0 ≤ x12_1) = true := dT c4
     clear c4
     by_cases c5 : x12_1 < (l0.length : Int)
     ·rw [if_pos c5] at H
      have c5b0 : decide (x12_1 < (l0.length : Int)) = true := dT c5
      clear c5
      have kY := aM H
      clear H
      have p266 : 0 ≤ (x12_1 : Int) := oD z2
      have q266 : x12_1 < (l0.length : Int) := oD z2
      obtain ⟨ad266, e266, hx266_0, hx266_1, hx266_2⟩ := at_T44 bG.out x12_1 p266 q266
      cases e266
      replace hx266_0 := (HB.out.cell (World.block_lt_of_cell? w _ hx266_0)).trans hx266_0
      replace hx266_1 := (HB.out.cell (World.block_lt_of_cell? w _ hx266_1)).trans hx266_1
      replace hx266_2 := (HB.out.cell (World.block_lt_of_cell? w _ hx266_2)).trans hx266_2
      replace p266 := eq_true p266
      replace q266 := eq_true q266
      go_upto_region 6 with (first | ((with_reducible refine aD (N := 8) rfl ?_); refine aE ?hg (N := 8) ?hd (cs := #[.int .i64 0, .string (⟨#[]⟩ : ByteArray), .string (⟨#[]⟩ : ByteArray)]) (t := 44) ?hr ?_; (case hd => rfl); (case hg => rfl); (case hr => first | (go_simp; done) | (go_simp; rfl)); intro bP hg w7 hbox hb; have aT := aM (ap z9 hb); have aU := aM (hbox); have aX := aM ((by rw [hg]; exact (aq z9) : w.heap.size ≤ bP)); have a5 := aM ((by rw [hg]; exact (aq z9) : w.heap.size ≤ bP)); clear HB; have HB := aT; have bm := aU; have lP := aX; have lR := a5; clear aT aU aX a5; clear hb hbox hg; have dq : w7.cell? ⟨bP, 0, none⟩ = some (.int .i64 0) := (bC bm.out 0).trans rfl; have dp : w7.cell? ⟨bP, 1, none⟩ = some (.string (⟨#[]⟩ : ByteArray)) := (bC bm.out 1).trans rfl; have dn : w7.cell? ⟨bP, 2, none⟩ = some (.string (⟨#[]⟩ : ByteArray)) := (bC bm.out 2).trans rfl; have dm := bF bm.out 0; have dl := bF bm.out 1; have dk := bF bm.out 2))
      repeat (go_quiet (first | ((with_reducible refine aD (N := 8) rfl ?_); refine aE ?hg (N := 8) ?hd (cs := #[.int .i64 0, .string (⟨#[]⟩ : ByteArray), .string (⟨#[]⟩ : ByteArray)]) (t := 44) ?hr ?_; (case hd => rfl); (case hg => rfl); (case hr => first | (go_simp; done) | (go_simp; rfl)); intro bP hg w7 hbox hb; have aT := aM (ap z9 hb); have aU := aM (hbox); have aX := aM ((by rw [hg]; exact (aq z9) : w.heap.size ≤ bP)); have a5 := aM ((by rw [hg]; exact (aq z9) : w.heap.size ≤ bP)); clear HB; have HB := aT; have bm := aU; have lP := aX; have lR := a5; clear aT aU aX a5; clear hb hbox hg; have dq : w7.cell? ⟨bP, 0, none⟩ = some (.int .i64 0) := (bC bm.out 0).trans rfl; have dp : w7.cell? ⟨bP, 1, none⟩ = some (.string (⟨#[]⟩ : ByteArray)) := (bC bm.out 1).trans rfl; have dn : w7.cell? ⟨bP, 2, none⟩ = some (.string (⟨#[]⟩ : ByteArray)) := (bC bm.out 2).trans rfl; have dm := bF bm.out 0; have dl := bF bm.out 1; have dk := bF bm.out 2)); go_upto_region 6 with (first | ((with_reducible refine aD (N := 8) rfl ?_); refine aE ?hg (N := 8) ?hd (cs := #[.int .i64 0, .string (⟨#[]⟩ : ByteArray), .string (⟨#[]⟩ : ByteArray)]) (t := 44) ?hr ?_; (case hd => rfl); (case hg => rfl); (case hr => first | (go_simp; done) | (go_simp; rfl)); intro bP hg w7 hbox hb; have aT := aM (ap z9 hb); have aU := aM (hbox); have aX := aM ((by rw [hg]; exact (aq z9) : w.heap.size ≤ bP)); have a5 := aM ((by rw [hg]; exact (aq z9) : w.heap.size ≤ bP)); clear HB; have HB := aT; have bm := aU; have lP := aX; have lR := a5; clear aT aU aX a5; clear hb hbox hg; have dq : w7.cell? ⟨bP, 0, none⟩ = some (.int .i64 0) := (bC bm.out 0).trans rfl; have dp : w7.cell? ⟨bP, 1, none⟩ = some (.string (⟨#[]⟩ : ByteArray)) := (bC bm.out 1).trans rfl; have dn : w7.cell? ⟨bP, 2, none⟩ = some (.string (⟨#[]⟩ : ByteArray)) := (bC bm.out 2).trans rfl; have dm := bF bm.out 0; have dl := bF bm.out 1; have dk := bF bm.out 2)))
      (try simp only [Act.put, sA, sB, sC])
      go_cut [38] (fun v38 wc => ∃ (kq : Nat) (x38_5 : Bool), v38 = .bool x38_5 ∧ Aside0 (spec_l3Apply.j1 kq x1_1 x6_1 (wrap64 (((rd_T44 l0 x12_1).f0) + (((rd_T44 l0 x12_1).f2).size : Int))) l0 (l0.length : Int) x12_1 x38_5 ((rd_T44 l0 x12_1).f0) ((rd_T44 l0 x12_1).f1) ((rd_T44 l0 x12_1).f2) = some (r1, r2)) ∧ Aside0 (kq ≤ k1) ∧ Aside0 (wc.heap[bP]? = some (.cells #[.int .i64 ((rd_T44 l0 x12_1).f0), .string ((rd_T44 l0 x12_1).f1), .string ((rd_T44 l0 x12_1).f2)] 44 (0, 0))) ∧ Aside0 (Below w.heap.size w wc))
      case first =>
       have H := kY.out
       clear kY
       by_cases c9 : (wrap64 (((rd_T44 l0 x12_1).f0) + (((rd_T44 l0 x12_1).f2).size : Int))) > (x1_1.size : Int)
       ·rw [if_pos c9] at H
        have c9b0 : decide ((x1_1.size : Int) < (wrap64 (((rd_T44 l0 x12_1).f0) + (((rd_T44 l0 x12_1).f2).size : Int)))) = true := dT c9
        clear c9
        (first | rw [c9b0] | (simp only [i64_w, i32_w]; rw [c9b0]) | skip)
        have H' := aM H
        clear H
        go_wp2
        repeat (go_quiet (fail); try go_wp2)
        go_meet
        case rel => exact ⟨_, (true), z1, H', ⟨by have := HK1.out; first | omega | exact Nat.le_refl _⟩, ⟨y28⟩, ⟨y20⟩⟩
       ·rw [if_neg c9] at H
        have c9b0 : decide ((x1_1.size : Int) < (wrap64 (((rd_T44 l0 x12_1).f0) + (((rd_T44 l0 x12_1).f2).size : Int)))) = false := dF c9
        clear c9
        (first | rw [c9b0] | (simp only [i64_w, i32_w]; rw [c9b0]) | skip)
        by_cases bz : ((rd_T44 l0 x12_1).f2).toList = ([] : List UInt8)
        ·rw [if_pos bz] at H
         have c10b0 : (((rd_T44 l0 x12_1).f2).toList == ([] : List UInt8)) = true := qT bz
         have c10b1 : (((rd_T44 l0 x12_1).f2).toList != ([] : List UInt8)) = false := nF bz
         have c10b8 : (!((rd_T44 l0 x12_1).f2).toList.isEmpty) = false := by have h_ := c10b1; revert h_; cases ((rd_T44 l0 x12_1).f2).toList <;> simp
         clear bz
         have H' := aM H
         clear H
         have gL : w7.cell? ⟨bP, 0, none⟩ = some (.int .i64 0) := (bC bm.out 0).trans rfl
         have gK : w7.cell? ⟨bP, 1, none⟩ = some (.string (⟨#[]⟩ : ByteArray)) := (bC bm.out 1).trans rfl
         have gJ : w7.cell? ⟨bP, 2, none⟩ = some (.string (⟨#[]⟩ : ByteArray)) := (bC bm.out 2).trans rfl
         have gn := bF bm.out 0
         have gl := bF bm.out 1
         have gj := bF bm.out 2
         go_wp2
         all_goals (try (exfalso; rename_i h_; rw [c10b0] at h_; cases h_; done))
         repeat (go_quiet (fail); try go_wp2)
         all_goals (try (exfalso; rename_i h_; rw [c10b0] at h_; cases h_; done))
         go_meet
         case rel => exact ⟨_, (false), z1, H', ⟨by have := HK1.out; first | omega | exact Nat.le_refl _⟩, ⟨y28⟩, ⟨y20⟩⟩
        ·rw [if_neg bz] at H
         have c10b0 : (((rd_T44 l0 x12_1).f2).toList == ([] : List UInt8)) = false := qF bz
         have c10b1 : (((rd_T44 l0 x12_1).f2).toList != ([] : List UInt8)) = true := nT bz
         have c10b8 : (!((rd_T44 l0 x12_1).f2).toList.isEmpty) = true := by have h_ := c10b1; revert h_; cases ((rd_T44 l0 x12_1).f2).toList <;> simp
         obtain ⟨fx, e8⟩ : ∃ j_ : Int, (wrap64 (((rd_T44 l0 x12_1).f0) + (((rd_T44 l0 x12_1).f2).size : Int))) = j_ := ⟨_, rfl⟩
         replace H : (if 0 ≤ (fx) then (if (fx) ≤ (x1_1.size : Int) then (spec_l3Apply.j1 k1 x1_1 x6_1 fx l0 (l0.length : Int) x12_1 ((x1_1.extract 0 ((fx) : Int).toNat).toList != ((rd_T44 l0 x12_1).f2).toList) ((rd_T44 l0 x12_1).f0) ((rd_T44 l0 x12_1).f1) ((rd_T44 l0 x12_1).f2)) else (none)) else (none)) = some (r1, r2) := by first | (rw [e8] at H; exact H) | (simp only [e8] at H ⊢; exact H)
         (try rw [e8] at c9b0)
         have hji12w : (IntKind.i64.wrap (((rd_T44 l0 x12_1).f0) + (((rd_T44 l0 x12_1).f2).size : Int))) = fx := (i64_w _).trans e8
         by_cases bR : 0 ≤ (fx)
         ·rw [if_pos bR] at H
          have c13b0 := eq_true bR
          have c13b1 : decide (0 ≤ (fx)) = true := dT bR
          clear bR
          by_cases ce : (fx) ≤ (x1_1.size : Int)
          ·rw [if_pos ce] at H
           have c14b0 := eq_true ce
           have c14b1 : decide ((fx) ≤ (x1_1.size : Int)) = true := dT ce
           clear ce
           have H' := aM H
           clear H
           have d6 : w7.cell? ⟨bP, 0, none⟩ = some (.int .i64 0) := (bC bm.out 0).trans rfl
           have d5 : w7.cell? ⟨bP, 1, none⟩ = some (.string (⟨#[]⟩ : ByteArray)) := (bC bm.out 1).trans rfl
           have d4 : w7.cell? ⟨bP, 2, none⟩ = some (.string (⟨#[]⟩ : ByteArray)) := (bC bm.out 2).trans rfl
           have dZ := bF bm.out 0
           have dY := bF bm.out 1
           have dX := bF bm.out 2
           go_wp2
           all_goals (try (exfalso; rename_i h_; rw [c10b0] at h_; cases h_; done))
           repeat (go_quiet (fail); try go_wp2)
           all_goals (try (exfalso; rename_i h_; rw [c10b0] at h_; cases h_; done))
           go_meet
           case rel => exact ⟨_, (((x1_1.extract 0 ((fx) : Int).toNat).toList != ((rd_T44 l0 x12_1).f2).toList)), (by first | rfl | (simp; done) | (simp only [← e8] <;> (first | rfl | (simp; done) | (simp; generalize ByteArray.toList _ = u_; cases u_ <;> (first | rfl | (simp; done))))) | (simp [*]; done)), (by first | exact H' | (simp only [e8]; exact H') | (simp only [← e8]; exact H')), ⟨by have := HK1.out; first | omega | exact Nat.le_refl _⟩, ⟨y28⟩, ⟨y20⟩⟩
          ·rw [if_neg ce] at H
           exact absurd H (by simp)
         ·rw [if_neg bR] at H
          exact absurd H (by simp)
      case rest =>
       clear kY
       try clear c1
       try clear p2
       try clear q2
       try clear hx2
       try clear c3
       try clear c3b0
       try clear c4
       try clear c4b0
       try clear c5
       try clear c5b0
       try clear p6
       try clear c9
       try clear c9b0
       try clear bz
       try clear c10b0
       try clear c10b1
       try clear bR
       try clear c13b0
       try clear c13b1
       try clear ce
       try clear c14b0
       try clear c14b1
       try clear gL
       try clear gK
       try clear gJ
       try clear d6
       try clear d5
       try clear d4
       try clear dq
       try clear dp
       try clear dn
       try clear gn
       try clear gl
       try clear gj
       try clear dZ
       try clear dY
       try clear dX
       try clear dm
       try clear dl
       try clear dk
       try clear hx266_0
       try clear hx266_1
       try clear hx266_2
       try clear p2
       try clear p266
       try clear q266
       obtain ⟨kq, x38_5, rfl, HA, mu, bm, HB⟩ := hcut
       cases kq with
       | zero => exact absurd HA.out (by simp [spec_l3Apply.j1])
       | succ kj5 =>
        have H := HA.out
        clear HA
        simp only [spec_l3Apply.j1] at H
        by_cases cG : x38_5 = true
        ·subst cG
         rw [if_pos rfl] at H
         simp only [Option.some.injEq, Prod.mk.injEq] at H
         obtain ⟨rfl, rfl⟩ := H
         go_wp2
         repeat (go_quiet (fail); try go_wp2)
         go_ret2
         exact ⟨y4, y20⟩
        ·replace cG := Bool.eq_false_iff.mpr cG
         subst cG
         rw [if_neg (show ¬ (false = true) by decide)] at H
         by_cases cB : ((rd_T44 l0 x12_1).f0) > 0
         ·rw [if_pos cB] at H
          have c17b0 : decide (0 < ((rd_T44 l0 x12_1).f0)) = true := dT cB
          clear cB
          obtain ⟨bg, cC⟩ : ∃ j_ : Int, (wrap64 (((rd_T44 l0 x12_1).f0) + (((rd_T44 l0 x12_1).f2).size : Int))) = j_ := ⟨_, rfl⟩
          replace H : (if 0 ≤ (bg) then (if (bg) ≤ (x1_1.size : Int) then (if x6_1.size + (x1_1.extract 0 ((bg) : Int).toNat).size ≤ 9223372036854775807 then (if (x6_1 ++ (x1_1.extract 0 ((bg) : Int).toNat)).size + ((rd_T44 l0 x12_1).f1).size ≤ 9223372036854775807 then (spec_l3Apply.l0 kj5 (x1_1.extract ((bg) : Int).toNat x1_1.size) ((x6_1 ++ (x1_1.extract 0 ((bg) : Int).toNat)) ++ ((rd_T44 l0 x12_1).f1)) l0 (l0.length : Int) (wrap64 (x12_1 + 1))) else (none)) else (none)) else (none)) else (none)) = some (r1, r2) := by first | (rw [cC] at H; exact H) | (simp only [cC] at H ⊢; exact H)
          have hji18w : (IntKind.i64.wrap (((rd_T44 l0 x12_1).f0) + (((rd_T44 l0 x12_1).f2).size : Int))) = bg := (i64_w _).trans cC
          by_cases fy : 0 ≤ (bg)
          ·rw [if_pos fy] at H
           have c19b0 := eq_true fy
           have c19b1 : decide (0 ≤ (bg)) = true := dT fy
           clear fy
           by_cases dd : (bg) ≤ (x1_1.size : Int)
           ·rw [if_pos dd] at H
            have c20b0 := eq_true dd
            have c20b1 : decide ((bg) ≤ (x1_1.size : Int)) = true := dT dd
            clear dd
            by_cases cF : x6_1.size + (x1_1.extract 0 ((bg) : Int).toNat).size ≤ 9223372036854775807
            ·rw [if_pos cF] at H
             have c21b0 := eq_true cF
             have c21b1 : decide (x6_1.size + (x1_1.extract 0 ((bg) : Int).toNat).size ≤ 9223372036854775807) = true := dT cF
             (try (have c21b1m := c21b1; simp only [aK, Nat.sub_zero] at c21b1m))
             (try (have c21b0m := c21b0; simp only [aK, Nat.sub_zero] at c21b0m))
             try have c21b2 : (9223372036854775807 < x6_1.size + (x1_1.extract 0 ((bg) : Int).toNat).size) = False := eq_false (Nat.not_lt.2 cF)
             (try (have c21x : (9223372036854775807 < x6_1.size + (bg).toNat) = False := eq_false (fun h_ => by have e_ := of_eq_true c21b0; simp only [aK, ByteArray.size_append] at e_; have f0_ : (bg) ≤ (x1_1.size : Int) := (by first | assumption | exact of_eq_true (by assumption) | exact oD (by assumption)); omega)))
             by_cases ec : (x6_1 ++ (x1_1.extract 0 ((bg) : Int).toNat)).size + ((rd_T44 l0 x12_1).f1).size ≤ 9223372036854775807
             ·rw [if_pos ec] at H
              have c22b0 := eq_true ec
              have c22b1 : decide ((x6_1 ++ (x1_1.extract 0 ((bg) : Int).toNat)).size + ((rd_T44 l0 x12_1).f1).size ≤ 9223372036854775807) = true := dT ec
              try have c22b2 : (9223372036854775807 < (x6_1 ++ (x1_1.extract 0 ((bg) : Int).toNat)).size + ((rd_T44 l0 x12_1).f1).size) = False := eq_false (Nat.not_lt.2 ec)
              (try (have c22x : (9223372036854775807 < (x6_1.size + (bg).toNat) + ((rd_T44 l0 x12_1).f1).size) = False := eq_false (fun h_ => by have e_ := of_eq_true c22b0; simp only [aK, ByteArray.size_append] at e_; have f0_ : (bg) ≤ (x1_1.size : Int) := (by first | assumption | exact of_eq_true (by assumption) | exact oD (by assumption)); omega)))
              (try (have c22b2s := c22b2; simp only [ByteArray.size_append] at c22b2s))
              have c23b0 := eq_true (oD z2 : 0 ≤ (bg))
              have c24b0 := eq_true (oD z2 : (bg) ≤ (x1_1.size : Int))
              have H' := aM H
              clear H
              have eu : wc.cell? ⟨bP, 0, none⟩ = some (.int .i64 ((rd_T44 l0 x12_1).f0)) := (bC bm.out 0).trans rfl
              have et : wc.cell? ⟨bP, 1, none⟩ = some (.string ((rd_T44 l0 x12_1).f1)) := (bC bm.out 1).trans rfl
              have es : wc.cell? ⟨bP, 2, none⟩ = some (.string ((rd_T44 l0 x12_1).f2)) := (bC bm.out 2).trans rfl
              have em := bF bm.out 0
              have el := bF bm.out 1
              have ek := bF bm.out 2
              go_wp2
              repeat (go_quiet (fail); try go_wp2)
              go_roundg kj5
              case measure => have := HK1.out; have := mu.out; omega
              case rel => exact ⟨(x1_1.extract ((bg) : Int).toNat x1_1.size), ((x6_1 ++ (x1_1.extract 0 ((bg) : Int).toNat)) ++ ((rd_T44 l0 x12_1).f1)), (wrap64 (x12_1 + 1)), (by first | rfl | (simp; done) | (simp only [← cC] <;> (first | rfl | (simp; done) | (simp; generalize ByteArray.toList _ = u_; cases u_ <;> (first | rfl | (simp; done))))) | (simp [*]; done)), (by first | rfl | (simp; done) | (simp only [← cC] <;> (first | rfl | (simp; done) | (simp; generalize ByteArray.toList _ = u_; cases u_ <;> (first | rfl | (simp; done))))) | (simp [*]; done)), z1, (by first | exact H' | (simp only [cC]; exact H') | (simp only [← cC]; exact H')), ⟨by have := HK1.out; have := mu.out; omega⟩, ⟨y20⟩⟩
             ·rw [if_neg ec] at H
              exact absurd H (by simp)
            ·rw [if_neg cF] at H
             exact absurd H (by simp)
           ·rw [if_neg dd] at H
            exact absurd H (by simp)
          ·rw [if_neg fy] at H
           exact absurd H (by simp)
         ·rw [if_neg cB] at H
          have c17b0 : decide (0 < ((rd_T44 l0 x12_1).f0)) = false := dF cB
          clear cB
          by_cases eD : x6_1.size + ((rd_T44 l0 x12_1).f1).size ≤ 9223372036854775807
          ·rw [if_pos eD] at H
           have c26b0 := eq_true eD
           have c26b1 : decide (x6_1.size + ((rd_T44 l0 x12_1).f1).size ≤ 9223372036854775807) = true := dT eD
           try have c26b2 : (9223372036854775807 < x6_1.size + ((rd_T44 l0 x12_1).f1).size) = False := eq_false (Nat.not_lt.2 eD)
           obtain ⟨fT, fA⟩ : ∃ j_ : Int, (wrap64 (((rd_T44 l0 x12_1).f0) + (((rd_T44 l0 x12_1).f2).size : Int))) = j_ := ⟨_, rfl⟩
           replace H : (if 0 ≤ (fT) then (if (fT) ≤ (x1_1.size : Int) then (spec_l3Apply.l0 kj5 (x1_1.extract ((fT) : Int).toNat x1_1.size) (x6_1 ++ ((rd_T44 l0 x12_1).f1)) l0 (l0.length : Int) (wrap64 (x12_1 + 1))) else (none)) else (none)) = some (r1, r2) := by first | (rw [fA] at H; exact H) | (simp only [fA] at H ⊢; exact H)
           have hji27w : (IntKind.i64.wrap (((rd_T44 l0 x12_1).f0) + (((rd_T44 l0 x12_1).f2).size : Int))) = fT := (i64_w _).trans fA
           by_cases d9 : 0 ≤ (fT)
           ·rw [if_pos d9] at H
            have c28b0 := eq_true d9
            have c28b1 : decide (0 ≤ (fT)) = true := dT d9
            clear d9
            by_cases de : (fT) ≤ (x1_1.size : Int)
            ·rw [if_pos de] at H
             have c29b0 := eq_true de
             have c29b1 : decide ((fT) ≤ (x1_1.size : Int)) = true := dT de
             clear de
             have H' := aM H
             clear H
             have gC : wc.cell? ⟨bP, 0, none⟩ = some (.int .i64 ((rd_T44 l0 x12_1).f0)) := (bC bm.out 0).trans rfl
             have gB : wc.cell? ⟨bP, 1, none⟩ = some (.string ((rd_T44 l0 x12_1).f1)) := (bC bm.out 1).trans rfl
             have gA : wc.cell? ⟨bP, 2, none⟩ = some (.string ((rd_T44 l0 x12_1).f2)) := (bC bm.out 2).trans rfl
             have ga := bF bm.out 0
             have f9 := bF bm.out 1
             have f8 := bF bm.out 2
             go_wp2
             repeat (go_quiet (fail); try go_wp2)
             go_roundg kj5
             case measure => have := HK1.out; have := mu.out; omega
             case rel => exact ⟨(x1_1.extract ((fT) : Int).toNat x1_1.size), (x6_1 ++ ((rd_T44 l0 x12_1).f1)), (wrap64 (x12_1 + 1)), (by first | rfl | (simp; done) | (simp only [← fA] <;> (first | rfl | (simp; done) | (simp; generalize ByteArray.toList _ = u_; cases u_ <;> (first | rfl | (simp; done))))) | (simp [*]; done)), z1, z1, (by first | exact H' | (simp only [fA]; exact H') | (simp only [← fA]; exact H')), ⟨by have := HK1.out; have := mu.out; omega⟩, ⟨y20⟩⟩
            ·rw [if_neg de] at H
             exact absurd H (by simp)
           ·rw [if_neg d9] at H
            exact absurd H (by simp)
          ·rw [if_neg eD] at H
           exact absurd H (by simp)
     ·rw [if_neg c5] at H
      exact absurd H (by simp)
    ·rw [if_neg c4] at H
     exact absurd H (by simp)
   ·rw [if_neg c3] at H
    have c3b0 : decide (x12_1 < (l0.length : Int)) = false := dF c3
    clear c3
    simp only [Option.some.injEq, Prod.mk.injEq] at H
    obtain ⟨rfl, rfl⟩ := H
    go_wp2
    repeat (go_quiet (fail); try go_wp2)
    go_ret2
    exact ⟨y4, y5⟩

end Go.Proofs.Ytifllccpfiobfaa.AFnExactMergeThree
