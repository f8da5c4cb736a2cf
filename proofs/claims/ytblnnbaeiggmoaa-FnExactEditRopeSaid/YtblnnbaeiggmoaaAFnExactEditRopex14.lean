-- this session's own text: written by wip/tools/ownprint.py over the kit's print
import Derived.SizedLaws
import Derived.Deep.Slices
import Derived.Deep.Fields
import Derived.ChangeSame
import Derived.Test.YtblnnbaeiggmoaaAFnExactEditRopex0
import Derived.Test.YtblnnbaeiggmoaaAFnExactEditRopex1
import Derived.Test.YtblnnbaeiggmoaaAFnExactEditRopex6
import Derived.Test.YtblnnbaeiggmoaaAFnExactEditRopex10
import Derived.Test.YtblnnbaeiggmoaaAFnExactEditRopex11
import Derived.Test.YtblnnbaeiggmoaaAFnExactEditRopex12
import Derived.Test.YtblnnbaeiggmoaaAFnExactEditRopex13
namespace Go.Proofs.Ytblnnbaeiggmoaa.AFnExactEditRope
open Go.RowKit Go.Proofs.YtblnnbaeiggmoaaW.PrintWords Go.Proofs.YtblnnbaeiggmoaaW.PrintLast Go.Proofs.YtblnnbaeiggmoaaW.PrintMore
attribute [local go_sem] max2_int min2_int max_two min_two max_three min_three max_four min_four   -- for this text's walks alone
set_option linter.unusedVariables false
set_option linter.unusedSimpArgs false

/-! ### laws_FnExactEditRope: function 3 -/
mutual
def laws_FnExactEditRope.j0 : Nat → List (S55) → Bool → List (S59) → Bool → Bool → List (S100) → List (S101) → List (S101) → List (S101) → Option (Bool)
 | 0, _, _, _, _, _, _, _, _, _ => none
 | k + 1, x1, x7, x9, x11, x53, x270000, x283000, x287000, x295000 => if x53 = true then (some false) else ((laws_toRope.f k x270000).bind fun eQ => ((laws_eqRope.f k x287000 eQ).bind fun mQ => (if mQ = true then ((laws_toPartS.f k x1).bind fun hO => ((laws_eqPartS.f k x9 hO).bind fun mP => (if mP = true then ((laws_markRope.f k x287000 1).bind fun bt304 => ((laws_markPartS.f k x9 bt304.1).bind fun bt306 => (if bt306.1 < 0 then (laws_FnExactEditRope.j1 k x1 x7 true x270000 x283000 x295000) else ((laws_eqRope.f k x295000 x283000).bind fun mN => (if mN = true then (laws_FnExactEditRope.j1 k x1 x7 (x11 != x7) x270000 x283000 x295000) else (laws_FnExactEditRope.j1 k x1 x7 true x270000 x283000 x295000)))))) else (some false)))) else (some false))))
def laws_FnExactEditRope.j1 : Nat → List (S55) → Bool → Bool → List (S100) → List (S101) → List (S101) → Option (Bool)
 | 0, _, _, _, _, _, _ => none
 | k + 1, x1, x7, x82, x270000, x283000, x295000 => if x82 = true then (some false) else ((laws_markRope.f k x295000 1).bind fun gY => ((laws_heldRope.f k gY.2 1).bind fun fa => (if fa < 0 then (some false) else (if fa = gY.1 then ((laws_toRope.f k x270000).bind fun hJ => ((laws_toPartS.f k x1).bind fun k6 => ((impl_EditRope.f k hJ k6).bind fun mj => ((laws_eqRope.f k mj.1 x283000).bind fun mM => (if mM = true then (laws_FnExactEditRope.j2 k gY.1 (mj.2 != x7) gY.2) else (laws_FnExactEditRope.j2 k gY.1 true gY.2)))))) else (some false)))))
def laws_FnExactEditRope.j2 : Nat → Int → Bool → List (S101) → Option (Bool)
 | 0, _, _, _ => none
 | k + 1, x13, x110, x295000 => if x110 = true then (some false) else ((laws_heldRope.f k x295000 1).bind fun e9 => (if e9 < 0 then (some false) else (if e9 = x13 then (some true) else (some false))))
end
def laws_FnExactEditRope.f (k : Nat) (l0_0 : List (S100)) (l1 : List (S55)) : Option (Bool) := (laws_szRope.f k l0_0 1048576).bind fun eR => (if eR < 0 then (some true) else ((laws_szPartS.f k l1 eR).bind fun hU => (if hU < 0 then (some true) else ((laws_toRope.f k l0_0).bind fun gq => ((laws_toPartS.f k l1).bind fun jK => ((spec_EditRope.f k gq jK).bind fun dU => ((laws_toRope.f k l0_0).bind fun bT => ((laws_toPartS.f k l1).bind fun dw => ((impl_EditRope.f k bT dw).bind fun dS => ((laws_eqRope.f k dS.1 dU.1).bind fun k7 => (if k7 = true then (laws_FnExactEditRope.j0 k l1 dU.2 dw dS.2 (dS.2 != dU.2) l0_0 dU.1 bT dS.1) else (laws_FnExactEditRope.j0 k l1 dU.2 dw dS.2 true l0_0 dU.1 bT dS.1))))))))))))
theorem laws_FnExactEditRope.mono_l : ∀ k, (∀ y0 y1 y2 y3 y4 y5 y6 y7 y8, LeO (laws_FnExactEditRope.j0 k y0 y1 y2 y3 y4 y5 y6 y7 y8) (laws_FnExactEditRope.j0 (k + 1) y0 y1 y2 y3 y4 y5 y6 y7 y8)) ∧ (∀ y0 y1 y2 y3 y4 y5, LeO (laws_FnExactEditRope.j1 k y0 y1 y2 y3 y4 y5) (laws_FnExactEditRope.j1 (k + 1) y0 y1 y2 y3 y4 y5)) ∧ (∀ y0 y1 y2, LeO (laws_FnExactEditRope.j2 k y0 y1 y2) (laws_FnExactEditRope.j2 (k + 1) y0 y1 y2))
 | 0 => ⟨fun _ _ _ _ _ _ _ _ _ r h => by simp [laws_FnExactEditRope.j0] at h, fun _ _ _ _ _ _ r h => by simp [laws_FnExactEditRope.j1] at h, fun _ _ _ r h => by simp [laws_FnExactEditRope.j2] at h⟩
 | k + 1 => by
  obtain ⟨ih0, ih1, ih2⟩ := laws_FnExactEditRope.mono_l k
  refine ⟨?_, ?_, ?_⟩
  ·intro y0 y1 y2 y3 y4 y5 y6 y7 y8
   unfold laws_FnExactEditRope.j0
   repeat' first
   | (with_reducible exact ih0 _ _ _ _ _ _ _ _ _)
   | (with_reducible exact ih1 _ _ _ _ _ _)
   | (with_reducible exact ih2 _ _ _)
   | (with_reducible exact impl_EditRope.mono _ _ _)
   | (with_reducible exact laws_eqPartS.mono _ _ _)
   | (with_reducible exact laws_eqRope.mono _ _ _)
   | (with_reducible exact laws_heldRope.mono _ _ _)
   | (with_reducible exact laws_markPartS.mono _ _ _)
   | (with_reducible exact laws_markRope.mono _ _ _)
   | (with_reducible exact laws_szPartS.mono _ _ _)
   | (with_reducible exact laws_szRope.mono _ _ _)
   | (with_reducible exact laws_toPartS.mono _ _)
   | (with_reducible exact laws_toRope.mono _ _)
   | (with_reducible exact spec_EditRope.mono _ _ _)
   | (with_reducible exact LeO.refl _)
   | (with_reducible exact LeO.none _)
   | (with_reducible refine LeO.ite ?_ ?_)
   | (with_reducible refine LeO.bind ?_ (fun _ => ?_))
   | exact ih0 _ _ _ _ _ _ _ _ _
   | exact ih1 _ _ _ _ _ _
   | exact ih2 _ _ _
   | exact impl_EditRope.mono _ _ _
   | exact laws_eqPartS.mono _ _ _
   | exact laws_eqRope.mono _ _ _
   | exact laws_heldRope.mono _ _ _
   | exact laws_markPartS.mono _ _ _
   | exact laws_markRope.mono _ _ _
   | exact laws_szPartS.mono _ _ _
   | exact laws_szRope.mono _ _ _
   | exact laws_toPartS.mono _ _
   | exact laws_toRope.mono _ _
   | exact spec_EditRope.mono _ _ _
   | exact LeO.none _
   | refine LeO.ite ?_ ?_
   | refine LeO.bind ?_ (fun _ => ?_)
  ·intro y0 y1 y2 y3 y4 y5
   unfold laws_FnExactEditRope.j1
   repeat' first
   | (with_reducible exact ih0 _ _ _ _ _ _ _ _ _)
   | (with_reducible exact ih1 _ _ _ _ _ _)
   | (with_reducible exact ih2 _ _ _)
   | (with_reducible exact impl_EditRope.mono _ _ _)
   | (with_reducible exact laws_eqPartS.mono _ _ _)
   | (with_reducible exact laws_eqRope.mono _ _ _)
   | (with_reducible exact laws_heldRope.mono _ _ _)
   | (with_reducible exact laws_markPartS.mono _ _ _)
   | (with_reducible exact laws_markRope.mono _ _ _)
   | (with_reducible exact laws_szPartS.mono _ _ _)
   | (with_reducible exact laws_szRope.mono _ _ _)
   | (with_reducible exact laws_toPartS.mono _ _)
   | (with_reducible exact laws_toRope.mono _ _)
   | (with_reducible exact spec_EditRope.mono _ _ _)
   | (with_reducible exact LeO.refl _)
   | (with_reducible exact LeO.none _)
   | (with_reducible refine LeO.ite ?_ ?_)
   | (with_reducible refine LeO.bind ?_ (fun _ => ?_))
   | exact ih0 _ _ _ _ _ _ _ _ _
   | exact ih1 _ _ _ _ _ _
   | exact ih2 _ _ _
   | exact impl_EditRope.mono _ _ _
   | exact laws_eqPartS.mono _ _ _
   | exact laws_eqRope.mono _ _ _
   | exact laws_heldRope.mono _ _ _
   | exact laws_markPartS.mono _ _ _
   | exact laws_markRope.mono _ _ _
   | exact laws_szPartS.mono _ _ _
   | exact laws_szRope.mono _ _ _
   | exact laws_toPartS.mono _ _
   | exact laws_toRope.mono _ _
   | exact spec_EditRope.mono _ _ _
   | exact LeO.none _
   | refine LeO.ite ?_ ?_
   | refine LeO.bind ?_ (fun _ => ?_)
  ·intro y0 y1 y2
   unfold laws_FnExactEditRope.j2
   repeat' first
   | (with_reducible exact ih0 _ _ _ _ _ _ _ _ _)
   | (with_reducible exact ih1 _ _ _ _ _ _)
   | (with_reducible exact ih2 _ _ _)
   | (with_reducible exact impl_EditRope.mono _ _ _)
   | (with_reducible exact laws_eqPartS.mono _ _ _)
   | (with_reducible exact laws_eqRope.mono _ _ _)
   | (with_reducible exact laws_heldRope.mono _ _ _)
   | (with_reducible exact laws_markPartS.mono _ _ _)
   | (with_reducible exact laws_markRope.mono _ _ _)
   | (with_reducible exact laws_szPartS.mono _ _ _)
   | (with_reducible exact laws_szRope.mono _ _ _)
   | (with_reducible exact laws_toPartS.mono _ _)
   | (with_reducible exact laws_toRope.mono _ _)
   | (with_reducible exact spec_EditRope.mono _ _ _)
   | (with_reducible exact LeO.refl _)
   | (with_reducible exact LeO.none _)
   | (with_reducible refine LeO.ite ?_ ?_)
   | (with_reducible refine LeO.bind ?_ (fun _ => ?_))
   | exact ih0 _ _ _ _ _ _ _ _ _
   | exact ih1 _ _ _ _ _ _
   | exact ih2 _ _ _
   | exact impl_EditRope.mono _ _ _
   | exact laws_eqPartS.mono _ _ _
   | exact laws_eqRope.mono _ _ _
   | exact laws_heldRope.mono _ _ _
   | exact laws_markPartS.mono _ _ _
   | exact laws_markRope.mono _ _ _
   | exact laws_szPartS.mono _ _ _
   | exact laws_szRope.mono _ _ _
   | exact laws_toPartS.mono _ _
   | exact laws_toRope.mono _ _
   | exact spec_EditRope.mono _ _ _
   | exact LeO.none _
   | refine LeO.ite ?_ ?_
   | refine LeO.bind ?_ (fun _ => ?_)
theorem laws_FnExactEditRope.mono : ∀ a0 a1 k, LeO (laws_FnExactEditRope.f k a0 a1) (laws_FnExactEditRope.f (k + 1) a0 a1) := by
 intro a0 a1 k
 obtain ⟨ih0, ih1, ih2⟩ := laws_FnExactEditRope.mono_l k
 unfold laws_FnExactEditRope.f
 repeat' first
   | (with_reducible exact ih0 _ _ _ _ _ _ _ _ _)
   | (with_reducible exact ih1 _ _ _ _ _ _)
   | (with_reducible exact ih2 _ _ _)
   | (with_reducible exact impl_EditRope.mono _ _ _)
   | (with_reducible exact laws_eqPartS.mono _ _ _)
   | (with_reducible exact laws_eqRope.mono _ _ _)
   | (with_reducible exact laws_heldRope.mono _ _ _)
   | (with_reducible exact laws_markPartS.mono _ _ _)
   | (with_reducible exact laws_markRope.mono _ _ _)
   | (with_reducible exact laws_szPartS.mono _ _ _)
   | (with_reducible exact laws_szRope.mono _ _ _)
   | (with_reducible exact laws_toPartS.mono _ _)
   | (with_reducible exact laws_toRope.mono _ _)
   | (with_reducible exact spec_EditRope.mono _ _ _)
   | (with_reducible exact LeO.refl _)
   | (with_reducible exact LeO.none _)
   | (with_reducible refine LeO.ite ?_ ?_)
   | (with_reducible refine LeO.bind ?_ (fun _ => ?_))
   | exact ih0 _ _ _ _ _ _ _ _ _
   | exact ih1 _ _ _ _ _ _
   | exact ih2 _ _ _
   | exact impl_EditRope.mono _ _ _
   | exact laws_eqPartS.mono _ _ _
   | exact laws_eqRope.mono _ _ _
   | exact laws_heldRope.mono _ _ _
   | exact laws_markPartS.mono _ _ _
   | exact laws_markRope.mono _ _ _
   | exact laws_szPartS.mono _ _ _
   | exact laws_szRope.mono _ _ _
   | exact laws_toPartS.mono _ _
   | exact laws_toRope.mono _ _
   | exact spec_EditRope.mono _ _ _
   | exact LeO.none _
   | refine LeO.ite ?_ ?_
   | refine LeO.bind ?_ (fun _ => ?_)
set_option maxHeartbeats 8000000 in
set_option maxRecDepth 100000 in
theorem laws_FnExactEditRope.calls (k : Nat) (bj : Option Addr) (bk : Nat) (l0_0 : List (S100)) (A1 : Option Addr) (c1 : Nat) (l1 : List (S55)) (r : Bool) (HRT : Aside0 (r = true)) (w : World) (hr0_0 : Kd.C k100 w bj l0_0.length l0_0) (hc0_0 : l0_0.length ≤ bk) (hr1 : Kd.C k55 w A1 l1.length l1) (hc1 : l1.length ≤ c1) (h : laws_FnExactEditRope.f k l0_0 l1 = some r) :
  Calls Try.prog 3 #[.agg #[.slice bj l0_0.length bk], .slice A1 l1.length c1] w fun e w' => e = .returned (.bool r) ∧ Below w.heap.size w w' := by
 have hu24 := Try.underlying24
 have hu30 := Try.underlying30
 have cI := aM hr0_0
 have cM := aM hc0_0
 clear hr0_0 hc0_0
 have fH := aM hr1
 have di := aM hc1
 clear hr1 hc1
 have HB := aM (Below.refl w.heap.size w)
 have H : ((laws_szRope.f k l0_0 1048576).bind fun eR => (if eR < 0 then (some true) else ((laws_szPartS.f k l1 eR).bind fun hU => (if hU < 0 then (some true) else ((laws_toRope.f k l0_0).bind fun gq => ((laws_toPartS.f k l1).bind fun jK => ((spec_EditRope.f k gq jK).bind fun dU => ((laws_toRope.f k l0_0).bind fun bT => ((laws_toPartS.f k l1).bind fun dw => ((impl_EditRope.f k bT dw).bind fun dS => ((laws_eqRope.f k dS.1 dU.1).bind fun k7 => (if k7 = true then (laws_FnExactEditRope.j0 k l1 dU.2 dw dS.2 (dS.2 != dU.2) l0_0 dU.1 bT dS.1) else (laws_FnExactEditRope.j0 k l1 dU.2 dw dS.2 true l0_0 dU.1 bT dS.1))))))))))))) = some r := h
 clear h
 replace H := oB H
 obtain ⟨eR, fT, H⟩ := H
 try dsimp only at H
 have A3 := aM fT
 clear fT
 by_cases c4 : eR < 0
 ·rw [if_pos c4] at H
  have c4b0 : decide (eR < 0) = true := dT c4
  clear c4
  first | (cases H.trans (congrArg some HRT.out); done) | skip
  all_goals
   obtain rfl := sI H
   go_enter Try.func3, Try.ntmps3
   go_wp2_with (first | ((with_reducible refine aJ (N := 2) rfl ?_); refine aK ?hg (N := 2) ?hd (cs := #[.slice bj l0_0.length bk]) (t := 24) ?hr ?_; (case hd => rfl); (case hg => rfl); (case hr => first | (go_simp; done) | (go_simp; rfl)); intro bo hg w5 hbox hb; have a6 := aM (ay z11 hb); have ba := aM (hbox); have bb := aM ((by rw [hg]; exact (az z11) : w.heap.size ≤ bo)); have bf := aM ((by rw [hg]; exact (az z11) : w.heap.size ≤ bo)); clear HB; have HB := a6; have bc := ba; have mw := bb; have cW := bf; clear a6 ba bb bf; clear hb hbox hg; have dL : w5.cell? ⟨bo, 0, none⟩ = some (.slice bj l0_0.length bk) := (bC bc.out 0).trans rfl; have dK := bF bc.out 0) | ((with_reducible refine aI (f := 5) rfl ?_); refine aN (some 19) rfl rfl Try.func5 z0 rfl #[.agg #[.slice bj l0_0.length bk], .int .i64 1048576] rfl z12 ?_; (with_reducible refine (laws_szRope.calls k _ _ l0_0 1048576 eR _ ?side1 ?side2 A3.out).mono ?_); (case side1 => repeat (first | exact (aD cI.out HB.out) | (with_reducible refine aE ?_ _) | (with_reducible refine aG ?_ _) | (with_reducible refine aH ?_))); (case side2 => exact cM.out); rintro e w7 ⟨rfl, hb⟩; refine ⟨_, rfl, ?_⟩; have a6 := aM (af (g := bo) (o := .cells #[.slice bj l0_0.length bk] 24 (0, 0)) z7 hb); have ba := aM (ay z18 hb); clear bc; clear HB; have bc := a6; have HB := ba; clear a6 ba; (try clear hb); (try clear hb2); (try clear hk); (try clear hi)))
   go_ret
   exact ⟨y3, by repeat (first | (with_reducible first | exact HB.out | apply bA | apply pD | apply bD | refine ax ?_ cW.out) | exact HB.out)⟩
 ·rw [if_neg c4] at H
  have c4b0 : decide (eR < 0) = false := dF c4
  clear c4
  replace H := oB H
  obtain ⟨hU, kN, H⟩ := H
  try dsimp only at H
  have A8 := aM kN
  clear kN
  by_cases c9 : hU < 0
  ·rw [if_pos c9] at H
   have c9b0 : decide (hU < 0) = true := dT c9
   clear c9
   first | (cases H.trans (congrArg some HRT.out); done) | skip
   all_goals
    obtain rfl := sI H
    go_enter Try.func3, Try.ntmps3
    go_wp2_with (first | ((with_reducible refine aJ (N := 2) rfl ?_); refine aK ?hg (N := 2) ?hd (cs := #[.slice bj l0_0.length bk]) (t := 24) ?hr ?_; (case hd => rfl); (case hg => rfl); (case hr => first | (go_simp; done) | (go_simp; rfl)); intro bo hg w10 hbox hb; have a6 := aM (ay z11 hb); have ba := aM (hbox); have bb := aM ((by rw [hg]; exact (az z11) : w.heap.size ≤ bo)); have bf := aM ((by rw [hg]; exact (az z11) : w.heap.size ≤ bo)); clear HB; have HB := a6; have bc := ba; have mw := bb; have cW := bf; clear a6 ba bb bf; clear hb hbox hg; have ed : w10.cell? ⟨bo, 0, none⟩ = some (.slice bj l0_0.length bk) := (bC bc.out 0).trans rfl; have d6 := bF bc.out 0) | ((with_reducible refine aI (f := 5) rfl ?_); refine aN (some 19) rfl rfl Try.func5 z0 rfl #[.agg #[.slice bj l0_0.length bk], .int .i64 1048576] rfl z12 ?_; (with_reducible refine (laws_szRope.calls k _ _ l0_0 1048576 eR _ ?side1 ?side2 A3.out).mono ?_); (case side1 => repeat (first | exact (aD cI.out HB.out) | (with_reducible refine aE ?_ _) | (with_reducible refine aG ?_ _) | (with_reducible refine aH ?_))); (case side2 => exact cM.out); rintro e w12 ⟨rfl, hb⟩; refine ⟨_, rfl, ?_⟩; have a6 := aM (af (g := bo) (o := .cells #[.slice bj l0_0.length bk] 24 (0, 0)) z7 hb); have ba := aM (ay z18 hb); clear bc; clear HB; have bc := a6; have HB := ba; clear a6 ba; (try clear hb); (try clear hb2); (try clear hk); (try clear hi)) | ((with_reducible refine aI (f := 6) rfl ?_); refine aN (some 24) rfl rfl Try.func6 z0 rfl #[.slice A1 l1.length c1, .int .i64 eR] rfl z12 ?_; (with_reducible refine (laws_szPartS.calls k _ _ l1 eR hU _ ?side1 ?side2 A8.out).mono ?_); (case side1 => repeat (first | exact (aD fH.out HB.out) | (with_reducible refine aE ?_ _) | (with_reducible refine aG ?_ _) | (with_reducible refine aH ?_))); (case side2 => exact di.out); rintro e w13 ⟨rfl, hb⟩; refine ⟨_, rfl, ?_⟩; have a6 := aM (af (g := bo) (o := .cells #[.slice bj l0_0.length bk] 24 (0, 0)) z7 hb); have ba := aM (ay z18 hb); clear bc; clear HB; have bc := a6; have HB := ba; clear a6 ba; (try clear hb); (try clear hb2); (try clear hk); (try clear hi)))
    go_ret
    exact ⟨y3, by repeat (first | (with_reducible first | exact HB.out | apply bA | apply pD | apply bD | refine ax ?_ cW.out) | exact HB.out)⟩
  ·rw [if_neg c9] at H
   have c9b0 : decide (hU < 0) = false := dF c9
   clear c9
   replace H := oB H
   obtain ⟨gq, jJ, H⟩ := H
   try dsimp only at H
   have gN := aM jJ
   clear jJ
   replace H := oB H
   obtain ⟨jK, lY, H⟩ := H
   try dsimp only at H
   have A15 := aM lY
   clear lY
   replace H := oB H
   obtain ⟨⟨bE, kP⟩, lX, H⟩ := H
   try dsimp only at H
   have om := aM lX
   clear lX
   replace H := oB H
   obtain ⟨bT, ol, H⟩ := H
   try dsimp only at H
   have A17 := aM ol
   clear ol
   replace H := oB H
   obtain ⟨dw, oh, H⟩ := H
   try dsimp only at H
   have A18 := aM oh
   clear oh
   replace H := oB H
   obtain ⟨⟨bq, mb⟩, oe, H⟩ := H
   try dsimp only at H
   have A19 := aM oe
   clear oe
   have nn := aM H
   clear H
   go_enter Try.func3, Try.ntmps3
   go_upto_region 12 with (first | ((with_reducible refine aJ (N := 2) rfl ?_); refine aK ?hg (N := 2) ?hd (cs := #[.slice bj l0_0.length bk]) (t := 24) ?hr ?_; (case hd => rfl); (case hg => rfl); (case hr => first | (go_simp; done) | (go_simp; rfl)); intro bo hg w21 hbox hb; have a6 := aM (ay z11 hb); have ba := aM (hbox); have bb := aM ((by rw [hg]; exact (az z11) : w.heap.size ≤ bo)); have bf := aM ((by rw [hg]; exact (az z11) : w.heap.size ≤ bo)); clear HB; have HB := a6; have bc := ba; have mw := bb; have cW := bf; clear a6 ba bb bf; clear hb hbox hg; have dy : w21.cell? ⟨bo, 0, none⟩ = some (.slice bj l0_0.length bk) := (bC bc.out 0).trans rfl; have dx := bF bc.out 0) | ((with_reducible refine aI (f := 5) rfl ?_); refine aN (some 19) rfl rfl Try.func5 z0 rfl #[.agg #[.slice bj l0_0.length bk], .int .i64 1048576] rfl z12 ?_; (with_reducible refine (laws_szRope.calls k _ _ l0_0 1048576 eR _ ?side1 ?side2 A3.out).mono ?_); (case side1 => repeat (first | exact (aD cI.out HB.out) | (with_reducible refine aE ?_ _) | (with_reducible refine aG ?_ _) | (with_reducible refine aH ?_))); (case side2 => exact cM.out); rintro e w23 ⟨rfl, hb⟩; refine ⟨_, rfl, ?_⟩; have a6 := aM (af (g := bo) (o := .cells #[.slice bj l0_0.length bk] 24 (0, 0)) z7 hb); have ba := aM (ay z18 hb); clear bc; clear HB; have bc := a6; have HB := ba; clear a6 ba; (try clear hb); (try clear hb2); (try clear hk); (try clear hi)) | ((with_reducible refine aI (f := 6) rfl ?_); refine aN (some 24) rfl rfl Try.func6 z0 rfl #[.slice A1 l1.length c1, .int .i64 eR] rfl z12 ?_; (with_reducible refine (laws_szPartS.calls k _ _ l1 eR hU _ ?side1 ?side2 A8.out).mono ?_); (case side1 => repeat (first | exact (aD fH.out HB.out) | (with_reducible refine aE ?_ _) | (with_reducible refine aG ?_ _) | (with_reducible refine aH ?_))); (case side2 => exact di.out); rintro e w24 ⟨rfl, hb⟩; refine ⟨_, rfl, ?_⟩; have a6 := aM (af (g := bo) (o := .cells #[.slice bj l0_0.length bk] 24 (0, 0)) z7 hb); have ba := aM (ay z18 hb); clear bc; clear HB; have bc := a6; have HB := ba; clear a6 ba; (try clear hb); (try clear hb2); (try clear hk); (try clear hi); have fq : w24.cell? ⟨bo, 0, none⟩ = some (.slice bj l0_0.length bk) := (bC bc.out 0).trans rfl; have fe := bF bc.out 0) | ((with_reducible refine aI (f := 8) rfl ?_); refine aN (some 29) rfl rfl Try.func8 z0 rfl #[.agg #[.slice bj l0_0.length bk]] rfl z12 ?_; (with_reducible refine (laws_toRope.calls k _ _ l0_0 gq _ ?side1 ?side2 gN.out).mono ?_); (case side1 => repeat (first | exact (aD cI.out HB.out) | (with_reducible refine aE ?_ _) | (with_reducible refine aG ?_ _) | (with_reducible refine aH ?_))); (case side2 => exact cM.out); rintro e w26 ⟨v273, rfl, ho0, hb⟩; refine ⟨_, rfl, ?_⟩; have a6 := aM (aT ho0 (az z18)); have ba := aM (af (g := bo) (o := .cells #[.slice bj l0_0.length bk] 24 (0, 0)) z7 hb); have bb := aM (ay z18 hb); clear bc; clear HB; have b7 := a6; have bc := ba; have HB := bb; clear a6 ba bb; (try clear hb); (try clear hb2); (try clear hk); (try clear hi); (try clear ho0)) | ((with_reducible refine aI (f := 9) rfl ?_); refine aN (some 31) rfl rfl Try.func9 z0 rfl #[.slice A1 l1.length c1] rfl z12 ?_; (with_reducible refine (laws_toPartS.calls k _ _ l1 jK _ ?side1 ?side2 A15.out).mono ?_); (case side1 => repeat (first | exact (aD fH.out HB.out) | (with_reducible refine aE ?_ _) | (with_reducible refine aG ?_ _) | (with_reducible refine aH ?_))); (case side2 => exact di.out); rintro e w27 ⟨v276, rfl, ho0, hb⟩; refine ⟨_, rfl, ?_⟩; have a6 := aM (ag (by (with_reducible repeat (first | apply ae | apply ac | apply aa)); exact b7.out) hb); have ba := aM (aT ho0 (az z18)); have bb := aM (af (g := bo) (o := .cells #[.slice bj l0_0.length bk] 24 (0, 0)) z7 hb); have bf := aM (ay z18 hb); clear b7; clear bc; clear HB; have b7 := a6; have cm := ba; have bc := bb; have HB := bf; clear a6 ba bb bf; (try clear hb); (try clear hb2); (try clear hk); (try clear hi); (try clear ho0); obtain ⟨lV, lC, eo28⟩ := Kd.R_slice b7.out; subst eo28; obtain ⟨Ao29, co29, eo29⟩ := Kd.R_slice cm.out; subst eo29) | ((with_reducible refine aI (f := 7) rfl ?_); refine aN (some 32) rfl rfl Try.func7 z0 rfl #[.agg #[.slice lV gq.length lC], .slice Ao29 jK.length co29] rfl z12 ?_; (with_reducible refine (spec_EditRope.calls k _ _ gq _ _ jK bE kP _ ?side1 ?side2 ?side3 ?side4 om.out).mono ?_); (case side1 => repeat (first | exact (ai b7.out).2.2 | (with_reducible refine aE ?_ _) | (with_reducible refine aG ?_ _) | (with_reducible refine aH ?_))); (case side2 => exact (ai b7.out).2.1); (case side3 => repeat (first | exact (ai cm.out).2.2 | (with_reducible refine aE ?_ _) | (with_reducible refine aG ?_ _) | (with_reducible refine aH ?_))); (case side4 => exact (ai cm.out).2.1); rintro e w30 ⟨v279, rfl, ho0, hb⟩; refine ⟨_, rfl, ?_⟩; have a6 := aM (aj (by (with_reducible repeat (first | apply ae | apply ac | apply aa)); exact b7.out) (al ho0) hb); have ba := aM (ag (by (with_reducible repeat (first | apply ae | apply ac | apply aa)); exact cm.out) hb); have bb := aM (aT (ak ho0 (Kd.R_lt (by (with_reducible repeat (first | apply ae | apply ac | apply aa)); exact b7.out))) (az z18)); have bf := aM (af (g := bo) (o := .cells #[.slice bj l0_0.length bk] 24 (0, 0)) z7 hb); have bz := aM (ay z18 hb); clear b7; clear cm; clear bc; clear HB; have b7 := a6; have cm := ba; have cd := bb; have bc := bf; have HB := bz; clear a6 ba bb bf bz; (try clear hb); (try clear hb2); (try clear hk); (try clear hi); (try clear ho0)) | ((with_reducible refine aJ (N := 6) rfl ?_); refine aK ?hg (N := 6) ?hd (cs := #[.slice none 0 0]) (t := 30) ?hr ?_; (case hd => rfl); (case hg => rfl); (case hr => first | (go_simp; done) | (go_simp; rfl)); intro bB hg w31 hbox hb; have a6 := aM (ag (by (with_reducible repeat (first | apply ae | apply ac | apply aa)); exact b7.out) hb); have ba := aM (ag (by (with_reducible repeat (first | apply ae | apply ac | apply aa)); exact cm.out) hb); have bb := aM (ag (by (with_reducible repeat (first | apply ae | apply ac | apply aa)); exact cd.out) hb); have bf := aM (af (g := bo) (o := .cells #[.slice bj l0_0.length bk] 24 (0, 0)) z7 hb); have bz := aM (ay z18 hb); have bH := aM (hbox); have bI := aM ((by rw [hg]; exact (az z18) : w.heap.size ≤ bB)); have bZ := aM ((by rw [hg]; exact (az z18) : w.heap.size ≤ bB)); have b8 := aM ((by rw [hg]; exact aA (aw (g := bo) (o := .cells #[.slice bj l0_0.length bk] 24 (0, 0)) z7) : bo ≠ bB)); have cn := aM ((by rw [hg]; exact aC (aw (g := bo) (o := .cells #[.slice bj l0_0.length bk] 24 (0, 0)) z7) : bB ≠ bo)); clear b7; clear cm; clear cd; clear bc; clear HB; have b7 := a6; have cm := ba; have cd := bb; have bc := bf; have HB := bz; have bg := bH; have GW282 := bI; have dt := bZ; have cO := b8; have cV := cn; clear a6 ba bb bf bz bH bI bZ b8 cn; clear hb hbox hg; obtain ⟨bP, bL, eo32⟩ := Kd.R_slice cd.out; subst eo32; have hnb33 := cV.out; have hnc33 := cO.out; have fp : w31.cell? ⟨bB, 0, none⟩ = some (.slice none 0 0) := (bC bg.out 0).trans rfl; have fd := bF bg.out 0; have iS : w31.cell? ⟨bo, 0, none⟩ = some (.slice bj l0_0.length bk) := (bC bc.out 0).trans rfl; have ip := bF bc.out 0) | ((with_reducible refine aI (f := 8) rfl ?_); refine aN (some 36) rfl rfl Try.func8 z0 rfl #[.agg #[.slice bj l0_0.length bk]] rfl z12 ?_; (with_reducible refine (laws_toRope.calls k _ _ l0_0 bT _ ?side1 ?side2 A17.out).mono ?_); (case side1 => exact aD cI.out (by repeat (first | (with_reducible first | exact HB.out | apply bA | apply pD | apply bD | refine ax ?_ cW.out | refine ax ?_ dt.out) | exact HB.out))); (case side2 => exact cM.out); rintro e w36 ⟨v284, rfl, ho0, hb⟩; refine ⟨_, rfl, ?_⟩; have a6 := aM (aj (by (with_reducible repeat (first | apply ae | apply ac | apply aa)); exact (ah (am (p := ⟨bB, 0, none⟩) (ap b7.out bg.out (by decide)) (fun _ hk => hk.2) (.slice bP bE.length bL)) (fun _ h_ => h_.1))) (al ho0) hb); have ba := aM (ag (by (with_reducible repeat (first | apply ae | apply ac | apply aa)); exact (ah (am (p := ⟨bB, 0, none⟩) (ap cm.out bg.out (by decide)) (fun _ hk => hk.2) (.slice bP bE.length bL)) (fun _ h_ => h_.1))) hb); have bb := aM (aj (by (with_reducible repeat (first | apply ae | apply ac | apply aa)); exact (ah (am (p := ⟨bB, 0, none⟩) (ap cd.out bg.out (by decide)) (fun _ hk => hk.2) (.slice bP bE.length bL)) (fun _ h_ => h_.1))) (al ho0) hb); have bf := aM (aT (ak (ak ho0 (Kd.R_lt (by (with_reducible repeat (first | apply ae | apply ac | apply aa)); exact (ah (am (p := ⟨bB, 0, none⟩) (ap b7.out bg.out (by decide)) (fun _ hk => hk.2) (.slice bP bE.length bL)) (fun _ h_ => h_.1))))) (Kd.R_lt (by (with_reducible repeat (first | apply ae | apply ac | apply aa)); exact (ah (am (p := ⟨bB, 0, none⟩) (ap cd.out bg.out (by decide)) (fun _ hk => hk.2) (.slice bP bE.length bL)) (fun _ h_ => h_.1))))) (az (by repeat (first | (with_reducible first | exact HB.out | apply bA | apply pD | apply bD | refine ax ?_ cW.out | refine ax ?_ dt.out) | exact HB.out)))); have bz := aM (af (g := bo) (o := .cells #[.slice bj l0_0.length bk] 24 (0, 0)) (by (with_reducible repeat (first | refine ar ?_ _ | refine aq ?_ | refine au ?_ _)); refine blk_far ?_ cO.out _; (with_reducible repeat (first | refine ar ?_ _ | refine aq ?_ | refine au ?_ _)); exact bc.out) hb); have bH := aM (af (g := bB) (o := .cells #[.slice bP bE.length bL] 30 (0, 0)) (by (with_reducible repeat (first | refine ar ?_ _ | refine aq ?_ | refine au ?_ _)); refine av (cs := #[.slice none 0 0]) ?_ 0 _ rfl; (with_reducible repeat (first | refine ar ?_ _ | refine aq ?_ | refine au ?_ _)); exact bg.out) hb); have bI := aM (ay (by repeat (first | (with_reducible first | exact HB.out | apply bA | apply pD | apply bD | refine ax ?_ cW.out | refine ax ?_ dt.out) | exact HB.out)) hb); clear b7; clear cm; clear cd; clear bc; clear bg; clear HB; have b7 := a6; have cm := ba; have cd := bb; have cJ := bf; have bc := bz; have bg := bH; have HB := bI; clear a6 ba bb bf bz bH bI; (try clear hb); (try clear hb2); (try clear hk); (try clear hi); (try clear ho0)) | ((with_reducible refine aJ (N := 8) rfl ?_); refine aK ?hg (N := 8) ?hd (cs := #[.slice none 0 0]) (t := 30) ?hr ?_; (case hd => rfl); (case hg => rfl); (case hr => first | (go_simp; done) | (go_simp; rfl)); intro bJ hg w37 hbox hb; have a6 := aM (ag (by (with_reducible repeat (first | apply ae | apply ac | apply aa)); exact b7.out) hb); have ba := aM (ag (by (with_reducible repeat (first | apply ae | apply ac | apply aa)); exact cm.out) hb); have bb := aM (ag (by (with_reducible repeat (first | apply ae | apply ac | apply aa)); exact cd.out) hb); have bf := aM (ag (by (with_reducible repeat (first | apply ae | apply ac | apply aa)); exact cJ.out) hb); have bz := aM (af (g := bo) (o := .cells #[.slice bj l0_0.length bk] 24 (0, 0)) z7 hb); have bH := aM (af (g := bB) (o := .cells #[.slice bP bE.length bL] 30 (0, 0)) z8 hb); have bI := aM (ay (by repeat (first | (with_reducible first | exact HB.out | apply bA | apply pD | apply bD | refine ax ?_ cW.out | refine ax ?_ dt.out) | exact HB.out)) hb); have bZ := aM (hbox); have b8 := aM ((by rw [hg]; exact (az (by repeat (first | (with_reducible first | exact HB.out | apply bA | apply pD | apply bD | refine ax ?_ cW.out | refine ax ?_ dt.out) | exact HB.out))) : w.heap.size ≤ bJ)); have cn := aM ((by rw [hg]; exact (az (by repeat (first | (with_reducible first | exact HB.out | apply bA | apply pD | apply bD | refine ax ?_ cW.out | refine ax ?_ dt.out) | exact HB.out))) : w.heap.size ≤ bJ)); have cj := aM ((by rw [hg]; exact aA (aw (g := bo) (o := .cells #[.slice bj l0_0.length bk] 24 (0, 0)) z7) : bo ≠ bJ)); have fc := aM ((by rw [hg]; exact aC (aw (g := bo) (o := .cells #[.slice bj l0_0.length bk] 24 (0, 0)) z7) : bJ ≠ bo)); have jh := aM ((by rw [hg]; exact aA (aw (g := bB) (o := .cells #[.slice bP bE.length bL] 30 (0, 0)) z8) : bB ≠ bJ)); have jg := aM ((by rw [hg]; exact aC (aw (g := bB) (o := .cells #[.slice bP bE.length bL] 30 (0, 0)) z8) : bJ ≠ bB)); clear b7; clear cm; clear cd; clear cJ; clear bc; clear bg; clear HB; have b7 := a6; have cm := ba; have cd := bb; have cJ := bf; have bc := bz; have bg := bH; have HB := bI; have bi := bZ; have GW286 := b8; have eV := cn; have eO := cj; have fP := fc; have cN := jh; have cU := jg; clear a6 ba bb bf bz bH bI bZ b8 cn cj fc jh jg; clear hb hbox hg; obtain ⟨bN, bM, eo38⟩ := Kd.R_slice cJ.out; subst eo38; have hnb39 := fP.out; have hnc39 := eO.out; have hnb40 := cU.out; have hnc40 := cN.out; have iR : w37.cell? ⟨bJ, 0, none⟩ = some (.slice none 0 0) := (bC bi.out 0).trans rfl; have im := bF bi.out 0) | ((with_reducible refine aI (f := 9) rfl ?_); refine aN (some 38) rfl rfl Try.func9 z0 rfl #[.slice A1 l1.length c1] rfl z12 ?_; (with_reducible refine (laws_toPartS.calls k _ _ l1 dw _ ?side1 ?side2 A18.out).mono ?_); (case side1 => exact aD fH.out z19); (case side2 => exact di.out); rintro e w42 ⟨v288, rfl, ho0, hb⟩; refine ⟨_, rfl, ?_⟩; have a6 := aM (ag (by (with_reducible repeat (first | apply ae | apply ac | apply aa)); exact (ah (am (p := ⟨bJ, 0, none⟩) (ap b7.out bi.out (by decide)) (fun _ hk => hk.2) (.slice bN bT.length bM)) (fun _ h_ => h_.1))) hb); have ba := aM (aj (by (with_reducible repeat (first | apply ae | apply ac | apply aa)); exact (ah (am (p := ⟨bJ, 0, none⟩) (ap cm.out bi.out (by decide)) (fun _ hk => hk.2) (.slice bN bT.length bM)) (fun _ h_ => h_.1))) (al ho0) hb); have bb := aM (ag (by (with_reducible repeat (first | apply ae | apply ac | apply aa)); exact (ah (am (p := ⟨bJ, 0, none⟩) (ap cd.out bi.out (by decide)) (fun _ hk => hk.2) (.slice bN bT.length bM)) (fun _ h_ => h_.1))) hb); have bf := aM (ag (by (with_reducible repeat (first | apply ae | apply ac | apply aa)); exact (ah (am (p := ⟨bJ, 0, none⟩) (ap cJ.out bi.out (by decide)) (fun _ hk => hk.2) (.slice bN bT.length bM)) (fun _ h_ => h_.1))) hb); have bz := aM (aT (ak ho0 (Kd.R_lt (by (with_reducible repeat (first | apply ae | apply ac | apply aa)); exact (ah (am (p := ⟨bJ, 0, none⟩) (ap cm.out bi.out (by decide)) (fun _ hk => hk.2) (.slice bN bT.length bM)) (fun _ h_ => h_.1))))) (az z19)); have bH := aM (af (g := bo) (o := .cells #[.slice bj l0_0.length bk] 24 (0, 0)) (by (with_reducible repeat (first | refine ar ?_ _ | refine aq ?_ | refine au ?_ _)); refine blk_far ?_ eO.out _; (with_reducible repeat (first | refine ar ?_ _ | refine aq ?_ | refine au ?_ _)); exact bc.out) hb); have bI := aM (af (g := bB) (o := .cells #[.slice bP bE.length bL] 30 (0, 0)) (by (with_reducible repeat (first | refine ar ?_ _ | refine aq ?_ | refine au ?_ _)); refine blk_far ?_ cN.out _; (with_reducible repeat (first | refine ar ?_ _ | refine aq ?_ | refine au ?_ _)); exact bg.out) hb); have bZ := aM (af (g := bJ) (o := .cells #[.slice bN bT.length bM] 30 (0, 0)) (by (with_reducible repeat (first | refine ar ?_ _ | refine aq ?_ | refine au ?_ _)); refine av (cs := #[.slice none 0 0]) ?_ 0 _ rfl; (with_reducible repeat (first | refine ar ?_ _ | refine aq ?_ | refine au ?_ _)); exact bi.out) hb); have b8 := aM (ay z19 hb); clear b7; clear cm; clear cd; clear cJ; clear bc; clear bg; clear bi; clear HB; have b7 := a6; have cm := ba; have cd := bb; have cJ := bf; have dl := bz; have bc := bH; have bg := bI; have bi := bZ; have HB := b8; clear a6 ba bb bf bz bH bI bZ b8; (try clear hb); (try clear hb2); (try clear hk); (try clear hi); (try clear ho0); have iQ : w42.cell? ⟨bJ, 0, none⟩ = some (.slice bN bT.length bM) := (bC bi.out 0).trans rfl; have il := bF bi.out 0; obtain ⟨jc, jb, eo44⟩ := Kd.R_slice dl.out; subst eo44) | ((with_reducible refine aI (f := 10) rfl ?_); refine aN (some 42) rfl rfl Try.func10 z0 rfl #[.agg #[.slice bN bT.length bM], .slice jc dw.length jb] rfl z12 ?_; (with_reducible refine (impl_EditRope.calls k _ _ bT _ _ dw bq mb _ ?side1 ?side2 ?side3 ?side4 A19.out).mono ?_); (case side1 => repeat (first | exact (ai cJ.out).2.2 | (with_reducible refine aE ?_ _) | (with_reducible refine aG ?_ _) | (with_reducible refine aH ?_))); (case side2 => exact (ai cJ.out).2.1); (case side3 => repeat (first | exact (ai dl.out).2.2 | (with_reducible refine aE ?_ _) | (with_reducible refine aG ?_ _) | (with_reducible refine aH ?_))); (case side4 => exact (ai dl.out).2.1); rintro e w45 ⟨v291, rfl, ho0, hb⟩; refine ⟨_, rfl, ?_⟩; have a6 := aM (aj (by (with_reducible repeat (first | apply ae | apply ac | apply aa)); exact b7.out) (al ho0) hb); have ba := aM (ag (by (with_reducible repeat (first | apply ae | apply ac | apply aa)); exact cm.out) hb); have bb := aM (aj (by (with_reducible repeat (first | apply ae | apply ac | apply aa)); exact cd.out) (al ho0) hb); have bf := aM (aj (by (with_reducible repeat (first | apply ae | apply ac | apply aa)); exact cJ.out) (al ho0) hb); have bz := aM (ag (by (with_reducible repeat (first | apply ae | apply ac | apply aa)); exact dl.out) hb); have bH := aM (aT (ak (ak (ak ho0 (Kd.R_lt (by (with_reducible repeat (first | apply ae | apply ac | apply aa)); exact b7.out))) (Kd.R_lt (by (with_reducible repeat (first | apply ae | apply ac | apply aa)); exact cd.out))) (Kd.R_lt (by (with_reducible repeat (first | apply ae | apply ac | apply aa)); exact cJ.out))) (az z19)); have bI := aM (af (g := bo) (o := .cells #[.slice bj l0_0.length bk] 24 (0, 0)) z7 hb); have bZ := aM (af (g := bB) (o := .cells #[.slice bP bE.length bL] 30 (0, 0)) z8 hb); have b8 := aM (af (g := bJ) (o := .cells #[.slice bN bT.length bM] 30 (0, 0)) z9 hb); have cn := aM (ay z19 hb); clear b7; clear cm; clear cd; clear cJ; clear dl; clear bc; clear bg; clear bi; clear HB; have b7 := a6; have cm := ba; have cd := bb; have cJ := bf; have dl := bz; have dr := bH; have bc := bI; have bg := bZ; have bi := b8; have HB := cn; clear a6 ba bb bf bz bH bI bZ b8 cn; (try clear hb); (try clear hb2); (try clear hk); (try clear hi); (try clear ho0)) | ((with_reducible refine aJ (N := 10) rfl ?_); refine aK ?hg (N := 10) ?hd (cs := #[.slice none 0 0]) (t := 30) ?hr ?_; (case hd => rfl); (case hg => rfl); (case hr => first | (go_simp; done) | (go_simp; rfl)); intro br hg w46 hbox hb; have a6 := aM (ag (by (with_reducible repeat (first | apply ae | apply ac | apply aa)); exact b7.out) hb); have ba := aM (ag (by (with_reducible repeat (first | apply ae | apply ac | apply aa)); exact cm.out) hb); have bb := aM (ag (by (with_reducible repeat (first | apply ae | apply ac | apply aa)); exact cd.out) hb); have bf := aM (ag (by (with_reducible repeat (first | apply ae | apply ac | apply aa)); exact cJ.out) hb); have bz := aM (ag (by (with_reducible repeat (first | apply ae | apply ac | apply aa)); exact dl.out) hb); have bH := aM (ag (by (with_reducible repeat (first | apply ae | apply ac | apply aa)); exact dr.out) hb); have bI := aM (af (g := bo) (o := .cells #[.slice bj l0_0.length bk] 24 (0, 0)) z7 hb); have bZ := aM (af (g := bB) (o := .cells #[.slice bP bE.length bL] 30 (0, 0)) z8 hb); have b8 := aM (af (g := bJ) (o := .cells #[.slice bN bT.length bM] 30 (0, 0)) z9 hb); have cn := aM (ay z19 hb); have cj := aM (hbox); have fc := aM ((by rw [hg]; exact (az z19) : w.heap.size ≤ br)); have jh := aM ((by rw [hg]; exact (az z19) : w.heap.size ≤ br)); have jg := aM ((by rw [hg]; exact aA (aw (g := bo) (o := .cells #[.slice bj l0_0.length bk] 24 (0, 0)) z7) : bo ≠ br)); have lx := aM ((by rw [hg]; exact aC (aw (g := bo) (o := .cells #[.slice bj l0_0.length bk] 24 (0, 0)) z7) : br ≠ bo)); have lw := aM ((by rw [hg]; exact aA (aw (g := bB) (o := .cells #[.slice bP bE.length bL] 30 (0, 0)) z8) : bB ≠ br)); have lv := aM ((by rw [hg]; exact aC (aw (g := bB) (o := .cells #[.slice bP bE.length bL] 30 (0, 0)) z8) : br ≠ bB)); have lu := aM ((by rw [hg]; exact aA (aw (g := bJ) (o := .cells #[.slice bN bT.length bM] 30 (0, 0)) z9) : bJ ≠ br)); have ls := aM ((by rw [hg]; exact aC (aw (g := bJ) (o := .cells #[.slice bN bT.length bM] 30 (0, 0)) z9) : br ≠ bJ)); clear b7; clear cm; clear cd; clear cJ; clear dl; clear dr; clear bc; clear bg; clear bi; clear HB; have b7 := a6; have cm := ba; have cd := bb; have cJ := bf; have dl := bz; have dr := bH; have bc := bI; have bg := bZ; have bi := b8; have HB := cn; have bd := cj; have GW294 := fc; have eU := jh; have ci := jg; have cx := lx; have b6 := lw; have ch := lv; have cb := lu; have cr := ls; clear a6 ba bb bf bz bH bI bZ b8 cn cj fc jh jg lx lw lv lu ls; clear hb hbox hg; obtain ⟨bw, bu, eo47⟩ := Kd.R_slice dr.out; subst eo47; have hnb48 := cx.out; have hnc48 := ci.out; have hnb49 := ch.out; have hnc49 := b6.out; have hnb50 := cr.out; have hnc50 := cb.out; have ga : w46.cell? ⟨br, 0, none⟩ = some (.slice none 0 0) := (bC bd.out 0).trans rfl; have fX := bF bd.out 0))
   (try simp only [Act.put, sA, sB, sC])
   go_cut [53] (fun v53 wc => ∃ (kq : Nat) (x53_19 : Bool), v53 = .bool x53_19 ∧ Aside0 (laws_FnExactEditRope.j0 kq l1 kP dw mb x53_19 l0_0 bE bT bq = some r) ∧ Aside0 (kq ≤ k) ∧ Aside0 (Kd.R k59 59 wc w.heap.size (fun _ => True) (.slice jc dw.length jb) dw) ∧ Aside0 (Kd.R k101 101 wc w.heap.size (fun k_ => some k_ ≠ ((.slice bN bT.length bM) : Value).ownBlock ∧ some k_ ≠ ((.slice bw bq.length bu) : Value).ownBlock) (.slice bP bE.length bL) bE) ∧ Aside0 (Kd.R k101 101 wc w.heap.size (fun k_ => some k_ ≠ ((.slice bP bE.length bL) : Value).ownBlock ∧ some k_ ≠ ((.slice bw bq.length bu) : Value).ownBlock) (.slice bN bT.length bM) bT) ∧ Aside0 (Kd.R k101 101 wc w.heap.size (fun k_ => some k_ ≠ ((.slice bP bE.length bL) : Value).ownBlock ∧ some k_ ≠ ((.slice bN bT.length bM) : Value).ownBlock) (.slice bw bq.length bu) bq) ∧ Aside0 (wc.heap[bo]? = some (.cells #[(.slice bj l0_0.length bk)] 24 (0, 0))) ∧ Aside0 (wc.heap[bB]? = some (.cells #[(.slice bP bE.length bL)] 30 (0, 0))) ∧ Aside0 (wc.heap[bJ]? = some (.cells #[(.slice bN bT.length bM)] 30 (0, 0))) ∧ Aside0 (wc.heap[br]? = some (.cells #[(.slice bw bq.length bu)] 30 (0, 0))) ∧ Aside0 (Below w.heap.size w wc))
   case first =>
    have H := nn.out
    clear nn
    replace H := oB H
    obtain ⟨k7, oa, H⟩ := H
    try dsimp only at H
    have oY := aM oa
    clear oa
    by_cases m8 : k7 = true
    ·subst m8
     rw [if_pos rfl] at H
     have H' := aM H
     clear H
     have hnb54 := cx.out
     have hnc54 := ci.out
     have hnb55 := ch.out
     have hnc55 := b6.out
     have hnb56 := cr.out
     have hnc56 := cb.out
     have iP : w46.cell? ⟨br, 0, none⟩ = some (.slice none 0 0) := (bC bd.out 0).trans rfl
     have ik := bF bd.out 0
     have hnb58 := cV.out
     have hnc58 := cO.out
     have hnb59 := cN.out
     have hnc59 := cU.out
     have iO : w46.cell? ⟨bB, 0, none⟩ = some (.slice bP bE.length bL) := (bC bg.out 0).trans rfl
     have ij := bF bg.out 0
     go_wp2_with (first | ((with_reducible refine aI (f := 11) rfl ?_); refine aN (some 47) rfl rfl Try.func11 z0 rfl #[.agg #[.slice bw bq.length bu], .agg #[.slice bP bE.length bL]] rfl z12 ?_; (with_reducible refine (laws_eqRope.calls k _ _ bq _ _ bE true _ ?side1 ?side2 ?side3 ?side4 oY.out).mono ?_); (case side1 => refine (ai (e := 101) (base := w.heap.size) (ok := fun k_ => (((True ∧ some k_ ≠ (.slice lV gq.length lC : Value).ownBlock) ∧ some k_ ≠ (.slice bP bE.length bL : Value).ownBlock) ∧ some k_ ≠ (.slice bN bT.length bM : Value).ownBlock)) (n := bq.length) (c := bu) ?_).2.2; exact (by (with_reducible repeat (first | apply ae | apply ac | apply aa)); exact (ah (am (p := ⟨br, 0, none⟩) (ap dr.out bd.out (by decide)) (fun _ hk => hk.2) (.slice bw bq.length bu)) (fun _ h_ => h_.1)))); (case side2 => exact (ai dr.out).2.1); (case side3 => refine (ai (e := 101) (base := w.heap.size) (ok := fun k_ => (((True ∧ some k_ ≠ (.slice lV gq.length lC : Value).ownBlock) ∧ some k_ ≠ (.slice bN bT.length bM : Value).ownBlock) ∧ some k_ ≠ (.slice bw bq.length bu : Value).ownBlock)) (n := bE.length) (c := bL) ?_).2.2; exact (by (with_reducible repeat (first | apply ae | apply ac | apply aa)); exact (ah (am (p := ⟨br, 0, none⟩) (ap cd.out bd.out (by decide)) (fun _ hk => hk.2) (.slice bw bq.length bu)) (fun _ h_ => h_.1)))); (case side4 => exact (ai cd.out).2.1); rintro e w61 ⟨rfl, hb⟩; refine ⟨_, rfl, ?_⟩; have a6 := aM (ag (by (with_reducible repeat (first | apply ae | apply ac | apply aa)); exact (ah (am (p := ⟨br, 0, none⟩) (ap b7.out bd.out (by decide)) (fun _ hk => hk.2) (.slice bw bq.length bu)) (fun _ h_ => h_.1))) hb); have ba := aM (ag (by (with_reducible repeat (first | apply ae | apply ac | apply aa)); exact (ah (am (p := ⟨br, 0, none⟩) (ap cm.out bd.out (by decide)) (fun _ hk => hk.2) (.slice bw bq.length bu)) (fun _ h_ => h_.1))) hb); have bb := aM (ag (by (with_reducible repeat (first | apply ae | apply ac | apply aa)); exact (ah (am (p := ⟨br, 0, none⟩) (ap cd.out bd.out (by decide)) (fun _ hk => hk.2) (.slice bw bq.length bu)) (fun _ h_ => h_.1))) hb); have bf := aM (ag (by (with_reducible repeat (first | apply ae | apply ac | apply aa)); exact (ah (am (p := ⟨br, 0, none⟩) (ap cJ.out bd.out (by decide)) (fun _ hk => hk.2) (.slice bw bq.length bu)) (fun _ h_ => h_.1))) hb); have bz := aM (ag (by (with_reducible repeat (first | apply ae | apply ac | apply aa)); exact (ah (am (p := ⟨br, 0, none⟩) (ap dl.out bd.out (by decide)) (fun _ hk => hk.2) (.slice bw bq.length bu)) (fun _ h_ => h_.1))) hb); have bH := aM (ag (by (with_reducible repeat (first | apply ae | apply ac | apply aa)); exact (ah (am (p := ⟨br, 0, none⟩) (ap dr.out bd.out (by decide)) (fun _ hk => hk.2) (.slice bw bq.length bu)) (fun _ h_ => h_.1))) hb); have bI := aM (af (g := bo) (o := .cells #[.slice bj l0_0.length bk] 24 (0, 0)) (by (with_reducible repeat (first | refine ar ?_ _ | refine aq ?_ | refine au ?_ _)); refine blk_far ?_ ci.out _; (with_reducible repeat (first | refine ar ?_ _ | refine aq ?_ | refine au ?_ _)); exact bc.out) hb); have bZ := aM (af (g := bB) (o := .cells #[.slice bP bE.length bL] 30 (0, 0)) (by (with_reducible repeat (first | refine ar ?_ _ | refine aq ?_ | refine au ?_ _)); refine blk_far ?_ b6.out _; (with_reducible repeat (first | refine ar ?_ _ | refine aq ?_ | refine au ?_ _)); exact bg.out) hb); have b8 := aM (af (g := bJ) (o := .cells #[.slice bN bT.length bM] 30 (0, 0)) (by (with_reducible repeat (first | refine ar ?_ _ | refine aq ?_ | refine au ?_ _)); refine blk_far ?_ cb.out _; (with_reducible repeat (first | refine ar ?_ _ | refine aq ?_ | refine au ?_ _)); exact bi.out) hb); have cn := aM (af (g := br) (o := .cells #[.slice bw bq.length bu] 30 (0, 0)) (by (with_reducible repeat (first | refine ar ?_ _ | refine aq ?_ | refine au ?_ _)); refine av (cs := #[.slice none 0 0]) ?_ 0 _ rfl; (with_reducible repeat (first | refine ar ?_ _ | refine aq ?_ | refine au ?_ _)); exact bd.out) hb); have cj := aM (ay z20 hb); clear b7; clear cm; clear cd; clear cJ; clear dl; clear dr; clear bc; clear bg; clear bi; clear bd; clear HB; have b7 := a6; have cm := ba; have cd := bb; have cJ := bf; have dl := bz; have dr := bH; have bc := bI; have bg := bZ; have bi := b8; have bd := cn; have HB := cj; clear a6 ba bb bf bz bH bI bZ b8 cn cj; (try clear hb); (try clear hb2); (try clear hk); (try clear hi)))
     go_meet
     case rel => exact ⟨_, ((mb != kP)), z1, H', ⟨by first | omega | exact Nat.le_refl _⟩, ⟨by (with_reducible repeat (first | apply ae | apply ac | apply aa)); exact ah dl.out (fun _ hk => trivial)⟩, ⟨by (with_reducible repeat (first | apply ae | apply ac | apply aa)); exact ah cd.out (fun _ hk => ⟨hk.1.2, hk.2⟩)⟩, ⟨by (with_reducible repeat (first | apply ae | apply ac | apply aa)); exact ah cJ.out (fun _ hk => ⟨hk.1.2, hk.2⟩)⟩, ⟨by (with_reducible repeat (first | apply ae | apply ac | apply aa)); exact ah dr.out (fun _ hk => ⟨hk.1.2, hk.2⟩)⟩, ⟨y6⟩, ⟨y7⟩, ⟨y8⟩, ⟨y9⟩, ⟨y22⟩⟩
    ·replace m8 := Bool.eq_false_iff.mpr m8
     subst m8
     rw [if_neg (show ¬ (false = true) by decide)] at H
     have H' := aM H
     clear H
     have hnb62 := cx.out
     have hnc62 := ci.out
     have hnb63 := ch.out
     have hnc63 := b6.out
     have hnb64 := cr.out
     have hnc64 := cb.out
     have iN : w46.cell? ⟨br, 0, none⟩ = some (.slice none 0 0) := (bC bd.out 0).trans rfl
     have ii := bF bd.out 0
     have hnb66 := cV.out
     have hnc66 := cO.out
     have hnb67 := cN.out
     have hnc67 := cU.out
     have iM : w46.cell? ⟨bB, 0, none⟩ = some (.slice bP bE.length bL) := (bC bg.out 0).trans rfl
     have ig := bF bg.out 0
     go_wp2_with (first | ((with_reducible refine aI (f := 11) rfl ?_); refine aN (some 47) rfl rfl Try.func11 z0 rfl #[.agg #[.slice bw bq.length bu], .agg #[.slice bP bE.length bL]] rfl z12 ?_; (with_reducible refine (laws_eqRope.calls k _ _ bq _ _ bE false _ ?side1 ?side2 ?side3 ?side4 oY.out).mono ?_); (case side1 => refine (ai (e := 101) (base := w.heap.size) (ok := fun k_ => (((True ∧ some k_ ≠ (.slice lV gq.length lC : Value).ownBlock) ∧ some k_ ≠ (.slice bP bE.length bL : Value).ownBlock) ∧ some k_ ≠ (.slice bN bT.length bM : Value).ownBlock)) (n := bq.length) (c := bu) ?_).2.2; exact (by (with_reducible repeat (first | apply ae | apply ac | apply aa)); exact (ah (am (p := ⟨br, 0, none⟩) (ap dr.out bd.out (by decide)) (fun _ hk => hk.2) (.slice bw bq.length bu)) (fun _ h_ => h_.1)))); (case side2 => exact (ai dr.out).2.1); (case side3 => refine (ai (e := 101) (base := w.heap.size) (ok := fun k_ => (((True ∧ some k_ ≠ (.slice lV gq.length lC : Value).ownBlock) ∧ some k_ ≠ (.slice bN bT.length bM : Value).ownBlock) ∧ some k_ ≠ (.slice bw bq.length bu : Value).ownBlock)) (n := bE.length) (c := bL) ?_).2.2; exact (by (with_reducible repeat (first | apply ae | apply ac | apply aa)); exact (ah (am (p := ⟨br, 0, none⟩) (ap cd.out bd.out (by decide)) (fun _ hk => hk.2) (.slice bw bq.length bu)) (fun _ h_ => h_.1)))); (case side4 => exact (ai cd.out).2.1); rintro e w69 ⟨rfl, hb⟩; refine ⟨_, rfl, ?_⟩; have a6 := aM (ag (by (with_reducible repeat (first | apply ae | apply ac | apply aa)); exact (ah (am (p := ⟨br, 0, none⟩) (ap b7.out bd.out (by decide)) (fun _ hk => hk.2) (.slice bw bq.length bu)) (fun _ h_ => h_.1))) hb); have ba := aM (ag (by (with_reducible repeat (first | apply ae | apply ac | apply aa)); exact (ah (am (p := ⟨br, 0, none⟩) (ap cm.out bd.out (by decide)) (fun _ hk => hk.2) (.slice bw bq.length bu)) (fun _ h_ => h_.1))) hb); have bb := aM (ag (by (with_reducible repeat (first | apply ae | apply ac | apply aa)); exact (ah (am (p := ⟨br, 0, none⟩) (ap cd.out bd.out (by decide)) (fun _ hk => hk.2) (.slice bw bq.length bu)) (fun _ h_ => h_.1))) hb); have bf := aM (ag (by (with_reducible repeat (first | apply ae | apply ac | apply aa)); exact (ah (am (p := ⟨br, 0, none⟩) (ap cJ.out bd.out (by decide)) (fun _ hk => hk.2) (.slice bw bq.length bu)) (fun _ h_ => h_.1))) hb); have bz := aM (ag (by (with_reducible repeat (first | apply ae | apply ac | apply aa)); exact (ah (am (p := ⟨br, 0, none⟩) (ap dl.out bd.out (by decide)) (fun _ hk => hk.2) (.slice bw bq.length bu)) (fun _ h_ => h_.1))) hb); have bH := aM (ag (by (with_reducible repeat (first | apply ae | apply ac | apply aa)); exact (ah (am (p := ⟨br, 0, none⟩) (ap dr.out bd.out (by decide)) (fun _ hk => hk.2) (.slice bw bq.length bu)) (fun _ h_ => h_.1))) hb); have bI := aM (af (g := bo) (o := .cells #[.slice bj l0_0.length bk] 24 (0, 0)) (by (with_reducible repeat (first | refine ar ?_ _ | refine aq ?_ | refine au ?_ _)); refine blk_far ?_ ci.out _; (with_reducible repeat (first | refine ar ?_ _ | refine aq ?_ | refine au ?_ _)); exact bc.out) hb); have bZ := aM (af (g := bB) (o := .cells #[.slice bP bE.length bL] 30 (0, 0)) (by (with_reducible repeat (first | refine ar ?_ _ | refine aq ?_ | refine au ?_ _)); refine blk_far ?_ b6.out _; (with_reducible repeat (first | refine ar ?_ _ | refine aq ?_ | refine au ?_ _)); exact bg.out) hb); have b8 := aM (af (g := bJ) (o := .cells #[.slice bN bT.length bM] 30 (0, 0)) (by (with_reducible repeat (first | refine ar ?_ _ | refine aq ?_ | refine au ?_ _)); refine blk_far ?_ cb.out _; (with_reducible repeat (first | refine ar ?_ _ | refine aq ?_ | refine au ?_ _)); exact bi.out) hb); have cn := aM (af (g := br) (o := .cells #[.slice bw bq.length bu] 30 (0, 0)) (by (with_reducible repeat (first | refine ar ?_ _ | refine aq ?_ | refine au ?_ _)); refine av (cs := #[.slice none 0 0]) ?_ 0 _ rfl; (with_reducible repeat (first | refine ar ?_ _ | refine aq ?_ | refine au ?_ _)); exact bd.out) hb); have cj := aM (ay z20 hb); clear b7; clear cm; clear cd; clear cJ; clear dl; clear dr; clear bc; clear bg; clear bi; clear bd; clear HB; have b7 := a6; have cm := ba; have cd := bb; have cJ := bf; have dl := bz; have dr := bH; have bc := bI; have bg := bZ; have bi := b8; have bd := cn; have HB := cj; clear a6 ba bb bf bz bH bI bZ b8 cn cj; (try clear hb); (try clear hb2); (try clear hk); (try clear hi)))
     go_meet
     case rel => exact ⟨_, (true), z1, H', ⟨by first | omega | exact Nat.le_refl _⟩, ⟨by (with_reducible repeat (first | apply ae | apply ac | apply aa)); exact ah dl.out (fun _ hk => trivial)⟩, ⟨by (with_reducible repeat (first | apply ae | apply ac | apply aa)); exact ah cd.out (fun _ hk => ⟨hk.1.2, hk.2⟩)⟩, ⟨by (with_reducible repeat (first | apply ae | apply ac | apply aa)); exact ah cJ.out (fun _ hk => ⟨hk.1.2, hk.2⟩)⟩, ⟨by (with_reducible repeat (first | apply ae | apply ac | apply aa)); exact ah dr.out (fun _ hk => ⟨hk.1.2, hk.2⟩)⟩, ⟨y6⟩, ⟨y7⟩, ⟨y8⟩, ⟨y9⟩, ⟨y22⟩⟩
   case rest =>
    clear nn
    try clear c1
    try clear p2
    try clear c3
    try clear c4
    try clear c4b0
    try clear c5
    try clear c6
    try clear c7
    try clear c8
    try clear c9
    try clear c9b0
    try clear cL
    try clear dH
    try clear l8
    try clear nb
    try clear me
    try clear l7
    try clear l6
    try clear oS
    try clear m8
    try clear oR
    try clear oQ
    try clear oP
    try clear oO
    try clear oN
    try clear oM
    try clear oL
    try clear oK
    try clear oJ
    try clear oI
    try clear ed
    try clear dy
    try clear fq
    try clear fp
    try clear iS
    try clear iR
    try clear iQ
    try clear ga
    try clear iP
    try clear iO
    try clear iN
    try clear iM
    try clear dL
    try clear d6
    try clear dx
    try clear fe
    try clear fd
    try clear ip
    try clear im
    try clear il
    try clear fX
    try clear ik
    try clear ij
    try clear ii
    try clear ig
    try clear dK
    obtain ⟨kq, x53_19, rfl, HA, lL, bU, a9, a7, a5, bc, bg, bi, bd, HB⟩ := hcut
    cases kq with
    | zero => exact absurd HA.out (by simp [laws_FnExactEditRope.j0])
    | succ kj19 =>
     have H := HA.out
     clear HA
     simp only [laws_FnExactEditRope.j0] at H
     by_cases ny : x53_19 = true
     ·subst ny
      rw [if_pos rfl] at H
      first | (cases H.trans (congrArg some HRT.out); done) | skip
      all_goals
       obtain rfl := sI H
       go_wp2
       go_ret
       exact ⟨y3, y22⟩
     ·replace ny := Bool.eq_false_iff.mpr ny
      subst ny
      rw [if_neg (show ¬ (false = true) by decide)] at H
      replace H := oB H
      obtain ⟨eQ, n9, H⟩ := H
      try dsimp only at H
      have oF := aM n9
      clear n9
      replace H := oB H
      obtain ⟨mQ, n8, H⟩ := H
      try dsimp only at H
      have oE := aM n8
      clear n8
      by_cases nx : mQ = true
      ·subst nx
       rw [if_pos rfl] at H
       replace H := oB H
       obtain ⟨hO, n0, H⟩ := H
       try dsimp only at H
       have oX := aM n0
       clear n0
       replace H := oB H
       obtain ⟨mP, nZ, H⟩ := H
       try dsimp only at H
       have oW := aM nZ
       clear nZ
       by_cases nw : mP = true
       ·subst nw
        rw [if_pos rfl] at H
        replace H := oB H
        obtain ⟨⟨mO, da⟩, nY, H⟩ := H
        try dsimp only at H
        have A77 := aM nY
        clear nY
        replace H := oB H
        obtain ⟨⟨ma, t307⟩, nX, H⟩ := H
        try dsimp only at H
        have A78 := aM nX
        clear nX
        have ni := aM H
        clear H
        try go_wp2
        have a6 := aM (aa bU.out)
        have ba := aM (aa a9.out)
        have bb := aM (aa a7.out)
        have bf := aM (aa a5.out)
        have bz := aM (aq bc.out)
        have bH := aM (aq bg.out)
        have bI := aM (aq bi.out)
        have bZ := aM (aq bd.out)
        have b8 := aM (bD HB.out)
        clear bU
        clear a9
        clear a7
        clear a5
        clear bc
        clear bg
        clear bi
        clear bd
        clear HB
        have bU := a6
        have a9 := ba
        have a7 := bb
        have a5 := bf
        have bc := bz
        have bg := bH
        have bi := bI
        have bd := bZ
        have HB := b8
        clear a6 ba bb bf bz bH bI bZ b8
        refine start_ (n := 5) (S := fun w' => w'.cell? ⟨bJ, 0, none⟩ = some (.slice bN bT.length bM) ∧ w'.cell? ⟨bo, 0, none⟩ = some (.slice bj l0_0.length bk)) (ds := []) #[false, false, false, false, false] z0 rfl rfl ⟨(bC bi.out 0).trans rfl, (bC bc.out 0).trans rfl⟩ (fun hHeld => ?_)
        generalize wc.drew = w80 at bU a9 a7 a5 bc bg bi bd HB hHeld ⊢
        refine tA 0 54 ?_ (hy := by rintro w' ⟨s0, s1⟩; go_simp; with_reducible rfl)
        refine tA 1 55 ?_ (hy := by rintro w' ⟨s0, s1⟩; go_simp; with_reducible rfl)
        refine one_ (i := 2) (N := some 56) #[true, true, true, false, false] rfl rfl z0 (by decide) (fun K hK => ?_)
        refine goes_ Try.func8 z0 rfl #[.agg #[.slice bj l0_0.length bk]] (by rfl) rfl rfl z12 ?_
        with_reducible refine (laws_toRope.calls kj19 _ _ l0_0 eQ _ ?side1 ?side2 oF.out).mono ?_
        (case side1 => repeat (first | exact (aD cI.out HB.out) | (with_reducible refine aE ?_ _) | (with_reducible refine aG ?_ _) | (with_reducible refine aH ?_)))
        (case side2 => exact cM.out)
        rintro e w81 ⟨v297, rfl, ho0, hb⟩
        refine ⟨_, rfl, ?_⟩
        have a6 := aM (ag (by (with_reducible repeat (first | apply ae | apply ac | apply aa)); exact bU.out) hb)
        have ba := aM (aj z3 (al ho0) hb)
        have bb := aM (aj z4 (al ho0) hb)
        have bf := aM (aj z5 (al ho0) hb)
        have bz := aM (aT (ak (ak (ak ho0 (Kd.R_lt z3)) (Kd.R_lt z4)) (Kd.R_lt z5)) (az z20))
        have bH := aM (af (g := bo) (o := .cells #[.slice bj l0_0.length bk] 24 (0, 0)) z7 hb)
        have bI := aM (af (g := bB) (o := .cells #[.slice bP bE.length bL] 30 (0, 0)) z8 hb)
        have bZ := aM (af (g := bJ) (o := .cells #[.slice bN bT.length bM] 30 (0, 0)) z9 hb)
        have b8 := aM (af (g := br) (o := .cells #[.slice bw bq.length bu] 30 (0, 0)) z10 hb)
        have cn := aM (ay z20 hb)
        clear bU
        clear a9
        clear a7
        clear a5
        clear bc
        clear bg
        clear bi
        clear bd
        clear HB
        have bU := a6
        have a9 := ba
        have a7 := bb
        have a5 := bf
        have bW := bz
        have bc := bH
        have bg := bI
        have bi := bZ
        have bd := b8
        have HB := cn
        clear a6 ba bb bf bz bH bI bZ b8 cn
        (try clear hb)
        (try clear hb2)
        (try clear hk)
        (try clear hi)
        (try clear ho0)
        obtain ⟨k4, kY, eo82⟩ := Kd.R_slice bW.out
        (first | subst eo82 | (injection eo82 with f1_ f2_ f3_; have f4_ := f1_.symm; have f5_ := f3_.symm; clear f1_ f2_ f3_; subst f4_; subst f5_))
        refine hK.out _ _ ⟨(bC bi.out 0).trans rfl, (bC bc.out 0).trans rfl⟩ (fun hHeld => ?_)
        clear hK K
        refine norm_ (a' := ?_) ?_ ?_
        rotate_left
        ·show Act.put _ (some 56) _ = _
         simp only [Act.put, sA, sB, sC, i64_w, i32_w]
         rfl
        refine one_ (i := 3) (N := some 57) #[true, true, true, true, false] rfl rfl z0 (by decide) (fun K hK => ?_)
        refine goes_ Try.func11 z0 rfl #[.agg #[.slice bN bT.length bM], .agg #[.slice k4 eQ.length kY]] (by rfl) rfl rfl z12 ?_
        with_reducible refine (laws_eqRope.calls kj19 _ _ bT _ _ eQ true _ ?side1 ?side2 ?side3 ?side4 oE.out).mono ?_
        (case side1 => repeat (first | exact (ai a7.out).2.2 | (with_reducible refine aE ?_ _) | (with_reducible refine aG ?_ _) | (with_reducible refine aH ?_)))
        (case side2 => exact (ai a7.out).2.1)
        (case side3 => repeat (first | exact (ai bW.out).2.2 | (with_reducible refine aE ?_ _) | (with_reducible refine aG ?_ _) | (with_reducible refine aH ?_)))
        (case side4 => exact (ai bW.out).2.1)
        rintro e w83 ⟨rfl, hb⟩
        refine ⟨_, rfl, ?_⟩
        have a6 := aM (ag (by (with_reducible repeat (first | apply ae | apply ac | apply aa)); exact bU.out) hb)
        have ba := aM (ag z3 hb)
        have bb := aM (ag z4 hb)
        have bf := aM (ag z5 hb)
        have bz := aM (ag (by (with_reducible repeat (first | apply ae | apply ac | apply aa)); exact bW.out) hb)
        have bH := aM (af (g := bo) (o := .cells #[.slice bj l0_0.length bk] 24 (0, 0)) z7 hb)
        have bI := aM (af (g := bB) (o := .cells #[.slice bP bE.length bL] 30 (0, 0)) z8 hb)
        have bZ := aM (af (g := bJ) (o := .cells #[.slice bN bT.length bM] 30 (0, 0)) z9 hb)
        have b8 := aM (af (g := br) (o := .cells #[.slice bw bq.length bu] 30 (0, 0)) z10 hb)
        have cn := aM (ay z20 hb)
        clear bU
        clear a9
        clear a7
        clear a5
        clear bW
        clear bc
        clear bg
        clear bi
        clear bd
        clear HB
        have bU := a6
        have a9 := ba
        have a7 := bb
        have a5 := bf
        have bW := bz
        have bc := bH
        have bg := bI
        have bi := bZ
        have bd := b8
        have HB := cn
        clear a6 ba bb bf bz bH bI bZ b8 cn
        (try clear hb)
        (try clear hb2)
        (try clear hk)
        (try clear hi)
        refine hK.out _ _ ⟨(bC bi.out 0).trans rfl, (bC bc.out 0).trans rfl⟩ (fun hHeld => ?_)
        clear hK K
        refine norm_ (a' := ?_) ?_ ?_
        rotate_left
        ·show Act.put _ (some 57) _ = _
         simp only [Act.put, sA, sB, sC, i64_w, i32_w]
         rfl
        refine pA 4 58 ?_
        refine done_ z0 ?_
        go_upto_region 21 with (first | ((with_reducible refine aI (f := 9) rfl ?_); refine aN (some 61) rfl rfl Try.func9 z0 rfl #[.slice A1 l1.length c1] rfl z12 ?_; (with_reducible refine (laws_toPartS.calls kj19 _ _ l1 hO _ ?side1 ?side2 oX.out).mono ?_); (case side1 => repeat (first | exact (aD fH.out HB.out) | (with_reducible refine aE ?_ _) | (with_reducible refine aG ?_ _) | (with_reducible refine aH ?_))); (case side2 => exact di.out); rintro e w84 ⟨v301, rfl, ho0, hb⟩; refine ⟨_, rfl, ?_⟩; have a6 := aM (aj (by (with_reducible repeat (first | apply ae | apply ac | apply aa)); exact bU.out) (al ho0) hb); have ba := aM (ag z3 hb); have bb := aM (ag z4 hb); have bf := aM (ag z5 hb); have bz := aM (ag (by (with_reducible repeat (first | apply ae | apply ac | apply aa)); exact bW.out) hb); have bH := aM (aT (ak ho0 (Kd.R_lt (by (with_reducible repeat (first | apply ae | apply ac | apply aa)); exact bU.out))) (az z20)); have bI := aM (af (g := bo) (o := .cells #[.slice bj l0_0.length bk] 24 (0, 0)) z7 hb); have bZ := aM (af (g := bB) (o := .cells #[.slice bP bE.length bL] 30 (0, 0)) z8 hb); have b8 := aM (af (g := bJ) (o := .cells #[.slice bN bT.length bM] 30 (0, 0)) z9 hb); have cn := aM (af (g := br) (o := .cells #[.slice bw bq.length bu] 30 (0, 0)) z10 hb); have cj := aM (ay z20 hb); clear bU; clear a9; clear a7; clear a5; clear bW; clear bc; clear bg; clear bi; clear bd; clear HB; have bU := a6; have a9 := ba; have a7 := bb; have a5 := bf; have bW := bz; have cG := bH; have bc := bI; have bg := bZ; have bi := b8; have bd := cn; have HB := cj; clear a6 ba bb bf bz bH bI bZ b8 cn cj; (try clear hb); (try clear hb2); (try clear hk); (try clear hi); (try clear ho0); obtain ⟨nU, nO, eo85⟩ := Kd.R_slice cG.out; subst eo85) | ((with_reducible refine aI (f := 12) rfl ?_); refine aN (some 62) rfl rfl Try.func12 z0 rfl #[.slice jc dw.length jb, .slice nU hO.length nO] rfl z12 ?_; (with_reducible refine (laws_eqPartS.calls kj19 _ _ dw _ _ hO true _ ?side1 ?side2 ?side3 ?side4 oW.out).mono ?_); (case side1 => repeat (first | exact (ai bU.out).2.2 | (with_reducible refine aE ?_ _) | (with_reducible refine aG ?_ _) | (with_reducible refine aH ?_))); (case side2 => exact (ai bU.out).2.1); (case side3 => repeat (first | exact (ai cG.out).2.2 | (with_reducible refine aE ?_ _) | (with_reducible refine aG ?_ _) | (with_reducible refine aH ?_))); (case side4 => exact (ai cG.out).2.1); rintro e w86 ⟨rfl, hb⟩; refine ⟨_, rfl, ?_⟩; have a6 := aM (ag (by (with_reducible repeat (first | apply ae | apply ac | apply aa)); exact bU.out) hb); have ba := aM (ag z3 hb); have bb := aM (ag z4 hb); have bf := aM (ag z5 hb); have bz := aM (ag (by (with_reducible repeat (first | apply ae | apply ac | apply aa)); exact bW.out) hb); have bH := aM (ag (by (with_reducible repeat (first | apply ae | apply ac | apply aa)); exact cG.out) hb); have bI := aM (af (g := bo) (o := .cells #[.slice bj l0_0.length bk] 24 (0, 0)) z7 hb); have bZ := aM (af (g := bB) (o := .cells #[.slice bP bE.length bL] 30 (0, 0)) z8 hb); have b8 := aM (af (g := bJ) (o := .cells #[.slice bN bT.length bM] 30 (0, 0)) z9 hb); have cn := aM (af (g := br) (o := .cells #[.slice bw bq.length bu] 30 (0, 0)) z10 hb); have cj := aM (ay z20 hb); clear bU; clear a9; clear a7; clear a5; clear bW; clear cG; clear bc; clear bg; clear bi; clear bd; clear HB; have bU := a6; have a9 := ba; have a7 := bb; have a5 := bf; have bW := bz; have cG := bH; have bc := bI; have bg := bZ; have bi := b8; have bd := cn; have HB := cj; clear a6 ba bb bf bz bH bI bZ b8 cn cj; (try clear hb); (try clear hb2); (try clear hk); (try clear hi); have hnb87 := fP.out; have hnc87 := eO.out; have hnb88 := cU.out; have hnc88 := cN.out; have hnb89 := cb.out; have hnc89 := cr.out; have ko : w86.cell? ⟨bJ, 0, none⟩ = some (.slice bN bT.length bM) := (bC bi.out 0).trans rfl; have jX := bF bi.out 0) | ((with_reducible refine aI (f := 13) rfl ?_); refine aN (some 66) rfl rfl Try.func13 z0 rfl #[.agg #[.slice bN bT.length bM], .int .i64 1] rfl z12 ?_; (with_reducible refine (laws_markRope.calls kj19 (fun k_ => some k_ = (.slice bN bT.length bM : Value).ownBlock) (.slice bN bT.length bM) bT 1 mO da w _ ?side1 ?side2 A77.out).mono ?_); (case side1 => repeat (first | (with_reducible first | exact HB.out | apply bA | apply pD | apply bD | refine ax ?_ cW.out | refine ax ?_ dt.out | refine ax ?_ eV.out | refine ax ?_ eU.out) | exact HB.out)); (case side2 => exact Kd.R_tight rfl a7.out); rintro e w91 ⟨rfl, hy0, hb, hkp⟩; refine ⟨_, rfl, ?_⟩; have a6 := aM (ah (ok' := fun k_ => some k_ ≠ (.slice nU hO.length nO : Value).ownBlock) (Kd.R_keptB ((Kd.R_apart' bU.out (Kd.R_typed a7.out) (by decide))) hkp (fun k_ hk_ hs_ => (hk_.2) hs_)) (fun k_ hk_ => hk_.1.1.2)); have ba := aM (ah (ok' := fun k_ => some k_ ≠ (.slice bN bT.length bM : Value).ownBlock ∧ some k_ ≠ (.slice bw bq.length bu : Value).ownBlock ∧ some k_ ≠ (.slice k4 eQ.length kY : Value).ownBlock) (Kd.R_keptB (a9.out) hkp (fun k_ hk_ hs_ => (hk_.1.1) hs_)) (fun k_ hk_ => ⟨hk_.1.1.1, hk_.1.1.2, hk_.1.2⟩)); have bb := aM (Kd.R_reok rfl hy0 (fun k_ e_ => a7.out.1 k_ e_)); have bf := aM (ah (ok' := fun k_ => some k_ ≠ (.slice bP bE.length bL : Value).ownBlock ∧ some k_ ≠ (.slice bN bT.length bM : Value).ownBlock ∧ some k_ ≠ (.slice k4 eQ.length kY : Value).ownBlock) (Kd.R_keptB (a5.out) hkp (fun k_ hk_ hs_ => (hk_.1.2) hs_)) (fun k_ hk_ => ⟨hk_.1.1.1, hk_.1.1.2, hk_.1.2⟩)); have bz := aM (blk_kept z7 hkp (fun hs_ => (fun e_ => (Kd.R_ne a7.out bc.out (by decide)) e_) hs_)); have bH := aM (blk_kept z8 hkp (fun hs_ => (fun e_ => (Kd.R_ne a7.out bg.out (by decide)) e_) hs_)); have bI := aM (blk_kept z9 hkp (fun hs_ => (fun e_ => (Kd.R_ne a7.out bi.out (by decide)) e_) hs_)); have bZ := aM (blk_kept z10 hkp (fun hs_ => (fun e_ => (Kd.R_ne a7.out bd.out (by decide)) e_) hs_)); have b8 := aM (ah (ok' := fun k_ => some k_ ≠ (.slice bP bE.length bL : Value).ownBlock ∧ some k_ ≠ (.slice bN bT.length bM : Value).ownBlock ∧ some k_ ≠ (.slice bw bq.length bu : Value).ownBlock) (Kd.R_keptB (bW.out) hkp (fun k_ hk_ hs_ => (hk_.1.2) hs_)) (fun k_ hk_ => ⟨hk_.1.1.1.2, hk_.1.1.2, hk_.1.2⟩)); have cn := aM (ah (ok' := fun k_ => some k_ ≠ (.slice jc dw.length jb : Value).ownBlock) (Kd.R_keptB ((Kd.R_apart' cG.out (Kd.R_typed a7.out) (by decide))) hkp (fun k_ hk_ hs_ => (hk_.2) hs_)) (fun k_ hk_ => hk_.1.1.2)); have cj := aM (hb); clear bU; clear a9; clear a7; clear a5; clear bc; clear bg; clear bi; clear bd; clear bW; clear cG; clear HB; have bU := a6; have a9 := ba; have a7 := bb; have a5 := bf; have bc := bz; have bg := bH; have bi := bI; have bd := bZ; have bW := b8; have cG := cn; have HB := cj; clear a6 ba bb bf bz bH bI bZ b8 cn cj; (try clear hb); (try clear hkp); (try clear hy0)) | ((with_reducible refine aI (f := 14) rfl ?_); refine aN (some 69) rfl rfl Try.func14 z0 rfl #[.slice jc dw.length jb, .int .i64 mO] rfl z12 ?_; (with_reducible refine (laws_markPartS.calls kj19 (fun k_ => some k_ = (.slice jc dw.length jb : Value).ownBlock) (.slice jc dw.length jb) dw mO ma t307 w _ ?side1 ?side2 A78.out).mono ?_); (case side1 => repeat (first | (with_reducible first | exact HB.out | apply bA | apply pD | apply bD | refine ax ?_ cW.out | refine ax ?_ dt.out | refine ax ?_ eV.out | refine ax ?_ eU.out) | exact HB.out)); (case side2 => exact Kd.R_tight rfl bU.out); rintro e w92 ⟨rfl, hy0, hb, hkp⟩; refine ⟨_, rfl, ?_⟩; have a6 := aM (Kd.R_reok rfl hy0 (fun k_ e_ => bU.out.1 k_ e_)); have ba := aM (ah (ok' := fun k_ => some k_ ≠ (.slice bN bT.length bM : Value).ownBlock ∧ some k_ ≠ (.slice bw bq.length bu : Value).ownBlock ∧ some k_ ≠ (.slice k4 eQ.length kY : Value).ownBlock) (Kd.R_keptB ((Kd.R_apart' a9.out (Kd.R_typed bU.out) (by decide))) hkp (fun k_ hk_ hs_ => (hk_.2) hs_)) (fun k_ hk_ => ⟨hk_.1.1.1, hk_.1.1.2.1, hk_.1.1.2.2⟩)); have bb := aM (ah (ok' := fun k_ => some k_ ≠ (.slice bP bE.length bL : Value).ownBlock ∧ some k_ ≠ (.slice bw bq.length bu : Value).ownBlock ∧ some k_ ≠ (.slice k4 eQ.length kY : Value).ownBlock) (Kd.R_keptB ((Kd.R_apart' a7.out (Kd.R_typed bU.out) (by decide))) hkp (fun k_ hk_ hs_ => (hk_.2) hs_)) (fun k_ hk_ => ⟨hk_.1.1.1.1, hk_.1.1.1.2, hk_.1.1.2⟩)); have bf := aM (ah (ok' := fun k_ => some k_ ≠ (.slice bP bE.length bL : Value).ownBlock ∧ some k_ ≠ (.slice bN bT.length bM : Value).ownBlock ∧ some k_ ≠ (.slice k4 eQ.length kY : Value).ownBlock) (Kd.R_keptB ((Kd.R_apart' a5.out (Kd.R_typed bU.out) (by decide))) hkp (fun k_ hk_ hs_ => (hk_.2) hs_)) (fun k_ hk_ => ⟨hk_.1.1.1, hk_.1.1.2.1, hk_.1.1.2.2⟩)); have bz := aM (blk_kept z7 hkp (fun hs_ => (fun e_ => (Kd.R_ne bU.out bc.out (by decide)) e_) hs_)); have bH := aM (blk_kept z8 hkp (fun hs_ => (fun e_ => (Kd.R_ne bU.out bg.out (by decide)) e_) hs_)); have bI := aM (blk_kept z9 hkp (fun hs_ => (fun e_ => (Kd.R_ne bU.out bi.out (by decide)) e_) hs_)); have bZ := aM (blk_kept z10 hkp (fun hs_ => (fun e_ => (Kd.R_ne bU.out bd.out (by decide)) e_) hs_)); have b8 := aM (ah (ok' := fun k_ => some k_ ≠ (.slice bP bE.length bL : Value).ownBlock ∧ some k_ ≠ (.slice bN bT.length bM : Value).ownBlock ∧ some k_ ≠ (.slice bw bq.length bu : Value).ownBlock) (Kd.R_keptB ((Kd.R_apart' bW.out (Kd.R_typed bU.out) (by decide))) hkp (fun k_ hk_ hs_ => (hk_.2) hs_)) (fun k_ hk_ => ⟨hk_.1.1.1, hk_.1.1.2.1, hk_.1.1.2.2⟩)); have cn := aM (ah (ok' := fun k_ => some k_ ≠ (.slice jc dw.length jb : Value).ownBlock) (Kd.R_keptB (cG.out) hkp (fun k_ hk_ hs_ => (hk_) hs_)) (fun k_ hk_ => hk_.1)); have cj := aM (hb); clear bU; clear a9; clear a7; clear a5; clear bc; clear bg; clear bi; clear bd; clear bW; clear cG; clear HB; have bU := a6; have a9 := ba; have a7 := bb; have a5 := bf; have bc := bz; have bg := bH; have bi := bI; have bd := bZ; have bW := b8; have cG := cn; have HB := cj; clear a6 ba bb bf bz bH bI bZ b8 cn cj; (try clear hb); (try clear hkp); (try clear hy0)))
        (try simp only [Act.put, sA, sB, sC])
        go_cut [82] (fun v82 wc => ∃ (kq : Nat) (x82_78 : Bool), v82 = .bool x82_78 ∧ Aside0 (laws_FnExactEditRope.j1 kq l1 kP x82_78 l0_0 bE bq = some r) ∧ Aside0 (kq ≤ kj19) ∧ Aside0 (Kd.R k101 101 wc w.heap.size (fun k_ => some k_ ≠ ((.slice bN bT.length bM) : Value).ownBlock ∧ some k_ ≠ ((.slice bw bq.length bu) : Value).ownBlock) (.slice bP bE.length bL) bE) ∧ Aside0 (Kd.R k101 101 wc w.heap.size (fun k_ => some k_ ≠ ((.slice bP bE.length bL) : Value).ownBlock ∧ some k_ ≠ ((.slice bw bq.length bu) : Value).ownBlock) (.slice bN bT.length bM) da) ∧ Aside0 (Kd.R k101 101 wc w.heap.size (fun k_ => some k_ ≠ ((.slice bP bE.length bL) : Value).ownBlock ∧ some k_ ≠ ((.slice bN bT.length bM) : Value).ownBlock) (.slice bw bq.length bu) bq) ∧ Aside0 (wc.heap[bo]? = some (.cells #[(.slice bj l0_0.length bk)] 24 (0, 0))) ∧ Aside0 (wc.heap[bB]? = some (.cells #[(.slice bP bE.length bL)] 30 (0, 0))) ∧ Aside0 (wc.heap[bJ]? = some (.cells #[(.slice bN bT.length bM)] 30 (0, 0))) ∧ Aside0 (wc.heap[br]? = some (.cells #[(.slice bw bq.length bu)] 30 (0, 0))) ∧ Aside0 (Below w.heap.size w wc))
        case first =>
         have H := ni.out
         clear ni
         by_cases mi : ma < 0
         ·rw [if_pos mi] at H
          have c93b0 : decide (ma < 0) = true := dT mi
          clear mi
          (first | rw [c93b0] | (simp only [i64_w, i32_w]; rw [c93b0]) | skip)
          have H' := aM H
          clear H
          go_wp2
          go_meet
          case rel => exact ⟨_, (true), z1, H', ⟨by have := lL.out; first | omega | exact Nat.le_refl _⟩, ⟨by (with_reducible repeat (first | apply ae | apply ac | apply aa)); exact ah a9.out (fun _ hk => ⟨hk.1, hk.2.1⟩)⟩, ⟨by (with_reducible repeat (first | apply ae | apply ac | apply aa)); exact ah a7.out (fun _ hk => ⟨hk.1, hk.2.1⟩)⟩, ⟨by (with_reducible repeat (first | apply ae | apply ac | apply aa)); exact ah a5.out (fun _ hk => ⟨hk.1, hk.2.1⟩)⟩, ⟨y6⟩, ⟨y7⟩, ⟨y8⟩, ⟨y9⟩, ⟨y22⟩⟩
         ·rw [if_neg mi] at H
          have c93b0 : decide (ma < 0) = false := dF mi
          clear mi
          (first | rw [c93b0] | (simp only [i64_w, i32_w]; rw [c93b0]) | skip)
          replace H := oB H
          obtain ⟨mN, nW, H⟩ := H
          try dsimp only at H
          have oU := aM nW
          clear nW
          by_cases nv : mN = true
          ·subst nv
           rw [if_pos rfl] at H
           have H' := aM H
           clear H
           have hnb96 := cx.out
           have hnc96 := ci.out
           have hnb97 := ch.out
           have hnc97 := b6.out
           have hnb98 := cr.out
           have hnc98 := cb.out
           have kn : w92.cell? ⟨br, 0, none⟩ = some (.slice bw bq.length bu) := (bC bd.out 0).trans rfl
           have jW := bF bd.out 0
           have hnb100 := cV.out
           have hnc100 := cO.out
           have hnb101 := cN.out
           have hnc101 := cU.out
           have jn : w92.cell? ⟨bB, 0, none⟩ = some (.slice bP bE.length bL) := (bC bg.out 0).trans rfl
           have jk := bF bg.out 0
           go_wp2_with (first | (go_at_call 11; (with_reducible refine (laws_eqRope.calls kj19 _ _ bq _ _ bE true _ ?side1 ?side2 ?side3 ?side4 oU.out).mono ?_); (case side1 => repeat (first | exact (ai a5.out).2.2 | (with_reducible refine aE ?_ _) | (with_reducible refine aG ?_ _) | (with_reducible refine aH ?_))); (case side2 => exact (ai a5.out).2.1); (case side3 => repeat (first | exact (ai a9.out).2.2 | (with_reducible refine aE ?_ _) | (with_reducible refine aG ?_ _) | (with_reducible refine aH ?_))); (case side4 => exact (ai a9.out).2.1); rintro e w103 ⟨rfl, hb⟩; have a6 := aM (ag (by (with_reducible repeat (first | apply ae | apply ac | apply aa)); exact bU.out) hb); have ba := aM (ag z3 hb); have bb := aM (ag z4 hb); have bf := aM (ag z5 hb); have bz := aM (ag (by (with_reducible repeat (first | apply ae | apply ac | apply aa)); exact bW.out) hb); have bH := aM (ag (by (with_reducible repeat (first | apply ae | apply ac | apply aa)); exact cG.out) hb); have bI := aM (af (g := bo) (o := .cells #[.slice bj l0_0.length bk] 24 (0, 0)) z7 hb); have bZ := aM (af (g := bB) (o := .cells #[.slice bP bE.length bL] 30 (0, 0)) z8 hb); have b8 := aM (af (g := bJ) (o := .cells #[.slice bN bT.length bM] 30 (0, 0)) z9 hb); have cn := aM (af (g := br) (o := .cells #[.slice bw bq.length bu] 30 (0, 0)) z10 hb); have cj := aM (ay z20 hb); clear bU; clear a9; clear a7; clear a5; clear bW; clear cG; clear bc; clear bg; clear bi; clear bd; clear HB; have bU := a6; have a9 := ba; have a7 := bb; have a5 := bf; have bW := bz; have cG := bH; have bc := bI; have bg := bZ; have bi := b8; have bd := cn; have HB := cj; clear a6 ba bb bf bz bH bI bZ b8 cn cj; (try clear hb); (try clear hb2); (try clear hk); (try clear hi)))
           go_meet
           case rel => exact ⟨_, ((mb != kP)), z1, H', ⟨by have := lL.out; first | omega | exact Nat.le_refl _⟩, ⟨by (with_reducible repeat (first | apply ae | apply ac | apply aa)); exact ah a9.out (fun _ hk => ⟨hk.1, hk.2.1⟩)⟩, ⟨by (with_reducible repeat (first | apply ae | apply ac | apply aa)); exact ah a7.out (fun _ hk => ⟨hk.1, hk.2.1⟩)⟩, ⟨by (with_reducible repeat (first | apply ae | apply ac | apply aa)); exact ah a5.out (fun _ hk => ⟨hk.1, hk.2.1⟩)⟩, ⟨y6⟩, ⟨y7⟩, ⟨y8⟩, ⟨y9⟩, ⟨y22⟩⟩
          ·replace nv := Bool.eq_false_iff.mpr nv
           subst nv
           rw [if_neg (show ¬ (false = true) by decide)] at H
           have H' := aM H
           clear H
           have hnb104 := cx.out
           have hnc104 := ci.out
           have hnb105 := ch.out
           have hnc105 := b6.out
           have hnb106 := cr.out
           have hnc106 := cb.out
           have jm : w92.cell? ⟨br, 0, none⟩ = some (.slice bw bq.length bu) := (bC bd.out 0).trans rfl
           have jj := bF bd.out 0
           have hnb108 := cV.out
           have hnc108 := cO.out
           have hnb109 := cN.out
           have hnc109 := cU.out
           have jl : w92.cell? ⟨bB, 0, none⟩ = some (.slice bP bE.length bL) := (bC bg.out 0).trans rfl
           have ji := bF bg.out 0
           go_wp2_with (first | (go_at_call 11; (with_reducible refine (laws_eqRope.calls kj19 _ _ bq _ _ bE false _ ?side1 ?side2 ?side3 ?side4 oU.out).mono ?_); (case side1 => repeat (first | exact (ai a5.out).2.2 | (with_reducible refine aE ?_ _) | (with_reducible refine aG ?_ _) | (with_reducible refine aH ?_))); (case side2 => exact (ai a5.out).2.1); (case side3 => repeat (first | exact (ai a9.out).2.2 | (with_reducible refine aE ?_ _) | (with_reducible refine aG ?_ _) | (with_reducible refine aH ?_))); (case side4 => exact (ai a9.out).2.1); rintro e w111 ⟨rfl, hb⟩; have a6 := aM (ag (by (with_reducible repeat (first | apply ae | apply ac | apply aa)); exact bU.out) hb); have ba := aM (ag z3 hb); have bb := aM (ag z4 hb); have bf := aM (ag z5 hb); have bz := aM (ag (by (with_reducible repeat (first | apply ae | apply ac | apply aa)); exact bW.out) hb); have bH := aM (ag (by (with_reducible repeat (first | apply ae | apply ac | apply aa)); exact cG.out) hb); have bI := aM (af (g := bo) (o := .cells #[.slice bj l0_0.length bk] 24 (0, 0)) z7 hb); have bZ := aM (af (g := bB) (o := .cells #[.slice bP bE.length bL] 30 (0, 0)) z8 hb); have b8 := aM (af (g := bJ) (o := .cells #[.slice bN bT.length bM] 30 (0, 0)) z9 hb); have cn := aM (af (g := br) (o := .cells #[.slice bw bq.length bu] 30 (0, 0)) z10 hb); have cj := aM (ay z20 hb); clear bU; clear a9; clear a7; clear a5; clear bW; clear cG; clear bc; clear bg; clear bi; clear bd; clear HB; have bU := a6; have a9 := ba; have a7 := bb; have a5 := bf; have bW := bz; have cG := bH; have bc := bI; have bg := bZ; have bi := b8; have bd := cn; have HB := cj; clear a6 ba bb bf bz bH bI bZ b8 cn cj; (try clear hb); (try clear hb2); (try clear hk); (try clear hi)))
           go_meet
           case rel => exact ⟨_, (true), z1, H', ⟨by have := lL.out; first | omega | exact Nat.le_refl _⟩, ⟨by (with_reducible repeat (first | apply ae | apply ac | apply aa)); exact ah a9.out (fun _ hk => ⟨hk.1, hk.2.1⟩)⟩, ⟨by (with_reducible repeat (first | apply ae | apply ac | apply aa)); exact ah a7.out (fun _ hk => ⟨hk.1, hk.2.1⟩)⟩, ⟨by (with_reducible repeat (first | apply ae | apply ac | apply aa)); exact ah a5.out (fun _ hk => ⟨hk.1, hk.2.1⟩)⟩, ⟨y6⟩, ⟨y7⟩, ⟨y8⟩, ⟨y9⟩, ⟨y22⟩⟩
        case rest =>
         clear ni
         try clear c1
         try clear p2
         try clear c3
         try clear c4
         try clear c4b0
         try clear c5
         try clear c6
         try clear c7
         try clear c8
         try clear c9
         try clear c9b0
         try clear cL
         try clear dH
         try clear eT
         try clear dM
         try clear fG
         try clear l8
         try clear nb
         try clear me
         try clear l7
         try clear l6
         try clear oS
         try clear m8
         try clear oR
         try clear oQ
         try clear oP
         try clear oO
         try clear oN
         try clear oM
         try clear oL
         try clear oK
         try clear oJ
         try clear oI
         try clear ny
         try clear nx
         try clear nw
         try clear c87
         try clear c88
         try clear c89
         try clear mi
         try clear c93b0
         try clear nv
         try clear c96
         try clear c97
         try clear c98
         try clear c100
         try clear c101
         try clear c104
         try clear c105
         try clear c106
         try clear c108
         try clear c109
         try clear jn
         try clear jm
         try clear jl
         try clear ed
         try clear dy
         try clear fq
         try clear fp
         try clear iS
         try clear iR
         try clear iQ
         try clear ga
         try clear iP
         try clear iO
         try clear iN
         try clear iM
         try clear dL
         try clear ko
         try clear kn
         try clear jk
         try clear jj
         try clear ji
         try clear d6
         try clear dx
         try clear fe
         try clear fd
         try clear ip
         try clear im
         try clear il
         try clear fX
         try clear ik
         try clear ij
         try clear ii
         try clear ig
         try clear dK
         try clear jX
         try clear jW
         try clear p2
         obtain ⟨kq, x82_78, rfl, HA, nS, a9, a7, a5, bc, bg, bi, bd, HB⟩ := hcut
         have hl287000_78 := (ai a7.out).1
         rw [hl287000_78] at a7
         (try simp only [hl287000_78])
         (try simp only [hl287000_78] at bc)
         (try simp only [hl287000_78] at bg)
         (try simp only [hl287000_78] at bi)
         (try simp only [hl287000_78] at bd)
         (try simp only [hl287000_78] at a9)
         (try simp only [hl287000_78] at a5)
         cases kq with
         | zero => exact absurd HA.out (by simp [laws_FnExactEditRope.j1])
         | succ kj78 =>
          have H := HA.out
          clear HA
          simp only [laws_FnExactEditRope.j1] at H
          by_cases lJ : x82_78 = true
          ·subst lJ
           rw [if_pos rfl] at H
           first | (cases H.trans (congrArg some HRT.out); done) | skip
           all_goals
            obtain rfl := sI H
            go_wp2
            go_ret
            exact ⟨y3, y22⟩
          ·replace lJ := Bool.eq_false_iff.mpr lJ
           subst lJ
           rw [if_neg (show ¬ (false = true) by decide)] at H
           replace H := oB H
           obtain ⟨⟨fb, cZ⟩, mL, H⟩ := H
           try dsimp only at H
           have nu := aM mL
           clear mL
           replace H := oB H
           obtain ⟨fa, mK, H⟩ := H
           try dsimp only at H
           have nt := aM mK
           clear mK
           by_cases jT : fa < 0
           ·rw [if_pos jT] at H
            have c115b0 : decide (fa < 0) = true := dT jT
            clear jT
            first | (cases H.trans (congrArg some HRT.out); done) | skip
            all_goals
             obtain rfl := sI H
             have hnb116 := cx.out
             have hnc116 := ci.out
             have hnb117 := ch.out
             have hnc117 := b6.out
             have hnb118 := cr.out
             have hnc118 := cb.out
             have hcz119_0 : wc.cell? ⟨br, 0, none⟩ = some (.slice bw bq.length bu) := (bC bd.out 0).trans rfl
             have hfz119_0 := bF bd.out 0
             go_wp2_with (first | ((with_reducible refine aI (f := 13) rfl ?_); refine aN (some 85) rfl rfl Try.func13 z0 rfl #[.agg #[.slice bw bq.length bu], .int .i64 1] rfl z12 ?_; (with_reducible refine (laws_markRope.calls kj78 (fun k_ => some k_ = (.slice bw bq.length bu : Value).ownBlock) (.slice bw bq.length bu) bq 1 fb cZ w _ ?side1 ?side2 nu.out).mono ?_); (case side1 => repeat (first | (with_reducible first | exact HB.out | apply bA | apply pD | apply bD | refine ax ?_ cW.out | refine ax ?_ dt.out | refine ax ?_ eV.out | refine ax ?_ eU.out) | exact HB.out)); (case side2 => exact Kd.R_tight rfl a5.out); rintro e w120 ⟨rfl, hy0, hb, hkp⟩; refine ⟨_, rfl, ?_⟩; have a6 := aM (ah (ok' := fun k_ => some k_ ≠ (.slice bN da.length bM : Value).ownBlock ∧ some k_ ≠ (.slice bw bq.length bu : Value).ownBlock) (Kd.R_keptB (a9.out) hkp (fun k_ hk_ hs_ => (hk_.2) hs_)) (fun k_ hk_ => ⟨hk_.1.1, hk_.1.2⟩)); have ba := aM (ah (ok' := fun k_ => some k_ ≠ (.slice bP bE.length bL : Value).ownBlock ∧ some k_ ≠ (.slice bw bq.length bu : Value).ownBlock) (Kd.R_keptB (a7.out) hkp (fun k_ hk_ hs_ => (hk_.2) hs_)) (fun k_ hk_ => ⟨hk_.1.1, hk_.1.2⟩)); have bb := aM (Kd.R_reok rfl hy0 (fun k_ e_ => a5.out.1 k_ e_)); have bf := aM (blk_kept z7 hkp (fun hs_ => (fun e_ => (Kd.R_ne a5.out bc.out (by decide)) e_) hs_)); have bz := aM (blk_kept z8 hkp (fun hs_ => (fun e_ => (Kd.R_ne a5.out bg.out (by decide)) e_) hs_)); have bH := aM (blk_kept z9 hkp (fun hs_ => (fun e_ => (Kd.R_ne a5.out bi.out (by decide)) e_) hs_)); have bI := aM (blk_kept z10 hkp (fun hs_ => (fun e_ => (Kd.R_ne a5.out bd.out (by decide)) e_) hs_)); have bZ := aM (hb); clear a9; clear a7; clear a5; clear bc; clear bg; clear bi; clear bd; clear HB; have a9 := a6; have a7 := ba; have a5 := bb; have bc := bf; have bg := bz; have bi := bH; have bd := bI; have HB := bZ; clear a6 ba bb bf bz bH bI bZ; (try clear hb); (try clear hkp); (try clear hy0); have hcz121_0 : w120.cell? ⟨br, 0, none⟩ = some (.slice bw bq.length bu) := (bC bd.out 0).trans rfl; have hfz121_0 := bF bd.out 0) | ((with_reducible refine aI (f := 15) rfl ?_); refine aN (some 88) rfl rfl Try.func15 z0 rfl #[.agg #[.slice bw cZ.length bu], .int .i64 1] rfl (by (try simp only [List.map_toArray, List.map_cons, List.map_nil]); first | done | (rw [show cZ.length = bq.length from (ai a5.out).1.symm] <;> rfl) | rfl | (simp only [List.length_drop, List.length_take]; rfl)) ?_; (with_reducible refine (laws_heldRope.calls kj78 _ _ cZ 1 fa _ ?side1 ?side2 nt.out).mono ?_); (case side1 => repeat (first | exact (ai a5.out).2.2 | (with_reducible refine aE ?_ _) | (with_reducible refine aG ?_ _) | (with_reducible refine aH ?_))); (case side2 => rw [show cZ.length = bq.length from (ai a5.out).1.symm]; exact (ai a5.out).2.1); rintro e w122 ⟨rfl, hb⟩; refine ⟨_, rfl, ?_⟩; have a6 := aM (ag z3 hb); have ba := aM (ag z4 hb); have bb := aM (ag z5 hb); have bf := aM (af (g := bo) (o := .cells #[.slice bj l0_0.length bk] 24 (0, 0)) z7 hb); have bz := aM (af (g := bB) (o := .cells #[.slice bP bE.length bL] 30 (0, 0)) z8 hb); have bH := aM (af (g := bJ) (o := .cells #[.slice bN da.length bM] 30 (0, 0)) z9 hb); have bI := aM (af (g := br) (o := .cells #[.slice bw bq.length bu] 30 (0, 0)) z10 hb); have bZ := aM (ay z20 hb); clear a9; clear a7; clear a5; clear bc; clear bg; clear bi; clear bd; clear HB; have a9 := a6; have a7 := ba; have a5 := bb; have bc := bf; have bg := bz; have bi := bH; have bd := bI; have HB := bZ; clear a6 ba bb bf bz bH bI bZ; (try clear hb); (try clear hb2); (try clear hk); (try clear hi)))
             go_ret
             exact ⟨y3, y22⟩
           ·rw [if_neg jT] at H
            have c115b0 : decide (fa < 0) = false := dF jT
            clear jT
            by_cases jr : fa = fb
            ·rw [if_pos jr] at H
             have c123b0 : (fa == fb) = true := qT jr
             have c123b1 : (fa != fb) = false := nF jr
             clear jr
             replace H := oB H
             obtain ⟨hJ, mJ, H⟩ := H
             try dsimp only at H
             have A124 := aM mJ
             clear mJ
             replace H := oB H
             obtain ⟨k6, mI, H⟩ := H
             try dsimp only at H
             have A125 := aM mI
             clear mI
             replace H := oB H
             obtain ⟨⟨cK, nB⟩, mH, H⟩ := H
             try dsimp only at H
             have A126 := aM mH
             clear mH
             have lN := aM H
             clear H
             have hnb128 := cx.out
             have hnc128 := ci.out
             have hnb129 := ch.out
             have hnc129 := b6.out
             have hnb130 := cr.out
             have hnc130 := cb.out
             have hcz131_0 : wc.cell? ⟨br, 0, none⟩ = some (.slice bw bq.length bu) := (bC bd.out 0).trans rfl
             have hfz131_0 := bF bd.out 0
             go_upto_region 32 with (first | ((with_reducible refine aI (f := 13) rfl ?_); refine aN (some 85) rfl rfl Try.func13 z0 rfl #[.agg #[.slice bw bq.length bu], .int .i64 1] rfl z12 ?_; (with_reducible refine (laws_markRope.calls kj78 (fun k_ => some k_ = (.slice bw bq.length bu : Value).ownBlock) (.slice bw bq.length bu) bq 1 fb cZ w _ ?side1 ?side2 nu.out).mono ?_); (case side1 => repeat (first | (with_reducible first | exact HB.out | apply bA | apply pD | apply bD | refine ax ?_ cW.out | refine ax ?_ dt.out | refine ax ?_ eV.out | refine ax ?_ eU.out) | exact HB.out)); (case side2 => exact Kd.R_tight rfl a5.out); rintro e w132 ⟨rfl, hy0, hb, hkp⟩; refine ⟨_, rfl, ?_⟩; have a6 := aM (ah (ok' := fun k_ => some k_ ≠ (.slice bN da.length bM : Value).ownBlock ∧ some k_ ≠ (.slice bw bq.length bu : Value).ownBlock) (Kd.R_keptB (a9.out) hkp (fun k_ hk_ hs_ => (hk_.2) hs_)) (fun k_ hk_ => ⟨hk_.1.1, hk_.1.2⟩)); have ba := aM (ah (ok' := fun k_ => some k_ ≠ (.slice bP bE.length bL : Value).ownBlock ∧ some k_ ≠ (.slice bw bq.length bu : Value).ownBlock) (Kd.R_keptB (a7.out) hkp (fun k_ hk_ hs_ => (hk_.2) hs_)) (fun k_ hk_ => ⟨hk_.1.1, hk_.1.2⟩)); have bb := aM (Kd.R_reok rfl hy0 (fun k_ e_ => a5.out.1 k_ e_)); have bf := aM (blk_kept z7 hkp (fun hs_ => (fun e_ => (Kd.R_ne a5.out bc.out (by decide)) e_) hs_)); have bz := aM (blk_kept z8 hkp (fun hs_ => (fun e_ => (Kd.R_ne a5.out bg.out (by decide)) e_) hs_)); have bH := aM (blk_kept z9 hkp (fun hs_ => (fun e_ => (Kd.R_ne a5.out bi.out (by decide)) e_) hs_)); have bI := aM (blk_kept z10 hkp (fun hs_ => (fun e_ => (Kd.R_ne a5.out bd.out (by decide)) e_) hs_)); have bZ := aM (hb); clear a9; clear a7; clear a5; clear bc; clear bg; clear bi; clear bd; clear HB; have a9 := a6; have a7 := ba; have a5 := bb; have bc := bf; have bg := bz; have bi := bH; have bd := bI; have HB := bZ; clear a6 ba bb bf bz bH bI bZ; (try clear hb); (try clear hkp); (try clear hy0); have hcz133_0 : w132.cell? ⟨br, 0, none⟩ = some (.slice bw bq.length bu) := (bC bd.out 0).trans rfl; have hfz133_0 := bF bd.out 0) | ((with_reducible refine aI (f := 15) rfl ?_); refine aN (some 88) rfl rfl Try.func15 z0 rfl #[.agg #[.slice bw cZ.length bu], .int .i64 1] rfl (by (try simp only [List.map_toArray, List.map_cons, List.map_nil]); first | done | (rw [show cZ.length = bq.length from (ai a5.out).1.symm] <;> rfl) | rfl | (simp only [List.length_drop, List.length_take]; rfl)) ?_; (with_reducible refine (laws_heldRope.calls kj78 _ _ cZ 1 fa _ ?side1 ?side2 nt.out).mono ?_); (case side1 => repeat (first | exact (ai a5.out).2.2 | (with_reducible refine aE ?_ _) | (with_reducible refine aG ?_ _) | (with_reducible refine aH ?_))); (case side2 => rw [show cZ.length = bq.length from (ai a5.out).1.symm]; exact (ai a5.out).2.1); rintro e w134 ⟨rfl, hb⟩; refine ⟨_, rfl, ?_⟩; have a6 := aM (ag z3 hb); have ba := aM (ag z4 hb); have bb := aM (ag z5 hb); have bf := aM (af (g := bo) (o := .cells #[.slice bj l0_0.length bk] 24 (0, 0)) z7 hb); have bz := aM (af (g := bB) (o := .cells #[.slice bP bE.length bL] 30 (0, 0)) z8 hb); have bH := aM (af (g := bJ) (o := .cells #[.slice bN da.length bM] 30 (0, 0)) z9 hb); have bI := aM (af (g := br) (o := .cells #[.slice bw bq.length bu] 30 (0, 0)) z10 hb); have bZ := aM (ay z20 hb); clear a9; clear a7; clear a5; clear bc; clear bg; clear bi; clear bd; clear HB; have a9 := a6; have a7 := ba; have a5 := bb; have bc := bf; have bg := bz; have bi := bH; have bd := bI; have HB := bZ; clear a6 ba bb bf bz bH bI bZ; (try clear hb); (try clear hb2); (try clear hk); (try clear hi); have hnb135 := cO.out; have hnc135 := cV.out; have hnb136 := eO.out; have hnc136 := fP.out; have hcz137_0 : w134.cell? ⟨bo, 0, none⟩ = some (.slice bj l0_0.length bk) := (bC bc.out 0).trans rfl; have hfz137_0 := bF bc.out 0) | ((with_reducible refine aI (f := 8) rfl ?_); refine aN (some 96) rfl rfl Try.func8 z0 rfl #[.agg #[.slice bj l0_0.length bk]] rfl z12 ?_; (with_reducible refine (laws_toRope.calls kj78 _ _ l0_0 hJ _ ?side1 ?side2 A124.out).mono ?_); (case side1 => repeat (first | exact (aD cI.out HB.out) | (with_reducible refine aE ?_ _) | (with_reducible refine aG ?_ _) | (with_reducible refine aH ?_))); (case side2 => exact cM.out); rintro e w138 ⟨v313, rfl, ho0, hb⟩; refine ⟨_, rfl, ?_⟩; have a6 := aM (aj z3 (al ho0) hb); have ba := aM (aj z4 (al ho0) hb); have bb := aM (aj z5 (al ho0) hb); have bf := aM (aT (ak (ak (ak ho0 (Kd.R_lt z3)) (Kd.R_lt z4)) (Kd.R_lt z5)) (az z20)); have bz := aM (af (g := bo) (o := .cells #[.slice bj l0_0.length bk] 24 (0, 0)) z7 hb); have bH := aM (af (g := bB) (o := .cells #[.slice bP bE.length bL] 30 (0, 0)) z8 hb); have bI := aM (af (g := bJ) (o := .cells #[.slice bN da.length bM] 30 (0, 0)) z9 hb); have bZ := aM (af (g := br) (o := .cells #[.slice bw bq.length bu] 30 (0, 0)) z10 hb); have b8 := aM (ay z20 hb); clear a9; clear a7; clear a5; clear bc; clear bg; clear bi; clear bd; clear HB; have a9 := a6; have a7 := ba; have a5 := bb; have dc := bf; have bc := bz; have bg := bH; have bi := bI; have bd := bZ; have HB := b8; clear a6 ba bb bf bz bH bI bZ b8; (try clear hb); (try clear hb2); (try clear hk); (try clear hi); (try clear ho0)) | ((with_reducible refine aI (f := 9) rfl ?_); refine aN (some 98) rfl rfl Try.func9 z0 rfl #[.slice A1 l1.length c1] rfl z12 ?_; (with_reducible refine (laws_toPartS.calls kj78 _ _ l1 k6 _ ?side1 ?side2 A125.out).mono ?_); (case side1 => repeat (first | exact (aD fH.out HB.out) | (with_reducible refine aE ?_ _) | (with_reducible refine aG ?_ _) | (with_reducible refine aH ?_))); (case side2 => exact di.out); rintro e w139 ⟨v316, rfl, ho0, hb⟩; refine ⟨_, rfl, ?_⟩; have a6 := aM (ag z3 hb); have ba := aM (ag z4 hb); have bb := aM (ag z5 hb); have bf := aM (ag (by (with_reducible repeat (first | apply ae | apply ac | apply aa)); exact dc.out) hb); have bz := aM (aT ho0 (az z20)); have bH := aM (af (g := bo) (o := .cells #[.slice bj l0_0.length bk] 24 (0, 0)) z7 hb); have bI := aM (af (g := bB) (o := .cells #[.slice bP bE.length bL] 30 (0, 0)) z8 hb); have bZ := aM (af (g := bJ) (o := .cells #[.slice bN da.length bM] 30 (0, 0)) z9 hb); have b8 := aM (af (g := br) (o := .cells #[.slice bw bq.length bu] 30 (0, 0)) z10 hb); have cn := aM (ay z20 hb); clear a9; clear a7; clear a5; clear dc; clear bc; clear bg; clear bi; clear bd; clear HB; have a9 := a6; have a7 := ba; have a5 := bb; have dc := bf; have dE := bz; have bc := bH; have bg := bI; have bi := bZ; have bd := b8; have HB := cn; clear a6 ba bb bf bz bH bI bZ b8 cn; (try clear hb); (try clear hb2); (try clear hk); (try clear hi); (try clear ho0); obtain ⟨jH, jq, eo140⟩ := Kd.R_slice dc.out; subst eo140; obtain ⟨Ao141, co141, eo141⟩ := Kd.R_slice dE.out; subst eo141) | ((with_reducible refine aI (f := 10) rfl ?_); refine aN (some 99) rfl rfl Try.func10 z0 rfl #[.agg #[.slice jH hJ.length jq], .slice Ao141 k6.length co141] rfl z12 ?_; (with_reducible refine (impl_EditRope.calls kj78 _ _ hJ _ _ k6 cK nB _ ?side1 ?side2 ?side3 ?side4 A126.out).mono ?_); (case side1 => repeat (first | exact (ai dc.out).2.2 | (with_reducible refine aE ?_ _) | (with_reducible refine aG ?_ _) | (with_reducible refine aH ?_))); (case side2 => exact (ai dc.out).2.1); (case side3 => repeat (first | exact (ai dE.out).2.2 | (with_reducible refine aE ?_ _) | (with_reducible refine aG ?_ _) | (with_reducible refine aH ?_))); (case side4 => exact (ai dE.out).2.1); rintro e w142 ⟨v319, rfl, ho0, hb⟩; refine ⟨_, rfl, ?_⟩; have a6 := aM (aj z3 (al ho0) hb); have ba := aM (aj z4 (al ho0) hb); have bb := aM (aj z5 (al ho0) hb); have bf := aM (aj (by (with_reducible repeat (first | apply ae | apply ac | apply aa)); exact dc.out) (al ho0) hb); have bz := aM (ag (by (with_reducible repeat (first | apply ae | apply ac | apply aa)); exact dE.out) hb); have bH := aM (aT (ak (ak (ak (ak ho0 (Kd.R_lt z3)) (Kd.R_lt z4)) (Kd.R_lt z5)) (Kd.R_lt (by (with_reducible repeat (first | apply ae | apply ac | apply aa)); exact dc.out))) (az z20)); have bI := aM (af (g := bo) (o := .cells #[.slice bj l0_0.length bk] 24 (0, 0)) z7 hb); have bZ := aM (af (g := bB) (o := .cells #[.slice bP bE.length bL] 30 (0, 0)) z8 hb); have b8 := aM (af (g := bJ) (o := .cells #[.slice bN da.length bM] 30 (0, 0)) z9 hb); have cn := aM (af (g := br) (o := .cells #[.slice bw bq.length bu] 30 (0, 0)) z10 hb); have cj := aM (ay z20 hb); clear a9; clear a7; clear a5; clear dc; clear dE; clear bc; clear bg; clear bi; clear bd; clear HB; have a9 := a6; have a7 := ba; have a5 := bb; have dc := bf; have dE := bz; have dq := bH; have bc := bI; have bg := bZ; have bi := b8; have bd := cn; have HB := cj; clear a6 ba bb bf bz bH bI bZ b8 cn cj; (try clear hb); (try clear hb2); (try clear hk); (try clear hi); (try clear ho0)) | ((with_reducible refine aJ (N := 15) rfl ?_); refine aK ?hg (N := 15) ?hd (cs := #[.slice none 0 0]) (t := 30) ?hr ?_; (case hd => rfl); (case hg => rfl); (case hr => first | (go_simp; done) | (go_simp; rfl)); intro b9 hg w143 hbox hb; have a6 := aM (ag z3 hb); have ba := aM (ag z4 hb); have bb := aM (ag z5 hb); have bf := aM (ag (by (with_reducible repeat (first | apply ae | apply ac | apply aa)); exact dc.out) hb); have bz := aM (ag (by (with_reducible repeat (first | apply ae | apply ac | apply aa)); exact dE.out) hb); have bH := aM (ag (by (with_reducible repeat (first | apply ae | apply ac | apply aa)); exact dq.out) hb); have bI := aM (af (g := bo) (o := .cells #[.slice bj l0_0.length bk] 24 (0, 0)) z7 hb); have bZ := aM (af (g := bB) (o := .cells #[.slice bP bE.length bL] 30 (0, 0)) z8 hb); have b8 := aM (af (g := bJ) (o := .cells #[.slice bN da.length bM] 30 (0, 0)) z9 hb); have cn := aM (af (g := br) (o := .cells #[.slice bw bq.length bu] 30 (0, 0)) z10 hb); have cj := aM (ay z20 hb); have fc := aM (hbox); have jh := aM ((by rw [hg]; exact (az z20) : w.heap.size ≤ b9)); have jg := aM ((by rw [hg]; exact (az z20) : w.heap.size ≤ b9)); have lx := aM ((by rw [hg]; exact aA (aw (g := bo) (o := .cells #[.slice bj l0_0.length bk] 24 (0, 0)) z7) : bo ≠ b9)); have lw := aM ((by rw [hg]; exact aC (aw (g := bo) (o := .cells #[.slice bj l0_0.length bk] 24 (0, 0)) z7) : b9 ≠ bo)); have lv := aM ((by rw [hg]; exact aA (aw (g := bB) (o := .cells #[.slice bP bE.length bL] 30 (0, 0)) z8) : bB ≠ b9)); have lu := aM ((by rw [hg]; exact aC (aw (g := bB) (o := .cells #[.slice bP bE.length bL] 30 (0, 0)) z8) : b9 ≠ bB)); have ls := aM ((by rw [hg]; exact aA (aw (g := bJ) (o := .cells #[.slice bN da.length bM] 30 (0, 0)) z9) : bJ ≠ b9)); have nI := aM ((by rw [hg]; exact aC (aw (g := bJ) (o := .cells #[.slice bN da.length bM] 30 (0, 0)) z9) : b9 ≠ bJ)); have nH := aM ((by rw [hg]; exact aA (aw (g := br) (o := .cells #[.slice bw bq.length bu] 30 (0, 0)) z10) : br ≠ b9)); have nG := aM ((by rw [hg]; exact aC (aw (g := br) (o := .cells #[.slice bw bq.length bu] 30 (0, 0)) z10) : b9 ≠ br)); clear a9; clear a7; clear a5; clear dc; clear dE; clear dq; clear bc; clear bg; clear bi; clear bd; clear HB; have a9 := a6; have a7 := ba; have a5 := bb; have dc := bf; have dE := bz; have dq := bH; have bc := bI; have bg := bZ; have bi := b8; have bd := cn; have HB := cj; have b3 := fc; have GW322 := jh; have jy := jg; have dX := lx; have fO := lw; have dW := lv; have fN := lu; have dV := ls; have fM := nI; have cT := nH; have dz := nG; clear a6 ba bb bf bz bH bI bZ b8 cn cj fc jh jg lx lw lv lu ls nI nH nG; clear hb hbox hg; obtain ⟨cp, ce, eo144⟩ := Kd.R_slice dq.out; subst eo144; have hnb145 := fO.out; have hnc145 := dX.out; have hnb146 := fN.out; have hnc146 := dW.out; have hnb147 := fM.out; have hnc147 := dV.out; have hnb148 := dz.out; have hnc148 := cT.out; have hcz149_0 : w143.cell? ⟨b9, 0, none⟩ = some (.slice none 0 0) := (bC b3.out 0).trans rfl; have hfz149_0 := bF b3.out 0))
             (try simp only [Act.put, sA, sB, sC])
             go_cut [110] (fun v110 wc => ∃ (kq : Nat) (x110_126 : Bool), v110 = .bool x110_126 ∧ Aside0 (laws_FnExactEditRope.j2 kq fb x110_126 cZ = some r) ∧ Aside0 (kq ≤ kj78) ∧ Aside0 (Kd.R k101 101 wc w.heap.size (fun k_ => some k_ ≠ ((.slice bN da.length bM) : Value).ownBlock ∧ some k_ ≠ ((.slice bw bq.length bu) : Value).ownBlock ∧ some k_ ≠ ((.slice cp cK.length ce) : Value).ownBlock) (.slice bP bE.length bL) bE) ∧ Aside0 (Kd.R k101 101 wc w.heap.size (fun k_ => some k_ ≠ ((.slice bP bE.length bL) : Value).ownBlock ∧ some k_ ≠ ((.slice bw bq.length bu) : Value).ownBlock ∧ some k_ ≠ ((.slice cp cK.length ce) : Value).ownBlock) (.slice bN da.length bM) da) ∧ Aside0 (Kd.R k101 101 wc w.heap.size (fun k_ => some k_ ≠ ((.slice bP bE.length bL) : Value).ownBlock ∧ some k_ ≠ ((.slice bN da.length bM) : Value).ownBlock ∧ some k_ ≠ ((.slice cp cK.length ce) : Value).ownBlock) (.slice bw bq.length bu) cZ) ∧ Aside0 (Kd.R k101 101 wc w.heap.size (fun k_ => some k_ ≠ ((.slice bP bE.length bL) : Value).ownBlock ∧ some k_ ≠ ((.slice bN da.length bM) : Value).ownBlock ∧ some k_ ≠ ((.slice bw bq.length bu) : Value).ownBlock) (.slice cp cK.length ce) cK) ∧ Aside0 (wc.heap[bo]? = some (.cells #[(.slice bj l0_0.length bk)] 24 (0, 0))) ∧ Aside0 (wc.heap[bB]? = some (.cells #[(.slice bP bE.length bL)] 30 (0, 0))) ∧ Aside0 (wc.heap[bJ]? = some (.cells #[(.slice bN da.length bM)] 30 (0, 0))) ∧ Aside0 (wc.heap[br]? = some (.cells #[(.slice bw bq.length bu)] 30 (0, 0))) ∧ Aside0 (wc.heap[b9]? = some (.cells #[(.slice cp cK.length ce)] 30 (0, 0))) ∧ Aside0 (Below w.heap.size w wc))
             case first =>
              have H := lN.out
              clear lN
              replace H := oB H
              obtain ⟨mM, mG, H⟩ := H
              try dsimp only at H
              have lY := aM mG
              clear mG
              by_cases lI : mM = true
              ·subst lI
               rw [if_pos rfl] at H
               have H' := aM H
               clear H
               have hnb152 := fO.out
               have hnc152 := dX.out
               have hnb153 := fN.out
               have hnc153 := dW.out
               have hnb154 := fM.out
               have hnc154 := dV.out
               have hnb155 := dz.out
               have hnc155 := cT.out
               have hcz156_0 : w143.cell? ⟨b9, 0, none⟩ = some (.slice none 0 0) := (bC b3.out 0).trans rfl
               have hfz156_0 := bF b3.out 0
               have hnb157 := cV.out
               have hnc157 := cO.out
               have hnb158 := cN.out
               have hnc158 := cU.out
               have hnb159 := b6.out
               have hnc159 := ch.out
               have hcz160_0 : w143.cell? ⟨bB, 0, none⟩ = some (.slice bP bE.length bL) := (bC bg.out 0).trans rfl
               have hfz160_0 := bF bg.out 0
               go_wp2_with (first | ((with_reducible refine aI (f := 11) rfl ?_); refine aN (some 104) rfl rfl Try.func11 z0 rfl #[.agg #[.slice cp cK.length ce], .agg #[.slice bP bE.length bL]] rfl z12 ?_; (with_reducible refine (laws_eqRope.calls kj78 _ _ cK _ _ bE true _ ?side1 ?side2 ?side3 ?side4 lY.out).mono ?_); (case side1 => refine (ai (e := 101) (base := w.heap.size) (ok := fun k_ => ((((True ∧ some k_ ≠ (.slice bP bE.length bL : Value).ownBlock) ∧ some k_ ≠ (.slice bN da.length bM : Value).ownBlock) ∧ some k_ ≠ (.slice bw bq.length bu : Value).ownBlock) ∧ some k_ ≠ (.slice jH hJ.length jq : Value).ownBlock)) (n := cK.length) (c := ce) ?_).2.2; exact (by (with_reducible repeat (first | apply ae | apply ac | apply aa)); exact (ah (am (p := ⟨b9, 0, none⟩) (ap dq.out b3.out (by decide)) (fun _ hk => hk.2) (.slice cp cK.length ce)) (fun _ h_ => h_.1)))); (case side2 => exact (ai dq.out).2.1); (case side3 => refine (ai (e := 101) (base := w.heap.size) (ok := fun k_ => (((some k_ ≠ (.slice bN da.length bM : Value).ownBlock ∧ some k_ ≠ (.slice bw bq.length bu : Value).ownBlock) ∧ some k_ ≠ (.slice jH hJ.length jq : Value).ownBlock) ∧ some k_ ≠ (.slice cp cK.length ce : Value).ownBlock)) (n := bE.length) (c := bL) ?_).2.2; exact (by (with_reducible repeat (first | apply ae | apply ac | apply aa)); exact (ah (am (p := ⟨b9, 0, none⟩) (ap a9.out b3.out (by decide)) (fun _ hk => hk.2) (.slice cp cK.length ce)) (fun _ h_ => h_.1)))); (case side4 => exact (ai a9.out).2.1); rintro e w161 ⟨rfl, hb⟩; refine ⟨_, rfl, ?_⟩; have a6 := aM (ag (by (with_reducible repeat (first | apply ae | apply ac | apply aa)); exact (ah (am (p := ⟨b9, 0, none⟩) (ap a9.out b3.out (by decide)) (fun _ hk => hk.2) (.slice cp cK.length ce)) (fun _ h_ => h_.1))) hb); have ba := aM (ag (by (with_reducible repeat (first | apply ae | apply ac | apply aa)); exact (ah (am (p := ⟨b9, 0, none⟩) (ap a7.out b3.out (by decide)) (fun _ hk => hk.2) (.slice cp cK.length ce)) (fun _ h_ => h_.1))) hb); have bb := aM (ag (by (with_reducible repeat (first | apply ae | apply ac | apply aa)); exact (ah (am (p := ⟨b9, 0, none⟩) (ap a5.out b3.out (by decide)) (fun _ hk => hk.2) (.slice cp cK.length ce)) (fun _ h_ => h_.1))) hb); have bf := aM (ag (by (with_reducible repeat (first | apply ae | apply ac | apply aa)); exact (ah (am (p := ⟨b9, 0, none⟩) (ap dc.out b3.out (by decide)) (fun _ hk => hk.2) (.slice cp cK.length ce)) (fun _ h_ => h_.1))) hb); have bz := aM (ag (by (with_reducible repeat (first | apply ae | apply ac | apply aa)); exact (ah (am (p := ⟨b9, 0, none⟩) (ap dE.out b3.out (by decide)) (fun _ hk => hk.2) (.slice cp cK.length ce)) (fun _ h_ => h_.1))) hb); have bH := aM (ag (by (with_reducible repeat (first | apply ae | apply ac | apply aa)); exact (ah (am (p := ⟨b9, 0, none⟩) (ap dq.out b3.out (by decide)) (fun _ hk => hk.2) (.slice cp cK.length ce)) (fun _ h_ => h_.1))) hb); have bI := aM (af (g := bo) (o := .cells #[.slice bj l0_0.length bk] 24 (0, 0)) (by (with_reducible repeat (first | refine ar ?_ _ | refine aq ?_ | refine au ?_ _)); refine blk_far ?_ dX.out _; (with_reducible repeat (first | refine ar ?_ _ | refine aq ?_ | refine au ?_ _)); exact bc.out) hb); have bZ := aM (af (g := bB) (o := .cells #[.slice bP bE.length bL] 30 (0, 0)) (by (with_reducible repeat (first | refine ar ?_ _ | refine aq ?_ | refine au ?_ _)); refine blk_far ?_ dW.out _; (with_reducible repeat (first | refine ar ?_ _ | refine aq ?_ | refine au ?_ _)); exact bg.out) hb); have b8 := aM (af (g := bJ) (o := .cells #[.slice bN da.length bM] 30 (0, 0)) (by (with_reducible repeat (first | refine ar ?_ _ | refine aq ?_ | refine au ?_ _)); refine blk_far ?_ dV.out _; (with_reducible repeat (first | refine ar ?_ _ | refine aq ?_ | refine au ?_ _)); exact bi.out) hb); have cn := aM (af (g := br) (o := .cells #[.slice bw bq.length bu] 30 (0, 0)) (by (with_reducible repeat (first | refine ar ?_ _ | refine aq ?_ | refine au ?_ _)); refine blk_far ?_ cT.out _; (with_reducible repeat (first | refine ar ?_ _ | refine aq ?_ | refine au ?_ _)); exact bd.out) hb); have cj := aM (af (g := b9) (o := .cells #[.slice cp cK.length ce] 30 (0, 0)) (by (with_reducible repeat (first | refine ar ?_ _ | refine aq ?_ | refine au ?_ _)); refine av (cs := #[.slice none 0 0]) ?_ 0 _ rfl; (with_reducible repeat (first | refine ar ?_ _ | refine aq ?_ | refine au ?_ _)); exact b3.out) hb); have fc := aM (ay (by repeat (first | (with_reducible first | exact HB.out | apply bA | apply pD | apply bD | refine ax ?_ cW.out | refine ax ?_ dt.out | refine ax ?_ eV.out | refine ax ?_ eU.out | refine ax ?_ jy.out) | exact HB.out)) hb); clear a9; clear a7; clear a5; clear dc; clear dE; clear dq; clear bc; clear bg; clear bi; clear bd; clear b3; clear HB; have a9 := a6; have a7 := ba; have a5 := bb; have dc := bf; have dE := bz; have dq := bH; have bc := bI; have bg := bZ; have bi := b8; have bd := cn; have b3 := cj; have HB := fc; clear a6 ba bb bf bz bH bI bZ b8 cn cj fc; (try clear hb); (try clear hb2); (try clear hk); (try clear hi)))
               go_meet
               case rel => exact ⟨_, ((nB != kP)), z1, H', ⟨by have := lL.out; have := nS.out; first | omega | exact Nat.le_refl _⟩, ⟨by (try simp only [hl287000_78]); (with_reducible repeat (first | apply ae | apply ac | apply aa)); exact ah a9.out (fun _ hk => ⟨hk.1.1.1, ⟨hk.1.1.2, hk.2⟩⟩)⟩, ⟨by (try simp only [hl287000_78]); (with_reducible repeat (first | apply ae | apply ac | apply aa)); exact ah a7.out (fun _ hk => ⟨hk.1.1.1, ⟨hk.1.1.2, hk.2⟩⟩)⟩, ⟨by (try simp only [hl287000_78]); (with_reducible repeat (first | apply ae | apply ac | apply aa)); exact ah a5.out (fun _ hk => ⟨hk.1.1.1, ⟨hk.1.1.2, hk.2⟩⟩)⟩, ⟨by (try simp only [hl287000_78]); (with_reducible repeat (first | apply ae | apply ac | apply aa)); exact ah dq.out (fun _ hk => ⟨hk.1.1.1.2, ⟨hk.1.1.2, hk.1.2⟩⟩)⟩, ⟨by (try simp only [hl287000_78]); (with_reducible repeat (first | refine ar ?_ _ | refine aq ?_ | refine au ?_ _)); exact bc.out⟩, ⟨by (try simp only [hl287000_78]); (with_reducible repeat (first | refine ar ?_ _ | refine aq ?_ | refine au ?_ _)); exact bg.out⟩, ⟨by (try simp only [hl287000_78]); (with_reducible repeat (first | refine ar ?_ _ | refine aq ?_ | refine au ?_ _)); exact bi.out⟩, ⟨by (try simp only [hl287000_78]); (with_reducible repeat (first | refine ar ?_ _ | refine aq ?_ | refine au ?_ _)); exact bd.out⟩, ⟨by (try simp only [hl287000_78]); (with_reducible repeat (first | refine ar ?_ _ | refine aq ?_ | refine au ?_ _)); exact b3.out⟩, ⟨y23⟩⟩
              ·replace lI := Bool.eq_false_iff.mpr lI
               subst lI
               rw [if_neg (show ¬ (false = true) by decide)] at H
               have H' := aM H
               clear H
               have hnb162 := fO.out
               have hnc162 := dX.out
               have hnb163 := fN.out
               have hnc163 := dW.out
               have hnb164 := fM.out
               have hnc164 := dV.out
               have hnb165 := dz.out
               have hnc165 := cT.out
               have hcz166_0 : w143.cell? ⟨b9, 0, none⟩ = some (.slice none 0 0) := (bC b3.out 0).trans rfl
               have hfz166_0 := bF b3.out 0
               have hnb167 := cV.out
               have hnc167 := cO.out
               have hnb168 := cN.out
               have hnc168 := cU.out
               have hnb169 := b6.out
               have hnc169 := ch.out
               have hcz170_0 : w143.cell? ⟨bB, 0, none⟩ = some (.slice bP bE.length bL) := (bC bg.out 0).trans rfl
               have hfz170_0 := bF bg.out 0
               go_wp2_with (first | ((with_reducible refine aI (f := 11) rfl ?_); refine aN (some 104) rfl rfl Try.func11 z0 rfl #[.agg #[.slice cp cK.length ce], .agg #[.slice bP bE.length bL]] rfl z12 ?_; (with_reducible refine (laws_eqRope.calls kj78 _ _ cK _ _ bE false _ ?side1 ?side2 ?side3 ?side4 lY.out).mono ?_); (case side1 => refine (ai (e := 101) (base := w.heap.size) (ok := fun k_ => ((((True ∧ some k_ ≠ (.slice bP bE.length bL : Value).ownBlock) ∧ some k_ ≠ (.slice bN da.length bM : Value).ownBlock) ∧ some k_ ≠ (.slice bw bq.length bu : Value).ownBlock) ∧ some k_ ≠ (.slice jH hJ.length jq : Value).ownBlock)) (n := cK.length) (c := ce) ?_).2.2; exact (by (with_reducible repeat (first | apply ae | apply ac | apply aa)); exact (ah (am (p := ⟨b9, 0, none⟩) (ap dq.out b3.out (by decide)) (fun _ hk => hk.2) (.slice cp cK.length ce)) (fun _ h_ => h_.1)))); (case side2 => exact (ai dq.out).2.1); (case side3 => refine (ai (e := 101) (base := w.heap.size) (ok := fun k_ => (((some k_ ≠ (.slice bN da.length bM : Value).ownBlock ∧ some k_ ≠ (.slice bw bq.length bu : Value).ownBlock) ∧ some k_ ≠ (.slice jH hJ.length jq : Value).ownBlock) ∧ some k_ ≠ (.slice cp cK.length ce : Value).ownBlock)) (n := bE.length) (c := bL) ?_).2.2; exact (by (with_reducible repeat (first | apply ae | apply ac | apply aa)); exact (ah (am (p := ⟨b9, 0, none⟩) (ap a9.out b3.out (by decide)) (fun _ hk => hk.2) (.slice cp cK.length ce)) (fun _ h_ => h_.1)))); (case side4 => exact (ai a9.out).2.1); rintro e w171 ⟨rfl, hb⟩; refine ⟨_, rfl, ?_⟩; have a6 := aM (ag (by (with_reducible repeat (first | apply ae | apply ac | apply aa)); exact (ah (am (p := ⟨b9, 0, none⟩) (ap a9.out b3.out (by decide)) (fun _ hk => hk.2) (.slice cp cK.length ce)) (fun _ h_ => h_.1))) hb); have ba := aM (ag (by (with_reducible repeat (first | apply ae | apply ac | apply aa)); exact (ah (am (p := ⟨b9, 0, none⟩) (ap a7.out b3.out (by decide)) (fun _ hk => hk.2) (.slice cp cK.length ce)) (fun _ h_ => h_.1))) hb); have bb := aM (ag (by (with_reducible repeat (first | apply ae | apply ac | apply aa)); exact (ah (am (p := ⟨b9, 0, none⟩) (ap a5.out b3.out (by decide)) (fun _ hk => hk.2) (.slice cp cK.length ce)) (fun _ h_ => h_.1))) hb); have bf := aM (ag (by (with_reducible repeat (first | apply ae | apply ac | apply aa)); exact (ah (am (p := ⟨b9, 0, none⟩) (ap dc.out b3.out (by decide)) (fun _ hk => hk.2) (.slice cp cK.length ce)) (fun _ h_ => h_.1))) hb); have bz := aM (ag (by (with_reducible repeat (first | apply ae | apply ac | apply aa)); exact (ah (am (p := ⟨b9, 0, none⟩) (ap dE.out b3.out (by decide)) (fun _ hk => hk.2) (.slice cp cK.length ce)) (fun _ h_ => h_.1))) hb); have bH := aM (ag (by (with_reducible repeat (first | apply ae | apply ac | apply aa)); exact (ah (am (p := ⟨b9, 0, none⟩) (ap dq.out b3.out (by decide)) (fun _ hk => hk.2) (.slice cp cK.length ce)) (fun _ h_ => h_.1))) hb); have bI := aM (af (g := bo) (o := .cells #[.slice bj l0_0.length bk] 24 (0, 0)) (by (with_reducible repeat (first | refine ar ?_ _ | refine aq ?_ | refine au ?_ _)); refine blk_far ?_ dX.out _; (with_reducible repeat (first | refine ar ?_ _ | refine aq ?_ | refine au ?_ _)); exact bc.out) hb); have bZ := aM (af (g := bB) (o := .cells #[.slice bP bE.length bL] 30 (0, 0)) (by (with_reducible repeat (first | refine ar ?_ _ | refine aq ?_ | refine au ?_ _)); refine blk_far ?_ dW.out _; (with_reducible repeat (first | refine ar ?_ _ | refine aq ?_ | refine au ?_ _)); exact bg.out) hb); have b8 := aM (af (g := bJ) (o := .cells #[.slice bN da.length bM] 30 (0, 0)) (by (with_reducible repeat (first | refine ar ?_ _ | refine aq ?_ | refine au ?_ _)); refine blk_far ?_ dV.out _; (with_reducible repeat (first | refine ar ?_ _ | refine aq ?_ | refine au ?_ _)); exact bi.out) hb); have cn := aM (af (g := br) (o := .cells #[.slice bw bq.length bu] 30 (0, 0)) (by (with_reducible repeat (first | refine ar ?_ _ | refine aq ?_ | refine au ?_ _)); refine blk_far ?_ cT.out _; (with_reducible repeat (first | refine ar ?_ _ | refine aq ?_ | refine au ?_ _)); exact bd.out) hb); have cj := aM (af (g := b9) (o := .cells #[.slice cp cK.length ce] 30 (0, 0)) (by (with_reducible repeat (first | refine ar ?_ _ | refine aq ?_ | refine au ?_ _)); refine av (cs := #[.slice none 0 0]) ?_ 0 _ rfl; (with_reducible repeat (first | refine ar ?_ _ | refine aq ?_ | refine au ?_ _)); exact b3.out) hb); have fc := aM (ay (by repeat (first | (with_reducible first | exact HB.out | apply bA | apply pD | apply bD | refine ax ?_ cW.out | refine ax ?_ dt.out | refine ax ?_ eV.out | refine ax ?_ eU.out | refine ax ?_ jy.out) | exact HB.out)) hb); clear a9; clear a7; clear a5; clear dc; clear dE; clear dq; clear bc; clear bg; clear bi; clear bd; clear b3; clear HB; have a9 := a6; have a7 := ba; have a5 := bb; have dc := bf; have dE := bz; have dq := bH; have bc := bI; have bg := bZ; have bi := b8; have bd := cn; have b3 := cj; have HB := fc; clear a6 ba bb bf bz bH bI bZ b8 cn cj fc; (try clear hb); (try clear hb2); (try clear hk); (try clear hi)))
               go_meet
               case rel => exact ⟨_, (true), z1, H', ⟨by have := lL.out; have := nS.out; first | omega | exact Nat.le_refl _⟩, ⟨by (try simp only [hl287000_78]); (with_reducible repeat (first | apply ae | apply ac | apply aa)); exact ah a9.out (fun _ hk => ⟨hk.1.1.1, ⟨hk.1.1.2, hk.2⟩⟩)⟩, ⟨by (try simp only [hl287000_78]); (with_reducible repeat (first | apply ae | apply ac | apply aa)); exact ah a7.out (fun _ hk => ⟨hk.1.1.1, ⟨hk.1.1.2, hk.2⟩⟩)⟩, ⟨by (try simp only [hl287000_78]); (with_reducible repeat (first | apply ae | apply ac | apply aa)); exact ah a5.out (fun _ hk => ⟨hk.1.1.1, ⟨hk.1.1.2, hk.2⟩⟩)⟩, ⟨by (try simp only [hl287000_78]); (with_reducible repeat (first | apply ae | apply ac | apply aa)); exact ah dq.out (fun _ hk => ⟨hk.1.1.1.2, ⟨hk.1.1.2, hk.1.2⟩⟩)⟩, ⟨by (try simp only [hl287000_78]); (with_reducible repeat (first | refine ar ?_ _ | refine aq ?_ | refine au ?_ _)); exact bc.out⟩, ⟨by (try simp only [hl287000_78]); (with_reducible repeat (first | refine ar ?_ _ | refine aq ?_ | refine au ?_ _)); exact bg.out⟩, ⟨by (try simp only [hl287000_78]); (with_reducible repeat (first | refine ar ?_ _ | refine aq ?_ | refine au ?_ _)); exact bi.out⟩, ⟨by (try simp only [hl287000_78]); (with_reducible repeat (first | refine ar ?_ _ | refine aq ?_ | refine au ?_ _)); exact bd.out⟩, ⟨by (try simp only [hl287000_78]); (with_reducible repeat (first | refine ar ?_ _ | refine aq ?_ | refine au ?_ _)); exact b3.out⟩, ⟨y23⟩⟩
             case rest =>
              clear lN
              try clear c1
              try clear p2
              try clear c3
              try clear c4
              try clear c4b0
              try clear c5
              try clear c6
              try clear c7
              try clear c8
              try clear c9
              try clear c9b0
              try clear cL
              try clear dH
              try clear eT
              try clear dM
              try clear fG
              try clear ex
              try clear fL
              try clear l8
              try clear nb
              try clear me
              try clear l7
              try clear l6
              try clear oS
              try clear m8
              try clear oR
              try clear oQ
              try clear oP
              try clear oO
              try clear oN
              try clear oM
              try clear oL
              try clear oK
              try clear oJ
              try clear oI
              try clear ny
              try clear nx
              try clear nw
              try clear c87
              try clear c88
              try clear c89
              try clear mi
              try clear c93b0
              try clear nv
              try clear c96
              try clear c97
              try clear c98
              try clear c100
              try clear c101
              try clear c104
              try clear c105
              try clear c106
              try clear c108
              try clear c109
              try clear lJ
              try clear jT
              try clear c115b0
              try clear c116
              try clear c117
              try clear c118
              try clear jr
              try clear c123b0
              try clear c123b1
              try clear c128
              try clear c129
              try clear c130
              try clear c135
              try clear c136
              try clear c145
              try clear c146
              try clear c147
              try clear c148
              try clear lI
              try clear c152
              try clear c153
              try clear c154
              try clear c155
              try clear c157
              try clear c158
              try clear c159
              try clear c162
              try clear c163
              try clear c164
              try clear c165
              try clear c167
              try clear c168
              try clear c169
              try clear jn
              try clear jm
              try clear jl
              try clear hcz119_0
              try clear ed
              try clear hcz121_0
              try clear hcz131_0
              try clear hcz133_0
              try clear hcz137_0
              try clear hcz149_0
              try clear hcz156_0
              try clear hcz160_0
              try clear hcz166_0
              try clear hcz170_0
              try clear dy
              try clear fq
              try clear fp
              try clear iS
              try clear iR
              try clear iQ
              try clear ga
              try clear iP
              try clear iO
              try clear iN
              try clear iM
              try clear dL
              try clear ko
              try clear kn
              try clear jk
              try clear jj
              try clear ji
              try clear hfz119_0
              try clear d6
              try clear hfz121_0
              try clear hfz131_0
              try clear hfz133_0
              try clear hfz137_0
              try clear hfz149_0
              try clear hfz156_0
              try clear hfz160_0
              try clear hfz166_0
              try clear hfz170_0
              try clear dx
              try clear fe
              try clear fd
              try clear ip
              try clear im
              try clear il
              try clear fX
              try clear ik
              try clear ij
              try clear ii
              try clear ig
              try clear dK
              try clear jX
              try clear jW
              try clear p2
              obtain ⟨kq, x110_126, rfl, HA, HJ126, a9, a7, a5, cH, bc, bg, bi, bd, b3, HB⟩ := hcut
              have hl295000_126 := (ai a5.out).1
              rw [hl295000_126] at a5
              (try simp only [hl295000_126])
              (try simp only [hl295000_126] at bc)
              (try simp only [hl295000_126] at bg)
              (try simp only [hl295000_126] at bi)
              (try simp only [hl295000_126] at bd)
              (try simp only [hl295000_126] at b3)
              (try simp only [hl295000_126] at a9)
              (try simp only [hl295000_126] at a7)
              (try simp only [hl295000_126] at cH)
              cases kq with
              | zero => exact absurd HA.out (by simp [laws_FnExactEditRope.j2])
              | succ kj126 =>
               have H := HA.out
               clear HA
               simp only [laws_FnExactEditRope.j2] at H
               by_cases mf : x110_126 = true
               ·subst mf
                rw [if_pos rfl] at H
                first | (cases H.trans (congrArg some HRT.out); done) | skip
                all_goals
                 obtain rfl := sI H
                 go_wp2
                 go_ret
                 exact ⟨y3, y23⟩
               ·replace mf := Bool.eq_false_iff.mpr mf
                subst mf
                rw [if_neg (show ¬ (false = true) by decide)] at H
                replace H := oB H
                obtain ⟨e9, mF, H⟩ := H
                try dsimp only at H
                have nr := aM mF
                clear mF
                by_cases kZ : e9 < 0
                ·rw [if_pos kZ] at H
                 have c174b0 : decide (e9 < 0) = true := dT kZ
                 clear kZ
                 first | (cases H.trans (congrArg some HRT.out); done) | skip
                 all_goals
                  obtain rfl := sI H
                  have hnb175 := cx.out
                  have hnc175 := ci.out
                  have hnb176 := ch.out
                  have hnc176 := b6.out
                  have hnb177 := cr.out
                  have hnc177 := cb.out
                  have hnb178 := cT.out
                  have hnc178 := dz.out
                  have hcz179_0 : wc.cell? ⟨br, 0, none⟩ = some (.slice bw cZ.length bu) := (bC bd.out 0).trans rfl
                  have hfz179_0 := bF bd.out 0
                  go_wp2_with (first | ((with_reducible refine aI (f := 15) rfl ?_); refine aN (some 113) rfl rfl Try.func15 z0 rfl #[.agg #[.slice bw cZ.length bu], .int .i64 1] rfl z12 ?_; (with_reducible refine (laws_heldRope.calls kj126 _ _ cZ 1 e9 _ ?side1 ?side2 nr.out).mono ?_); (case side1 => repeat (first | exact (ai a5.out).2.2 | (with_reducible refine aE ?_ _) | (with_reducible refine aG ?_ _) | (with_reducible refine aH ?_))); (case side2 => exact (ai a5.out).2.1); rintro e w180 ⟨rfl, hb⟩; refine ⟨_, rfl, ?_⟩; have a6 := aM (ag z3 hb); have ba := aM (ag z4 hb); have bb := aM (ag z5 hb); have bf := aM (ag (by (with_reducible repeat (first | apply ae | apply ac | apply aa)); exact cH.out) hb); have bz := aM (af (g := bo) (o := .cells #[.slice bj l0_0.length bk] 24 (0, 0)) z7 hb); have bH := aM (af (g := bB) (o := .cells #[.slice bP bE.length bL] 30 (0, 0)) z8 hb); have bI := aM (af (g := bJ) (o := .cells #[.slice bN da.length bM] 30 (0, 0)) z9 hb); have bZ := aM (af (g := br) (o := .cells #[.slice bw cZ.length bu] 30 (0, 0)) z10 hb); have b8 := aM (af (g := b9) (o := .cells #[.slice cp cK.length ce] 30 (0, 0)) (by (with_reducible repeat (first | refine ar ?_ _ | refine aq ?_ | refine au ?_ _)); exact b3.out) hb); have cn := aM (ay (by repeat (first | (with_reducible first | exact HB.out | apply bA | apply pD | apply bD | refine ax ?_ cW.out | refine ax ?_ dt.out | refine ax ?_ eV.out | refine ax ?_ eU.out | refine ax ?_ jy.out) | exact HB.out)) hb); clear a9; clear a7; clear a5; clear cH; clear bc; clear bg; clear bi; clear bd; clear b3; clear HB; have a9 := a6; have a7 := ba; have a5 := bb; have cH := bf; have bc := bz; have bg := bH; have bi := bI; have bd := bZ; have b3 := b8; have HB := cn; clear a6 ba bb bf bz bH bI bZ b8 cn; (try clear hb); (try clear hb2); (try clear hk); (try clear hi)))
                  go_ret
                  exact ⟨y3, y23⟩
                ·rw [if_neg kZ] at H
                 have c174b0 : decide (e9 < 0) = false := dF kZ
                 clear kZ
                 by_cases jS : e9 = fb
                 ·rw [if_pos jS] at H
                  have c181b0 : (e9 == fb) = true := qT jS
                  have c181b1 : (e9 != fb) = false := nF jS
                  clear jS
                  first | (cases H.trans (congrArg some HRT.out); done) | skip
                  all_goals
                   obtain rfl := sI H
                   have hnb182 := cx.out
                   have hnc182 := ci.out
                   have hnb183 := ch.out
                   have hnc183 := b6.out
                   have hnb184 := cr.out
                   have hnc184 := cb.out
                   have hnb185 := cT.out
                   have hnc185 := dz.out
                   have hcz186_0 : wc.cell? ⟨br, 0, none⟩ = some (.slice bw cZ.length bu) := (bC bd.out 0).trans rfl
                   have hfz186_0 := bF bd.out 0
                   go_wp2_with (first | ((with_reducible refine aI (f := 15) rfl ?_); refine aN (some 113) rfl rfl Try.func15 z0 rfl #[.agg #[.slice bw cZ.length bu], .int .i64 1] rfl z12 ?_; (with_reducible refine (laws_heldRope.calls kj126 _ _ cZ 1 e9 _ ?side1 ?side2 nr.out).mono ?_); (case side1 => repeat (first | exact (ai a5.out).2.2 | (with_reducible refine aE ?_ _) | (with_reducible refine aG ?_ _) | (with_reducible refine aH ?_))); (case side2 => exact (ai a5.out).2.1); rintro e w187 ⟨rfl, hb⟩; refine ⟨_, rfl, ?_⟩; have a6 := aM (ag z3 hb); have ba := aM (ag z4 hb); have bb := aM (ag z5 hb); have bf := aM (ag (by (with_reducible repeat (first | apply ae | apply ac | apply aa)); exact cH.out) hb); have bz := aM (af (g := bo) (o := .cells #[.slice bj l0_0.length bk] 24 (0, 0)) z7 hb); have bH := aM (af (g := bB) (o := .cells #[.slice bP bE.length bL] 30 (0, 0)) z8 hb); have bI := aM (af (g := bJ) (o := .cells #[.slice bN da.length bM] 30 (0, 0)) z9 hb); have bZ := aM (af (g := br) (o := .cells #[.slice bw cZ.length bu] 30 (0, 0)) z10 hb); have b8 := aM (af (g := b9) (o := .cells #[.slice cp cK.length ce] 30 (0, 0)) (by (with_reducible repeat (first | refine ar ?_ _ | refine aq ?_ | refine au ?_ _)); exact b3.out) hb); have cn := aM (ay (by repeat (first | (with_reducible first | exact HB.out | apply bA | apply pD | apply bD | refine ax ?_ cW.out | refine ax ?_ dt.out | refine ax ?_ eV.out | refine ax ?_ eU.out | refine ax ?_ jy.out) | exact HB.out)) hb); clear a9; clear a7; clear a5; clear cH; clear bc; clear bg; clear bi; clear bd; clear b3; clear HB; have a9 := a6; have a7 := ba; have a5 := bb; have cH := bf; have bc := bz; have bg := bH; have bi := bI; have bd := bZ; have b3 := b8; have HB := cn; clear a6 ba bb bf bz bH bI bZ b8 cn; (try clear hb); (try clear hb2); (try clear hk); (try clear hi)))
                   go_ret
                   exact ⟨y3, y23⟩
                 ·rw [if_neg jS] at H
                  have c181b0 : (e9 == fb) = false := qF jS
                  have c181b1 : (e9 != fb) = true := nT jS
                  first | (cases H.trans (congrArg some HRT.out); done) | skip
                  all_goals
                   obtain rfl := sI H
                   have hnb188 := cx.out
                   have hnc188 := ci.out
                   have hnb189 := ch.out
                   have hnc189 := b6.out
                   have hnb190 := cr.out
                   have hnc190 := cb.out
                   have hnb191 := cT.out
                   have hnc191 := dz.out
                   have hcz192_0 : wc.cell? ⟨br, 0, none⟩ = some (.slice bw cZ.length bu) := (bC bd.out 0).trans rfl
                   have hfz192_0 := bF bd.out 0
                   go_wp2_with (first | ((with_reducible refine aI (f := 15) rfl ?_); refine aN (some 113) rfl rfl Try.func15 z0 rfl #[.agg #[.slice bw cZ.length bu], .int .i64 1] rfl z12 ?_; (with_reducible refine (laws_heldRope.calls kj126 _ _ cZ 1 e9 _ ?side1 ?side2 nr.out).mono ?_); (case side1 => repeat (first | exact (ai a5.out).2.2 | (with_reducible refine aE ?_ _) | (with_reducible refine aG ?_ _) | (with_reducible refine aH ?_))); (case side2 => exact (ai a5.out).2.1); rintro e w193 ⟨rfl, hb⟩; refine ⟨_, rfl, ?_⟩; have a6 := aM (ag z3 hb); have ba := aM (ag z4 hb); have bb := aM (ag z5 hb); have bf := aM (ag (by (with_reducible repeat (first | apply ae | apply ac | apply aa)); exact cH.out) hb); have bz := aM (af (g := bo) (o := .cells #[.slice bj l0_0.length bk] 24 (0, 0)) z7 hb); have bH := aM (af (g := bB) (o := .cells #[.slice bP bE.length bL] 30 (0, 0)) z8 hb); have bI := aM (af (g := bJ) (o := .cells #[.slice bN da.length bM] 30 (0, 0)) z9 hb); have bZ := aM (af (g := br) (o := .cells #[.slice bw cZ.length bu] 30 (0, 0)) z10 hb); have b8 := aM (af (g := b9) (o := .cells #[.slice cp cK.length ce] 30 (0, 0)) (by (with_reducible repeat (first | refine ar ?_ _ | refine aq ?_ | refine au ?_ _)); exact b3.out) hb); have cn := aM (ay (by repeat (first | (with_reducible first | exact HB.out | apply bA | apply pD | apply bD | refine ax ?_ cW.out | refine ax ?_ dt.out | refine ax ?_ eV.out | refine ax ?_ eU.out | refine ax ?_ jy.out) | exact HB.out)) hb); clear a9; clear a7; clear a5; clear cH; clear bc; clear bg; clear bi; clear bd; clear b3; clear HB; have a9 := a6; have a7 := ba; have a5 := bb; have cH := bf; have bc := bz; have bg := bH; have bi := bI; have bd := bZ; have b3 := b8; have HB := cn; clear a6 ba bb bf bz bH bI bZ b8 cn; (try clear hb); (try clear hb2); (try clear hk); (try clear hi)))
                   go_ret
                   exact ⟨y3, y23⟩
            ·rw [if_neg jr] at H
             have c123b0 : (fa == fb) = false := qF jr
             have c123b1 : (fa != fb) = true := nT jr
             first | (cases H.trans (congrArg some HRT.out); done) | skip
             all_goals
              obtain rfl := sI H
              have hnb194 := cx.out
              have hnc194 := ci.out
              have hnb195 := ch.out
              have hnc195 := b6.out
              have hnb196 := cr.out
              have hnc196 := cb.out
              have hcz197_0 : wc.cell? ⟨br, 0, none⟩ = some (.slice bw bq.length bu) := (bC bd.out 0).trans rfl
              have hfz197_0 := bF bd.out 0
              go_wp2_with (first | ((with_reducible refine aI (f := 13) rfl ?_); refine aN (some 85) rfl rfl Try.func13 z0 rfl #[.agg #[.slice bw bq.length bu], .int .i64 1] rfl z12 ?_; (with_reducible refine (laws_markRope.calls kj78 (fun k_ => some k_ = (.slice bw bq.length bu : Value).ownBlock) (.slice bw bq.length bu) bq 1 fb cZ w _ ?side1 ?side2 nu.out).mono ?_); (case side1 => repeat (first | (with_reducible first | exact HB.out | apply bA | apply pD | apply bD | refine ax ?_ cW.out | refine ax ?_ dt.out | refine ax ?_ eV.out | refine ax ?_ eU.out) | exact HB.out)); (case side2 => exact Kd.R_tight rfl a5.out); rintro e w198 ⟨rfl, hy0, hb, hkp⟩; refine ⟨_, rfl, ?_⟩; have a6 := aM (ah (ok' := fun k_ => some k_ ≠ (.slice bN da.length bM : Value).ownBlock ∧ some k_ ≠ (.slice bw bq.length bu : Value).ownBlock) (Kd.R_keptB (a9.out) hkp (fun k_ hk_ hs_ => (hk_.2) hs_)) (fun k_ hk_ => ⟨hk_.1.1, hk_.1.2⟩)); have ba := aM (ah (ok' := fun k_ => some k_ ≠ (.slice bP bE.length bL : Value).ownBlock ∧ some k_ ≠ (.slice bw bq.length bu : Value).ownBlock) (Kd.R_keptB (a7.out) hkp (fun k_ hk_ hs_ => (hk_.2) hs_)) (fun k_ hk_ => ⟨hk_.1.1, hk_.1.2⟩)); have bb := aM (Kd.R_reok rfl hy0 (fun k_ e_ => a5.out.1 k_ e_)); have bf := aM (blk_kept z7 hkp (fun hs_ => (fun e_ => (Kd.R_ne a5.out bc.out (by decide)) e_) hs_)); have bz := aM (blk_kept z8 hkp (fun hs_ => (fun e_ => (Kd.R_ne a5.out bg.out (by decide)) e_) hs_)); have bH := aM (blk_kept z9 hkp (fun hs_ => (fun e_ => (Kd.R_ne a5.out bi.out (by decide)) e_) hs_)); have bI := aM (blk_kept z10 hkp (fun hs_ => (fun e_ => (Kd.R_ne a5.out bd.out (by decide)) e_) hs_)); have bZ := aM (hb); clear a9; clear a7; clear a5; clear bc; clear bg; clear bi; clear bd; clear HB; have a9 := a6; have a7 := ba; have a5 := bb; have bc := bf; have bg := bz; have bi := bH; have bd := bI; have HB := bZ; clear a6 ba bb bf bz bH bI bZ; (try clear hb); (try clear hkp); (try clear hy0); have hcz199_0 : w198.cell? ⟨br, 0, none⟩ = some (.slice bw bq.length bu) := (bC bd.out 0).trans rfl; have hfz199_0 := bF bd.out 0) | ((with_reducible refine aI (f := 15) rfl ?_); refine aN (some 88) rfl rfl Try.func15 z0 rfl #[.agg #[.slice bw cZ.length bu], .int .i64 1] rfl (by (try simp only [List.map_toArray, List.map_cons, List.map_nil]); first | done | (rw [show cZ.length = bq.length from (ai a5.out).1.symm] <;> rfl) | rfl | (simp only [List.length_drop, List.length_take]; rfl)) ?_; (with_reducible refine (laws_heldRope.calls kj78 _ _ cZ 1 fa _ ?side1 ?side2 nt.out).mono ?_); (case side1 => repeat (first | exact (ai a5.out).2.2 | (with_reducible refine aE ?_ _) | (with_reducible refine aG ?_ _) | (with_reducible refine aH ?_))); (case side2 => rw [show cZ.length = bq.length from (ai a5.out).1.symm]; exact (ai a5.out).2.1); rintro e w200 ⟨rfl, hb⟩; refine ⟨_, rfl, ?_⟩; have a6 := aM (ag z3 hb); have ba := aM (ag z4 hb); have bb := aM (ag z5 hb); have bf := aM (af (g := bo) (o := .cells #[.slice bj l0_0.length bk] 24 (0, 0)) z7 hb); have bz := aM (af (g := bB) (o := .cells #[.slice bP bE.length bL] 30 (0, 0)) z8 hb); have bH := aM (af (g := bJ) (o := .cells #[.slice bN da.length bM] 30 (0, 0)) z9 hb); have bI := aM (af (g := br) (o := .cells #[.slice bw bq.length bu] 30 (0, 0)) z10 hb); have bZ := aM (ay z20 hb); clear a9; clear a7; clear a5; clear bc; clear bg; clear bi; clear bd; clear HB; have a9 := a6; have a7 := ba; have a5 := bb; have bc := bf; have bg := bz; have bi := bH; have bd := bI; have HB := bZ; clear a6 ba bb bf bz bH bI bZ; (try clear hb); (try clear hb2); (try clear hk); (try clear hi)))
              go_ret
              exact ⟨y3, y22⟩
       ·replace nw := Bool.eq_false_iff.mpr nw
        subst nw
        rw [if_neg (show ¬ (false = true) by decide)] at H
        first | (cases H.trans (congrArg some HRT.out); done) | skip
        all_goals
         obtain rfl := sI H
         try go_wp2
         have a6 := aM (aa bU.out)
         have ba := aM (aa a9.out)
         have bb := aM (aa a7.out)
         have bf := aM (aa a5.out)
         have bz := aM (aq bc.out)
         have bH := aM (aq bg.out)
         have bI := aM (aq bi.out)
         have bZ := aM (aq bd.out)
         have b8 := aM (bD HB.out)
         clear bU
         clear a9
         clear a7
         clear a5
         clear bc
         clear bg
         clear bi
         clear bd
         clear HB
         have bU := a6
         have a9 := ba
         have a7 := bb
         have a5 := bf
         have bc := bz
         have bg := bH
         have bi := bI
         have bd := bZ
         have HB := b8
         clear a6 ba bb bf bz bH bI bZ b8
         refine start_ (n := 5) (S := fun w' => w'.cell? ⟨bJ, 0, none⟩ = some (.slice bN bT.length bM) ∧ w'.cell? ⟨bo, 0, none⟩ = some (.slice bj l0_0.length bk)) (ds := []) #[false, false, false, false, false] z0 rfl rfl ⟨(bC bi.out 0).trans rfl, (bC bc.out 0).trans rfl⟩ (fun hHeld => ?_)
         generalize wc.drew = w201 at bU a9 a7 a5 bc bg bi bd HB hHeld ⊢
         refine tA 0 54 ?_ (hy := by rintro w' ⟨s0, s1⟩; go_simp; with_reducible rfl)
         refine tA 1 55 ?_ (hy := by rintro w' ⟨s0, s1⟩; go_simp; with_reducible rfl)
         refine one_ (i := 2) (N := some 56) #[true, true, true, false, false] rfl rfl z0 (by decide) (fun K hK => ?_)
         refine goes_ Try.func8 z0 rfl #[.agg #[.slice bj l0_0.length bk]] (by rfl) rfl rfl z12 ?_
         with_reducible refine (laws_toRope.calls kj19 _ _ l0_0 eQ _ ?side1 ?side2 oF.out).mono ?_
         (case side1 => repeat (first | exact (aD cI.out HB.out) | (with_reducible refine aE ?_ _) | (with_reducible refine aG ?_ _) | (with_reducible refine aH ?_)))
         (case side2 => exact cM.out)
         rintro e w202 ⟨v297, rfl, ho0, hb⟩
         refine ⟨_, rfl, ?_⟩
         have a6 := aM (ag (by (with_reducible repeat (first | apply ae | apply ac | apply aa)); exact bU.out) hb)
         have ba := aM (aj z3 (al ho0) hb)
         have bb := aM (aj z4 (al ho0) hb)
         have bf := aM (aj z5 (al ho0) hb)
         have bz := aM (aT (ak (ak (ak ho0 (Kd.R_lt z3)) (Kd.R_lt z4)) (Kd.R_lt z5)) (az z20))
         have bH := aM (af (g := bo) (o := .cells #[.slice bj l0_0.length bk] 24 (0, 0)) z7 hb)
         have bI := aM (af (g := bB) (o := .cells #[.slice bP bE.length bL] 30 (0, 0)) z8 hb)
         have bZ := aM (af (g := bJ) (o := .cells #[.slice bN bT.length bM] 30 (0, 0)) z9 hb)
         have b8 := aM (af (g := br) (o := .cells #[.slice bw bq.length bu] 30 (0, 0)) z10 hb)
         have cn := aM (ay z20 hb)
         clear bU
         clear a9
         clear a7
         clear a5
         clear bc
         clear bg
         clear bi
         clear bd
         clear HB
         have bU := a6
         have a9 := ba
         have a7 := bb
         have a5 := bf
         have bW := bz
         have bc := bH
         have bg := bI
         have bi := bZ
         have bd := b8
         have HB := cn
         clear a6 ba bb bf bz bH bI bZ b8 cn
         (try clear hb)
         (try clear hb2)
         (try clear hk)
         (try clear hi)
         (try clear ho0)
         obtain ⟨Ao203, co203, eo203⟩ := Kd.R_slice bW.out
         (first | subst eo203 | (injection eo203 with f1_ f2_ f3_; have f4_ := f1_.symm; have f5_ := f3_.symm; clear f1_ f2_ f3_; subst f4_; subst f5_))
         refine hK.out _ _ ⟨(bC bi.out 0).trans rfl, (bC bc.out 0).trans rfl⟩ (fun hHeld => ?_)
         clear hK K
         refine norm_ (a' := ?_) ?_ ?_
         rotate_left
         ·show Act.put _ (some 56) _ = _
          simp only [Act.put, sA, sB, sC, i64_w, i32_w]
          rfl
         refine one_ (i := 3) (N := some 57) #[true, true, true, true, false] rfl rfl z0 (by decide) (fun K hK => ?_)
         refine goes_ Try.func11 z0 rfl #[.agg #[.slice bN bT.length bM], .agg #[.slice Ao203 eQ.length co203]] (by rfl) rfl rfl z12 ?_
         with_reducible refine (laws_eqRope.calls kj19 _ _ bT _ _ eQ true _ ?side1 ?side2 ?side3 ?side4 oE.out).mono ?_
         (case side1 => repeat (first | exact (ai a7.out).2.2 | (with_reducible refine aE ?_ _) | (with_reducible refine aG ?_ _) | (with_reducible refine aH ?_)))
         (case side2 => exact (ai a7.out).2.1)
         (case side3 => repeat (first | exact (ai bW.out).2.2 | (with_reducible refine aE ?_ _) | (with_reducible refine aG ?_ _) | (with_reducible refine aH ?_)))
         (case side4 => exact (ai bW.out).2.1)
         rintro e w204 ⟨rfl, hb⟩
         refine ⟨_, rfl, ?_⟩
         have a6 := aM (ag (by (with_reducible repeat (first | apply ae | apply ac | apply aa)); exact bU.out) hb)
         have ba := aM (ag z3 hb)
         have bb := aM (ag z4 hb)
         have bf := aM (ag z5 hb)
         have bz := aM (ag (by (with_reducible repeat (first | apply ae | apply ac | apply aa)); exact bW.out) hb)
         have bH := aM (af (g := bo) (o := .cells #[.slice bj l0_0.length bk] 24 (0, 0)) z7 hb)
         have bI := aM (af (g := bB) (o := .cells #[.slice bP bE.length bL] 30 (0, 0)) z8 hb)
         have bZ := aM (af (g := bJ) (o := .cells #[.slice bN bT.length bM] 30 (0, 0)) z9 hb)
         have b8 := aM (af (g := br) (o := .cells #[.slice bw bq.length bu] 30 (0, 0)) z10 hb)
         have cn := aM (ay z20 hb)
         clear bU
         clear a9
         clear a7
         clear a5
         clear bW
         clear bc
         clear bg
         clear bi
         clear bd
         clear HB
         have bU := a6
         have a9 := ba
         have a7 := bb
         have a5 := bf
         have bW := bz
         have bc := bH
         have bg := bI
         have bi := bZ
         have bd := b8
         have HB := cn
         clear a6 ba bb bf bz bH bI bZ b8 cn
         (try clear hb)
         (try clear hb2)
         (try clear hk)
         (try clear hi)
         refine hK.out _ _ ⟨(bC bi.out 0).trans rfl, (bC bc.out 0).trans rfl⟩ (fun hHeld => ?_)
         clear hK K
         refine norm_ (a' := ?_) ?_ ?_
         rotate_left
         ·show Act.put _ (some 57) _ = _
          simp only [Act.put, sA, sB, sC, i64_w, i32_w]
          rfl
         refine pA 4 58 ?_
         refine done_ z0 ?_
         try go_wp2_with (first | ((with_reducible refine aI (f := 9) rfl ?_); refine aN (some 61) rfl rfl Try.func9 z0 rfl #[.slice A1 l1.length c1] rfl z12 ?_; (with_reducible refine (laws_toPartS.calls kj19 _ _ l1 hO _ ?side1 ?side2 oX.out).mono ?_); (case side1 => repeat (first | exact (aD fH.out HB.out) | (with_reducible refine aE ?_ _) | (with_reducible refine aG ?_ _) | (with_reducible refine aH ?_))); (case side2 => exact di.out); rintro e w205 ⟨v301, rfl, ho0, hb⟩; refine ⟨_, rfl, ?_⟩; have a6 := aM (aj (by (with_reducible repeat (first | apply ae | apply ac | apply aa)); exact bU.out) (al ho0) hb); have ba := aM (ag z3 hb); have bb := aM (ag z4 hb); have bf := aM (ag z5 hb); have bz := aM (ag (by (with_reducible repeat (first | apply ae | apply ac | apply aa)); exact bW.out) hb); have bH := aM (aT (ak ho0 (Kd.R_lt (by (with_reducible repeat (first | apply ae | apply ac | apply aa)); exact bU.out))) (az z20)); have bI := aM (af (g := bo) (o := .cells #[.slice bj l0_0.length bk] 24 (0, 0)) z7 hb); have bZ := aM (af (g := bB) (o := .cells #[.slice bP bE.length bL] 30 (0, 0)) z8 hb); have b8 := aM (af (g := bJ) (o := .cells #[.slice bN bT.length bM] 30 (0, 0)) z9 hb); have cn := aM (af (g := br) (o := .cells #[.slice bw bq.length bu] 30 (0, 0)) z10 hb); have cj := aM (ay z20 hb); clear bU; clear a9; clear a7; clear a5; clear bW; clear bc; clear bg; clear bi; clear bd; clear HB; have bU := a6; have a9 := ba; have a7 := bb; have a5 := bf; have bW := bz; have cG := bH; have bc := bI; have bg := bZ; have bi := b8; have bd := cn; have HB := cj; clear a6 ba bb bf bz bH bI bZ b8 cn cj; (try clear hb); (try clear hb2); (try clear hk); (try clear hi); (try clear ho0); obtain ⟨Ao206, co206, eo206⟩ := Kd.R_slice cG.out; subst eo206) | ((with_reducible refine aI (f := 12) rfl ?_); refine aN (some 62) rfl rfl Try.func12 z0 rfl #[.slice jc dw.length jb, .slice Ao206 hO.length co206] rfl z12 ?_; (with_reducible refine (laws_eqPartS.calls kj19 _ _ dw _ _ hO false _ ?side1 ?side2 ?side3 ?side4 oW.out).mono ?_); (case side1 => repeat (first | exact (ai bU.out).2.2 | (with_reducible refine aE ?_ _) | (with_reducible refine aG ?_ _) | (with_reducible refine aH ?_))); (case side2 => exact (ai bU.out).2.1); (case side3 => repeat (first | exact (ai cG.out).2.2 | (with_reducible refine aE ?_ _) | (with_reducible refine aG ?_ _) | (with_reducible refine aH ?_))); (case side4 => exact (ai cG.out).2.1); rintro e w207 ⟨rfl, hb⟩; refine ⟨_, rfl, ?_⟩; have a6 := aM (ag (by (with_reducible repeat (first | apply ae | apply ac | apply aa)); exact bU.out) hb); have ba := aM (ag z3 hb); have bb := aM (ag z4 hb); have bf := aM (ag z5 hb); have bz := aM (ag (by (with_reducible repeat (first | apply ae | apply ac | apply aa)); exact bW.out) hb); have bH := aM (ag (by (with_reducible repeat (first | apply ae | apply ac | apply aa)); exact cG.out) hb); have bI := aM (af (g := bo) (o := .cells #[.slice bj l0_0.length bk] 24 (0, 0)) z7 hb); have bZ := aM (af (g := bB) (o := .cells #[.slice bP bE.length bL] 30 (0, 0)) z8 hb); have b8 := aM (af (g := bJ) (o := .cells #[.slice bN bT.length bM] 30 (0, 0)) z9 hb); have cn := aM (af (g := br) (o := .cells #[.slice bw bq.length bu] 30 (0, 0)) z10 hb); have cj := aM (ay z20 hb); clear bU; clear a9; clear a7; clear a5; clear bW; clear cG; clear bc; clear bg; clear bi; clear bd; clear HB; have bU := a6; have a9 := ba; have a7 := bb; have a5 := bf; have bW := bz; have cG := bH; have bc := bI; have bg := bZ; have bi := b8; have bd := cn; have HB := cj; clear a6 ba bb bf bz bH bI bZ b8 cn cj; (try clear hb); (try clear hb2); (try clear hk); (try clear hi)))
         go_ret
         exact ⟨y3, y22⟩
      ·replace nx := Bool.eq_false_iff.mpr nx
       subst nx
       rw [if_neg (show ¬ (false = true) by decide)] at H
       first | (cases H.trans (congrArg some HRT.out); done) | skip
       all_goals
        obtain rfl := sI H
        try go_wp2
        have a6 := aM (aa bU.out)
        have ba := aM (aa a9.out)
        have bb := aM (aa a7.out)
        have bf := aM (aa a5.out)
        have bz := aM (aq bc.out)
        have bH := aM (aq bg.out)
        have bI := aM (aq bi.out)
        have bZ := aM (aq bd.out)
        have b8 := aM (bD HB.out)
        clear bU
        clear a9
        clear a7
        clear a5
        clear bc
        clear bg
        clear bi
        clear bd
        clear HB
        have bU := a6
        have a9 := ba
        have a7 := bb
        have a5 := bf
        have bc := bz
        have bg := bH
        have bi := bI
        have bd := bZ
        have HB := b8
        clear a6 ba bb bf bz bH bI bZ b8
        refine start_ (n := 5) (S := fun w' => w'.cell? ⟨bJ, 0, none⟩ = some (.slice bN bT.length bM) ∧ w'.cell? ⟨bo, 0, none⟩ = some (.slice bj l0_0.length bk)) (ds := []) #[false, false, false, false, false] z0 rfl rfl ⟨(bC bi.out 0).trans rfl, (bC bc.out 0).trans rfl⟩ (fun hHeld => ?_)
        generalize wc.drew = w208 at bU a9 a7 a5 bc bg bi bd HB hHeld ⊢
        refine tA 0 54 ?_ (hy := by rintro w' ⟨s0, s1⟩; go_simp; with_reducible rfl)
        refine tA 1 55 ?_ (hy := by rintro w' ⟨s0, s1⟩; go_simp; with_reducible rfl)
        refine one_ (i := 2) (N := some 56) #[true, true, true, false, false] rfl rfl z0 (by decide) (fun K hK => ?_)
        refine goes_ Try.func8 z0 rfl #[.agg #[.slice bj l0_0.length bk]] (by rfl) rfl rfl z12 ?_
        with_reducible refine (laws_toRope.calls kj19 _ _ l0_0 eQ _ ?side1 ?side2 oF.out).mono ?_
        (case side1 => repeat (first | exact (aD cI.out HB.out) | (with_reducible refine aE ?_ _) | (with_reducible refine aG ?_ _) | (with_reducible refine aH ?_)))
        (case side2 => exact cM.out)
        rintro e w209 ⟨v297, rfl, ho0, hb⟩
        refine ⟨_, rfl, ?_⟩
        have a6 := aM (ag (by (with_reducible repeat (first | apply ae | apply ac | apply aa)); exact bU.out) hb)
        have ba := aM (aj z3 (al ho0) hb)
        have bb := aM (aj z4 (al ho0) hb)
        have bf := aM (aj z5 (al ho0) hb)
        have bz := aM (aT (ak (ak (ak ho0 (Kd.R_lt z3)) (Kd.R_lt z4)) (Kd.R_lt z5)) (az z20))
        have bH := aM (af (g := bo) (o := .cells #[.slice bj l0_0.length bk] 24 (0, 0)) z7 hb)
        have bI := aM (af (g := bB) (o := .cells #[.slice bP bE.length bL] 30 (0, 0)) z8 hb)
        have bZ := aM (af (g := bJ) (o := .cells #[.slice bN bT.length bM] 30 (0, 0)) z9 hb)
        have b8 := aM (af (g := br) (o := .cells #[.slice bw bq.length bu] 30 (0, 0)) z10 hb)
        have cn := aM (ay z20 hb)
        clear bU
        clear a9
        clear a7
        clear a5
        clear bc
        clear bg
        clear bi
        clear bd
        clear HB
        have bU := a6
        have a9 := ba
        have a7 := bb
        have a5 := bf
        have bW := bz
        have bc := bH
        have bg := bI
        have bi := bZ
        have bd := b8
        have HB := cn
        clear a6 ba bb bf bz bH bI bZ b8 cn
        (try clear hb)
        (try clear hb2)
        (try clear hk)
        (try clear hi)
        (try clear ho0)
        obtain ⟨Ao210, co210, eo210⟩ := Kd.R_slice bW.out
        (first | subst eo210 | (injection eo210 with f1_ f2_ f3_; have f4_ := f1_.symm; have f5_ := f3_.symm; clear f1_ f2_ f3_; subst f4_; subst f5_))
        refine hK.out _ _ ⟨(bC bi.out 0).trans rfl, (bC bc.out 0).trans rfl⟩ (fun hHeld => ?_)
        clear hK K
        refine norm_ (a' := ?_) ?_ ?_
        rotate_left
        ·show Act.put _ (some 56) _ = _
         simp only [Act.put, sA, sB, sC, i64_w, i32_w]
         rfl
        refine one_ (i := 3) (N := some 57) #[true, true, true, true, false] rfl rfl z0 (by decide) (fun K hK => ?_)
        refine goes_ Try.func11 z0 rfl #[.agg #[.slice bN bT.length bM], .agg #[.slice Ao210 eQ.length co210]] (by rfl) rfl rfl z12 ?_
        with_reducible refine (laws_eqRope.calls kj19 _ _ bT _ _ eQ false _ ?side1 ?side2 ?side3 ?side4 oE.out).mono ?_
        (case side1 => repeat (first | exact (ai a7.out).2.2 | (with_reducible refine aE ?_ _) | (with_reducible refine aG ?_ _) | (with_reducible refine aH ?_)))
        (case side2 => exact (ai a7.out).2.1)
        (case side3 => repeat (first | exact (ai bW.out).2.2 | (with_reducible refine aE ?_ _) | (with_reducible refine aG ?_ _) | (with_reducible refine aH ?_)))
        (case side4 => exact (ai bW.out).2.1)
        rintro e w211 ⟨rfl, hb⟩
        refine ⟨_, rfl, ?_⟩
        have a6 := aM (ag (by (with_reducible repeat (first | apply ae | apply ac | apply aa)); exact bU.out) hb)
        have ba := aM (ag z3 hb)
        have bb := aM (ag z4 hb)
        have bf := aM (ag z5 hb)
        have bz := aM (ag (by (with_reducible repeat (first | apply ae | apply ac | apply aa)); exact bW.out) hb)
        have bH := aM (af (g := bo) (o := .cells #[.slice bj l0_0.length bk] 24 (0, 0)) z7 hb)
        have bI := aM (af (g := bB) (o := .cells #[.slice bP bE.length bL] 30 (0, 0)) z8 hb)
        have bZ := aM (af (g := bJ) (o := .cells #[.slice bN bT.length bM] 30 (0, 0)) z9 hb)
        have b8 := aM (af (g := br) (o := .cells #[.slice bw bq.length bu] 30 (0, 0)) z10 hb)
        have cn := aM (ay z20 hb)
        clear bU
        clear a9
        clear a7
        clear a5
        clear bW
        clear bc
        clear bg
        clear bi
        clear bd
        clear HB
        have bU := a6
        have a9 := ba
        have a7 := bb
        have a5 := bf
        have bW := bz
        have bc := bH
        have bg := bI
        have bi := bZ
        have bd := b8
        have HB := cn
        clear a6 ba bb bf bz bH bI bZ b8 cn
        (try clear hb)
        (try clear hb2)
        (try clear hk)
        (try clear hi)
        refine hK.out _ _ ⟨(bC bi.out 0).trans rfl, (bC bc.out 0).trans rfl⟩ (fun hHeld => ?_)
        clear hK K
        refine norm_ (a' := ?_) ?_ ?_
        rotate_left
        ·show Act.put _ (some 57) _ = _
         simp only [Act.put, sA, sB, sC, i64_w, i32_w]
         rfl
        refine pA 4 58 ?_
        refine done_ z0 ?_
        try go_wp2
        go_ret
        exact ⟨y3, y22⟩

/-! ### What an argument's reading gives: a value of its kind -/
section
open Go.ChangeShapes Go.WideShapes Go.Deep
/-- A value of type t, as an argument's reading has it, is of kind d, and G if the argument's weights are within reach. -/
structure Opens (P : Program) (t : TypeId) {α : Type} (d : Kd α) (G : α → Prop) : Prop where
 out : ∀ {H : Type} {enc : TypeId × Value → H} {w : World} {base : Nat} {spare : Nat → Bool} {held : Bool} {fuel : Nat} {cs : List Value} {x : DataW H × List MemPlace},
  DataW.trod enc P w base spare held fuel t cs = some x → ∃ a, d.K w a cs ∧ ((x.1.weights P t).all (· ≤ reachBytes) = true → G a)
/-- The same for fields in line, from a cell on. -/
structure OpensL (P : Program) (fs : List Field) (off : Nat) {α : Type} (d : Kd α) (G : α → Prop) : Prop where
 out : ∀ {H : Type} {enc : TypeId × Value → H} {w : World} {base : Nat} {spare : Nat → Bool} {held : Bool} {n : Nat} {cs : List Value} {xs : List (DataW H × List MemPlace)},
  cs.length = off + d.sz → xs.length = fs.length → (∀ (i : Nat) (f : Field), fs[i]? = some f → DataW.trod enc P w base spare held n f.type ((cs.drop f.offset).take (P.cellsOf f.type)) = xs[i]?) →
  ∃ a, d.K w a (cs.drop off) ∧ ((DataW.weightsEach P (fs.map (·.type)) (xs.map (·.1))).all (· ≤ reachBytes) = true → G a)
theorem reach_eq : reachBytes = 140737488351232 := by first | rfl | decide
theorem opens_int {P : Program} {t : TypeId} {k : IntKind} (ht : P.underlying t = some (.int k)) : Opens P t (Kd.int k) (fun n => (Lit.int k n).wf = true) := by
 constructor
 intro H enc w base spare held fuel cs x h
 obtain ⟨n, rfl, rfl, hw⟩ := DataW.trod_int ht h
 exact ⟨n, rfl, fun _ => hw⟩
theorem opens_bool {P : Program} {t : TypeId} (ht : P.underlying t = some .bool) : Opens P t Kd.bool (fun _ => True) := by
 constructor
 intro H enc w base spare held fuel cs x h
 obtain ⟨n, rfl, _⟩ := DataW.trod_bool ht h
 exact ⟨n, rfl, fun _ => trivial⟩
theorem opens_string {P : Program} {t : TypeId} (ht : P.underlying t = some .string) : Opens P t Kd.string (fun s => s.size ≤ 140737488351232) := by
 constructor
 intro H enc w base spare held fuel cs x h
 obtain ⟨s, rfl, rfl, _⟩ := DataW.trod_string ht h
 refine ⟨s, rfl, fun hw => ?_⟩
 simp only [DataW.weights, List.all_cons, List.all_nil, Bool.and_true, decide_eq_true_eq, Array.length_toList] at hw
 rw [reach_eq] at hw
 exact hw
theorem weightsAll_mem {H : Type} {P : Program} {e : TypeId} : ∀ {ds : List (DataW H)} {d : DataW H}, d ∈ ds → (DataW.weightsAll P e ds).all (· ≤ reachBytes) = true → (d.weights P e).all (· ≤ reachBytes) = true
 | _ :: _, _, .head _, h => by
  simp only [DataW.weightsAll, List.all_append, Bool.and_eq_true] at h
  exact h.1
 | _ :: _, _, .tail _ hm, h => by
  simp only [DataW.weightsAll, List.all_append, Bool.and_eq_true] at h
  exact weightsAll_mem hm h.2
theorem opens_list {α : Type} (Q : Nat → α → Prop) (n : Nat) (h : ∀ i, i < n → ∃ a, Q i a) : ∃ l : List α, l.length = n ∧ ∀ i a, l[i]? = some a → Q i a := by
 induction n with
 | zero => exact ⟨[], rfl, fun i a hi => by simp at hi⟩
 | succ n ih =>
  obtain ⟨l, hl, hq⟩ := ih (fun i hi => h i (by omega))
  obtain ⟨a, ha⟩ := h n (by omega)
  refine ⟨l ++ [a], by simp [hl], fun i b hi => ?_⟩
  by_cases hin : i < n
  ·rw [List.getElem?_append_left (by omega)] at hi
   exact hq i b hi
  ·obtain ⟨hlt, _⟩ := List.getElem?_eq_some_iff.1 hi
   have e : i = l.length := by simp at hlt; omega
   subst e
   rw [List.getElem?_append_right (Nat.le_refl _)] at hi
   simp at hi
   subst hi
   rw [hl]
   exact ha
theorem opens_slice {P : Program} {t e : TypeId} {α : Type} {d : Kd α} {G : α → Prop} {B : Nat} (q : Nat) (ht : P.underlying t = some (.slice e)) (hc : P.cellsOf e = d.sz) (hB : P.bytesOf e = B) (he : Opens P e d G) :
  Opens P t (Kd.slice q d) (fun l => l.length ≤ maxLen ∧ l.length * B ≤ 140737488351232 ∧ ∀ x ∈ l, G x) := by
 constructor
 intro H enc w base spare held fuel cs x h
 rcases open_slice ht h with ⟨rfl, rfl⟩ | ⟨a, len, cap, m, n, D, Pl, rfl, hb, hl, hm, hmm, rfl, hi⟩
 ·exact ⟨[], ⟨none, 0, rfl, Nat.le_refl _, Kd.C_nil _ _⟩, fun _ => ⟨Nat.zero_le _, by simp, fun x hx => by simp at hx⟩⟩
 ·have hlm : len ≤ m := by rw [hmm]; split <;> omega
  obtain ⟨l, hll, hlq⟩ := opens_list (fun i a_ => ∃ cs', w.cells? base (a.add (i * P.cellsOf e)) (P.cellsOf e) = some cs' ∧ d.K w a_ cs' ∧ (((D i).weights P e).all (· ≤ reachBytes) = true → G a_)) len (fun i hil => by
   obtain ⟨cs', hc1, ht1⟩ := hi i (by omega)
   obtain ⟨a_, hk, hg⟩ := he.out ht1
   exact ⟨a_, cs', hc1, hk, hg⟩)
  refine ⟨l, ⟨some a, cap, by rw [hll], by omega, ⟨rfl, ?_, fun _ => ⟨a, rfl, fun j p hj => ?_⟩⟩⟩, fun hw => ?_⟩
  ·rw [hll]
   have hmx : maxLen ≤ 9223372036854775807 := by first | decide | (unfold maxLen; omega)
   omega
  ·obtain ⟨cs', hc1, hk, _⟩ := hlq j p hj
   obtain ⟨_, hcl, hat⟩ := World.cells?_some hc1
   refine ⟨cs', d.K_len hk, hk, fun i u hu => ?_⟩
   obtain ⟨hlt, _⟩ := List.getElem?_eq_some_iff.1 hu
   have := hat i (by omega)
   rw [← Go.Deep.add_add, ← hc, this, hu]
  ·simp only [DataW.weights, ht, List.all_cons, List.all_append, Bool.and_eq_true, decide_eq_true_eq, List.length_map, List.length_range] at hw
   obtain ⟨hw1, hw2, _⟩ := hw
   rw [reach_eq, hB] at hw1
   refine ⟨by omega, ?_, fun x hx => ?_⟩
   ·rw [hll]
    exact Nat.le_trans (Nat.mul_le_mul_right _ (by omega)) hw1
   ·obtain ⟨j, hj⟩ := List.getElem?_of_mem hx
    obtain ⟨cs', _, _, hg⟩ := hlq j x hj
    obtain ⟨hlt, _⟩ := List.getElem?_eq_some_iff.1 hj
    exact hg (weightsAll_mem (List.mem_map.2 ⟨j, List.mem_range.2 (by omega), rfl⟩) hw2)
theorem opensL_one {P : Program} {f : Field} {off : Nat} {α : Type} {d : Kd α} {G : α → Prop} (ho : f.offset = off) (hc : P.cellsOf f.type = d.sz) (h : Opens P f.type d G) : OpensL P [f] off d G := by
 constructor
 intro H enc w base spare held n cs xs hl hx hr
 match xs, hx with
 | [x], _ =>
  have h0 := hr 0 f rfl
  rw [ho, hc, List.take_of_length_le (by rw [List.length_drop]; omega)] at h0
  obtain ⟨a, hk, hg⟩ := h.out h0
  refine ⟨a, hk, fun hw => hg ?_⟩
  simpa [DataW.weightsEach] using hw
theorem opensL_cons {P : Program} {f : Field} {fs : List Field} {off : Nat} {α β : Type} {d : Kd α} {d' : Kd β} {G : α → Prop} {G' : β → Prop} (ho : f.offset = off) (hc : P.cellsOf f.type = d.sz) (h : Opens P f.type d G) (h' : OpensL P fs (off + d.sz) d' G') :
  OpensL P (f :: fs) off (Kd.pair d d') (fun p => G p.1 ∧ G' p.2) := by
 constructor
 intro H enc w base spare held n cs xs hl hx hr
 match xs, hx with
 | x :: xs, hx =>
  have hl' : cs.length = off + (d.sz + d'.sz) := hl
  have h0 := hr 0 f rfl
  rw [ho, hc] at h0
  obtain ⟨a, hk, hg⟩ := h.out h0
  obtain ⟨b, hk', hg'⟩ := h'.out (enc := enc) (w := w) (base := base) (spare := spare) (held := held) (n := n) (cs := cs) (xs := xs) (by omega) (by simpa using hx) (fun i g hi => by simpa using hr (i + 1) g (by simpa using hi))
  refine ⟨(a, b), ⟨_, _, ?_, hk, hk'⟩, fun hw => ?_⟩
  ·rw [← List.drop_drop, List.take_append_drop]
  ·simp only [List.map_cons, DataW.weightsEach, List.all_append, Bool.and_eq_true] at hw
   exact ⟨hg hw.1, hg' hw.2⟩
theorem opens_struct {P : Program} {t : TypeId} {fs : Array Field} {α : Type} {d : Kd α} {G : α → Prop} (ht : P.underlying t = some (.struct fs)) (hc : P.cellsOf t = d.sz) (h : OpensL P fs.toList 0 d G) : Opens P t d G := by
 constructor
 intro H enc w base spare held fuel cs x hx
 obtain ⟨xs, n, _, rfl, hl, hxl, hr⟩ := DataW.trod_struct ht hx
 obtain ⟨a, hk, hg⟩ := h.out (enc := enc) (w := w) (base := base) (spare := spare) (held := held) (n := n) (cs := cs) (xs := xs) (by omega) (by simpa using hxl) (fun i f hi => hr i f (by simpa using hi))
 refine ⟨a, hk, fun hw => hg ?_⟩
 simpa [DataW.weights, ht] using hw
theorem opens_iso {P : Program} {t : TypeId} {α β : Type} {d : Kd α} {G : α → Prop} {f : β → α} (g : α → β) (hf : ∀ a, f (g a) = a) (h : Opens P t d G) : Opens P t (Kd.iso d f) (fun b => G (f b)) := by
 constructor
 intro H enc w base spare held fuel cs x hx
 obtain ⟨a, hk, hg⟩ := h.out hx
 refine ⟨g a, ?_, fun hw => ?_⟩
 ·show d.K w (f (g a)) cs
  rw [hf]
  exact hk
 ·show G (f (g a))
  rw [hf]
  exact hg hw
theorem Opens.imp {P : Program} {t : TypeId} {α : Type} {d : Kd α} {G G' : α → Prop} (h : Opens P t d G) (hG : ∀ a, G a → G' a) : Opens P t d G' := by
 constructor
 intro H enc w base spare held fuel cs x hx
 obtain ⟨a, hk, hg⟩ := h.out hx
 exact ⟨a, hk, fun hw => hG a (hg hw)⟩
/-- The j-th argument, out of the row's own weights. -/
theorem sized_any {H : Type} {P : Program} {ts : List TypeId} {ds : List (DataW H)} (h : (DataW.weightsEach P ts ds).all (· ≤ reachBytes) = true) {j : Nat} {t : TypeId} {d : DataW H} (ht : ts[j]? = some t) (hd : ds[j]? = some d) : (d.weights P t).all (· ≤ reachBytes) = true :=
 List.all_eq_true.2 fun n hn => List.all_eq_true.1 h n (DataW.weights_mem_each ht hd n hn)
end
def G_T100 (x : S100) : Prop := ((Lit.int .i64 x.f0).wf = true) ∧ ((Lit.int .i64 x.f1).wf = true) ∧ (x.f2.size ≤ 140737488351232) ∧ ((Lit.int .i64 x.f3).wf = true) ∧ ((Lit.int .i64 x.f4).wf = true)
set_option maxRecDepth 100000 in
theorem opens_T100 : Opens Try.prog 100 k100 G_T100 := opens_iso (fun p => ⟨p.1, p.2.1, p.2.2.1, p.2.2.2.1, p.2.2.2.2⟩) (fun _ => rfl) (opens_struct Try.underlying100 z0 (opensL_cons rfl z0 (opens_int Try.underlying3) (opensL_cons rfl z0 (opens_int Try.underlying3) (opensL_cons rfl z0 (opens_string Try.underlying9) (opensL_cons rfl z0 (opens_int Try.underlying3) (opensL_one rfl z0 (opens_int Try.underlying3)))))))
def G_T24 (x : S24) : Prop := (x.f0.length ≤ maxLen ∧ x.f0.length * 48 ≤ 140737488351232 ∧ ∀ x2_ ∈ x.f0, G_T100 x2_)
set_option maxRecDepth 100000 in
theorem opens_T24 : Opens Try.prog 24 k24 G_T24 := opens_iso (fun p => ⟨p⟩) (fun _ => rfl) (opens_struct Try.underlying24 z0 (opensL_one rfl z0 (opens_slice 100 Try.underlying22 z0 z0 opens_T100)))
def G_T55 (x : S55) : Prop := ((Lit.int .i64 x.f0).wf = true) ∧ (x.f1.size ≤ 140737488351232) ∧ (x.f2.size ≤ 140737488351232)
set_option maxRecDepth 100000 in
theorem opens_T55 : Opens Try.prog 55 k55 G_T55 := opens_iso (fun p => ⟨p.1, p.2.1, p.2.2⟩) (fun _ => rfl) (opens_struct Try.underlying55 z0 (opensL_cons rfl z0 (opens_int Try.underlying3) (opensL_cons rfl z0 (opens_string Try.underlying9) (opensL_one rfl z0 (opens_string Try.underlying9)))))

/-- THE ONE PURE STATEMENT of laws_FnExactEditRope: yours. -/
def laws_FnExactEditRope.Pure : Prop := ∀ (l0_0 : List (S100)) (l1 : List (S55)), (l0_0.length ≤ maxLen ∧ l0_0.length * 48 ≤ 140737488351232 ∧ ∀ x2_ ∈ l0_0, G_T100 x2_) → (l1.length ≤ maxLen ∧ l1.length * 40 ≤ 140737488351232 ∧ ∀ x2_ ∈ l1, G_T55 x2_) → ∃ k, laws_FnExactEditRope.f k l0_0 l1 = some true
theorem laws_FnExactEditRope.walk (P : laws_FnExactEditRope.Pure) (bj : Option Addr) (bk : Nat) (l0_0 : List (S100)) (A1 : Option Addr) (c1 : Nat) (l1 : List (S55)) (w : World) (hr0_0 : Kd.C k100 w bj l0_0.length l0_0) (hc0_0 : l0_0.length ≤ bk) (hG0_0 : l0_0.length ≤ maxLen ∧ l0_0.length * 48 ≤ 140737488351232 ∧ ∀ x2_ ∈ l0_0, G_T100 x2_) (hr1 : Kd.C k55 w A1 l1.length l1) (hc1 : l1.length ≤ c1) (hG1 : l1.length ≤ maxLen ∧ l1.length * 40 ≤ 140737488351232 ∧ ∀ x2_ ∈ l1, G_T55 x2_) :
  Calls Try.prog 3 #[.agg #[.slice bj l0_0.length bk], .slice A1 l1.length c1] w fun e w' => e = .returned (.bool true) ∧ Below w.heap.size w w' := by
 obtain ⟨k, h⟩ := P l0_0 l1 hG0_0 hG1
 refine (laws_FnExactEditRope.calls k _ _ l0_0 _ _ l1 true ⟨rfl⟩ w hr0_0 hc0_0 hr1 hc1 h).mono ?_
 rintro e w' ⟨rfl, hd⟩
 exact ⟨rfl, hd⟩

end Go.Proofs.Ytblnnbaeiggmoaa.AFnExactEditRope
