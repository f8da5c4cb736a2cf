-- this session's own text: written by wip/tools/ownprint.py over the kit's print
import Derived.SizedLaws
import Derived.Deep.Slices
import Derived.Deep.Fields
import Derived.ChangeSame
import Derived.Test.YtmkenlejdaphnaaAFnExactSplitRopex0
import Derived.Test.YtmkenlejdaphnaaAFnExactSplitRopex1
import Derived.Test.YtmkenlejdaphnaaAFnExactSplitRopex2
import Derived.Test.YtmkenlejdaphnaaAFnExactSplitRopex3
import Derived.Test.YtmkenlejdaphnaaAFnExactSplitRopex7
import Derived.Test.YtmkenlejdaphnaaAFnExactSplitRopex10
namespace Go.Proofs.Ytmkenlejdaphnaa.AFnExactSplitRope
open Go.RowKit Go.Proofs.YtmkenlejdaphnaaW.PrintWords Go.Proofs.YtmkenlejdaphnaaW.PrintLast Go.Proofs.YtmkenlejdaphnaaW.PrintMore
attribute [local go_sem] max2_int min2_int max_two min_two max_three min_three max_four min_four   -- for this text's walks alone
set_option linter.unusedVariables false
set_option linter.unusedSimpArgs false

/-! ### laws_FnExactSplitRope: function 11 -/
mutual
def laws_FnExactSplitRope.j0 : Nat → Int → Bool → Bool → Bool → List (S99) → List (S58) → List (S58) → List (S58) → List (S58) → List (S58) → Option (Bool)
 | 0, _, _, _, _, _, _, _, _, _, _ => none
 | k + 1, x1, x8, x12, x55, x276000, x288000, x289000, x293000, x301000, x302000 => if x55 = true then (some false) else ((laws_toRope.f k x276000).bind fun hH => ((laws_eqRope.f k x293000 hH).bind fun oJ => (if oJ = true then ((laws_markRope.f k x293000 1).bind fun bt308 => (if bt308.1 < 0 then (laws_FnExactSplitRope.j1 k x1 x8 true x276000 x288000 x289000 x301000 x302000) else ((laws_eqRope.f k x301000 x288000).bind fun oI => (if oI = true then ((laws_eqRope.f k x302000 x289000).bind fun oH => (if oH = true then (laws_FnExactSplitRope.j1 k x1 x8 (x12 != x8) x276000 x288000 x289000 x301000 x302000) else (laws_FnExactSplitRope.j1 k x1 x8 true x276000 x288000 x289000 x301000 x302000))) else (laws_FnExactSplitRope.j1 k x1 x8 true x276000 x288000 x289000 x301000 x302000))))) else (some false))))
def laws_FnExactSplitRope.j1 : Nat → Int → Bool → Bool → List (S99) → List (S58) → List (S58) → List (S58) → List (S58) → Option (Bool)
 | 0, _, _, _, _, _, _, _, _ => none
 | k + 1, x1, x8, x82, x276000, x288000, x289000, x301000, x302000 => if x82 = true then (some false) else ((laws_markRope.f k x301000 1).bind fun lr => ((laws_markRope.f k x302000 lr.1).bind fun gW => ((laws_heldRope.f k lr.2 1).bind fun fL => (if fL < 0 then (some false) else ((laws_heldRope.f k gW.2 fL).bind fun gc => (if gc < 0 then (some false) else (if gc = gW.1 then ((laws_toRope.f k x276000).bind fun iQ => ((impl_SplitRope.f k iQ x1).bind fun nt => ((laws_eqRope.f k nt.1 x288000).bind fun oG => (if oG = true then ((laws_eqRope.f k nt.2.1 x289000).bind fun oF => (if oF = true then (laws_FnExactSplitRope.j2 k gW.1 (nt.2.2 != x8) lr.2 gW.2) else (laws_FnExactSplitRope.j2 k gW.1 true lr.2 gW.2))) else (laws_FnExactSplitRope.j2 k gW.1 true lr.2 gW.2))))) else (some false))))))))
def laws_FnExactSplitRope.j2 : Nat → Int → Bool → List (S58) → List (S58) → Option (Bool)
 | 0, _, _, _, _ => none
 | k + 1, x14, x124, x301000, x302000 => if x124 = true then (some false) else ((laws_heldRope.f k x301000 1).bind fun fK => (if fK < 0 then (some false) else ((laws_heldRope.f k x302000 fK).bind fun ga => (if ga < 0 then (some false) else (if ga = x14 then (some true) else (some false))))))
end
def laws_FnExactSplitRope.f (k : Nat) (l0_0 : List (S99)) (a1 : Int) : Option (Bool) := (laws_szRope.f k l0_0 1048576).bind fun jt => (if jt < 0 then (some true) else ((laws_toRope.f k l0_0).bind fun js => ((spec_SplitRope.f k js a1).bind fun dQ => ((laws_toRope.f k l0_0).bind fun cr => ((impl_SplitRope.f k cr a1).bind fun dP => ((laws_eqRope.f k dP.1 dQ.1).bind fun mY => (if mY = true then ((laws_eqRope.f k dP.2.1 dQ.2.1).bind fun mX => (if mX = true then (laws_FnExactSplitRope.j0 k a1 dQ.2.2 dP.2.2 (dP.2.2 != dQ.2.2) l0_0 dQ.1 dQ.2.1 cr dP.1 dP.2.1) else (laws_FnExactSplitRope.j0 k a1 dQ.2.2 dP.2.2 true l0_0 dQ.1 dQ.2.1 cr dP.1 dP.2.1))) else (laws_FnExactSplitRope.j0 k a1 dQ.2.2 dP.2.2 true l0_0 dQ.1 dQ.2.1 cr dP.1 dP.2.1))))))))
theorem laws_FnExactSplitRope.mono_l : ∀ k, (∀ y0 y1 y2 y3 y4 y5 y6 y7 y8 y9, LeO (laws_FnExactSplitRope.j0 k y0 y1 y2 y3 y4 y5 y6 y7 y8 y9) (laws_FnExactSplitRope.j0 (k + 1) y0 y1 y2 y3 y4 y5 y6 y7 y8 y9)) ∧ (∀ y0 y1 y2 y3 y4 y5 y6 y7, LeO (laws_FnExactSplitRope.j1 k y0 y1 y2 y3 y4 y5 y6 y7) (laws_FnExactSplitRope.j1 (k + 1) y0 y1 y2 y3 y4 y5 y6 y7)) ∧ (∀ y0 y1 y2 y3, LeO (laws_FnExactSplitRope.j2 k y0 y1 y2 y3) (laws_FnExactSplitRope.j2 (k + 1) y0 y1 y2 y3))
 | 0 => ⟨fun _ _ _ _ _ _ _ _ _ _ r h => by simp [laws_FnExactSplitRope.j0] at h, fun _ _ _ _ _ _ _ _ r h => by simp [laws_FnExactSplitRope.j1] at h, fun _ _ _ _ r h => by simp [laws_FnExactSplitRope.j2] at h⟩
 | k + 1 => by
  obtain ⟨ih0, ih1, ih2⟩ := laws_FnExactSplitRope.mono_l k
  refine ⟨?_, ?_, ?_⟩
  ·intro y0 y1 y2 y3 y4 y5 y6 y7 y8 y9
   unfold laws_FnExactSplitRope.j0
   repeat' first
   | (with_reducible exact ih0 _ _ _ _ _ _ _ _ _ _)
   | (with_reducible exact ih1 _ _ _ _ _ _ _ _)
   | (with_reducible exact ih2 _ _ _ _)
   | (with_reducible exact impl_SplitRope.mono _ _ _)
   | (with_reducible exact laws_eqRope.mono _ _ _)
   | (with_reducible exact laws_heldRope.mono _ _ _)
   | (with_reducible exact laws_markRope.mono _ _ _)
   | (with_reducible exact laws_szRope.mono _ _ _)
   | (with_reducible exact laws_toRope.mono _ _)
   | (with_reducible exact spec_SplitRope.mono _ _ _)
   | (with_reducible exact LeO.refl _)
   | (with_reducible exact LeO.none _)
   | (with_reducible refine LeO.ite ?_ ?_)
   | (with_reducible refine LeO.bind ?_ (fun _ => ?_))
   | exact ih0 _ _ _ _ _ _ _ _ _ _
   | exact ih1 _ _ _ _ _ _ _ _
   | exact ih2 _ _ _ _
   | exact impl_SplitRope.mono _ _ _
   | exact laws_eqRope.mono _ _ _
   | exact laws_heldRope.mono _ _ _
   | exact laws_markRope.mono _ _ _
   | exact laws_szRope.mono _ _ _
   | exact laws_toRope.mono _ _
   | exact spec_SplitRope.mono _ _ _
   | exact LeO.none _
   | refine LeO.ite ?_ ?_
   | refine LeO.bind ?_ (fun _ => ?_)
  ·intro y0 y1 y2 y3 y4 y5 y6 y7
   unfold laws_FnExactSplitRope.j1
   repeat' first
   | (with_reducible exact ih0 _ _ _ _ _ _ _ _ _ _)
   | (with_reducible exact ih1 _ _ _ _ _ _ _ _)
   | (with_reducible exact ih2 _ _ _ _)
   | (with_reducible exact impl_SplitRope.mono _ _ _)
   | (with_reducible exact laws_eqRope.mono _ _ _)
   | (with_reducible exact laws_heldRope.mono _ _ _)
   | (with_reducible exact laws_markRope.mono _ _ _)
   | (with_reducible exact laws_szRope.mono _ _ _)
   | (with_reducible exact laws_toRope.mono _ _)
   | (with_reducible exact spec_SplitRope.mono _ _ _)
   | (with_reducible exact LeO.refl _)
   | (with_reducible exact LeO.none _)
   | (with_reducible refine LeO.ite ?_ ?_)
   | (with_reducible refine LeO.bind ?_ (fun _ => ?_))
   | exact ih0 _ _ _ _ _ _ _ _ _ _
   | exact ih1 _ _ _ _ _ _ _ _
   | exact ih2 _ _ _ _
   | exact impl_SplitRope.mono _ _ _
   | exact laws_eqRope.mono _ _ _
   | exact laws_heldRope.mono _ _ _
   | exact laws_markRope.mono _ _ _
   | exact laws_szRope.mono _ _ _
   | exact laws_toRope.mono _ _
   | exact spec_SplitRope.mono _ _ _
   | exact LeO.none _
   | refine LeO.ite ?_ ?_
   | refine LeO.bind ?_ (fun _ => ?_)
  ·intro y0 y1 y2 y3
   unfold laws_FnExactSplitRope.j2
   repeat' first
   | (with_reducible exact ih0 _ _ _ _ _ _ _ _ _ _)
   | (with_reducible exact ih1 _ _ _ _ _ _ _ _)
   | (with_reducible exact ih2 _ _ _ _)
   | (with_reducible exact impl_SplitRope.mono _ _ _)
   | (with_reducible exact laws_eqRope.mono _ _ _)
   | (with_reducible exact laws_heldRope.mono _ _ _)
   | (with_reducible exact laws_markRope.mono _ _ _)
   | (with_reducible exact laws_szRope.mono _ _ _)
   | (with_reducible exact laws_toRope.mono _ _)
   | (with_reducible exact spec_SplitRope.mono _ _ _)
   | (with_reducible exact LeO.refl _)
   | (with_reducible exact LeO.none _)
   | (with_reducible refine LeO.ite ?_ ?_)
   | (with_reducible refine LeO.bind ?_ (fun _ => ?_))
   | exact ih0 _ _ _ _ _ _ _ _ _ _
   | exact ih1 _ _ _ _ _ _ _ _
   | exact ih2 _ _ _ _
   | exact impl_SplitRope.mono _ _ _
   | exact laws_eqRope.mono _ _ _
   | exact laws_heldRope.mono _ _ _
   | exact laws_markRope.mono _ _ _
   | exact laws_szRope.mono _ _ _
   | exact laws_toRope.mono _ _
   | exact spec_SplitRope.mono _ _ _
   | exact LeO.none _
   | refine LeO.ite ?_ ?_
   | refine LeO.bind ?_ (fun _ => ?_)
theorem laws_FnExactSplitRope.mono : ∀ a0 a1 k, LeO (laws_FnExactSplitRope.f k a0 a1) (laws_FnExactSplitRope.f (k + 1) a0 a1) := by
 intro a0 a1 k
 obtain ⟨ih0, ih1, ih2⟩ := laws_FnExactSplitRope.mono_l k
 unfold laws_FnExactSplitRope.f
 repeat' first
   | (with_reducible exact ih0 _ _ _ _ _ _ _ _ _ _)
   | (with_reducible exact ih1 _ _ _ _ _ _ _ _)
   | (with_reducible exact ih2 _ _ _ _)
   | (with_reducible exact impl_SplitRope.mono _ _ _)
   | (with_reducible exact laws_eqRope.mono _ _ _)
   | (with_reducible exact laws_heldRope.mono _ _ _)
   | (with_reducible exact laws_markRope.mono _ _ _)
   | (with_reducible exact laws_szRope.mono _ _ _)
   | (with_reducible exact laws_toRope.mono _ _)
   | (with_reducible exact spec_SplitRope.mono _ _ _)
   | (with_reducible exact LeO.refl _)
   | (with_reducible exact LeO.none _)
   | (with_reducible refine LeO.ite ?_ ?_)
   | (with_reducible refine LeO.bind ?_ (fun _ => ?_))
   | exact ih0 _ _ _ _ _ _ _ _ _ _
   | exact ih1 _ _ _ _ _ _ _ _
   | exact ih2 _ _ _ _
   | exact impl_SplitRope.mono _ _ _
   | exact laws_eqRope.mono _ _ _
   | exact laws_heldRope.mono _ _ _
   | exact laws_markRope.mono _ _ _
   | exact laws_szRope.mono _ _ _
   | exact laws_toRope.mono _ _
   | exact spec_SplitRope.mono _ _ _
   | exact LeO.none _
   | refine LeO.ite ?_ ?_
   | refine LeO.bind ?_ (fun _ => ?_)
set_option maxHeartbeats 8000000 in
set_option maxRecDepth 100000 in
theorem laws_FnExactSplitRope.calls (k : Nat) (bu : Option Addr) (bx : Nat) (l0_0 : List (S99)) (a1 : Int) (r : Bool) (HRT : Aside0 (r = true)) (w : World) (hr0_0 : Kd.C k99 w bu l0_0.length l0_0) (hc0_0 : l0_0.length ≤ bx) (h : laws_FnExactSplitRope.f k l0_0 a1 = some r) :
  Calls Try.prog 11 #[.agg #[.slice bu l0_0.length bx], .int .i64 a1] w fun e w' => e = .returned (.bool r) ∧ Below w.heap.size w w' := by
 have hu24 := Try.underlying24
 have hu29 := Try.underlying29
 have eb := aM hr0_0
 have ee := aM hc0_0
 clear hr0_0 hc0_0
 have HB := aM (Below.refl w.heap.size w)
 have H : ((laws_szRope.f k l0_0 1048576).bind fun jt => (if jt < 0 then (some true) else ((laws_toRope.f k l0_0).bind fun js => ((spec_SplitRope.f k js a1).bind fun dQ => ((laws_toRope.f k l0_0).bind fun cr => ((impl_SplitRope.f k cr a1).bind fun dP => ((laws_eqRope.f k dP.1 dQ.1).bind fun mY => (if mY = true then ((laws_eqRope.f k dP.2.1 dQ.2.1).bind fun mX => (if mX = true then (laws_FnExactSplitRope.j0 k a1 dQ.2.2 dP.2.2 (dP.2.2 != dQ.2.2) l0_0 dQ.1 dQ.2.1 cr dP.1 dP.2.1) else (laws_FnExactSplitRope.j0 k a1 dQ.2.2 dP.2.2 true l0_0 dQ.1 dQ.2.1 cr dP.1 dP.2.1))) else (laws_FnExactSplitRope.j0 k a1 dQ.2.2 dP.2.2 true l0_0 dQ.1 dQ.2.1 cr dP.1 dP.2.1))))))))) = some r := h
 clear h
 replace H := oB H
 obtain ⟨jt, iP, H⟩ := H
 try dsimp only at H
 have A3 := aM iP
 clear iP
 by_cases c4 : jt < 0
 ·rw [if_pos c4] at H
  have c4b0 : decide (jt < 0) = true := dT c4
  clear c4
  first | (cases H.trans (congrArg some HRT.out); done) | skip
  all_goals
   obtain rfl := sI H
   go_enter Try.func11, Try.ntmps11
   go_wp2_with (first | ((with_reducible refine aK (N := 2) rfl ?_); refine aN ?hg (N := 2) ?hd (cs := #[.slice bu l0_0.length bx]) (t := 24) ?hr ?_; (case hd => rfl); (case hg => rfl); (case hr => first | (go_simp; done) | (go_simp; rfl)); intro bO hg w5 hbox hb; have ba := aM (ay z23 hb); have bb := aM (hbox); have bf := aM ((by rw [hg]; exact (az z23) : w.heap.size ≤ bO)); have bk := aM ((by rw [hg]; exact (az z23) : w.heap.size ≤ bO)); clear HB; have HB := ba; have bd := bb; have GW275 := bf; have dj := bk; clear ba bb bf bk; clear hb hbox hg; have gD : w5.cell? ⟨bO, 0, none⟩ = some (.slice bu l0_0.length bx) := (bC bd.out 0).trans rfl; have gC := bF bd.out 0) | ((with_reducible refine aJ (f := 14) rfl ?_); refine aQ (some 21) rfl rfl Try.func14 z1 rfl #[.agg #[.slice bu l0_0.length bx], .int .i64 1048576] rfl z25 ?_; (with_reducible refine (laws_szRope.calls k _ _ l0_0 1048576 jt _ ?side1 ?side2 A3.out).mono ?_); (case side1 => repeat (first | exact (aD eb.out HB.out) | (with_reducible refine aE ?_ _) | (with_reducible refine aG ?_ _) | (with_reducible refine aH ?_))); (case side2 => exact ee.out); rintro e w7 ⟨rfl, hb⟩; refine ⟨_, rfl, ?_⟩; have ba := aM (ae (g := bO) (o := .cells #[.slice bu l0_0.length bx] 24 (0, 0)) z16 hb); have bb := aM (ay (by repeat (first | (with_reducible first | exact HB.out | apply bA | apply pD | apply bD | refine ax ?_ dj.out) | exact HB.out)) hb); clear bd; clear HB; have bd := ba; have HB := bb; clear ba bb; (try clear hb); (try clear hb2); (try clear hk); (try clear hi)))
   go_ret
   exact ⟨y2, by repeat (first | (with_reducible first | exact HB.out | apply bA | apply pD | apply bD | refine ax ?_ dj.out) | exact HB.out)⟩
 ·rw [if_neg c4] at H
  have c4b0 : decide (jt < 0) = false := dF c4
  clear c4
  replace H := oB H
  obtain ⟨js, nC, H⟩ := H
  try dsimp only at H
  have A8 := aM nC
  clear nC
  replace H := oB H
  obtain ⟨⟨bI, bP, mE⟩, pM, H⟩ := H
  try dsimp only at H
  have A9 := aM pM
  clear pM
  replace H := oB H
  obtain ⟨cr, qe, H⟩ := H
  try dsimp only at H
  have A10 := aM qe
  clear qe
  replace H := oB H
  obtain ⟨⟨bz, bG, nL⟩, nE, H⟩ := H
  try dsimp only at H
  have A11 := aM nE
  clear nE
  have o8 := aM H
  clear H
  go_enter Try.func11, Try.ntmps11
  go_upto_region 8 with (first | ((with_reducible refine aK (N := 2) rfl ?_); refine aN ?hg (N := 2) ?hd (cs := #[.slice bu l0_0.length bx]) (t := 24) ?hr ?_; (case hd => rfl); (case hg => rfl); (case hr => first | (go_simp; done) | (go_simp; rfl)); intro bO hg w13 hbox hb; have ba := aM (ay z23 hb); have bb := aM (hbox); have bf := aM ((by rw [hg]; exact (az z23) : w.heap.size ≤ bO)); have bk := aM ((by rw [hg]; exact (az z23) : w.heap.size ≤ bO)); clear HB; have HB := ba; have bd := bb; have GW275 := bf; have dj := bk; clear ba bb bf bk; clear hb hbox hg; have gq : w13.cell? ⟨bO, 0, none⟩ = some (.slice bu l0_0.length bx) := (bC bd.out 0).trans rfl; have gn := bF bd.out 0) | ((with_reducible refine aJ (f := 14) rfl ?_); refine aQ (some 21) rfl rfl Try.func14 z1 rfl #[.agg #[.slice bu l0_0.length bx], .int .i64 1048576] rfl z25 ?_; (with_reducible refine (laws_szRope.calls k _ _ l0_0 1048576 jt _ ?side1 ?side2 A3.out).mono ?_); (case side1 => repeat (first | exact (aD eb.out HB.out) | (with_reducible refine aE ?_ _) | (with_reducible refine aG ?_ _) | (with_reducible refine aH ?_))); (case side2 => exact ee.out); rintro e w15 ⟨rfl, hb⟩; refine ⟨_, rfl, ?_⟩; have ba := aM (ae (g := bO) (o := .cells #[.slice bu l0_0.length bx] 24 (0, 0)) z16 hb); have bb := aM (ay (by repeat (first | (with_reducible first | exact HB.out | apply bA | apply pD | apply bD | refine ax ?_ dj.out) | exact HB.out)) hb); clear bd; clear HB; have bd := ba; have HB := bb; clear ba bb; (try clear hb); (try clear hb2); (try clear hk); (try clear hi); have gp : w15.cell? ⟨bO, 0, none⟩ = some (.slice bu l0_0.length bx) := (bC bd.out 0).trans rfl; have gm := bF bd.out 0) | ((with_reducible refine aJ (f := 16) rfl ?_); refine aQ (some 26) rfl rfl Try.func16 z1 rfl #[.agg #[.slice bu l0_0.length bx]] rfl z25 ?_; (with_reducible refine (laws_toRope.calls k _ _ l0_0 js _ ?side1 ?side2 A8.out).mono ?_); (case side1 => repeat (first | exact (aD eb.out HB.out) | (with_reducible refine aE ?_ _) | (with_reducible refine aG ?_ _) | (with_reducible refine aH ?_))); (case side2 => exact ee.out); rintro e w17 ⟨v278, rfl, ho0, hb⟩; refine ⟨_, rfl, ?_⟩; have ba := aM (aU ho0 (az (by repeat (first | (with_reducible first | exact HB.out | apply bA | apply pD | apply bD | refine ax ?_ dj.out) | exact HB.out)))); have bb := aM (ae (g := bO) (o := .cells #[.slice bu l0_0.length bx] 24 (0, 0)) z16 hb); have bf := aM (ay (by repeat (first | (with_reducible first | exact HB.out | apply bA | apply pD | apply bD | refine ax ?_ dj.out) | exact HB.out)) hb); clear bd; clear HB; have mA := ba; have bd := bb; have HB := bf; clear ba bb bf; (try clear hb); (try clear hb2); (try clear hk); (try clear hi); (try clear ho0); obtain ⟨pd, oV, eo18⟩ := Kd.R_slice mA.out; subst eo18) | ((with_reducible refine aJ (f := 38) rfl ?_); refine aQ (some 28) rfl rfl Try.func38 z1 rfl #[.agg #[.slice pd js.length oV], .int .i64 a1] rfl z25 ?_; (with_reducible refine (spec_SplitRope.calls k (fun k_ => some k_ = (.slice pd js.length oV : Value).ownBlock) (.slice pd js.length oV) js a1 bI bP mE w _ ?side1 ?side2 A9.out).mono ?_); (case side1 => repeat (first | (with_reducible first | exact HB.out | apply bA | apply pD | apply bD | refine ax ?_ dj.out) | exact HB.out)); (case side2 => exact Kd.R_tight rfl mA.out); rintro e w19 ⟨v281, v284, rfl, ho0, ho1, hb, hkp⟩; refine ⟨_, rfl, ?_⟩; have ba := aM (blk_kept z16 hkp (fun hs_ => (fun e_ => (aI mA.out bd.out z0) e_) hs_)); have bb := aM (ag (ok' := fun k_ => some k_ ≠ (v284 : Value).ownBlock) ho0 (fun k_ hk_ => hk_.2)); have bf := aM (ag (ok' := fun k_ => some k_ ≠ (v281 : Value).ownBlock) ho1 (fun k_ hk_ => hk_.2)); have bk := aM (hb); clear bd; clear HB; clear mA; have bd := ba; have cQ := bb; have cE := bf; have HB := bk; clear ba bb bf bk; (try clear hb); (try clear hkp); (try clear ho0); (try clear ho1)) | ((with_reducible refine aK (N := 6) rfl ?_); refine aN ?hg (N := 6) ?hd (cs := #[.slice none 0 0]) (t := 29) ?hr ?_; (case hd => rfl); (case hg => rfl); (case hr => first | (go_simp; done) | (go_simp; rfl)); intro bQ hg w20 hbox hb; have ba := aM (af (by (with_reducible repeat (first | apply ac | apply ab | apply aa)); exact cQ.out) hb); have bb := aM (af (by (with_reducible repeat (first | apply ac | apply ab | apply aa)); exact cE.out) hb); have bf := aM (ae (g := bO) (o := .cells #[.slice bu l0_0.length bx] 24 (0, 0)) z16 hb); have bk := aM (ay (by repeat (first | (with_reducible first | exact HB.out | apply bA | apply pD | apply bD | refine ax ?_ dj.out) | exact HB.out)) hb); have bn := aM (hbox); have br := aM ((by rw [hg]; exact (az (by repeat (first | (with_reducible first | exact HB.out | apply bA | apply pD | apply bD | refine ax ?_ dj.out) | exact HB.out))) : w.heap.size ≤ bQ)); have bM := aM ((by rw [hg]; exact (az (by repeat (first | (with_reducible first | exact HB.out | apply bA | apply pD | apply bD | refine ax ?_ dj.out) | exact HB.out))) : w.heap.size ≤ bQ)); have b3 := aM ((by rw [hg]; exact aA (aw (g := bO) (o := .cells #[.slice bu l0_0.length bx] 24 (0, 0)) z16) : bO ≠ bQ)); have b6 := aM ((by rw [hg]; exact aC (aw (g := bO) (o := .cells #[.slice bu l0_0.length bx] 24 (0, 0)) z16) : bQ ≠ bO)); clear cQ; clear cE; clear bd; clear HB; have cQ := ba; have cE := bb; have bd := bf; have HB := bk; have bh := bn; have GW287 := br; have dZ := bM; have du := b3; have dI := b6; clear ba bb bf bk bn br bM b3 b6; clear hb hbox hg) | ((with_reducible refine aK (N := 7) rfl ?_); refine aN ?hg (N := 7) ?hd (cs := #[.slice none 0 0]) (t := 29) ?hr ?_; (case hd => rfl); (case hg => rfl); (case hr => first | (go_simp; done) | (go_simp; rfl)); intro bW hg w21 hbox hb; have ba := aM (af (by (with_reducible repeat (first | apply ac | apply ab | apply aa)); exact cQ.out) hb); have bb := aM (af (by (with_reducible repeat (first | apply ac | apply ab | apply aa)); exact cE.out) hb); have bf := aM (ae (g := bO) (o := .cells #[.slice bu l0_0.length bx] 24 (0, 0)) z16 hb); have bk := aM (ae (g := bQ) (o := .cells #[.slice none 0 0] 29 (0, 0)) z17 hb); have bn := aM (ay (by repeat (first | (with_reducible first | exact HB.out | apply bA | apply pD | apply bD | refine ax ?_ dj.out | refine ax ?_ dZ.out) | exact HB.out)) hb); have br := aM (hbox); have bM := aM ((by rw [hg]; exact (az (by repeat (first | (with_reducible first | exact HB.out | apply bA | apply pD | apply bD | refine ax ?_ dj.out | refine ax ?_ dZ.out) | exact HB.out))) : w.heap.size ≤ bW)); have b3 := aM ((by rw [hg]; exact (az (by repeat (first | (with_reducible first | exact HB.out | apply bA | apply pD | apply bD | refine ax ?_ dj.out | refine ax ?_ dZ.out) | exact HB.out))) : w.heap.size ≤ bW)); have b6 := aM ((by rw [hg]; exact aA (aw (g := bO) (o := .cells #[.slice bu l0_0.length bx] 24 (0, 0)) z16) : bO ≠ bW)); have b9 := aM ((by rw [hg]; exact aC (aw (g := bO) (o := .cells #[.slice bu l0_0.length bx] 24 (0, 0)) z16) : bW ≠ bO)); have bm := aM ((by rw [hg]; exact aA (aw (g := bQ) (o := .cells #[.slice none 0 0] 29 (0, 0)) z17) : bQ ≠ bW)); have bq := aM ((by rw [hg]; exact aC (aw (g := bQ) (o := .cells #[.slice none 0 0] 29 (0, 0)) z17) : bW ≠ bQ)); clear cQ; clear cE; clear bd; clear bh; clear HB; have cQ := ba; have cE := bb; have bd := bf; have bh := bk; have HB := bn; have bi := br; have GW288 := bM; have eg := b3; have d8 := b6; have en := b9; have dH := bm; have dG := bq; clear ba bb bf bk bn br bM b3 b6 b9 bm bq; clear hb hbox hg; obtain ⟨bV, bR, eo22⟩ := Kd.R_slice cQ.out; subst eo22; have hnb23 := dI.out; have hnc23 := du.out; have hnb24 := dH.out; have hnc24 := dG.out; have ku : w21.cell? ⟨bQ, 0, none⟩ = some (.slice none 0 0) := (bC bh.out 0).trans rfl; have jR := bF bh.out 0; obtain ⟨bY, bX, eo26⟩ := Kd.R_slice cE.out; subst eo26; have hnb27 := en.out; have hnc27 := d8.out; have fC : w21.cell? ⟨bW, 0, none⟩ = some (.slice none 0 0) := (bC bi.out 0).trans rfl; have fA := bF bi.out 0; have kg : w21.cell? ⟨bO, 0, none⟩ = some (.slice bu l0_0.length bx) := (bC bd.out 0).trans rfl; have jG := bF bd.out 0) | ((with_reducible refine aJ (f := 16) rfl ?_); refine aQ (some 33) rfl rfl Try.func16 z1 rfl #[.agg #[.slice bu l0_0.length bx]] rfl z25 ?_; (with_reducible refine (laws_toRope.calls k _ _ l0_0 cr _ ?side1 ?side2 A10.out).mono ?_); (case side1 => exact aD eb.out (by repeat (first | (with_reducible first | exact HB.out | apply bA | apply pD | apply bD | refine ax ?_ dj.out | refine ax ?_ dZ.out | refine ax ?_ eg.out) | exact HB.out))); (case side2 => exact ee.out); rintro e w30 ⟨v290, rfl, ho0, hb⟩; refine ⟨_, rfl, ?_⟩; have ba := aM (ai (by (with_reducible repeat (first | apply ac | apply ab | apply aa)); exact (ag (ag (am (p := ⟨bW, 0, none⟩) (am (p := ⟨bQ, 0, none⟩) (ao (ao cQ.out bh.out z0) bi.out z0) (fun _ hk => hk.1.2) (.slice bV bI.length bR)) (fun _ hk => hk.2) (.slice bY bP.length bX)) (fun _ h_ => h_.1)) (fun _ h_ => h_.1))) (ak ho0) hb); have bb := aM (ai (by (with_reducible repeat (first | apply ac | apply ab | apply aa)); exact (ag (ag (am (p := ⟨bW, 0, none⟩) (am (p := ⟨bQ, 0, none⟩) (ao (ao cE.out bh.out z0) bi.out z0) (fun _ hk => hk.1.2) (.slice bV bI.length bR)) (fun _ hk => hk.2) (.slice bY bP.length bX)) (fun _ h_ => h_.1)) (fun _ h_ => h_.1))) (ak ho0) hb); have bf := aM (aU (aj (aj ho0 (al (by (with_reducible repeat (first | apply ac | apply ab | apply aa)); exact (ag (ag (am (p := ⟨bW, 0, none⟩) (am (p := ⟨bQ, 0, none⟩) (ao (ao cQ.out bh.out z0) bi.out z0) (fun _ hk => hk.1.2) (.slice bV bI.length bR)) (fun _ hk => hk.2) (.slice bY bP.length bX)) (fun _ h_ => h_.1)) (fun _ h_ => h_.1))))) (al (by (with_reducible repeat (first | apply ac | apply ab | apply aa)); exact (ag (ag (am (p := ⟨bW, 0, none⟩) (am (p := ⟨bQ, 0, none⟩) (ao (ao cE.out bh.out z0) bi.out z0) (fun _ hk => hk.1.2) (.slice bV bI.length bR)) (fun _ hk => hk.2) (.slice bY bP.length bX)) (fun _ h_ => h_.1)) (fun _ h_ => h_.1))))) (az (by repeat (first | (with_reducible first | exact HB.out | apply bA | apply pD | apply bD | refine ax ?_ dj.out | refine ax ?_ dZ.out | refine ax ?_ eg.out) | exact HB.out)))); have bk := aM (ae (g := bO) (o := .cells #[.slice bu l0_0.length bx] 24 (0, 0)) (by (with_reducible repeat (first | refine aq ?_ _ | refine ap ?_ | refine ar ?_ _)); refine au ?_ d8.out _; (with_reducible repeat (first | refine aq ?_ _ | refine ap ?_ | refine ar ?_ _)); refine au ?_ du.out _; (with_reducible repeat (first | refine aq ?_ _ | refine ap ?_ | refine ar ?_ _)); exact bd.out) hb); have bn := aM (ae (g := bQ) (o := .cells #[.slice bV bI.length bR] 29 (0, 0)) (by (with_reducible repeat (first | refine aq ?_ _ | refine ap ?_ | refine ar ?_ _)); refine au ?_ dH.out _; (with_reducible repeat (first | refine aq ?_ _ | refine ap ?_ | refine ar ?_ _)); refine av (cs := #[.slice none 0 0]) ?_ 0 _ rfl; (with_reducible repeat (first | refine aq ?_ _ | refine ap ?_ | refine ar ?_ _)); exact bh.out) hb); have br := aM (ae (g := bW) (o := .cells #[.slice bY bP.length bX] 29 (0, 0)) (by (with_reducible repeat (first | refine aq ?_ _ | refine ap ?_ | refine ar ?_ _)); refine av (cs := #[.slice none 0 0]) ?_ 0 _ rfl; (with_reducible repeat (first | refine aq ?_ _ | refine ap ?_ | refine ar ?_ _)); refine au ?_ dG.out _; (with_reducible repeat (first | refine aq ?_ _ | refine ap ?_ | refine ar ?_ _)); exact bi.out) hb); have bM := aM (ay (by repeat (first | (with_reducible first | exact HB.out | apply bA | apply pD | apply bD | refine ax ?_ dj.out | refine ax ?_ dZ.out | refine ax ?_ eg.out) | exact HB.out)) hb); clear cQ; clear cE; clear bd; clear bh; clear bi; clear HB; have cQ := ba; have cE := bb; have dg := bf; have bd := bk; have bh := bn; have bi := br; have HB := bM; clear ba bb bf bk bn br bM; (try clear hb); (try clear hb2); (try clear hk); (try clear hi); (try clear ho0)) | ((with_reducible refine aK (N := 9) rfl ?_); refine aN ?hg (N := 9) ?hd (cs := #[.slice none 0 0]) (t := 29) ?hr ?_; (case hd => rfl); (case hg => rfl); (case hr => first | (go_simp; done) | (go_simp; rfl)); intro bZ hg w31 hbox hb; have ba := aM (af (by (with_reducible repeat (first | apply ac | apply ab | apply aa)); exact cQ.out) hb); have bb := aM (af (by (with_reducible repeat (first | apply ac | apply ab | apply aa)); exact cE.out) hb); have bf := aM (af (by (with_reducible repeat (first | apply ac | apply ab | apply aa)); exact dg.out) hb); have bk := aM (ae (g := bO) (o := .cells #[.slice bu l0_0.length bx] 24 (0, 0)) z16 hb); have bn := aM (ae (g := bQ) (o := .cells #[.slice bV bI.length bR] 29 (0, 0)) z17 hb); have br := aM (ae (g := bW) (o := .cells #[.slice bY bP.length bX] 29 (0, 0)) z18 hb); have bM := aM (ay (by repeat (first | (with_reducible first | exact HB.out | apply bA | apply pD | apply bD | refine ax ?_ dj.out | refine ax ?_ dZ.out | refine ax ?_ eg.out) | exact HB.out)) hb); have b3 := aM (hbox); have b6 := aM ((by rw [hg]; exact (az (by repeat (first | (with_reducible first | exact HB.out | apply bA | apply pD | apply bD | refine ax ?_ dj.out | refine ax ?_ dZ.out | refine ax ?_ eg.out) | exact HB.out))) : w.heap.size ≤ bZ)); have b9 := aM ((by rw [hg]; exact (az (by repeat (first | (with_reducible first | exact HB.out | apply bA | apply pD | apply bD | refine ax ?_ dj.out | refine ax ?_ dZ.out | refine ax ?_ eg.out) | exact HB.out))) : w.heap.size ≤ bZ)); have bm := aM ((by rw [hg]; exact aA (aw (g := bO) (o := .cells #[.slice bu l0_0.length bx] 24 (0, 0)) z16) : bO ≠ bZ)); have bq := aM ((by rw [hg]; exact aC (aw (g := bO) (o := .cells #[.slice bu l0_0.length bx] 24 (0, 0)) z16) : bZ ≠ bO)); have ci := aM ((by rw [hg]; exact aA (aw (g := bQ) (o := .cells #[.slice bV bI.length bR] 29 (0, 0)) z17) : bQ ≠ bZ)); have cX := aM ((by rw [hg]; exact aC (aw (g := bQ) (o := .cells #[.slice bV bI.length bR] 29 (0, 0)) z17) : bZ ≠ bQ)); have cW := aM ((by rw [hg]; exact aA (aw (g := bW) (o := .cells #[.slice bY bP.length bX] 29 (0, 0)) z18) : bW ≠ bZ)); have db := aM ((by rw [hg]; exact aC (aw (g := bW) (o := .cells #[.slice bY bP.length bX] 29 (0, 0)) z18) : bZ ≠ bW)); clear cQ; clear cE; clear dg; clear bd; clear bh; clear bi; clear HB; have cQ := ba; have cE := bb; have dg := bf; have bd := bk; have bh := bn; have bi := br; have HB := bM; have bj := b3; have GW292 := b6; have e7 := b9; have fJ := bm; have gH := bq; have dt := ci; have dE := cX; have d7 := cW; have em := db; clear ba bb bf bk bn br bM b3 b6 b9 bm bq ci cX cW db; clear hb hbox hg; obtain ⟨bT, bS, eo32⟩ := Kd.R_slice dg.out; subst eo32; have hnb33 := gH.out; have hnc33 := fJ.out; have hnb34 := dE.out; have hnc34 := dt.out; have hnb35 := em.out; have hnc35 := d7.out; have iA : w31.cell? ⟨bZ, 0, none⟩ = some (.slice none 0 0) := (bC bj.out 0).trans rfl; have ib := bF bj.out 0) | ((with_reducible refine aJ (f := 39) rfl ?_); refine aQ (some 37) rfl rfl Try.func39 z1 rfl #[.agg #[.slice bT cr.length bS], .int .i64 a1] rfl z25 ?_; (with_reducible refine (impl_SplitRope.calls k _ _ cr a1 bz bG nL _ ?side1 ?side2 A11.out).mono ?_); (case side1 => refine (ah (e := 58) (base := w.heap.size) (ok := fun k_ => ((True ∧ some k_ ≠ (.slice bV bI.length bR : Value).ownBlock) ∧ some k_ ≠ (.slice bY bP.length bX : Value).ownBlock)) (n := cr.length) (c := bS) ?_).2.2; exact (by (with_reducible repeat (first | apply ac | apply ab | apply aa)); exact (ag (am (p := ⟨bZ, 0, none⟩) (ao dg.out bj.out z0) (fun _ hk => hk.2) (.slice bT cr.length bS)) (fun _ h_ => h_.1)))); (case side2 => exact (ah dg.out).2.1); rintro e w37 ⟨v294, v297, rfl, ho0, ho1, hb⟩; refine ⟨_, rfl, ?_⟩; have ba := aM (ag (Kd.R_told (Kd.R_told (Kd.R_old (by (with_reducible repeat (first | apply ac | apply ab | apply aa)); exact (ag (am (p := ⟨bZ, 0, none⟩) (ao cQ.out bj.out z0) (fun _ hk => hk.2) (.slice bT cr.length bS)) (fun _ h_ => h_.1))) hb) (ak ho0)) (ak ho1)) (fun _ h_ => h_.1)); have bb := aM (ag (Kd.R_told (Kd.R_told (Kd.R_old (by (with_reducible repeat (first | apply ac | apply ab | apply aa)); exact (ag (am (p := ⟨bZ, 0, none⟩) (ao cE.out bj.out z0) (fun _ hk => hk.2) (.slice bT cr.length bS)) (fun _ h_ => h_.1))) hb) (ak ho0)) (ak ho1)) (fun _ h_ => h_.1)); have bf := aM (ag (Kd.R_told (Kd.R_told (Kd.R_old (by (with_reducible repeat (first | apply ac | apply ab | apply aa)); exact (ag (am (p := ⟨bZ, 0, none⟩) (ao dg.out bj.out z0) (fun _ hk => hk.2) (.slice bT cr.length bS)) (fun _ h_ => h_.1))) hb) (ak ho0)) (ak ho1)) (fun _ h_ => h_.1)); have bk := aM (aU (aj (aj (aj ho0 (al (by (with_reducible repeat (first | apply ac | apply ab | apply aa)); exact (ag (am (p := ⟨bZ, 0, none⟩) (ao cQ.out bj.out z0) (fun _ hk => hk.2) (.slice bT cr.length bS)) (fun _ h_ => h_.1))))) (al (by (with_reducible repeat (first | apply ac | apply ab | apply aa)); exact (ag (am (p := ⟨bZ, 0, none⟩) (ao cE.out bj.out z0) (fun _ hk => hk.2) (.slice bT cr.length bS)) (fun _ h_ => h_.1))))) (al (by (with_reducible repeat (first | apply ac | apply ab | apply aa)); exact (ag (am (p := ⟨bZ, 0, none⟩) (ao dg.out bj.out z0) (fun _ hk => hk.2) (.slice bT cr.length bS)) (fun _ h_ => h_.1))))) (az z34)); have bn := aM (aU (aj (aj (aj ho1 (al (by (with_reducible repeat (first | apply ac | apply ab | apply aa)); exact (ag (am (p := ⟨bZ, 0, none⟩) (ao cQ.out bj.out z0) (fun _ hk => hk.2) (.slice bT cr.length bS)) (fun _ h_ => h_.1))))) (al (by (with_reducible repeat (first | apply ac | apply ab | apply aa)); exact (ag (am (p := ⟨bZ, 0, none⟩) (ao cE.out bj.out z0) (fun _ hk => hk.2) (.slice bT cr.length bS)) (fun _ h_ => h_.1))))) (al (by (with_reducible repeat (first | apply ac | apply ab | apply aa)); exact (ag (am (p := ⟨bZ, 0, none⟩) (ao dg.out bj.out z0) (fun _ hk => hk.2) (.slice bT cr.length bS)) (fun _ h_ => h_.1))))) (az z34)); have br := aM (ae (g := bO) (o := .cells #[.slice bu l0_0.length bx] 24 (0, 0)) (by (with_reducible repeat (first | refine aq ?_ _ | refine ap ?_ | refine ar ?_ _)); refine au ?_ fJ.out _; (with_reducible repeat (first | refine aq ?_ _ | refine ap ?_ | refine ar ?_ _)); exact bd.out) hb); have bM := aM (ae (g := bQ) (o := .cells #[.slice bV bI.length bR] 29 (0, 0)) (by (with_reducible repeat (first | refine aq ?_ _ | refine ap ?_ | refine ar ?_ _)); refine au ?_ dt.out _; (with_reducible repeat (first | refine aq ?_ _ | refine ap ?_ | refine ar ?_ _)); exact bh.out) hb); have b3 := aM (ae (g := bW) (o := .cells #[.slice bY bP.length bX] 29 (0, 0)) (by (with_reducible repeat (first | refine aq ?_ _ | refine ap ?_ | refine ar ?_ _)); refine au ?_ d7.out _; (with_reducible repeat (first | refine aq ?_ _ | refine ap ?_ | refine ar ?_ _)); exact bi.out) hb); have b6 := aM (ae (g := bZ) (o := .cells #[.slice bT cr.length bS] 29 (0, 0)) (by (with_reducible repeat (first | refine aq ?_ _ | refine ap ?_ | refine ar ?_ _)); refine av (cs := #[.slice none 0 0]) ?_ 0 _ rfl; (with_reducible repeat (first | refine aq ?_ _ | refine ap ?_ | refine ar ?_ _)); exact bj.out) hb); have b9 := aM (ay z34 hb); clear cQ; clear cE; clear dg; clear bd; clear bh; clear bi; clear bj; clear HB; have cQ := ba; have cE := bb; have dg := bf; have dR := bk; have dx := bn; have bd := br; have bh := bM; have bi := b3; have bj := b6; have HB := b9; clear ba bb bf bk bn br bM b3 b6 b9; (try clear hb); (try clear hb2); (try clear hk); (try clear hi); (try clear ho0); (try clear ho1)) | ((with_reducible refine aK (N := 10) rfl ?_); refine aN ?hg (N := 10) ?hd (cs := #[.slice none 0 0]) (t := 29) ?hr ?_; (case hd => rfl); (case hg => rfl); (case hr => first | (go_simp; done) | (go_simp; rfl)); intro bN hg w38 hbox hb; have ba := aM (af (by (with_reducible repeat (first | apply ac | apply ab | apply aa)); exact cQ.out) hb); have bb := aM (af (by (with_reducible repeat (first | apply ac | apply ab | apply aa)); exact cE.out) hb); have bf := aM (af (by (with_reducible repeat (first | apply ac | apply ab | apply aa)); exact dg.out) hb); have bk := aM (af (by (with_reducible repeat (first | apply ac | apply ab | apply aa)); exact dR.out) hb); have bn := aM (af (by (with_reducible repeat (first | apply ac | apply ab | apply aa)); exact dx.out) hb); have br := aM (ae (g := bO) (o := .cells #[.slice bu l0_0.length bx] 24 (0, 0)) z16 hb); have bM := aM (ae (g := bQ) (o := .cells #[.slice bV bI.length bR] 29 (0, 0)) z17 hb); have b3 := aM (ae (g := bW) (o := .cells #[.slice bY bP.length bX] 29 (0, 0)) z18 hb); have b6 := aM (ae (g := bZ) (o := .cells #[.slice bT cr.length bS] 29 (0, 0)) z19 hb); have b9 := aM (ay z34 hb); have bm := aM (hbox); have bq := aM ((by rw [hg]; exact (az z34) : w.heap.size ≤ bN)); have ci := aM ((by rw [hg]; exact (az z34) : w.heap.size ≤ bN)); have cX := aM ((by rw [hg]; exact aA (aw (g := bO) (o := .cells #[.slice bu l0_0.length bx] 24 (0, 0)) z16) : bO ≠ bN)); have cW := aM ((by rw [hg]; exact aC (aw (g := bO) (o := .cells #[.slice bu l0_0.length bx] 24 (0, 0)) z16) : bN ≠ bO)); have db := aM ((by rw [hg]; exact aA (aw (g := bQ) (o := .cells #[.slice bV bI.length bR] 29 (0, 0)) z17) : bQ ≠ bN)); have ed := aM ((by rw [hg]; exact aC (aw (g := bQ) (o := .cells #[.slice bV bI.length bR] 29 (0, 0)) z17) : bN ≠ bQ)); have gj := aM ((by rw [hg]; exact aA (aw (g := bW) (o := .cells #[.slice bY bP.length bX] 29 (0, 0)) z18) : bW ≠ bN)); have gi := aM ((by rw [hg]; exact aC (aw (g := bW) (o := .cells #[.slice bY bP.length bX] 29 (0, 0)) z18) : bN ≠ bW)); have gh := aM ((by rw [hg]; exact aA (aw (g := bZ) (o := .cells #[.slice bT cr.length bS] 29 (0, 0)) z19) : bZ ≠ bN)); have gg := aM ((by rw [hg]; exact aC (aw (g := bZ) (o := .cells #[.slice bT cr.length bS] 29 (0, 0)) z19) : bN ≠ bZ)); clear cQ; clear cE; clear dg; clear dR; clear dx; clear bd; clear bh; clear bi; clear bj; clear HB; have cQ := ba; have cE := bb; have dg := bf; have dR := bk; have dx := bn; have bd := br; have bh := bM; have bi := b3; have bj := b6; have HB := b9; have bc := bm; have GW300 := bq; have e6 := ci; have cO := cX; have de := cW; have cy := db; have cN := ed; have cA := gj; have cT := gi; have cI := gh; have cZ := gg; clear ba bb bf bk bn br bM b3 b6 b9 bm bq ci cX cW db ed gj gi gh gg; clear hb hbox hg) | ((with_reducible refine aK (N := 11) rfl ?_); refine aN ?hg (N := 11) ?hd (cs := #[.slice none 0 0]) (t := 29) ?hr ?_; (case hd => rfl); (case hg => rfl); (case hr => first | (go_simp; done) | (go_simp; rfl)); intro bU hg w39 hbox hb; have ba := aM (af (by (with_reducible repeat (first | apply ac | apply ab | apply aa)); exact cQ.out) hb); have bb := aM (af (by (with_reducible repeat (first | apply ac | apply ab | apply aa)); exact cE.out) hb); have bf := aM (af (by (with_reducible repeat (first | apply ac | apply ab | apply aa)); exact dg.out) hb); have bk := aM (af (by (with_reducible repeat (first | apply ac | apply ab | apply aa)); exact dR.out) hb); have bn := aM (af (by (with_reducible repeat (first | apply ac | apply ab | apply aa)); exact dx.out) hb); have br := aM (ae (g := bO) (o := .cells #[.slice bu l0_0.length bx] 24 (0, 0)) z16 hb); have bM := aM (ae (g := bQ) (o := .cells #[.slice bV bI.length bR] 29 (0, 0)) z17 hb); have b3 := aM (ae (g := bW) (o := .cells #[.slice bY bP.length bX] 29 (0, 0)) z18 hb); have b6 := aM (ae (g := bZ) (o := .cells #[.slice bT cr.length bS] 29 (0, 0)) z19 hb); have b9 := aM (ae (g := bN) (o := .cells #[.slice none 0 0] 29 (0, 0)) z20 hb); have bm := aM (ay (by repeat (first | (with_reducible first | exact HB.out | apply bA | apply pD | apply bD | refine ax ?_ dj.out | refine ax ?_ dZ.out | refine ax ?_ eg.out | refine ax ?_ e7.out | refine ax ?_ e6.out) | exact HB.out)) hb); have bq := aM (hbox); have ci := aM ((by rw [hg]; exact (az (by repeat (first | (with_reducible first | exact HB.out | apply bA | apply pD | apply bD | refine ax ?_ dj.out | refine ax ?_ dZ.out | refine ax ?_ eg.out | refine ax ?_ e7.out | refine ax ?_ e6.out) | exact HB.out))) : w.heap.size ≤ bU)); have cX := aM ((by rw [hg]; exact (az (by repeat (first | (with_reducible first | exact HB.out | apply bA | apply pD | apply bD | refine ax ?_ dj.out | refine ax ?_ dZ.out | refine ax ?_ eg.out | refine ax ?_ e7.out | refine ax ?_ e6.out) | exact HB.out))) : w.heap.size ≤ bU)); have cW := aM ((by rw [hg]; exact aA (aw (g := bO) (o := .cells #[.slice bu l0_0.length bx] 24 (0, 0)) z16) : bO ≠ bU)); have db := aM ((by rw [hg]; exact aC (aw (g := bO) (o := .cells #[.slice bu l0_0.length bx] 24 (0, 0)) z16) : bU ≠ bO)); have ed := aM ((by rw [hg]; exact aA (aw (g := bQ) (o := .cells #[.slice bV bI.length bR] 29 (0, 0)) z17) : bQ ≠ bU)); have gj := aM ((by rw [hg]; exact aC (aw (g := bQ) (o := .cells #[.slice bV bI.length bR] 29 (0, 0)) z17) : bU ≠ bQ)); have gi := aM ((by rw [hg]; exact aA (aw (g := bW) (o := .cells #[.slice bY bP.length bX] 29 (0, 0)) z18) : bW ≠ bU)); have gh := aM ((by rw [hg]; exact aC (aw (g := bW) (o := .cells #[.slice bY bP.length bX] 29 (0, 0)) z18) : bU ≠ bW)); have gg := aM ((by rw [hg]; exact aA (aw (g := bZ) (o := .cells #[.slice bT cr.length bS] 29 (0, 0)) z19) : bZ ≠ bU)); have kO := aM ((by rw [hg]; exact aC (aw (g := bZ) (o := .cells #[.slice bT cr.length bS] 29 (0, 0)) z19) : bU ≠ bZ)); have kN := aM ((by rw [hg]; exact aA (aw (g := bN) (o := .cells #[.slice none 0 0] 29 (0, 0)) z20) : bN ≠ bU)); have kM := aM ((by rw [hg]; exact aC (aw (g := bN) (o := .cells #[.slice none 0 0] 29 (0, 0)) z20) : bU ≠ bN)); clear cQ; clear cE; clear dg; clear dR; clear dx; clear bd; clear bh; clear bi; clear bj; clear bc; clear HB; have cQ := ba; have cE := bb; have dg := bf; have dR := bk; have dx := bn; have bd := br; have bh := bM; have bi := b3; have bj := b6; have bc := b9; have HB := bm; have bg := bq; have GW301 := ci; have fm := cX; have df := cW; have dr := db; have cB := ed; have cS := gj; have cU := gi; have di := gh; have da := gg; have dl := kO; have cM := kN; have cL := kM; clear ba bb bf bk bn br bM b3 b6 b9 bm bq ci cX cW db ed gj gi gh gg kO kN kM; clear hb hbox hg; obtain ⟨bE, bB, eo40⟩ := Kd.R_slice dR.out; subst eo40; have hnb41 := de.out; have hnc41 := cO.out; have hnb42 := cN.out; have hnc42 := cy.out; have hnb43 := cT.out; have hnc43 := cA.out; have hnb44 := cZ.out; have hnc44 := cI.out; have hnb45 := cM.out; have hnc45 := cL.out; have iz : w39.cell? ⟨bN, 0, none⟩ = some (.slice none 0 0) := (bC bc.out 0).trans rfl; have ia := bF bc.out 0; obtain ⟨bK, bJ, eo47⟩ := Kd.R_slice dx.out; subst eo47; have hnb48 := dr.out; have hnc48 := df.out; have hnb49 := cS.out; have hnc49 := cB.out; have hnb50 := di.out; have hnc50 := cU.out; have hnb51 := dl.out; have hnc51 := da.out; have iy : w39.cell? ⟨bU, 0, none⟩ = some (.slice none 0 0) := (bC bg.out 0).trans rfl; have hX := bF bg.out 0))
  (try simp only [Act.put, sA, sB, sC])
  go_cut [55] (fun v55 wc => ∃ (kq : Nat) (x55_11 : Bool), v55 = .bool x55_11 ∧ Aside0 (laws_FnExactSplitRope.j0 kq a1 mE nL x55_11 l0_0 bI bP cr bz bG = some r) ∧ Aside0 (kq ≤ k) ∧ Aside0 (Kd.R k58 58 wc w.heap.size (fun k_ => some k_ ≠ ((.slice bY bP.length bX) : Value).ownBlock ∧ some k_ ≠ ((.slice bT cr.length bS) : Value).ownBlock ∧ some k_ ≠ ((.slice bE bz.length bB) : Value).ownBlock ∧ some k_ ≠ ((.slice bK bG.length bJ) : Value).ownBlock) (.slice bV bI.length bR) bI) ∧ Aside0 (Kd.R k58 58 wc w.heap.size (fun k_ => some k_ ≠ ((.slice bV bI.length bR) : Value).ownBlock ∧ some k_ ≠ ((.slice bT cr.length bS) : Value).ownBlock ∧ some k_ ≠ ((.slice bE bz.length bB) : Value).ownBlock ∧ some k_ ≠ ((.slice bK bG.length bJ) : Value).ownBlock) (.slice bY bP.length bX) bP) ∧ Aside0 (Kd.R k58 58 wc w.heap.size (fun k_ => some k_ ≠ ((.slice bV bI.length bR) : Value).ownBlock ∧ some k_ ≠ ((.slice bY bP.length bX) : Value).ownBlock ∧ some k_ ≠ ((.slice bE bz.length bB) : Value).ownBlock ∧ some k_ ≠ ((.slice bK bG.length bJ) : Value).ownBlock) (.slice bT cr.length bS) cr) ∧ Aside0 (Kd.R k58 58 wc w.heap.size (fun k_ => some k_ ≠ ((.slice bV bI.length bR) : Value).ownBlock ∧ some k_ ≠ ((.slice bY bP.length bX) : Value).ownBlock ∧ some k_ ≠ ((.slice bT cr.length bS) : Value).ownBlock ∧ some k_ ≠ ((.slice bK bG.length bJ) : Value).ownBlock) (.slice bE bz.length bB) bz) ∧ Aside0 (Kd.R k58 58 wc w.heap.size (fun k_ => some k_ ≠ ((.slice bV bI.length bR) : Value).ownBlock ∧ some k_ ≠ ((.slice bY bP.length bX) : Value).ownBlock ∧ some k_ ≠ ((.slice bT cr.length bS) : Value).ownBlock ∧ some k_ ≠ ((.slice bE bz.length bB) : Value).ownBlock) (.slice bK bG.length bJ) bG) ∧ Aside0 (wc.heap[bO]? = some (.cells #[(.slice bu l0_0.length bx)] 24 (0, 0))) ∧ Aside0 (wc.heap[bQ]? = some (.cells #[(.slice bV bI.length bR)] 29 (0, 0))) ∧ Aside0 (wc.heap[bW]? = some (.cells #[(.slice bY bP.length bX)] 29 (0, 0))) ∧ Aside0 (wc.heap[bZ]? = some (.cells #[(.slice bT cr.length bS)] 29 (0, 0))) ∧ Aside0 (wc.heap[bN]? = some (.cells #[(.slice bE bz.length bB)] 29 (0, 0))) ∧ Aside0 (wc.heap[bU]? = some (.cells #[(.slice bK bG.length bJ)] 29 (0, 0))) ∧ Aside0 (Below w.heap.size w wc))
  case first =>
   have H := o8.out
   clear o8
   replace H := oB H
   obtain ⟨mY, pO, H⟩ := H
   try dsimp only at H
   have ql := aM pO
   clear pO
   by_cases oY : mY = true
   ·subst oY
    rw [if_pos rfl] at H
    replace H := oB H
    obtain ⟨mX, pN, H⟩ := H
    try dsimp only at H
    have rg := aM pN
    clear pN
    by_cases oX : mX = true
    ·subst oX
     rw [if_pos rfl] at H
     have H' := aM H
     clear H
     have hnb57 := de.out
     have hnc57 := cO.out
     have hnb58 := cN.out
     have hnc58 := cy.out
     have hnb59 := cT.out
     have hnc59 := cA.out
     have hnb60 := cZ.out
     have hnc60 := cI.out
     have hnb61 := cM.out
     have hnc61 := cL.out
     have kf : w39.cell? ⟨bN, 0, none⟩ = some (.slice none 0 0) := (bC bc.out 0).trans rfl
     have jF := bF bc.out 0
     have hnb63 := dI.out
     have hnc63 := du.out
     have hnb64 := dH.out
     have hnc64 := dG.out
     have hnb65 := dt.out
     have hnc65 := dE.out
     have hnb66 := cB.out
     have hnc66 := cS.out
     have ix : w39.cell? ⟨bQ, 0, none⟩ = some (.slice bV bI.length bR) := (bC bh.out 0).trans rfl
     have hV := bF bh.out 0
     go_wp2_with (first | ((with_reducible refine aJ (f := 18) rfl ?_); refine aQ (some 43) rfl rfl Try.func18 z1 rfl #[.agg #[.slice bE bz.length bB], .agg #[.slice bV bI.length bR]] rfl z25 ?_; (with_reducible refine (laws_eqRope.calls k _ _ bz _ _ bI true _ ?side1 ?side2 ?side3 ?side4 ql.out).mono ?_); (case side1 => refine (ah (e := 58) (base := w.heap.size) (ok := fun k_ => (((some k_ ≠ (.slice bK bG.length bJ : Value).ownBlock ∧ some k_ ≠ (.slice bV bI.length bR : Value).ownBlock) ∧ some k_ ≠ (.slice bY bP.length bX : Value).ownBlock) ∧ some k_ ≠ (.slice bT cr.length bS : Value).ownBlock)) (n := bz.length) (c := bB) ?_).2.2; exact z38); (case side2 => exact (ah dR.out).2.1); (case side3 => refine (ah (e := 58) (base := w.heap.size) (ok := fun k_ => (((some k_ ≠ (.slice bY bP.length bX : Value).ownBlock ∧ some k_ ≠ (.slice bT cr.length bS : Value).ownBlock) ∧ some k_ ≠ (.slice bE bz.length bB : Value).ownBlock) ∧ some k_ ≠ (.slice bK bG.length bJ : Value).ownBlock)) (n := bI.length) (c := bR) ?_).2.2; exact z39); (case side4 => exact (ah cQ.out).2.1); rintro e w68 ⟨rfl, hb⟩; refine ⟨_, rfl, ?_⟩; have ba := aM (af z39 hb); have bb := aM (af (by (with_reducible repeat (first | apply ac | apply ab | apply aa)); exact (ag (ag (am (p := ⟨bU, 0, none⟩) (am (p := ⟨bN, 0, none⟩) (ao (ao cE.out bc.out z0) bg.out z0) (fun _ hk => hk.1.2) (.slice bE bz.length bB)) (fun _ hk => hk.2) (.slice bK bG.length bJ)) (fun _ h_ => h_.1)) (fun _ h_ => h_.1))) hb); have bf := aM (af (by (with_reducible repeat (first | apply ac | apply ab | apply aa)); exact (ag (ag (am (p := ⟨bU, 0, none⟩) (am (p := ⟨bN, 0, none⟩) (ao (ao dg.out bc.out z0) bg.out z0) (fun _ hk => hk.1.2) (.slice bE bz.length bB)) (fun _ hk => hk.2) (.slice bK bG.length bJ)) (fun _ h_ => h_.1)) (fun _ h_ => h_.1))) hb); have bk := aM (af z38 hb); have bn := aM (af (by (with_reducible repeat (first | apply ac | apply ab | apply aa)); exact (ag (ag (am (p := ⟨bU, 0, none⟩) (am (p := ⟨bN, 0, none⟩) (ao (ao dx.out bc.out z0) bg.out z0) (fun _ hk => hk.1.2) (.slice bE bz.length bB)) (fun _ hk => hk.2) (.slice bK bG.length bJ)) (fun _ h_ => h_.1)) (fun _ h_ => h_.1))) hb); have br := aM (ae (g := bO) (o := .cells #[.slice bu l0_0.length bx] 24 (0, 0)) (by (with_reducible repeat (first | refine aq ?_ _ | refine ap ?_ | refine ar ?_ _)); refine au ?_ df.out _; (with_reducible repeat (first | refine aq ?_ _ | refine ap ?_ | refine ar ?_ _)); refine au ?_ cO.out _; (with_reducible repeat (first | refine aq ?_ _ | refine ap ?_ | refine ar ?_ _)); exact bd.out) hb); have bM := aM (ae (g := bQ) (o := .cells #[.slice bV bI.length bR] 29 (0, 0)) (by (with_reducible repeat (first | refine aq ?_ _ | refine ap ?_ | refine ar ?_ _)); refine au ?_ cB.out _; (with_reducible repeat (first | refine aq ?_ _ | refine ap ?_ | refine ar ?_ _)); refine au ?_ cy.out _; (with_reducible repeat (first | refine aq ?_ _ | refine ap ?_ | refine ar ?_ _)); exact bh.out) hb); have b3 := aM (ae (g := bW) (o := .cells #[.slice bY bP.length bX] 29 (0, 0)) (by (with_reducible repeat (first | refine aq ?_ _ | refine ap ?_ | refine ar ?_ _)); refine au ?_ cU.out _; (with_reducible repeat (first | refine aq ?_ _ | refine ap ?_ | refine ar ?_ _)); refine au ?_ cA.out _; (with_reducible repeat (first | refine aq ?_ _ | refine ap ?_ | refine ar ?_ _)); exact bi.out) hb); have b6 := aM (ae (g := bZ) (o := .cells #[.slice bT cr.length bS] 29 (0, 0)) (by (with_reducible repeat (first | refine aq ?_ _ | refine ap ?_ | refine ar ?_ _)); refine au ?_ da.out _; (with_reducible repeat (first | refine aq ?_ _ | refine ap ?_ | refine ar ?_ _)); refine au ?_ cI.out _; (with_reducible repeat (first | refine aq ?_ _ | refine ap ?_ | refine ar ?_ _)); exact bj.out) hb); have b9 := aM (ae (g := bN) (o := .cells #[.slice bE bz.length bB] 29 (0, 0)) (by (with_reducible repeat (first | refine aq ?_ _ | refine ap ?_ | refine ar ?_ _)); refine au ?_ cM.out _; (with_reducible repeat (first | refine aq ?_ _ | refine ap ?_ | refine ar ?_ _)); refine av (cs := #[.slice none 0 0]) ?_ 0 _ rfl; (with_reducible repeat (first | refine aq ?_ _ | refine ap ?_ | refine ar ?_ _)); exact bc.out) hb); have bm := aM (ae (g := bU) (o := .cells #[.slice bK bG.length bJ] 29 (0, 0)) (by (with_reducible repeat (first | refine aq ?_ _ | refine ap ?_ | refine ar ?_ _)); refine av (cs := #[.slice none 0 0]) ?_ 0 _ rfl; (with_reducible repeat (first | refine aq ?_ _ | refine ap ?_ | refine ar ?_ _)); refine au ?_ cL.out _; (with_reducible repeat (first | refine aq ?_ _ | refine ap ?_ | refine ar ?_ _)); exact bg.out) hb); have bq := aM (ay z35 hb); clear cQ; clear cE; clear dg; clear dR; clear dx; clear bd; clear bh; clear bi; clear bj; clear bc; clear bg; clear HB; have cQ := ba; have cE := bb; have dg := bf; have dR := bk; have dx := bn; have bd := br; have bh := bM; have bi := b3; have bj := b6; have bc := b9; have bg := bm; have HB := bq; clear ba bb bf bk bn br bM b3 b6 b9 bm bq; (try clear hb); (try clear hb2); (try clear hk); (try clear hi); have hnb69 := dr.out; have hnc69 := df.out; have hnb70 := di.out; have hnc70 := cU.out; have hnb71 := dl.out; have hnc71 := da.out; have ke : w68.cell? ⟨bU, 0, none⟩ = some (.slice bK bG.length bJ) := (bC bg.out 0).trans rfl; have jE := bF bg.out 0; have hnb73 := en.out; have hnc73 := d8.out; have hnb74 := d7.out; have hnc74 := em.out; have kd : w68.cell? ⟨bW, 0, none⟩ = some (.slice bY bP.length bX) := (bC bi.out 0).trans rfl; have jD := bF bi.out 0) | (go_at_call 18; (with_reducible refine (laws_eqRope.calls k _ _ bG _ _ bP true _ ?side1 ?side2 ?side3 ?side4 rg.out).mono ?_); (case side1 => repeat (first | exact (ah dx.out).2.2 | (with_reducible refine aE ?_ _) | (with_reducible refine aG ?_ _) | (with_reducible refine aH ?_))); (case side2 => exact (ah dx.out).2.1); (case side3 => repeat (first | exact (ah cE.out).2.2 | (with_reducible refine aE ?_ _) | (with_reducible refine aG ?_ _) | (with_reducible refine aH ?_))); (case side4 => exact (ah cE.out).2.1); rintro e w76 ⟨rfl, hb⟩; have ba := aM (af (by (with_reducible repeat (first | apply ac | apply ab | apply aa)); exact cQ.out) hb); have bb := aM (af (by (with_reducible repeat (first | apply ac | apply ab | apply aa)); exact cE.out) hb); have bf := aM (af (by (with_reducible repeat (first | apply ac | apply ab | apply aa)); exact dg.out) hb); have bk := aM (af (by (with_reducible repeat (first | apply ac | apply ab | apply aa)); exact dR.out) hb); have bn := aM (af (by (with_reducible repeat (first | apply ac | apply ab | apply aa)); exact dx.out) hb); have br := aM (ae (g := bO) (o := .cells #[.slice bu l0_0.length bx] 24 (0, 0)) z16 hb); have bM := aM (ae (g := bQ) (o := .cells #[.slice bV bI.length bR] 29 (0, 0)) z17 hb); have b3 := aM (ae (g := bW) (o := .cells #[.slice bY bP.length bX] 29 (0, 0)) z18 hb); have b6 := aM (ae (g := bZ) (o := .cells #[.slice bT cr.length bS] 29 (0, 0)) z19 hb); have b9 := aM (ae (g := bN) (o := .cells #[.slice bE bz.length bB] 29 (0, 0)) z20 hb); have bm := aM (ae (g := bU) (o := .cells #[.slice bK bG.length bJ] 29 (0, 0)) z21 hb); have bq := aM (ay z35 hb); clear cQ; clear cE; clear dg; clear dR; clear dx; clear bd; clear bh; clear bi; clear bj; clear bc; clear bg; clear HB; have cQ := ba; have cE := bb; have dg := bf; have dR := bk; have dx := bn; have bd := br; have bh := bM; have bi := b3; have bj := b6; have bc := b9; have bg := bm; have HB := bq; clear ba bb bf bk bn br bM b3 b6 b9 bm bq; (try clear hb); (try clear hb2); (try clear hk); (try clear hi)))
     go_meet
     case rel => exact ⟨_, ((nL != mE)), z2, H', ⟨by first | omega | exact Nat.le_refl _⟩, ⟨by (with_reducible repeat (first | apply ac | apply ab | apply aa)); exact ag cQ.out (fun _ hk => ⟨hk.1.1.1, ⟨hk.1.1.2, ⟨hk.1.2, hk.2⟩⟩⟩)⟩, ⟨by (with_reducible repeat (first | apply ac | apply ab | apply aa)); exact ag cE.out (fun _ hk => ⟨hk.1.1.1, ⟨hk.1.1.2, ⟨hk.1.2, hk.2⟩⟩⟩)⟩, ⟨by (with_reducible repeat (first | apply ac | apply ab | apply aa)); exact ag dg.out (fun _ hk => ⟨hk.1.1.1.2, ⟨hk.1.1.2, ⟨hk.1.2, hk.2⟩⟩⟩)⟩, ⟨by (with_reducible repeat (first | apply ac | apply ab | apply aa)); exact ag dR.out (fun _ hk => ⟨hk.1.1.2, ⟨hk.1.2, ⟨hk.2, hk.1.1.1⟩⟩⟩)⟩, ⟨by (with_reducible repeat (first | apply ac | apply ab | apply aa)); exact ag dx.out (fun _ hk => ⟨hk.1.1.2, ⟨hk.1.2, ⟨hk.2, hk.1.1.1⟩⟩⟩)⟩, ⟨y4⟩, ⟨y5⟩, ⟨y6⟩, ⟨y7⟩, ⟨y8⟩, ⟨y9⟩, ⟨y28⟩⟩
    ·replace oX := Bool.eq_false_iff.mpr oX
     subst oX
     rw [if_neg (show ¬ (false = true) by decide)] at H
     have H' := aM H
     clear H
     have hnb77 := de.out
     have hnc77 := cO.out
     have hnb78 := cN.out
     have hnc78 := cy.out
     have hnb79 := cT.out
     have hnc79 := cA.out
     have hnb80 := cZ.out
     have hnc80 := cI.out
     have hnb81 := cM.out
     have hnc81 := cL.out
     have kc : w39.cell? ⟨bN, 0, none⟩ = some (.slice none 0 0) := (bC bc.out 0).trans rfl
     have jC := bF bc.out 0
     have hnb83 := dI.out
     have hnc83 := du.out
     have hnb84 := dH.out
     have hnc84 := dG.out
     have hnb85 := dt.out
     have hnc85 := dE.out
     have hnb86 := cB.out
     have hnc86 := cS.out
     have kb : w39.cell? ⟨bQ, 0, none⟩ = some (.slice bV bI.length bR) := (bC bh.out 0).trans rfl
     have jB := bF bh.out 0
     go_wp2_with (first | ((with_reducible refine aJ (f := 18) rfl ?_); refine aQ (some 43) rfl rfl Try.func18 z1 rfl #[.agg #[.slice bE bz.length bB], .agg #[.slice bV bI.length bR]] rfl z25 ?_; (with_reducible refine (laws_eqRope.calls k _ _ bz _ _ bI true _ ?side1 ?side2 ?side3 ?side4 ql.out).mono ?_); (case side1 => refine (ah (e := 58) (base := w.heap.size) (ok := fun k_ => (((some k_ ≠ (.slice bK bG.length bJ : Value).ownBlock ∧ some k_ ≠ (.slice bV bI.length bR : Value).ownBlock) ∧ some k_ ≠ (.slice bY bP.length bX : Value).ownBlock) ∧ some k_ ≠ (.slice bT cr.length bS : Value).ownBlock)) (n := bz.length) (c := bB) ?_).2.2; exact z38); (case side2 => exact (ah dR.out).2.1); (case side3 => refine (ah (e := 58) (base := w.heap.size) (ok := fun k_ => (((some k_ ≠ (.slice bY bP.length bX : Value).ownBlock ∧ some k_ ≠ (.slice bT cr.length bS : Value).ownBlock) ∧ some k_ ≠ (.slice bE bz.length bB : Value).ownBlock) ∧ some k_ ≠ (.slice bK bG.length bJ : Value).ownBlock)) (n := bI.length) (c := bR) ?_).2.2; exact z39); (case side4 => exact (ah cQ.out).2.1); rintro e w88 ⟨rfl, hb⟩; refine ⟨_, rfl, ?_⟩; have ba := aM (af z39 hb); have bb := aM (af (by (with_reducible repeat (first | apply ac | apply ab | apply aa)); exact (ag (ag (am (p := ⟨bU, 0, none⟩) (am (p := ⟨bN, 0, none⟩) (ao (ao cE.out bc.out z0) bg.out z0) (fun _ hk => hk.1.2) (.slice bE bz.length bB)) (fun _ hk => hk.2) (.slice bK bG.length bJ)) (fun _ h_ => h_.1)) (fun _ h_ => h_.1))) hb); have bf := aM (af (by (with_reducible repeat (first | apply ac | apply ab | apply aa)); exact (ag (ag (am (p := ⟨bU, 0, none⟩) (am (p := ⟨bN, 0, none⟩) (ao (ao dg.out bc.out z0) bg.out z0) (fun _ hk => hk.1.2) (.slice bE bz.length bB)) (fun _ hk => hk.2) (.slice bK bG.length bJ)) (fun _ h_ => h_.1)) (fun _ h_ => h_.1))) hb); have bk := aM (af z38 hb); have bn := aM (af (by (with_reducible repeat (first | apply ac | apply ab | apply aa)); exact (ag (ag (am (p := ⟨bU, 0, none⟩) (am (p := ⟨bN, 0, none⟩) (ao (ao dx.out bc.out z0) bg.out z0) (fun _ hk => hk.1.2) (.slice bE bz.length bB)) (fun _ hk => hk.2) (.slice bK bG.length bJ)) (fun _ h_ => h_.1)) (fun _ h_ => h_.1))) hb); have br := aM (ae (g := bO) (o := .cells #[.slice bu l0_0.length bx] 24 (0, 0)) (by (with_reducible repeat (first | refine aq ?_ _ | refine ap ?_ | refine ar ?_ _)); refine au ?_ df.out _; (with_reducible repeat (first | refine aq ?_ _ | refine ap ?_ | refine ar ?_ _)); refine au ?_ cO.out _; (with_reducible repeat (first | refine aq ?_ _ | refine ap ?_ | refine ar ?_ _)); exact bd.out) hb); have bM := aM (ae (g := bQ) (o := .cells #[.slice bV bI.length bR] 29 (0, 0)) (by (with_reducible repeat (first | refine aq ?_ _ | refine ap ?_ | refine ar ?_ _)); refine au ?_ cB.out _; (with_reducible repeat (first | refine aq ?_ _ | refine ap ?_ | refine ar ?_ _)); refine au ?_ cy.out _; (with_reducible repeat (first | refine aq ?_ _ | refine ap ?_ | refine ar ?_ _)); exact bh.out) hb); have b3 := aM (ae (g := bW) (o := .cells #[.slice bY bP.length bX] 29 (0, 0)) (by (with_reducible repeat (first | refine aq ?_ _ | refine ap ?_ | refine ar ?_ _)); refine au ?_ cU.out _; (with_reducible repeat (first | refine aq ?_ _ | refine ap ?_ | refine ar ?_ _)); refine au ?_ cA.out _; (with_reducible repeat (first | refine aq ?_ _ | refine ap ?_ | refine ar ?_ _)); exact bi.out) hb); have b6 := aM (ae (g := bZ) (o := .cells #[.slice bT cr.length bS] 29 (0, 0)) (by (with_reducible repeat (first | refine aq ?_ _ | refine ap ?_ | refine ar ?_ _)); refine au ?_ da.out _; (with_reducible repeat (first | refine aq ?_ _ | refine ap ?_ | refine ar ?_ _)); refine au ?_ cI.out _; (with_reducible repeat (first | refine aq ?_ _ | refine ap ?_ | refine ar ?_ _)); exact bj.out) hb); have b9 := aM (ae (g := bN) (o := .cells #[.slice bE bz.length bB] 29 (0, 0)) (by (with_reducible repeat (first | refine aq ?_ _ | refine ap ?_ | refine ar ?_ _)); refine au ?_ cM.out _; (with_reducible repeat (first | refine aq ?_ _ | refine ap ?_ | refine ar ?_ _)); refine av (cs := #[.slice none 0 0]) ?_ 0 _ rfl; (with_reducible repeat (first | refine aq ?_ _ | refine ap ?_ | refine ar ?_ _)); exact bc.out) hb); have bm := aM (ae (g := bU) (o := .cells #[.slice bK bG.length bJ] 29 (0, 0)) (by (with_reducible repeat (first | refine aq ?_ _ | refine ap ?_ | refine ar ?_ _)); refine av (cs := #[.slice none 0 0]) ?_ 0 _ rfl; (with_reducible repeat (first | refine aq ?_ _ | refine ap ?_ | refine ar ?_ _)); refine au ?_ cL.out _; (with_reducible repeat (first | refine aq ?_ _ | refine ap ?_ | refine ar ?_ _)); exact bg.out) hb); have bq := aM (ay z35 hb); clear cQ; clear cE; clear dg; clear dR; clear dx; clear bd; clear bh; clear bi; clear bj; clear bc; clear bg; clear HB; have cQ := ba; have cE := bb; have dg := bf; have dR := bk; have dx := bn; have bd := br; have bh := bM; have bi := b3; have bj := b6; have bc := b9; have bg := bm; have HB := bq; clear ba bb bf bk bn br bM b3 b6 b9 bm bq; (try clear hb); (try clear hb2); (try clear hk); (try clear hi); have hnb89 := dr.out; have hnc89 := df.out; have hnb90 := di.out; have hnc90 := cU.out; have hnb91 := dl.out; have hnc91 := da.out; have ka : w88.cell? ⟨bU, 0, none⟩ = some (.slice bK bG.length bJ) := (bC bg.out 0).trans rfl; have jA := bF bg.out 0; have hnb93 := en.out; have hnc93 := d8.out; have hnb94 := d7.out; have hnc94 := em.out; have j9 : w88.cell? ⟨bW, 0, none⟩ = some (.slice bY bP.length bX) := (bC bi.out 0).trans rfl; have jz := bF bi.out 0) | (go_at_call 18; (with_reducible refine (laws_eqRope.calls k _ _ bG _ _ bP false _ ?side1 ?side2 ?side3 ?side4 rg.out).mono ?_); (case side1 => repeat (first | exact (ah dx.out).2.2 | (with_reducible refine aE ?_ _) | (with_reducible refine aG ?_ _) | (with_reducible refine aH ?_))); (case side2 => exact (ah dx.out).2.1); (case side3 => repeat (first | exact (ah cE.out).2.2 | (with_reducible refine aE ?_ _) | (with_reducible refine aG ?_ _) | (with_reducible refine aH ?_))); (case side4 => exact (ah cE.out).2.1); rintro e w96 ⟨rfl, hb⟩; have ba := aM (af (by (with_reducible repeat (first | apply ac | apply ab | apply aa)); exact cQ.out) hb); have bb := aM (af (by (with_reducible repeat (first | apply ac | apply ab | apply aa)); exact cE.out) hb); have bf := aM (af (by (with_reducible repeat (first | apply ac | apply ab | apply aa)); exact dg.out) hb); have bk := aM (af (by (with_reducible repeat (first | apply ac | apply ab | apply aa)); exact dR.out) hb); have bn := aM (af (by (with_reducible repeat (first | apply ac | apply ab | apply aa)); exact dx.out) hb); have br := aM (ae (g := bO) (o := .cells #[.slice bu l0_0.length bx] 24 (0, 0)) z16 hb); have bM := aM (ae (g := bQ) (o := .cells #[.slice bV bI.length bR] 29 (0, 0)) z17 hb); have b3 := aM (ae (g := bW) (o := .cells #[.slice bY bP.length bX] 29 (0, 0)) z18 hb); have b6 := aM (ae (g := bZ) (o := .cells #[.slice bT cr.length bS] 29 (0, 0)) z19 hb); have b9 := aM (ae (g := bN) (o := .cells #[.slice bE bz.length bB] 29 (0, 0)) z20 hb); have bm := aM (ae (g := bU) (o := .cells #[.slice bK bG.length bJ] 29 (0, 0)) z21 hb); have bq := aM (ay z35 hb); clear cQ; clear cE; clear dg; clear dR; clear dx; clear bd; clear bh; clear bi; clear bj; clear bc; clear bg; clear HB; have cQ := ba; have cE := bb; have dg := bf; have dR := bk; have dx := bn; have bd := br; have bh := bM; have bi := b3; have bj := b6; have bc := b9; have bg := bm; have HB := bq; clear ba bb bf bk bn br bM b3 b6 b9 bm bq; (try clear hb); (try clear hb2); (try clear hk); (try clear hi)))
     go_meet
     case rel => exact ⟨_, (true), z2, H', ⟨by first | omega | exact Nat.le_refl _⟩, ⟨by (with_reducible repeat (first | apply ac | apply ab | apply aa)); exact ag cQ.out (fun _ hk => ⟨hk.1.1.1, ⟨hk.1.1.2, ⟨hk.1.2, hk.2⟩⟩⟩)⟩, ⟨by (with_reducible repeat (first | apply ac | apply ab | apply aa)); exact ag cE.out (fun _ hk => ⟨hk.1.1.1, ⟨hk.1.1.2, ⟨hk.1.2, hk.2⟩⟩⟩)⟩, ⟨by (with_reducible repeat (first | apply ac | apply ab | apply aa)); exact ag dg.out (fun _ hk => ⟨hk.1.1.1.2, ⟨hk.1.1.2, ⟨hk.1.2, hk.2⟩⟩⟩)⟩, ⟨by (with_reducible repeat (first | apply ac | apply ab | apply aa)); exact ag dR.out (fun _ hk => ⟨hk.1.1.2, ⟨hk.1.2, ⟨hk.2, hk.1.1.1⟩⟩⟩)⟩, ⟨by (with_reducible repeat (first | apply ac | apply ab | apply aa)); exact ag dx.out (fun _ hk => ⟨hk.1.1.2, ⟨hk.1.2, ⟨hk.2, hk.1.1.1⟩⟩⟩)⟩, ⟨y4⟩, ⟨y5⟩, ⟨y6⟩, ⟨y7⟩, ⟨y8⟩, ⟨y9⟩, ⟨y28⟩⟩
   ·replace oY := Bool.eq_false_iff.mpr oY
    subst oY
    rw [if_neg (show ¬ (false = true) by decide)] at H
    have H' := aM H
    clear H
    have hnb97 := de.out
    have hnc97 := cO.out
    have hnb98 := cN.out
    have hnc98 := cy.out
    have hnb99 := cT.out
    have hnc99 := cA.out
    have hnb100 := cZ.out
    have hnc100 := cI.out
    have hnb101 := cM.out
    have hnc101 := cL.out
    have iY : w39.cell? ⟨bN, 0, none⟩ = some (.slice none 0 0) := (bC bc.out 0).trans rfl
    have iW := bF bc.out 0
    have hnb103 := dI.out
    have hnc103 := du.out
    have hnb104 := dH.out
    have hnc104 := dG.out
    have hnb105 := dt.out
    have hnc105 := dE.out
    have hnb106 := cB.out
    have hnc106 := cS.out
    have iX : w39.cell? ⟨bQ, 0, none⟩ = some (.slice bV bI.length bR) := (bC bh.out 0).trans rfl
    have iV := bF bh.out 0
    go_wp2_with (first | ((with_reducible refine aJ (f := 18) rfl ?_); refine aQ (some 43) rfl rfl Try.func18 z1 rfl #[.agg #[.slice bE bz.length bB], .agg #[.slice bV bI.length bR]] rfl z25 ?_; (with_reducible refine (laws_eqRope.calls k _ _ bz _ _ bI false _ ?side1 ?side2 ?side3 ?side4 ql.out).mono ?_); (case side1 => refine (ah (e := 58) (base := w.heap.size) (ok := fun k_ => (((some k_ ≠ (.slice bK bG.length bJ : Value).ownBlock ∧ some k_ ≠ (.slice bV bI.length bR : Value).ownBlock) ∧ some k_ ≠ (.slice bY bP.length bX : Value).ownBlock) ∧ some k_ ≠ (.slice bT cr.length bS : Value).ownBlock)) (n := bz.length) (c := bB) ?_).2.2; exact z38); (case side2 => exact (ah dR.out).2.1); (case side3 => refine (ah (e := 58) (base := w.heap.size) (ok := fun k_ => (((some k_ ≠ (.slice bY bP.length bX : Value).ownBlock ∧ some k_ ≠ (.slice bT cr.length bS : Value).ownBlock) ∧ some k_ ≠ (.slice bE bz.length bB : Value).ownBlock) ∧ some k_ ≠ (.slice bK bG.length bJ : Value).ownBlock)) (n := bI.length) (c := bR) ?_).2.2; exact z39); (case side4 => exact (ah cQ.out).2.1); rintro e w108 ⟨rfl, hb⟩; refine ⟨_, rfl, ?_⟩; have ba := aM (af z39 hb); have bb := aM (af (by (with_reducible repeat (first | apply ac | apply ab | apply aa)); exact (ag (ag (am (p := ⟨bU, 0, none⟩) (am (p := ⟨bN, 0, none⟩) (ao (ao cE.out bc.out z0) bg.out z0) (fun _ hk => hk.1.2) (.slice bE bz.length bB)) (fun _ hk => hk.2) (.slice bK bG.length bJ)) (fun _ h_ => h_.1)) (fun _ h_ => h_.1))) hb); have bf := aM (af (by (with_reducible repeat (first | apply ac | apply ab | apply aa)); exact (ag (ag (am (p := ⟨bU, 0, none⟩) (am (p := ⟨bN, 0, none⟩) (ao (ao dg.out bc.out z0) bg.out z0) (fun _ hk => hk.1.2) (.slice bE bz.length bB)) (fun _ hk => hk.2) (.slice bK bG.length bJ)) (fun _ h_ => h_.1)) (fun _ h_ => h_.1))) hb); have bk := aM (af z38 hb); have bn := aM (af (by (with_reducible repeat (first | apply ac | apply ab | apply aa)); exact (ag (ag (am (p := ⟨bU, 0, none⟩) (am (p := ⟨bN, 0, none⟩) (ao (ao dx.out bc.out z0) bg.out z0) (fun _ hk => hk.1.2) (.slice bE bz.length bB)) (fun _ hk => hk.2) (.slice bK bG.length bJ)) (fun _ h_ => h_.1)) (fun _ h_ => h_.1))) hb); have br := aM (ae (g := bO) (o := .cells #[.slice bu l0_0.length bx] 24 (0, 0)) (by (with_reducible repeat (first | refine aq ?_ _ | refine ap ?_ | refine ar ?_ _)); refine au ?_ df.out _; (with_reducible repeat (first | refine aq ?_ _ | refine ap ?_ | refine ar ?_ _)); refine au ?_ cO.out _; (with_reducible repeat (first | refine aq ?_ _ | refine ap ?_ | refine ar ?_ _)); exact bd.out) hb); have bM := aM (ae (g := bQ) (o := .cells #[.slice bV bI.length bR] 29 (0, 0)) (by (with_reducible repeat (first | refine aq ?_ _ | refine ap ?_ | refine ar ?_ _)); refine au ?_ cB.out _; (with_reducible repeat (first | refine aq ?_ _ | refine ap ?_ | refine ar ?_ _)); refine au ?_ cy.out _; (with_reducible repeat (first | refine aq ?_ _ | refine ap ?_ | refine ar ?_ _)); exact bh.out) hb); have b3 := aM (ae (g := bW) (o := .cells #[.slice bY bP.length bX] 29 (0, 0)) (by (with_reducible repeat (first | refine aq ?_ _ | refine ap ?_ | refine ar ?_ _)); refine au ?_ cU.out _; (with_reducible repeat (first | refine aq ?_ _ | refine ap ?_ | refine ar ?_ _)); refine au ?_ cA.out _; (with_reducible repeat (first | refine aq ?_ _ | refine ap ?_ | refine ar ?_ _)); exact bi.out) hb); have b6 := aM (ae (g := bZ) (o := .cells #[.slice bT cr.length bS] 29 (0, 0)) (by (with_reducible repeat (first | refine aq ?_ _ | refine ap ?_ | refine ar ?_ _)); refine au ?_ da.out _; (with_reducible repeat (first | refine aq ?_ _ | refine ap ?_ | refine ar ?_ _)); refine au ?_ cI.out _; (with_reducible repeat (first | refine aq ?_ _ | refine ap ?_ | refine ar ?_ _)); exact bj.out) hb); have b9 := aM (ae (g := bN) (o := .cells #[.slice bE bz.length bB] 29 (0, 0)) (by (with_reducible repeat (first | refine aq ?_ _ | refine ap ?_ | refine ar ?_ _)); refine au ?_ cM.out _; (with_reducible repeat (first | refine aq ?_ _ | refine ap ?_ | refine ar ?_ _)); refine av (cs := #[.slice none 0 0]) ?_ 0 _ rfl; (with_reducible repeat (first | refine aq ?_ _ | refine ap ?_ | refine ar ?_ _)); exact bc.out) hb); have bm := aM (ae (g := bU) (o := .cells #[.slice bK bG.length bJ] 29 (0, 0)) (by (with_reducible repeat (first | refine aq ?_ _ | refine ap ?_ | refine ar ?_ _)); refine av (cs := #[.slice none 0 0]) ?_ 0 _ rfl; (with_reducible repeat (first | refine aq ?_ _ | refine ap ?_ | refine ar ?_ _)); refine au ?_ cL.out _; (with_reducible repeat (first | refine aq ?_ _ | refine ap ?_ | refine ar ?_ _)); exact bg.out) hb); have bq := aM (ay z35 hb); clear cQ; clear cE; clear dg; clear dR; clear dx; clear bd; clear bh; clear bi; clear bj; clear bc; clear bg; clear HB; have cQ := ba; have cE := bb; have dg := bf; have dR := bk; have dx := bn; have bd := br; have bh := bM; have bi := b3; have bj := b6; have bc := b9; have bg := bm; have HB := bq; clear ba bb bf bk bn br bM b3 b6 b9 bm bq; (try clear hb); (try clear hb2); (try clear hk); (try clear hi)))
    go_meet
    case rel => exact ⟨_, (true), z2, H', ⟨by first | omega | exact Nat.le_refl _⟩, ⟨by (with_reducible repeat (first | apply ac | apply ab | apply aa)); exact ag cQ.out (fun _ hk => ⟨hk.1.1.1, ⟨hk.1.1.2, ⟨hk.1.2, hk.2⟩⟩⟩)⟩, ⟨by (with_reducible repeat (first | apply ac | apply ab | apply aa)); exact ag cE.out (fun _ hk => ⟨hk.1.1.1, ⟨hk.1.1.2, ⟨hk.1.2, hk.2⟩⟩⟩)⟩, ⟨by (with_reducible repeat (first | apply ac | apply ab | apply aa)); exact ag dg.out (fun _ hk => ⟨hk.1.1.1.2, ⟨hk.1.1.2, ⟨hk.1.2, hk.2⟩⟩⟩)⟩, ⟨by (with_reducible repeat (first | apply ac | apply ab | apply aa)); exact ag dR.out (fun _ hk => ⟨hk.1.1.2, ⟨hk.1.2, ⟨hk.2, hk.1.1.1⟩⟩⟩)⟩, ⟨by (with_reducible repeat (first | apply ac | apply ab | apply aa)); exact ag dx.out (fun _ hk => ⟨hk.1.1.2, ⟨hk.1.2, ⟨hk.2, hk.1.1.1⟩⟩⟩)⟩, ⟨y4⟩, ⟨y5⟩, ⟨y6⟩, ⟨y7⟩, ⟨y8⟩, ⟨y9⟩, ⟨y28⟩⟩
  case rest =>
   clear o8
   try clear c1
   try clear c2
   try clear p2
   try clear c3
   try clear c4
   try clear c4b0
   try clear c5
   try clear c6
   try clear c7
   try clear c8
   try clear c9
   try clear eK
   try clear fd
   try clear hJ
   try clear lp
   try clear o5
   try clear rc
   try clear mU
   try clear mw
   try clear lL
   try clear rb
   try clear o3
   try clear o0
   try clear oZ
   try clear nI
   try clear lJ
   try clear ra
   try clear q3
   try clear qZ
   try clear nH
   try clear nG
   try clear qY
   try clear qX
   try clear oY
   try clear oX
   try clear qW
   try clear qV
   try clear qU
   try clear qS
   try clear qR
   try clear qQ
   try clear qP
   try clear qO
   try clear qN
   try clear qM
   try clear qL
   try clear qK
   try clear qJ
   try clear qI
   try clear qH
   try clear qG
   try clear qE
   try clear qD
   try clear qC
   try clear qB
   try clear qA
   try clear qz
   try clear qy
   try clear qx
   try clear qw
   try clear qv
   try clear qu
   try clear qt
   try clear qr
   try clear qq
   try clear qp
   try clear pI
   try clear pH
   try clear pG
   try clear pF
   try clear pE
   try clear pC
   try clear iY
   try clear iX
   try clear gq
   try clear gp
   try clear ku
   try clear fC
   try clear kg
   try clear iA
   try clear iz
   try clear iy
   try clear kf
   try clear ix
   try clear gD
   try clear ke
   try clear kd
   try clear kc
   try clear kb
   try clear ka
   try clear j9
   try clear iW
   try clear iV
   try clear gn
   try clear gm
   try clear jR
   try clear fA
   try clear jG
   try clear ib
   try clear ia
   try clear hX
   try clear jF
   try clear hV
   try clear gC
   try clear jE
   try clear jD
   try clear jC
   try clear jB
   try clear jA
   try clear jz
   obtain ⟨kq, x55_11, rfl, HA, lP, a8, a7, a6, aZ, a5, bd, bh, bi, bj, bc, bg, HB⟩ := hcut
   cases kq with
   | zero => exact absurd HA.out (by simp [laws_FnExactSplitRope.j0])
   | succ kj11 =>
    have H := HA.out
    clear HA
    simp only [laws_FnExactSplitRope.j0] at H
    by_cases mP : x55_11 = true
    ·subst mP
     rw [if_pos rfl] at H
     first | (cases H.trans (congrArg some HRT.out); done) | skip
     all_goals
      obtain rfl := sI H
      go_wp2
      go_ret
      exact ⟨y2, y28⟩
    ·replace mP := Bool.eq_false_iff.mpr mP
     subst mP
     rw [if_neg (show ¬ (false = true) by decide)] at H
     replace H := oB H
     obtain ⟨hH, oE, H⟩ := H
     try dsimp only at H
     have nE := aM oE
     clear oE
     replace H := oB H
     obtain ⟨oJ, oC, H⟩ := H
     try dsimp only at H
     have qd := aM oC
     clear oC
     by_cases mO : oJ = true
     ·subst mO
      rw [if_pos rfl] at H
      replace H := oB H
      obtain ⟨⟨nK, cJ⟩, oA, H⟩ := H
      try dsimp only at H
      have A113 := aM oA
      clear oA
      have nx := aM H
      clear H
      try go_wp2
      have ba := aM (aa a8.out)
      have bb := aM (aa a7.out)
      have bf := aM (aa a6.out)
      have bk := aM (aa aZ.out)
      have bn := aM (aa a5.out)
      have br := aM (ap bd.out)
      have bM := aM (ap bh.out)
      have b3 := aM (ap bi.out)
      have b6 := aM (ap bj.out)
      have b9 := aM (ap bc.out)
      have bm := aM (ap bg.out)
      have bq := aM (bD HB.out)
      clear a8
      clear a7
      clear a6
      clear aZ
      clear a5
      clear bd
      clear bh
      clear bi
      clear bj
      clear bc
      clear bg
      clear HB
      have a8 := ba
      have a7 := bb
      have a6 := bf
      have aZ := bk
      have a5 := bn
      have bd := br
      have bh := bM
      have bi := b3
      have bj := b6
      have bc := b9
      have bg := bm
      have HB := bq
      clear ba bb bf bk bn br bM b3 b6 b9 bm bq
      refine start_ (n := 5) (S := fun w' => w'.cell? ⟨bZ, 0, none⟩ = some (.slice bT cr.length bS) ∧ w'.cell? ⟨bO, 0, none⟩ = some (.slice bu l0_0.length bx)) (ds := []) #[false, false, false, false, false] z1 rfl rfl ⟨(bC bj.out 0).trans rfl, (bC bd.out 0).trans rfl⟩ (fun hHeld => ?_)
      generalize wc.drew = w115 at a8 a7 a6 aZ a5 bd bh bi bj bc bg HB hHeld ⊢
      refine tA 0 56 ?_ (hy := by rintro w' ⟨s0, s1⟩; go_simp; with_reducible rfl)
      refine tA 1 57 ?_ (hy := by rintro w' ⟨s0, s1⟩; go_simp; with_reducible rfl)
      refine one_ (i := 2) (N := some 58) #[true, true, true, false, false] rfl rfl z1 z0 (fun K hK => ?_)
      refine goes_ Try.func16 z1 rfl #[.agg #[.slice bu l0_0.length bx]] (by rfl) rfl rfl z25 ?_
      with_reducible refine (laws_toRope.calls kj11 _ _ l0_0 hH _ ?side1 ?side2 nE.out).mono ?_
      (case side1 => repeat (first | exact (aD eb.out HB.out) | (with_reducible refine aE ?_ _) | (with_reducible refine aG ?_ _) | (with_reducible refine aH ?_)))
      (case side2 => exact ee.out)
      rintro e w116 ⟨v305, rfl, ho0, hb⟩
      refine ⟨_, rfl, ?_⟩
      have ba := aM (ai z6 (ak ho0) hb)
      have bb := aM (ai z7 (ak ho0) hb)
      have bf := aM (ai z8 (ak ho0) hb)
      have bk := aM (ai z9 (ak ho0) hb)
      have bn := aM (ai z10 (ak ho0) hb)
      have br := aM (aU (aj (aj (aj (aj (aj ho0 (al z6)) (al z7)) (al z8)) (al z9)) (al z10)) (az z35))
      have bM := aM (ae (g := bO) (o := .cells #[.slice bu l0_0.length bx] 24 (0, 0)) z16 hb)
      have b3 := aM (ae (g := bQ) (o := .cells #[.slice bV bI.length bR] 29 (0, 0)) z17 hb)
      have b6 := aM (ae (g := bW) (o := .cells #[.slice bY bP.length bX] 29 (0, 0)) z18 hb)
      have b9 := aM (ae (g := bZ) (o := .cells #[.slice bT cr.length bS] 29 (0, 0)) z19 hb)
      have bm := aM (ae (g := bN) (o := .cells #[.slice bE bz.length bB] 29 (0, 0)) z20 hb)
      have bq := aM (ae (g := bU) (o := .cells #[.slice bK bG.length bJ] 29 (0, 0)) z21 hb)
      have ci := aM (ay z35 hb)
      clear a8
      clear a7
      clear a6
      clear aZ
      clear a5
      clear bd
      clear bh
      clear bi
      clear bj
      clear bc
      clear bg
      clear HB
      have a8 := ba
      have a7 := bb
      have a6 := bf
      have aZ := bk
      have a5 := bn
      have dm := br
      have bd := bM
      have bh := b3
      have bi := b6
      have bj := b9
      have bc := bm
      have bg := bq
      have HB := ci
      clear ba bb bf bk bn br bM b3 b6 b9 bm bq ci
      (try clear hb)
      (try clear hb2)
      (try clear hk)
      (try clear hi)
      (try clear ho0)
      obtain ⟨lD, lm, eo117⟩ := Kd.R_slice dm.out
      (first | subst eo117 | (injection eo117 with f1_ f2_ f3_; have f4_ := f1_.symm; have f5_ := f3_.symm; clear f1_ f2_ f3_; subst f4_; subst f5_))
      refine hK.out _ _ ⟨(bC bj.out 0).trans rfl, (bC bd.out 0).trans rfl⟩ (fun hHeld => ?_)
      clear hK K
      refine norm_ (a' := ?_) ?_ ?_
      rotate_left
      ·show Act.put _ (some 58) _ = _
       simp only [Act.put, sA, sB, sC, i64_w, i32_w]
       rfl
      refine one_ (i := 3) (N := some 59) #[true, true, true, true, false] rfl rfl z1 z0 (fun K hK => ?_)
      refine goes_ Try.func18 z1 rfl #[.agg #[.slice bT cr.length bS], .agg #[.slice lD hH.length lm]] (by rfl) rfl rfl z25 ?_
      with_reducible refine (laws_eqRope.calls kj11 _ _ cr _ _ hH true _ ?side1 ?side2 ?side3 ?side4 qd.out).mono ?_
      (case side1 => repeat (first | exact (ah a6.out).2.2 | (with_reducible refine aE ?_ _) | (with_reducible refine aG ?_ _) | (with_reducible refine aH ?_)))
      (case side2 => exact (ah a6.out).2.1)
      (case side3 => repeat (first | exact (ah dm.out).2.2 | (with_reducible refine aE ?_ _) | (with_reducible refine aG ?_ _) | (with_reducible refine aH ?_)))
      (case side4 => exact (ah dm.out).2.1)
      rintro e w118 ⟨rfl, hb⟩
      refine ⟨_, rfl, ?_⟩
      have ba := aM (af z6 hb)
      have bb := aM (af z7 hb)
      have bf := aM (af z8 hb)
      have bk := aM (af z9 hb)
      have bn := aM (af z10 hb)
      have br := aM (af (by (with_reducible repeat (first | apply ac | apply ab | apply aa)); exact dm.out) hb)
      have bM := aM (ae (g := bO) (o := .cells #[.slice bu l0_0.length bx] 24 (0, 0)) z16 hb)
      have b3 := aM (ae (g := bQ) (o := .cells #[.slice bV bI.length bR] 29 (0, 0)) z17 hb)
      have b6 := aM (ae (g := bW) (o := .cells #[.slice bY bP.length bX] 29 (0, 0)) z18 hb)
      have b9 := aM (ae (g := bZ) (o := .cells #[.slice bT cr.length bS] 29 (0, 0)) z19 hb)
      have bm := aM (ae (g := bN) (o := .cells #[.slice bE bz.length bB] 29 (0, 0)) z20 hb)
      have bq := aM (ae (g := bU) (o := .cells #[.slice bK bG.length bJ] 29 (0, 0)) z21 hb)
      have ci := aM (ay z35 hb)
      clear a8
      clear a7
      clear a6
      clear aZ
      clear a5
      clear dm
      clear bd
      clear bh
      clear bi
      clear bj
      clear bc
      clear bg
      clear HB
      have a8 := ba
      have a7 := bb
      have a6 := bf
      have aZ := bk
      have a5 := bn
      have dm := br
      have bd := bM
      have bh := b3
      have bi := b6
      have bj := b9
      have bc := bm
      have bg := bq
      have HB := ci
      clear ba bb bf bk bn br bM b3 b6 b9 bm bq ci
      (try clear hb)
      (try clear hb2)
      (try clear hk)
      (try clear hi)
      refine hK.out _ _ ⟨(bC bj.out 0).trans rfl, (bC bd.out 0).trans rfl⟩ (fun hHeld => ?_)
      clear hK K
      refine norm_ (a' := ?_) ?_ ?_
      rotate_left
      ·show Act.put _ (some 59) _ = _
       simp only [Act.put, sA, sB, sC, i64_w, i32_w]
       rfl
      refine pA 4 60 ?_
      refine done_ z1 ?_
      have hnb119 := gH.out
      have hnc119 := fJ.out
      have hnb120 := dE.out
      have hnc120 := dt.out
      have hnb121 := em.out
      have hnc121 := d7.out
      have hnb122 := cI.out
      have hnc122 := cZ.out
      have hnb123 := da.out
      have hnc123 := dl.out
      have ll : w118.cell? ⟨bZ, 0, none⟩ = some (.slice bT cr.length bS) := (bC bj.out 0).trans rfl
      have k5 := bF bj.out 0
      go_upto_region 14 with (first | ((with_reducible refine aJ (f := 27) rfl ?_); refine aQ (some 63) rfl rfl Try.func27 z1 rfl #[.agg #[.slice bT cr.length bS], .int .i64 1] rfl z25 ?_; (with_reducible refine (laws_markRope.calls kj11 (fun k_ => some k_ = (.slice bT cr.length bS : Value).ownBlock) (.slice bT cr.length bS) cr 1 nK cJ w _ ?side1 ?side2 A113.out).mono ?_); (case side1 => repeat (first | (with_reducible first | exact HB.out | apply bA | apply pD | apply bD | refine ax ?_ dj.out | refine ax ?_ dZ.out | refine ax ?_ eg.out | refine ax ?_ e7.out | refine ax ?_ e6.out | refine ax ?_ fm.out) | exact HB.out)); (case side2 => exact Kd.R_tight rfl a6.out); rintro e w125 ⟨rfl, hy0, hb, hkp⟩; refine ⟨_, rfl, ?_⟩; have ba := aM (ag (ok' := fun k_ => some k_ ≠ (.slice bY bP.length bX : Value).ownBlock ∧ some k_ ≠ (.slice bT cr.length bS : Value).ownBlock ∧ some k_ ≠ (.slice bE bz.length bB : Value).ownBlock ∧ some k_ ≠ (.slice bK bG.length bJ : Value).ownBlock ∧ some k_ ≠ (.slice lD hH.length lm : Value).ownBlock) (Kd.R_keptB (a8.out) hkp (fun k_ hk_ hs_ => (hk_.1.2.1) hs_)) (fun k_ hk_ => ⟨hk_.1.1.1, hk_.1.1.2.1, hk_.1.1.2.2.1, hk_.1.1.2.2.2, hk_.1.2⟩)); have bb := aM (ag (ok' := fun k_ => some k_ ≠ (.slice bV bI.length bR : Value).ownBlock ∧ some k_ ≠ (.slice bT cr.length bS : Value).ownBlock ∧ some k_ ≠ (.slice bE bz.length bB : Value).ownBlock ∧ some k_ ≠ (.slice bK bG.length bJ : Value).ownBlock ∧ some k_ ≠ (.slice lD hH.length lm : Value).ownBlock) (Kd.R_keptB (a7.out) hkp (fun k_ hk_ hs_ => (hk_.1.2.1) hs_)) (fun k_ hk_ => ⟨hk_.1.1.1, hk_.1.1.2.1, hk_.1.1.2.2.1, hk_.1.1.2.2.2, hk_.1.2⟩)); have bf := aM (Kd.R_reok rfl hy0 (fun k_ e_ => a6.out.1 k_ e_)); have bk := aM (ag (ok' := fun k_ => some k_ ≠ (.slice bV bI.length bR : Value).ownBlock ∧ some k_ ≠ (.slice bY bP.length bX : Value).ownBlock ∧ some k_ ≠ (.slice bT cr.length bS : Value).ownBlock ∧ some k_ ≠ (.slice bK bG.length bJ : Value).ownBlock ∧ some k_ ≠ (.slice lD hH.length lm : Value).ownBlock) (Kd.R_keptB (aZ.out) hkp (fun k_ hk_ hs_ => (hk_.1.2.2.1) hs_)) (fun k_ hk_ => ⟨hk_.1.1.1, hk_.1.1.2.1, hk_.1.1.2.2.1, hk_.1.1.2.2.2, hk_.1.2⟩)); have bn := aM (ag (ok' := fun k_ => some k_ ≠ (.slice bV bI.length bR : Value).ownBlock ∧ some k_ ≠ (.slice bY bP.length bX : Value).ownBlock ∧ some k_ ≠ (.slice bT cr.length bS : Value).ownBlock ∧ some k_ ≠ (.slice bE bz.length bB : Value).ownBlock ∧ some k_ ≠ (.slice lD hH.length lm : Value).ownBlock) (Kd.R_keptB (a5.out) hkp (fun k_ hk_ hs_ => (hk_.1.2.2.1) hs_)) (fun k_ hk_ => ⟨hk_.1.1.1, hk_.1.1.2.1, hk_.1.1.2.2.1, hk_.1.1.2.2.2, hk_.1.2⟩)); have br := aM (blk_kept z16 hkp (fun hs_ => (fun e_ => (aI a6.out bd.out z0) e_) hs_)); have bM := aM (blk_kept z17 hkp (fun hs_ => (fun e_ => (aI a6.out bh.out z0) e_) hs_)); have b3 := aM (blk_kept z18 hkp (fun hs_ => (fun e_ => (aI a6.out bi.out z0) e_) hs_)); have b6 := aM (blk_kept z19 hkp (fun hs_ => (fun e_ => (aI a6.out bj.out z0) e_) hs_)); have b9 := aM (blk_kept z20 hkp (fun hs_ => (fun e_ => (aI a6.out bc.out z0) e_) hs_)); have bm := aM (blk_kept z21 hkp (fun hs_ => (fun e_ => (aI a6.out bg.out z0) e_) hs_)); have bq := aM (ag (ok' := fun k_ => some k_ ≠ (.slice bV bI.length bR : Value).ownBlock ∧ some k_ ≠ (.slice bY bP.length bX : Value).ownBlock ∧ some k_ ≠ (.slice bT cr.length bS : Value).ownBlock ∧ some k_ ≠ (.slice bE bz.length bB : Value).ownBlock ∧ some k_ ≠ (.slice bK bG.length bJ : Value).ownBlock) (Kd.R_keptB (dm.out) hkp (fun k_ hk_ hs_ => (hk_.1.1.2) hs_)) (fun k_ hk_ => ⟨hk_.1.1.1.1.1.2, hk_.1.1.1.1.2, hk_.1.1.1.2, hk_.1.1.2, hk_.1.2⟩)); have ci := aM (hb); clear a8; clear a7; clear a6; clear aZ; clear a5; clear bd; clear bh; clear bi; clear bj; clear bc; clear bg; clear dm; clear HB; have a8 := ba; have a7 := bb; have a6 := bf; have aZ := bk; have a5 := bn; have bd := br; have bh := bM; have bi := b3; have bj := b6; have bc := b9; have bg := bm; have dm := bq; have HB := ci; clear ba bb bf bk bn br bM b3 b6 b9 bm bq ci; (try clear hb); (try clear hkp); (try clear hy0)))
      (try simp only [Act.put, sA, sB, sC])
      go_cut [82] (fun v82 wc => ∃ (kq : Nat) (x82_113 : Bool), v82 = .bool x82_113 ∧ Aside0 (laws_FnExactSplitRope.j1 kq a1 mE x82_113 l0_0 bI bP bz bG = some r) ∧ Aside0 (kq ≤ kj11) ∧ Aside0 (Kd.R k58 58 wc w.heap.size (fun k_ => some k_ ≠ ((.slice bY bP.length bX) : Value).ownBlock ∧ some k_ ≠ ((.slice bT cr.length bS) : Value).ownBlock ∧ some k_ ≠ ((.slice bE bz.length bB) : Value).ownBlock ∧ some k_ ≠ ((.slice bK bG.length bJ) : Value).ownBlock) (.slice bV bI.length bR) bI) ∧ Aside0 (Kd.R k58 58 wc w.heap.size (fun k_ => some k_ ≠ ((.slice bV bI.length bR) : Value).ownBlock ∧ some k_ ≠ ((.slice bT cr.length bS) : Value).ownBlock ∧ some k_ ≠ ((.slice bE bz.length bB) : Value).ownBlock ∧ some k_ ≠ ((.slice bK bG.length bJ) : Value).ownBlock) (.slice bY bP.length bX) bP) ∧ Aside0 (Kd.R k58 58 wc w.heap.size (fun k_ => some k_ ≠ ((.slice bV bI.length bR) : Value).ownBlock ∧ some k_ ≠ ((.slice bY bP.length bX) : Value).ownBlock ∧ some k_ ≠ ((.slice bE bz.length bB) : Value).ownBlock ∧ some k_ ≠ ((.slice bK bG.length bJ) : Value).ownBlock) (.slice bT cr.length bS) cJ) ∧ Aside0 (Kd.R k58 58 wc w.heap.size (fun k_ => some k_ ≠ ((.slice bV bI.length bR) : Value).ownBlock ∧ some k_ ≠ ((.slice bY bP.length bX) : Value).ownBlock ∧ some k_ ≠ ((.slice bT cr.length bS) : Value).ownBlock ∧ some k_ ≠ ((.slice bK bG.length bJ) : Value).ownBlock) (.slice bE bz.length bB) bz) ∧ Aside0 (Kd.R k58 58 wc w.heap.size (fun k_ => some k_ ≠ ((.slice bV bI.length bR) : Value).ownBlock ∧ some k_ ≠ ((.slice bY bP.length bX) : Value).ownBlock ∧ some k_ ≠ ((.slice bT cr.length bS) : Value).ownBlock ∧ some k_ ≠ ((.slice bE bz.length bB) : Value).ownBlock) (.slice bK bG.length bJ) bG) ∧ Aside0 (wc.heap[bO]? = some (.cells #[(.slice bu l0_0.length bx)] 24 (0, 0))) ∧ Aside0 (wc.heap[bQ]? = some (.cells #[(.slice bV bI.length bR)] 29 (0, 0))) ∧ Aside0 (wc.heap[bW]? = some (.cells #[(.slice bY bP.length bX)] 29 (0, 0))) ∧ Aside0 (wc.heap[bZ]? = some (.cells #[(.slice bT cr.length bS)] 29 (0, 0))) ∧ Aside0 (wc.heap[bN]? = some (.cells #[(.slice bE bz.length bB)] 29 (0, 0))) ∧ Aside0 (wc.heap[bU]? = some (.cells #[(.slice bK bG.length bJ)] 29 (0, 0))) ∧ Aside0 (Below w.heap.size w wc))
      case first =>
       have H := nx.out
       clear nx
       by_cases lq : nK < 0
       ·rw [if_pos lq] at H
        have c126b0 : decide (nK < 0) = true := dT lq
        clear lq
        (first | rw [c126b0] | (simp only [i64_w, i32_w]; rw [c126b0]) | skip)
        have H' := aM H
        clear H
        go_wp2
        go_meet
        case rel => exact ⟨_, (true), z2, H', ⟨by have := lP.out; first | omega | exact Nat.le_refl _⟩, ⟨y16⟩, ⟨y17⟩, ⟨y20⟩, ⟨y18⟩, ⟨y19⟩, ⟨y4⟩, ⟨y5⟩, ⟨y6⟩, ⟨y7⟩, ⟨y8⟩, ⟨y9⟩, ⟨y28⟩⟩
       ·rw [if_neg lq] at H
        have c126b0 : decide (nK < 0) = false := dF lq
        clear lq
        (first | rw [c126b0] | (simp only [i64_w, i32_w]; rw [c126b0]) | skip)
        replace H := oB H
        obtain ⟨oI, oz, H⟩ := H
        try dsimp only at H
        have ph := aM oz
        clear oz
        by_cases mN : oI = true
        ·subst mN
         rw [if_pos rfl] at H
         replace H := oB H
         obtain ⟨oH, oy, H⟩ := H
         try dsimp only at H
         have qb := aM oy
         clear oy
         by_cases mM : oH = true
         ·subst mM
          rw [if_pos rfl] at H
          have H' := aM H
          clear H
          have hnb131 := de.out
          have hnc131 := cO.out
          have hnb132 := cN.out
          have hnc132 := cy.out
          have hnb133 := cT.out
          have hnc133 := cA.out
          have hnb134 := cZ.out
          have hnc134 := cI.out
          have hnb135 := cM.out
          have hnc135 := cL.out
          have lh : w125.cell? ⟨bN, 0, none⟩ = some (.slice bE bz.length bB) := (bC bc.out 0).trans rfl
          have k4 := bF bc.out 0
          have hnb137 := dI.out
          have hnc137 := du.out
          have hnb138 := dH.out
          have hnc138 := dG.out
          have hnb139 := dt.out
          have hnc139 := dE.out
          have hnb140 := cB.out
          have hnc140 := cS.out
          have lg : w125.cell? ⟨bQ, 0, none⟩ = some (.slice bV bI.length bR) := (bC bh.out 0).trans rfl
          have kZ := bF bh.out 0
          go_wp2_with (first | (go_at_call 18; (with_reducible refine (laws_eqRope.calls kj11 _ _ bz _ _ bI true _ ?side1 ?side2 ?side3 ?side4 ph.out).mono ?_); (case side1 => repeat (first | exact (ah aZ.out).2.2 | (with_reducible refine aE ?_ _) | (with_reducible refine aG ?_ _) | (with_reducible refine aH ?_))); (case side2 => exact (ah aZ.out).2.1); (case side3 => repeat (first | exact (ah a8.out).2.2 | (with_reducible refine aE ?_ _) | (with_reducible refine aG ?_ _) | (with_reducible refine aH ?_))); (case side4 => exact (ah a8.out).2.1); rintro e w142 ⟨rfl, hb⟩; have ba := aM (af z6 hb); have bb := aM (af z7 hb); have bf := aM (af z8 hb); have bk := aM (af z9 hb); have bn := aM (af z10 hb); have br := aM (af (by (with_reducible repeat (first | apply ac | apply ab | apply aa)); exact dm.out) hb); have bM := aM (ae (g := bO) (o := .cells #[.slice bu l0_0.length bx] 24 (0, 0)) z16 hb); have b3 := aM (ae (g := bQ) (o := .cells #[.slice bV bI.length bR] 29 (0, 0)) z17 hb); have b6 := aM (ae (g := bW) (o := .cells #[.slice bY bP.length bX] 29 (0, 0)) z18 hb); have b9 := aM (ae (g := bZ) (o := .cells #[.slice bT cr.length bS] 29 (0, 0)) z19 hb); have bm := aM (ae (g := bN) (o := .cells #[.slice bE bz.length bB] 29 (0, 0)) z20 hb); have bq := aM (ae (g := bU) (o := .cells #[.slice bK bG.length bJ] 29 (0, 0)) z21 hb); have ci := aM (ay z35 hb); clear a8; clear a7; clear a6; clear aZ; clear a5; clear dm; clear bd; clear bh; clear bi; clear bj; clear bc; clear bg; clear HB; have a8 := ba; have a7 := bb; have a6 := bf; have aZ := bk; have a5 := bn; have dm := br; have bd := bM; have bh := b3; have bi := b6; have bj := b9; have bc := bm; have bg := bq; have HB := ci; clear ba bb bf bk bn br bM b3 b6 b9 bm bq ci; (try clear hb); (try clear hb2); (try clear hk); (try clear hi); have hnb143 := dr.out; have hnc143 := df.out; have hnb144 := di.out; have hnc144 := cU.out; have hnb145 := dl.out; have hnc145 := da.out; have ld : w142.cell? ⟨bU, 0, none⟩ = some (.slice bK bG.length bJ) := (bC bg.out 0).trans rfl; have kY := bF bg.out 0; have hnb147 := en.out; have hnc147 := d8.out; have hnb148 := d7.out; have hnc148 := em.out; have lc : w142.cell? ⟨bW, 0, none⟩ = some (.slice bY bP.length bX) := (bC bi.out 0).trans rfl; have kX := bF bi.out 0) | (go_at_call 18; (with_reducible refine (laws_eqRope.calls kj11 _ _ bG _ _ bP true _ ?side1 ?side2 ?side3 ?side4 qb.out).mono ?_); (case side1 => repeat (first | exact (ah a5.out).2.2 | (with_reducible refine aE ?_ _) | (with_reducible refine aG ?_ _) | (with_reducible refine aH ?_))); (case side2 => exact (ah a5.out).2.1); (case side3 => repeat (first | exact (ah a7.out).2.2 | (with_reducible refine aE ?_ _) | (with_reducible refine aG ?_ _) | (with_reducible refine aH ?_))); (case side4 => exact (ah a7.out).2.1); rintro e w150 ⟨rfl, hb⟩; have ba := aM (af z6 hb); have bb := aM (af z7 hb); have bf := aM (af z8 hb); have bk := aM (af z9 hb); have bn := aM (af z10 hb); have br := aM (af (by (with_reducible repeat (first | apply ac | apply ab | apply aa)); exact dm.out) hb); have bM := aM (ae (g := bO) (o := .cells #[.slice bu l0_0.length bx] 24 (0, 0)) z16 hb); have b3 := aM (ae (g := bQ) (o := .cells #[.slice bV bI.length bR] 29 (0, 0)) z17 hb); have b6 := aM (ae (g := bW) (o := .cells #[.slice bY bP.length bX] 29 (0, 0)) z18 hb); have b9 := aM (ae (g := bZ) (o := .cells #[.slice bT cr.length bS] 29 (0, 0)) z19 hb); have bm := aM (ae (g := bN) (o := .cells #[.slice bE bz.length bB] 29 (0, 0)) z20 hb); have bq := aM (ae (g := bU) (o := .cells #[.slice bK bG.length bJ] 29 (0, 0)) z21 hb); have ci := aM (ay z35 hb); clear a8; clear a7; clear a6; clear aZ; clear a5; clear dm; clear bd; clear bh; clear bi; clear bj; clear bc; clear bg; clear HB; have a8 := ba; have a7 := bb; have a6 := bf; have aZ := bk; have a5 := bn; have dm := br; have bd := bM; have bh := b3; have bi := b6; have bj := b9; have bc := bm; have bg := bq; have HB := ci; clear ba bb bf bk bn br bM b3 b6 b9 bm bq ci; (try clear hb); (try clear hb2); (try clear hk); (try clear hi)))
          go_meet
          case rel => exact ⟨_, ((nL != mE)), z2, H', ⟨by have := lP.out; first | omega | exact Nat.le_refl _⟩, ⟨y16⟩, ⟨y17⟩, ⟨y20⟩, ⟨y18⟩, ⟨y19⟩, ⟨y4⟩, ⟨y5⟩, ⟨y6⟩, ⟨y7⟩, ⟨y8⟩, ⟨y9⟩, ⟨y28⟩⟩
         ·replace mM := Bool.eq_false_iff.mpr mM
          subst mM
          rw [if_neg (show ¬ (false = true) by decide)] at H
          have H' := aM H
          clear H
          have hnb151 := de.out
          have hnc151 := cO.out
          have hnb152 := cN.out
          have hnc152 := cy.out
          have hnb153 := cT.out
          have hnc153 := cA.out
          have hnb154 := cZ.out
          have hnc154 := cI.out
          have hnb155 := cM.out
          have hnc155 := cL.out
          have lb : w125.cell? ⟨bN, 0, none⟩ = some (.slice bE bz.length bB) := (bC bc.out 0).trans rfl
          have kW := bF bc.out 0
          have hnb157 := dI.out
          have hnc157 := du.out
          have hnb158 := dH.out
          have hnc158 := dG.out
          have hnb159 := dt.out
          have hnc159 := dE.out
          have hnb160 := cB.out
          have hnc160 := cS.out
          have la : w125.cell? ⟨bQ, 0, none⟩ = some (.slice bV bI.length bR) := (bC bh.out 0).trans rfl
          have kV := bF bh.out 0
          go_wp2_with (first | (go_at_call 18; (with_reducible refine (laws_eqRope.calls kj11 _ _ bz _ _ bI true _ ?side1 ?side2 ?side3 ?side4 ph.out).mono ?_); (case side1 => repeat (first | exact (ah aZ.out).2.2 | (with_reducible refine aE ?_ _) | (with_reducible refine aG ?_ _) | (with_reducible refine aH ?_))); (case side2 => exact (ah aZ.out).2.1); (case side3 => repeat (first | exact (ah a8.out).2.2 | (with_reducible refine aE ?_ _) | (with_reducible refine aG ?_ _) | (with_reducible refine aH ?_))); (case side4 => exact (ah a8.out).2.1); rintro e w162 ⟨rfl, hb⟩; have ba := aM (af z6 hb); have bb := aM (af z7 hb); have bf := aM (af z8 hb); have bk := aM (af z9 hb); have bn := aM (af z10 hb); have br := aM (af (by (with_reducible repeat (first | apply ac | apply ab | apply aa)); exact dm.out) hb); have bM := aM (ae (g := bO) (o := .cells #[.slice bu l0_0.length bx] 24 (0, 0)) z16 hb); have b3 := aM (ae (g := bQ) (o := .cells #[.slice bV bI.length bR] 29 (0, 0)) z17 hb); have b6 := aM (ae (g := bW) (o := .cells #[.slice bY bP.length bX] 29 (0, 0)) z18 hb); have b9 := aM (ae (g := bZ) (o := .cells #[.slice bT cr.length bS] 29 (0, 0)) z19 hb); have bm := aM (ae (g := bN) (o := .cells #[.slice bE bz.length bB] 29 (0, 0)) z20 hb); have bq := aM (ae (g := bU) (o := .cells #[.slice bK bG.length bJ] 29 (0, 0)) z21 hb); have ci := aM (ay z35 hb); clear a8; clear a7; clear a6; clear aZ; clear a5; clear dm; clear bd; clear bh; clear bi; clear bj; clear bc; clear bg; clear HB; have a8 := ba; have a7 := bb; have a6 := bf; have aZ := bk; have a5 := bn; have dm := br; have bd := bM; have bh := b3; have bi := b6; have bj := b9; have bc := bm; have bg := bq; have HB := ci; clear ba bb bf bk bn br bM b3 b6 b9 bm bq ci; (try clear hb); (try clear hb2); (try clear hk); (try clear hi); have hnb163 := dr.out; have hnc163 := df.out; have hnb164 := di.out; have hnc164 := cU.out; have hnb165 := dl.out; have hnc165 := da.out; have k9 : w162.cell? ⟨bU, 0, none⟩ = some (.slice bK bG.length bJ) := (bC bg.out 0).trans rfl; have kU := bF bg.out 0; have hnb167 := en.out; have hnc167 := d8.out; have hnb168 := d7.out; have hnc168 := em.out; have k8 : w162.cell? ⟨bW, 0, none⟩ = some (.slice bY bP.length bX) := (bC bi.out 0).trans rfl; have kT := bF bi.out 0) | (go_at_call 18; (with_reducible refine (laws_eqRope.calls kj11 _ _ bG _ _ bP false _ ?side1 ?side2 ?side3 ?side4 qb.out).mono ?_); (case side1 => repeat (first | exact (ah a5.out).2.2 | (with_reducible refine aE ?_ _) | (with_reducible refine aG ?_ _) | (with_reducible refine aH ?_))); (case side2 => exact (ah a5.out).2.1); (case side3 => repeat (first | exact (ah a7.out).2.2 | (with_reducible refine aE ?_ _) | (with_reducible refine aG ?_ _) | (with_reducible refine aH ?_))); (case side4 => exact (ah a7.out).2.1); rintro e w170 ⟨rfl, hb⟩; have ba := aM (af z6 hb); have bb := aM (af z7 hb); have bf := aM (af z8 hb); have bk := aM (af z9 hb); have bn := aM (af z10 hb); have br := aM (af (by (with_reducible repeat (first | apply ac | apply ab | apply aa)); exact dm.out) hb); have bM := aM (ae (g := bO) (o := .cells #[.slice bu l0_0.length bx] 24 (0, 0)) z16 hb); have b3 := aM (ae (g := bQ) (o := .cells #[.slice bV bI.length bR] 29 (0, 0)) z17 hb); have b6 := aM (ae (g := bW) (o := .cells #[.slice bY bP.length bX] 29 (0, 0)) z18 hb); have b9 := aM (ae (g := bZ) (o := .cells #[.slice bT cr.length bS] 29 (0, 0)) z19 hb); have bm := aM (ae (g := bN) (o := .cells #[.slice bE bz.length bB] 29 (0, 0)) z20 hb); have bq := aM (ae (g := bU) (o := .cells #[.slice bK bG.length bJ] 29 (0, 0)) z21 hb); have ci := aM (ay z35 hb); clear a8; clear a7; clear a6; clear aZ; clear a5; clear dm; clear bd; clear bh; clear bi; clear bj; clear bc; clear bg; clear HB; have a8 := ba; have a7 := bb; have a6 := bf; have aZ := bk; have a5 := bn; have dm := br; have bd := bM; have bh := b3; have bi := b6; have bj := b9; have bc := bm; have bg := bq; have HB := ci; clear ba bb bf bk bn br bM b3 b6 b9 bm bq ci; (try clear hb); (try clear hb2); (try clear hk); (try clear hi)))
          go_meet
          case rel => exact ⟨_, (true), z2, H', ⟨by have := lP.out; first | omega | exact Nat.le_refl _⟩, ⟨y16⟩, ⟨y17⟩, ⟨y20⟩, ⟨y18⟩, ⟨y19⟩, ⟨y4⟩, ⟨y5⟩, ⟨y6⟩, ⟨y7⟩, ⟨y8⟩, ⟨y9⟩, ⟨y28⟩⟩
        ·replace mN := Bool.eq_false_iff.mpr mN
         subst mN
         rw [if_neg (show ¬ (false = true) by decide)] at H
         have H' := aM H
         clear H
         have hnb171 := de.out
         have hnc171 := cO.out
         have hnb172 := cN.out
         have hnc172 := cy.out
         have hnb173 := cT.out
         have hnc173 := cA.out
         have hnb174 := cZ.out
         have hnc174 := cI.out
         have hnb175 := cM.out
         have hnc175 := cL.out
         have k7 : w125.cell? ⟨bN, 0, none⟩ = some (.slice bE bz.length bB) := (bC bc.out 0).trans rfl
         have kS := bF bc.out 0
         have hnb177 := dI.out
         have hnc177 := du.out
         have hnb178 := dH.out
         have hnc178 := dG.out
         have hnb179 := dt.out
         have hnc179 := dE.out
         have hnb180 := cB.out
         have hnc180 := cS.out
         have k6 : w125.cell? ⟨bQ, 0, none⟩ = some (.slice bV bI.length bR) := (bC bh.out 0).trans rfl
         have kR := bF bh.out 0
         go_wp2_with (first | (go_at_call 18; (with_reducible refine (laws_eqRope.calls kj11 _ _ bz _ _ bI false _ ?side1 ?side2 ?side3 ?side4 ph.out).mono ?_); (case side1 => repeat (first | exact (ah aZ.out).2.2 | (with_reducible refine aE ?_ _) | (with_reducible refine aG ?_ _) | (with_reducible refine aH ?_))); (case side2 => exact (ah aZ.out).2.1); (case side3 => repeat (first | exact (ah a8.out).2.2 | (with_reducible refine aE ?_ _) | (with_reducible refine aG ?_ _) | (with_reducible refine aH ?_))); (case side4 => exact (ah a8.out).2.1); rintro e w182 ⟨rfl, hb⟩; have ba := aM (af z6 hb); have bb := aM (af z7 hb); have bf := aM (af z8 hb); have bk := aM (af z9 hb); have bn := aM (af z10 hb); have br := aM (af (by (with_reducible repeat (first | apply ac | apply ab | apply aa)); exact dm.out) hb); have bM := aM (ae (g := bO) (o := .cells #[.slice bu l0_0.length bx] 24 (0, 0)) z16 hb); have b3 := aM (ae (g := bQ) (o := .cells #[.slice bV bI.length bR] 29 (0, 0)) z17 hb); have b6 := aM (ae (g := bW) (o := .cells #[.slice bY bP.length bX] 29 (0, 0)) z18 hb); have b9 := aM (ae (g := bZ) (o := .cells #[.slice bT cr.length bS] 29 (0, 0)) z19 hb); have bm := aM (ae (g := bN) (o := .cells #[.slice bE bz.length bB] 29 (0, 0)) z20 hb); have bq := aM (ae (g := bU) (o := .cells #[.slice bK bG.length bJ] 29 (0, 0)) z21 hb); have ci := aM (ay z35 hb); clear a8; clear a7; clear a6; clear aZ; clear a5; clear dm; clear bd; clear bh; clear bi; clear bj; clear bc; clear bg; clear HB; have a8 := ba; have a7 := bb; have a6 := bf; have aZ := bk; have a5 := bn; have dm := br; have bd := bM; have bh := b3; have bi := b6; have bj := b9; have bc := bm; have bg := bq; have HB := ci; clear ba bb bf bk bn br bM b3 b6 b9 bm bq ci; (try clear hb); (try clear hb2); (try clear hk); (try clear hi)))
         go_meet
         case rel => exact ⟨_, (true), z2, H', ⟨by have := lP.out; first | omega | exact Nat.le_refl _⟩, ⟨y16⟩, ⟨y17⟩, ⟨y20⟩, ⟨y18⟩, ⟨y19⟩, ⟨y4⟩, ⟨y5⟩, ⟨y6⟩, ⟨y7⟩, ⟨y8⟩, ⟨y9⟩, ⟨y28⟩⟩
      case rest =>
       clear nx
       try clear c1
       try clear c2
       try clear p2
       try clear c3
       try clear c4
       try clear c4b0
       try clear c5
       try clear c6
       try clear c7
       try clear c8
       try clear c9
       try clear eK
       try clear fd
       try clear fi
       try clear gw
       try clear hJ
       try clear gv
       try clear lp
       try clear i1
       try clear o5
       try clear rc
       try clear mU
       try clear mw
       try clear lL
       try clear rb
       try clear o3
       try clear o0
       try clear oZ
       try clear nI
       try clear lJ
       try clear ra
       try clear q3
       try clear qZ
       try clear nH
       try clear nG
       try clear qY
       try clear qX
       try clear oY
       try clear oX
       try clear qW
       try clear qV
       try clear qU
       try clear qS
       try clear qR
       try clear qQ
       try clear qP
       try clear qO
       try clear qN
       try clear qM
       try clear qL
       try clear qK
       try clear qJ
       try clear qI
       try clear qH
       try clear qG
       try clear qE
       try clear qD
       try clear qC
       try clear qB
       try clear qA
       try clear qz
       try clear qy
       try clear qx
       try clear qw
       try clear qv
       try clear qu
       try clear qt
       try clear qr
       try clear qq
       try clear qp
       try clear pI
       try clear pH
       try clear pG
       try clear pF
       try clear pE
       try clear pC
       try clear mP
       try clear mO
       try clear c119
       try clear c120
       try clear c121
       try clear c122
       try clear c123
       try clear lq
       try clear c126b0
       try clear mN
       try clear mM
       try clear c131
       try clear c132
       try clear c133
       try clear c134
       try clear c135
       try clear c137
       try clear c138
       try clear c139
       try clear c140
       try clear c143
       try clear c144
       try clear c145
       try clear c147
       try clear c148
       try clear c151
       try clear c152
       try clear c153
       try clear c154
       try clear c155
       try clear c157
       try clear c158
       try clear c159
       try clear c160
       try clear c163
       try clear c164
       try clear c165
       try clear c167
       try clear c168
       try clear c171
       try clear c172
       try clear c173
       try clear c174
       try clear c175
       try clear c177
       try clear c178
       try clear c179
       try clear c180
       try clear iY
       try clear iX
       try clear ll
       try clear lh
       try clear lg
       try clear ld
       try clear lc
       try clear gq
       try clear lb
       try clear la
       try clear k9
       try clear k8
       try clear gp
       try clear k7
       try clear k6
       try clear ku
       try clear fC
       try clear kg
       try clear iA
       try clear iz
       try clear iy
       try clear kf
       try clear ix
       try clear gD
       try clear ke
       try clear kd
       try clear kc
       try clear kb
       try clear ka
       try clear j9
       try clear iW
       try clear iV
       try clear k5
       try clear k4
       try clear kZ
       try clear kY
       try clear kX
       try clear gn
       try clear kW
       try clear kV
       try clear kU
       try clear kT
       try clear gm
       try clear kS
       try clear kR
       try clear jR
       try clear fA
       try clear jG
       try clear ib
       try clear ia
       try clear hX
       try clear jF
       try clear hV
       try clear gC
       try clear jE
       try clear jD
       try clear jC
       try clear jB
       try clear jA
       try clear jz
       try clear p2
       obtain ⟨kq, x82_113, rfl, HA, nv, a8, a7, a6, aZ, a5, bd, bh, bi, bj, bc, bg, HB⟩ := hcut
       have hl293000_113 := (ah a6.out).1
       rw [hl293000_113] at a6
       (try simp only [hl293000_113])
       (try simp only [hl293000_113] at bd)
       (try simp only [hl293000_113] at bh)
       (try simp only [hl293000_113] at bi)
       (try simp only [hl293000_113] at bj)
       (try simp only [hl293000_113] at bc)
       (try simp only [hl293000_113] at bg)
       (try simp only [hl293000_113] at a8)
       (try simp only [hl293000_113] at a7)
       (try simp only [hl293000_113] at aZ)
       (try simp only [hl293000_113] at a5)
       cases kq with
       | zero => exact absurd HA.out (by simp [laws_FnExactSplitRope.j1])
       | succ kj113 =>
        have H := HA.out
        clear HA
        simp only [laws_FnExactSplitRope.j1] at H
        by_cases nr : x82_113 = true
        ·subst nr
         rw [if_pos rfl] at H
         first | (cases H.trans (congrArg some HRT.out); done) | skip
         all_goals
          obtain rfl := sI H
          go_wp2
          go_ret
          exact ⟨y2, y28⟩
        ·replace nr := Bool.eq_false_iff.mpr nr
         subst nr
         rw [if_neg (show ¬ (false = true) by decide)] at H
         replace H := oB H
         obtain ⟨⟨hD, dC⟩, ox, H⟩ := H
         try dsimp only at H
         have nV := aM ox
         clear ox
         replace H := oB H
         obtain ⟨⟨fQ, d5⟩, ow, H⟩ := H
         try dsimp only at H
         have nU := aM ow
         clear ow
         replace H := oB H
         obtain ⟨fL, ov, H⟩ := H
         try dsimp only at H
         have nS := aM ov
         clear ov
         by_cases lN : fL < 0
         ·rw [if_pos lN] at H
          have c187b0 : decide (fL < 0) = true := dT lN
          clear lN
          first | (cases H.trans (congrArg some HRT.out); done) | skip
          all_goals
           obtain rfl := sI H
           have hnb188 := de.out
           have hnc188 := cO.out
           have hnb189 := cN.out
           have hnc189 := cy.out
           have hnb190 := cT.out
           have hnc190 := cA.out
           have hnb191 := cZ.out
           have hnc191 := cI.out
           have hnb192 := cM.out
           have hnc192 := cL.out
           have hcz193_0 : wc.cell? ⟨bN, 0, none⟩ = some (.slice bE bz.length bB) := (bC bc.out 0).trans rfl
           have hfz193_0 := bF bc.out 0
           go_wp2_with (first | ((with_reducible refine aJ (f := 27) rfl ?_); refine aQ (some 85) rfl rfl Try.func27 z1 rfl #[.agg #[.slice bE bz.length bB], .int .i64 1] rfl z25 ?_; (with_reducible refine (laws_markRope.calls kj113 (fun k_ => some k_ = (.slice bE bz.length bB : Value).ownBlock) (.slice bE bz.length bB) bz 1 hD dC w _ ?side1 ?side2 nV.out).mono ?_); (case side1 => repeat (first | (with_reducible first | exact HB.out | apply bA | apply pD | apply bD | refine ax ?_ dj.out | refine ax ?_ dZ.out | refine ax ?_ eg.out | refine ax ?_ e7.out | refine ax ?_ e6.out | refine ax ?_ fm.out) | exact HB.out)); (case side2 => exact Kd.R_tight rfl aZ.out); rintro e w194 ⟨rfl, hy0, hb, hkp⟩; refine ⟨_, rfl, ?_⟩; have ba := aM (ag (ok' := fun k_ => some k_ ≠ (.slice bY bP.length bX : Value).ownBlock ∧ some k_ ≠ (.slice bT cJ.length bS : Value).ownBlock ∧ some k_ ≠ (.slice bE bz.length bB : Value).ownBlock ∧ some k_ ≠ (.slice bK bG.length bJ : Value).ownBlock) (Kd.R_keptB (a8.out) hkp (fun k_ hk_ hs_ => (hk_.2.2.1) hs_)) (fun k_ hk_ => ⟨hk_.1.1, hk_.1.2.1, hk_.1.2.2.1, hk_.1.2.2.2⟩)); have bb := aM (ag (ok' := fun k_ => some k_ ≠ (.slice bV bI.length bR : Value).ownBlock ∧ some k_ ≠ (.slice bT cJ.length bS : Value).ownBlock ∧ some k_ ≠ (.slice bE bz.length bB : Value).ownBlock ∧ some k_ ≠ (.slice bK bG.length bJ : Value).ownBlock) (Kd.R_keptB (a7.out) hkp (fun k_ hk_ hs_ => (hk_.2.2.1) hs_)) (fun k_ hk_ => ⟨hk_.1.1, hk_.1.2.1, hk_.1.2.2.1, hk_.1.2.2.2⟩)); have bf := aM (ag (ok' := fun k_ => some k_ ≠ (.slice bV bI.length bR : Value).ownBlock ∧ some k_ ≠ (.slice bY bP.length bX : Value).ownBlock ∧ some k_ ≠ (.slice bE bz.length bB : Value).ownBlock ∧ some k_ ≠ (.slice bK bG.length bJ : Value).ownBlock) (Kd.R_keptB (a6.out) hkp (fun k_ hk_ hs_ => (hk_.2.2.1) hs_)) (fun k_ hk_ => ⟨hk_.1.1, hk_.1.2.1, hk_.1.2.2.1, hk_.1.2.2.2⟩)); have bk := aM (Kd.R_reok rfl hy0 (fun k_ e_ => aZ.out.1 k_ e_)); have bn := aM (ag (ok' := fun k_ => some k_ ≠ (.slice bV bI.length bR : Value).ownBlock ∧ some k_ ≠ (.slice bY bP.length bX : Value).ownBlock ∧ some k_ ≠ (.slice bT cJ.length bS : Value).ownBlock ∧ some k_ ≠ (.slice bE bz.length bB : Value).ownBlock) (Kd.R_keptB (a5.out) hkp (fun k_ hk_ hs_ => (hk_.2.2.2) hs_)) (fun k_ hk_ => ⟨hk_.1.1, hk_.1.2.1, hk_.1.2.2.1, hk_.1.2.2.2⟩)); have br := aM (blk_kept z16 hkp (fun hs_ => (fun e_ => (aI aZ.out bd.out z0) e_) hs_)); have bM := aM (blk_kept z17 hkp (fun hs_ => (fun e_ => (aI aZ.out bh.out z0) e_) hs_)); have b3 := aM (blk_kept z18 hkp (fun hs_ => (fun e_ => (aI aZ.out bi.out z0) e_) hs_)); have b6 := aM (blk_kept z19 hkp (fun hs_ => (fun e_ => (aI aZ.out bj.out z0) e_) hs_)); have b9 := aM (blk_kept z20 hkp (fun hs_ => (fun e_ => (aI aZ.out bc.out z0) e_) hs_)); have bm := aM (blk_kept z21 hkp (fun hs_ => (fun e_ => (aI aZ.out bg.out z0) e_) hs_)); have bq := aM (hb); clear a8; clear a7; clear a6; clear aZ; clear a5; clear bd; clear bh; clear bi; clear bj; clear bc; clear bg; clear HB; have a8 := ba; have a7 := bb; have a6 := bf; have aZ := bk; have a5 := bn; have bd := br; have bh := bM; have bi := b3; have bj := b6; have bc := b9; have bg := bm; have HB := bq; clear ba bb bf bk bn br bM b3 b6 b9 bm bq; (try clear hb); (try clear hkp); (try clear hy0); have hnb195 := dr.out; have hnc195 := df.out; have hnb196 := cS.out; have hnc196 := cB.out; have hnb197 := di.out; have hnc197 := cU.out; have hnb198 := dl.out; have hnc198 := da.out; have hcz199_0 : w194.cell? ⟨bU, 0, none⟩ = some (.slice bK bG.length bJ) := (bC bg.out 0).trans rfl; have hfz199_0 := bF bg.out 0) | ((with_reducible refine aJ (f := 27) rfl ?_); refine aQ (some 88) rfl rfl Try.func27 z1 rfl #[.agg #[.slice bK bG.length bJ], .int .i64 hD] rfl z25 ?_; (with_reducible refine (laws_markRope.calls kj113 (fun k_ => some k_ = (.slice bK bG.length bJ : Value).ownBlock) (.slice bK bG.length bJ) bG hD fQ d5 w _ ?side1 ?side2 nU.out).mono ?_); (case side1 => repeat (first | (with_reducible first | exact HB.out | apply bA | apply pD | apply bD | refine ax ?_ dj.out | refine ax ?_ dZ.out | refine ax ?_ eg.out | refine ax ?_ e7.out | refine ax ?_ e6.out | refine ax ?_ fm.out) | exact HB.out)); (case side2 => exact Kd.R_tight rfl a5.out); rintro e w200 ⟨rfl, hy0, hb, hkp⟩; refine ⟨_, rfl, ?_⟩; have ba := aM (ag (ok' := fun k_ => some k_ ≠ (.slice bY bP.length bX : Value).ownBlock ∧ some k_ ≠ (.slice bT cJ.length bS : Value).ownBlock ∧ some k_ ≠ (.slice bE bz.length bB : Value).ownBlock ∧ some k_ ≠ (.slice bK bG.length bJ : Value).ownBlock) (Kd.R_keptB (a8.out) hkp (fun k_ hk_ hs_ => (hk_.2.2.2) hs_)) (fun k_ hk_ => ⟨hk_.1.1, hk_.1.2.1, hk_.1.2.2.1, hk_.1.2.2.2⟩)); have bb := aM (ag (ok' := fun k_ => some k_ ≠ (.slice bV bI.length bR : Value).ownBlock ∧ some k_ ≠ (.slice bT cJ.length bS : Value).ownBlock ∧ some k_ ≠ (.slice bE bz.length bB : Value).ownBlock ∧ some k_ ≠ (.slice bK bG.length bJ : Value).ownBlock) (Kd.R_keptB (a7.out) hkp (fun k_ hk_ hs_ => (hk_.2.2.2) hs_)) (fun k_ hk_ => ⟨hk_.1.1, hk_.1.2.1, hk_.1.2.2.1, hk_.1.2.2.2⟩)); have bf := aM (ag (ok' := fun k_ => some k_ ≠ (.slice bV bI.length bR : Value).ownBlock ∧ some k_ ≠ (.slice bY bP.length bX : Value).ownBlock ∧ some k_ ≠ (.slice bE bz.length bB : Value).ownBlock ∧ some k_ ≠ (.slice bK bG.length bJ : Value).ownBlock) (Kd.R_keptB (a6.out) hkp (fun k_ hk_ hs_ => (hk_.2.2.2) hs_)) (fun k_ hk_ => ⟨hk_.1.1, hk_.1.2.1, hk_.1.2.2.1, hk_.1.2.2.2⟩)); have bk := aM (ag (ok' := fun k_ => some k_ ≠ (.slice bV bI.length bR : Value).ownBlock ∧ some k_ ≠ (.slice bY bP.length bX : Value).ownBlock ∧ some k_ ≠ (.slice bT cJ.length bS : Value).ownBlock ∧ some k_ ≠ (.slice bK bG.length bJ : Value).ownBlock) (Kd.R_keptB (aZ.out) hkp (fun k_ hk_ hs_ => (hk_.2.2.2) hs_)) (fun k_ hk_ => ⟨hk_.1.1, hk_.1.2.1, hk_.1.2.2.1, hk_.1.2.2.2⟩)); have bn := aM (Kd.R_reok rfl hy0 (fun k_ e_ => a5.out.1 k_ e_)); have br := aM (blk_kept z16 hkp (fun hs_ => (fun e_ => (aI a5.out bd.out z0) e_) hs_)); have bM := aM (blk_kept z17 hkp (fun hs_ => (fun e_ => (aI a5.out bh.out z0) e_) hs_)); have b3 := aM (blk_kept z18 hkp (fun hs_ => (fun e_ => (aI a5.out bi.out z0) e_) hs_)); have b6 := aM (blk_kept z19 hkp (fun hs_ => (fun e_ => (aI a5.out bj.out z0) e_) hs_)); have b9 := aM (blk_kept z20 hkp (fun hs_ => (fun e_ => (aI a5.out bc.out z0) e_) hs_)); have bm := aM (blk_kept z21 hkp (fun hs_ => (fun e_ => (aI a5.out bg.out z0) e_) hs_)); have bq := aM (hb); clear a8; clear a7; clear a6; clear aZ; clear a5; clear bd; clear bh; clear bi; clear bj; clear bc; clear bg; clear HB; have a8 := ba; have a7 := bb; have a6 := bf; have aZ := bk; have a5 := bn; have bd := br; have bh := bM; have bi := b3; have bj := b6; have bc := b9; have bg := bm; have HB := bq; clear ba bb bf bk bn br bM b3 b6 b9 bm bq; (try clear hb); (try clear hkp); (try clear hy0); have hcz201_0 : w200.cell? ⟨bN, 0, none⟩ = some (.slice bE bz.length bB) := (bC bc.out 0).trans rfl; have hfz201_0 := bF bc.out 0) | ((with_reducible refine aJ (f := 28) rfl ?_); refine aQ (some 91) rfl rfl Try.func28 z1 rfl #[.agg #[.slice bE dC.length bB], .int .i64 1] rfl (by (try simp only [List.map_toArray, List.map_cons, List.map_nil]); first | done | (rw [show dC.length = bz.length from (ah aZ.out).1.symm] <;> rfl) | rfl | (simp only [List.length_drop, List.length_take]; rfl)) ?_; (with_reducible refine (laws_heldRope.calls kj113 _ _ dC 1 fL _ ?side1 ?side2 nS.out).mono ?_); (case side1 => repeat (first | exact (ah aZ.out).2.2 | (with_reducible refine aE ?_ _) | (with_reducible refine aG ?_ _) | (with_reducible refine aH ?_))); (case side2 => rw [show dC.length = bz.length from (ah aZ.out).1.symm]; exact (ah aZ.out).2.1); rintro e w202 ⟨rfl, hb⟩; refine ⟨_, rfl, ?_⟩; have ba := aM (af z6 hb); have bb := aM (af z7 hb); have bf := aM (af z8 hb); have bk := aM (af z9 hb); have bn := aM (af z10 hb); have br := aM (ae (g := bO) (o := .cells #[.slice bu l0_0.length bx] 24 (0, 0)) z16 hb); have bM := aM (ae (g := bQ) (o := .cells #[.slice bV bI.length bR] 29 (0, 0)) z17 hb); have b3 := aM (ae (g := bW) (o := .cells #[.slice bY bP.length bX] 29 (0, 0)) z18 hb); have b6 := aM (ae (g := bZ) (o := .cells #[.slice bT cJ.length bS] 29 (0, 0)) z19 hb); have b9 := aM (ae (g := bN) (o := .cells #[.slice bE bz.length bB] 29 (0, 0)) z20 hb); have bm := aM (ae (g := bU) (o := .cells #[.slice bK bG.length bJ] 29 (0, 0)) z21 hb); have bq := aM (ay z35 hb); clear a8; clear a7; clear a6; clear aZ; clear a5; clear bd; clear bh; clear bi; clear bj; clear bc; clear bg; clear HB; have a8 := ba; have a7 := bb; have a6 := bf; have aZ := bk; have a5 := bn; have bd := br; have bh := bM; have bi := b3; have bj := b6; have bc := b9; have bg := bm; have HB := bq; clear ba bb bf bk bn br bM b3 b6 b9 bm bq; (try clear hb); (try clear hb2); (try clear hk); (try clear hi)))
           go_ret
           exact ⟨y2, y28⟩
         ·rw [if_neg lN] at H
          have c187b0 : decide (fL < 0) = false := dF lN
          clear lN
          replace H := oB H
          obtain ⟨gc, ou, H⟩ := H
          try dsimp only at H
          have pg := aM ou
          clear ou
          by_cases lM : gc < 0
          ·rw [if_pos lM] at H
           have c204b0 : decide (gc < 0) = true := dT lM
           clear lM
           first | (cases H.trans (congrArg some HRT.out); done) | skip
           all_goals
            obtain rfl := sI H
            have hnb205 := de.out
            have hnc205 := cO.out
            have hnb206 := cN.out
            have hnc206 := cy.out
            have hnb207 := cT.out
            have hnc207 := cA.out
            have hnb208 := cZ.out
            have hnc208 := cI.out
            have hnb209 := cM.out
            have hnc209 := cL.out
            have hcz210_0 : wc.cell? ⟨bN, 0, none⟩ = some (.slice bE bz.length bB) := (bC bc.out 0).trans rfl
            have hfz210_0 := bF bc.out 0
            go_wp2_with (first | ((with_reducible refine aJ (f := 27) rfl ?_); refine aQ (some 85) rfl rfl Try.func27 z1 rfl #[.agg #[.slice bE bz.length bB], .int .i64 1] rfl z25 ?_; (with_reducible refine (laws_markRope.calls kj113 (fun k_ => some k_ = (.slice bE bz.length bB : Value).ownBlock) (.slice bE bz.length bB) bz 1 hD dC w _ ?side1 ?side2 nV.out).mono ?_); (case side1 => repeat (first | (with_reducible first | exact HB.out | apply bA | apply pD | apply bD | refine ax ?_ dj.out | refine ax ?_ dZ.out | refine ax ?_ eg.out | refine ax ?_ e7.out | refine ax ?_ e6.out | refine ax ?_ fm.out) | exact HB.out)); (case side2 => exact Kd.R_tight rfl aZ.out); rintro e w211 ⟨rfl, hy0, hb, hkp⟩; refine ⟨_, rfl, ?_⟩; have ba := aM (ag (ok' := fun k_ => some k_ ≠ (.slice bY bP.length bX : Value).ownBlock ∧ some k_ ≠ (.slice bT cJ.length bS : Value).ownBlock ∧ some k_ ≠ (.slice bE bz.length bB : Value).ownBlock ∧ some k_ ≠ (.slice bK bG.length bJ : Value).ownBlock) (Kd.R_keptB (a8.out) hkp (fun k_ hk_ hs_ => (hk_.2.2.1) hs_)) (fun k_ hk_ => ⟨hk_.1.1, hk_.1.2.1, hk_.1.2.2.1, hk_.1.2.2.2⟩)); have bb := aM (ag (ok' := fun k_ => some k_ ≠ (.slice bV bI.length bR : Value).ownBlock ∧ some k_ ≠ (.slice bT cJ.length bS : Value).ownBlock ∧ some k_ ≠ (.slice bE bz.length bB : Value).ownBlock ∧ some k_ ≠ (.slice bK bG.length bJ : Value).ownBlock) (Kd.R_keptB (a7.out) hkp (fun k_ hk_ hs_ => (hk_.2.2.1) hs_)) (fun k_ hk_ => ⟨hk_.1.1, hk_.1.2.1, hk_.1.2.2.1, hk_.1.2.2.2⟩)); have bf := aM (ag (ok' := fun k_ => some k_ ≠ (.slice bV bI.length bR : Value).ownBlock ∧ some k_ ≠ (.slice bY bP.length bX : Value).ownBlock ∧ some k_ ≠ (.slice bE bz.length bB : Value).ownBlock ∧ some k_ ≠ (.slice bK bG.length bJ : Value).ownBlock) (Kd.R_keptB (a6.out) hkp (fun k_ hk_ hs_ => (hk_.2.2.1) hs_)) (fun k_ hk_ => ⟨hk_.1.1, hk_.1.2.1, hk_.1.2.2.1, hk_.1.2.2.2⟩)); have bk := aM (Kd.R_reok rfl hy0 (fun k_ e_ => aZ.out.1 k_ e_)); have bn := aM (ag (ok' := fun k_ => some k_ ≠ (.slice bV bI.length bR : Value).ownBlock ∧ some k_ ≠ (.slice bY bP.length bX : Value).ownBlock ∧ some k_ ≠ (.slice bT cJ.length bS : Value).ownBlock ∧ some k_ ≠ (.slice bE bz.length bB : Value).ownBlock) (Kd.R_keptB (a5.out) hkp (fun k_ hk_ hs_ => (hk_.2.2.2) hs_)) (fun k_ hk_ => ⟨hk_.1.1, hk_.1.2.1, hk_.1.2.2.1, hk_.1.2.2.2⟩)); have br := aM (blk_kept z16 hkp (fun hs_ => (fun e_ => (aI aZ.out bd.out z0) e_) hs_)); have bM := aM (blk_kept z17 hkp (fun hs_ => (fun e_ => (aI aZ.out bh.out z0) e_) hs_)); have b3 := aM (blk_kept z18 hkp (fun hs_ => (fun e_ => (aI aZ.out bi.out z0) e_) hs_)); have b6 := aM (blk_kept z19 hkp (fun hs_ => (fun e_ => (aI aZ.out bj.out z0) e_) hs_)); have b9 := aM (blk_kept z20 hkp (fun hs_ => (fun e_ => (aI aZ.out bc.out z0) e_) hs_)); have bm := aM (blk_kept z21 hkp (fun hs_ => (fun e_ => (aI aZ.out bg.out z0) e_) hs_)); have bq := aM (hb); clear a8; clear a7; clear a6; clear aZ; clear a5; clear bd; clear bh; clear bi; clear bj; clear bc; clear bg; clear HB; have a8 := ba; have a7 := bb; have a6 := bf; have aZ := bk; have a5 := bn; have bd := br; have bh := bM; have bi := b3; have bj := b6; have bc := b9; have bg := bm; have HB := bq; clear ba bb bf bk bn br bM b3 b6 b9 bm bq; (try clear hb); (try clear hkp); (try clear hy0); have hnb212 := dr.out; have hnc212 := df.out; have hnb213 := cS.out; have hnc213 := cB.out; have hnb214 := di.out; have hnc214 := cU.out; have hnb215 := dl.out; have hnc215 := da.out; have hcz216_0 : w211.cell? ⟨bU, 0, none⟩ = some (.slice bK bG.length bJ) := (bC bg.out 0).trans rfl; have hfz216_0 := bF bg.out 0) | ((with_reducible refine aJ (f := 27) rfl ?_); refine aQ (some 88) rfl rfl Try.func27 z1 rfl #[.agg #[.slice bK bG.length bJ], .int .i64 hD] rfl z25 ?_; (with_reducible refine (laws_markRope.calls kj113 (fun k_ => some k_ = (.slice bK bG.length bJ : Value).ownBlock) (.slice bK bG.length bJ) bG hD fQ d5 w _ ?side1 ?side2 nU.out).mono ?_); (case side1 => repeat (first | (with_reducible first | exact HB.out | apply bA | apply pD | apply bD | refine ax ?_ dj.out | refine ax ?_ dZ.out | refine ax ?_ eg.out | refine ax ?_ e7.out | refine ax ?_ e6.out | refine ax ?_ fm.out) | exact HB.out)); (case side2 => exact Kd.R_tight rfl a5.out); rintro e w217 ⟨rfl, hy0, hb, hkp⟩; refine ⟨_, rfl, ?_⟩; have ba := aM (ag (ok' := fun k_ => some k_ ≠ (.slice bY bP.length bX : Value).ownBlock ∧ some k_ ≠ (.slice bT cJ.length bS : Value).ownBlock ∧ some k_ ≠ (.slice bE bz.length bB : Value).ownBlock ∧ some k_ ≠ (.slice bK bG.length bJ : Value).ownBlock) (Kd.R_keptB (a8.out) hkp (fun k_ hk_ hs_ => (hk_.2.2.2) hs_)) (fun k_ hk_ => ⟨hk_.1.1, hk_.1.2.1, hk_.1.2.2.1, hk_.1.2.2.2⟩)); have bb := aM (ag (ok' := fun k_ => some k_ ≠ (.slice bV bI.length bR : Value).ownBlock ∧ some k_ ≠ (.slice bT cJ.length bS : Value).ownBlock ∧ some k_ ≠ (.slice bE bz.length bB : Value).ownBlock ∧ some k_ ≠ (.slice bK bG.length bJ : Value).ownBlock) (Kd.R_keptB (a7.out) hkp (fun k_ hk_ hs_ => (hk_.2.2.2) hs_)) (fun k_ hk_ => ⟨hk_.1.1, hk_.1.2.1, hk_.1.2.2.1, hk_.1.2.2.2⟩)); have bf := aM (ag (ok' := fun k_ => some k_ ≠ (.slice bV bI.length bR : Value).ownBlock ∧ some k_ ≠ (.slice bY bP.length bX : Value).ownBlock ∧ some k_ ≠ (.slice bE bz.length bB : Value).ownBlock ∧ some k_ ≠ (.slice bK bG.length bJ : Value).ownBlock) (Kd.R_keptB (a6.out) hkp (fun k_ hk_ hs_ => (hk_.2.2.2) hs_)) (fun k_ hk_ => ⟨hk_.1.1, hk_.1.2.1, hk_.1.2.2.1, hk_.1.2.2.2⟩)); have bk := aM (ag (ok' := fun k_ => some k_ ≠ (.slice bV bI.length bR : Value).ownBlock ∧ some k_ ≠ (.slice bY bP.length bX : Value).ownBlock ∧ some k_ ≠ (.slice bT cJ.length bS : Value).ownBlock ∧ some k_ ≠ (.slice bK bG.length bJ : Value).ownBlock) (Kd.R_keptB (aZ.out) hkp (fun k_ hk_ hs_ => (hk_.2.2.2) hs_)) (fun k_ hk_ => ⟨hk_.1.1, hk_.1.2.1, hk_.1.2.2.1, hk_.1.2.2.2⟩)); have bn := aM (Kd.R_reok rfl hy0 (fun k_ e_ => a5.out.1 k_ e_)); have br := aM (blk_kept z16 hkp (fun hs_ => (fun e_ => (aI a5.out bd.out z0) e_) hs_)); have bM := aM (blk_kept z17 hkp (fun hs_ => (fun e_ => (aI a5.out bh.out z0) e_) hs_)); have b3 := aM (blk_kept z18 hkp (fun hs_ => (fun e_ => (aI a5.out bi.out z0) e_) hs_)); have b6 := aM (blk_kept z19 hkp (fun hs_ => (fun e_ => (aI a5.out bj.out z0) e_) hs_)); have b9 := aM (blk_kept z20 hkp (fun hs_ => (fun e_ => (aI a5.out bc.out z0) e_) hs_)); have bm := aM (blk_kept z21 hkp (fun hs_ => (fun e_ => (aI a5.out bg.out z0) e_) hs_)); have bq := aM (hb); clear a8; clear a7; clear a6; clear aZ; clear a5; clear bd; clear bh; clear bi; clear bj; clear bc; clear bg; clear HB; have a8 := ba; have a7 := bb; have a6 := bf; have aZ := bk; have a5 := bn; have bd := br; have bh := bM; have bi := b3; have bj := b6; have bc := b9; have bg := bm; have HB := bq; clear ba bb bf bk bn br bM b3 b6 b9 bm bq; (try clear hb); (try clear hkp); (try clear hy0); have hcz218_0 : w217.cell? ⟨bN, 0, none⟩ = some (.slice bE bz.length bB) := (bC bc.out 0).trans rfl; have hfz218_0 := bF bc.out 0) | ((with_reducible refine aJ (f := 28) rfl ?_); refine aQ (some 91) rfl rfl Try.func28 z1 rfl #[.agg #[.slice bE dC.length bB], .int .i64 1] rfl (by (try simp only [List.map_toArray, List.map_cons, List.map_nil]); first | done | (rw [show dC.length = bz.length from (ah aZ.out).1.symm] <;> rfl) | rfl | (simp only [List.length_drop, List.length_take]; rfl)) ?_; (with_reducible refine (laws_heldRope.calls kj113 _ _ dC 1 fL _ ?side1 ?side2 nS.out).mono ?_); (case side1 => repeat (first | exact (ah aZ.out).2.2 | (with_reducible refine aE ?_ _) | (with_reducible refine aG ?_ _) | (with_reducible refine aH ?_))); (case side2 => rw [show dC.length = bz.length from (ah aZ.out).1.symm]; exact (ah aZ.out).2.1); rintro e w219 ⟨rfl, hb⟩; refine ⟨_, rfl, ?_⟩; have ba := aM (af z6 hb); have bb := aM (af z7 hb); have bf := aM (af z8 hb); have bk := aM (af z9 hb); have bn := aM (af z10 hb); have br := aM (ae (g := bO) (o := .cells #[.slice bu l0_0.length bx] 24 (0, 0)) z16 hb); have bM := aM (ae (g := bQ) (o := .cells #[.slice bV bI.length bR] 29 (0, 0)) z17 hb); have b3 := aM (ae (g := bW) (o := .cells #[.slice bY bP.length bX] 29 (0, 0)) z18 hb); have b6 := aM (ae (g := bZ) (o := .cells #[.slice bT cJ.length bS] 29 (0, 0)) z19 hb); have b9 := aM (ae (g := bN) (o := .cells #[.slice bE bz.length bB] 29 (0, 0)) z20 hb); have bm := aM (ae (g := bU) (o := .cells #[.slice bK bG.length bJ] 29 (0, 0)) z21 hb); have bq := aM (ay z35 hb); clear a8; clear a7; clear a6; clear aZ; clear a5; clear bd; clear bh; clear bi; clear bj; clear bc; clear bg; clear HB; have a8 := ba; have a7 := bb; have a6 := bf; have aZ := bk; have a5 := bn; have bd := br; have bh := bM; have bi := b3; have bj := b6; have bc := b9; have bg := bm; have HB := bq; clear ba bb bf bk bn br bM b3 b6 b9 bm bq; (try clear hb); (try clear hb2); (try clear hk); (try clear hi); have hcz220_0 : w219.cell? ⟨bU, 0, none⟩ = some (.slice bK bG.length bJ) := (bC bg.out 0).trans rfl; have hfz220_0 := bF bg.out 0) | ((with_reducible refine aJ (f := 28) rfl ?_); refine aQ (some 96) rfl rfl Try.func28 z1 rfl #[.agg #[.slice bK d5.length bJ], .int .i64 fL] rfl (by (try simp only [List.map_toArray, List.map_cons, List.map_nil]); first | done | (rw [show d5.length = bG.length from (ah a5.out).1.symm] <;> rfl) | rfl | (simp only [List.length_drop, List.length_take]; rfl)) ?_; (with_reducible refine (laws_heldRope.calls kj113 _ _ d5 fL gc _ ?side1 ?side2 pg.out).mono ?_); (case side1 => repeat (first | exact (ah a5.out).2.2 | (with_reducible refine aE ?_ _) | (with_reducible refine aG ?_ _) | (with_reducible refine aH ?_))); (case side2 => rw [show d5.length = bG.length from (ah a5.out).1.symm]; exact (ah a5.out).2.1); rintro e w221 ⟨rfl, hb⟩; refine ⟨_, rfl, ?_⟩; have ba := aM (af z6 hb); have bb := aM (af z7 hb); have bf := aM (af z8 hb); have bk := aM (af z9 hb); have bn := aM (af z10 hb); have br := aM (ae (g := bO) (o := .cells #[.slice bu l0_0.length bx] 24 (0, 0)) z16 hb); have bM := aM (ae (g := bQ) (o := .cells #[.slice bV bI.length bR] 29 (0, 0)) z17 hb); have b3 := aM (ae (g := bW) (o := .cells #[.slice bY bP.length bX] 29 (0, 0)) z18 hb); have b6 := aM (ae (g := bZ) (o := .cells #[.slice bT cJ.length bS] 29 (0, 0)) z19 hb); have b9 := aM (ae (g := bN) (o := .cells #[.slice bE bz.length bB] 29 (0, 0)) z20 hb); have bm := aM (ae (g := bU) (o := .cells #[.slice bK bG.length bJ] 29 (0, 0)) z21 hb); have bq := aM (ay z35 hb); clear a8; clear a7; clear a6; clear aZ; clear a5; clear bd; clear bh; clear bi; clear bj; clear bc; clear bg; clear HB; have a8 := ba; have a7 := bb; have a6 := bf; have aZ := bk; have a5 := bn; have bd := br; have bh := bM; have bi := b3; have bj := b6; have bc := b9; have bg := bm; have HB := bq; clear ba bb bf bk bn br bM b3 b6 b9 bm bq; (try clear hb); (try clear hb2); (try clear hk); (try clear hi)))
            go_ret
            exact ⟨y2, y28⟩
          ·rw [if_neg lM] at H
           have c204b0 : decide (gc < 0) = false := dF lM
           clear lM
           by_cases ln : gc = fQ
           ·rw [if_pos ln] at H
            have c222b0 : (gc == fQ) = true := qT ln
            have c222b1 : (gc != fQ) = false := nF ln
            clear ln
            replace H := oB H
            obtain ⟨iQ, ot, H⟩ := H
            try dsimp only at H
            have A223 := aM ot
            clear ot
            replace H := oB H
            obtain ⟨⟨dh, dk, po⟩, oq, H⟩ := H
            try dsimp only at H
            have A224 := aM oq
            clear oq
            have nw := aM H
            clear H
            have hnb226 := de.out
            have hnc226 := cO.out
            have hnb227 := cN.out
            have hnc227 := cy.out
            have hnb228 := cT.out
            have hnc228 := cA.out
            have hnb229 := cZ.out
            have hnc229 := cI.out
            have hnb230 := cM.out
            have hnc230 := cL.out
            have hcz231_0 : wc.cell? ⟨bN, 0, none⟩ = some (.slice bE bz.length bB) := (bC bc.out 0).trans rfl
            have hfz231_0 := bF bc.out 0
            go_upto_region 29 with (first | ((with_reducible refine aJ (f := 27) rfl ?_); refine aQ (some 85) rfl rfl Try.func27 z1 rfl #[.agg #[.slice bE bz.length bB], .int .i64 1] rfl z25 ?_; (with_reducible refine (laws_markRope.calls kj113 (fun k_ => some k_ = (.slice bE bz.length bB : Value).ownBlock) (.slice bE bz.length bB) bz 1 hD dC w _ ?side1 ?side2 nV.out).mono ?_); (case side1 => repeat (first | (with_reducible first | exact HB.out | apply bA | apply pD | apply bD | refine ax ?_ dj.out | refine ax ?_ dZ.out | refine ax ?_ eg.out | refine ax ?_ e7.out | refine ax ?_ e6.out | refine ax ?_ fm.out) | exact HB.out)); (case side2 => exact Kd.R_tight rfl aZ.out); rintro e w232 ⟨rfl, hy0, hb, hkp⟩; refine ⟨_, rfl, ?_⟩; have ba := aM (ag (ok' := fun k_ => some k_ ≠ (.slice bY bP.length bX : Value).ownBlock ∧ some k_ ≠ (.slice bT cJ.length bS : Value).ownBlock ∧ some k_ ≠ (.slice bE bz.length bB : Value).ownBlock ∧ some k_ ≠ (.slice bK bG.length bJ : Value).ownBlock) (Kd.R_keptB (a8.out) hkp (fun k_ hk_ hs_ => (hk_.2.2.1) hs_)) (fun k_ hk_ => ⟨hk_.1.1, hk_.1.2.1, hk_.1.2.2.1, hk_.1.2.2.2⟩)); have bb := aM (ag (ok' := fun k_ => some k_ ≠ (.slice bV bI.length bR : Value).ownBlock ∧ some k_ ≠ (.slice bT cJ.length bS : Value).ownBlock ∧ some k_ ≠ (.slice bE bz.length bB : Value).ownBlock ∧ some k_ ≠ (.slice bK bG.length bJ : Value).ownBlock) (Kd.R_keptB (a7.out) hkp (fun k_ hk_ hs_ => (hk_.2.2.1) hs_)) (fun k_ hk_ => ⟨hk_.1.1, hk_.1.2.1, hk_.1.2.2.1, hk_.1.2.2.2⟩)); have bf := aM (ag (ok' := fun k_ => some k_ ≠ (.slice bV bI.length bR : Value).ownBlock ∧ some k_ ≠ (.slice bY bP.length bX : Value).ownBlock ∧ some k_ ≠ (.slice bE bz.length bB : Value).ownBlock ∧ some k_ ≠ (.slice bK bG.length bJ : Value).ownBlock) (Kd.R_keptB (a6.out) hkp (fun k_ hk_ hs_ => (hk_.2.2.1) hs_)) (fun k_ hk_ => ⟨hk_.1.1, hk_.1.2.1, hk_.1.2.2.1, hk_.1.2.2.2⟩)); have bk := aM (Kd.R_reok rfl hy0 (fun k_ e_ => aZ.out.1 k_ e_)); have bn := aM (ag (ok' := fun k_ => some k_ ≠ (.slice bV bI.length bR : Value).ownBlock ∧ some k_ ≠ (.slice bY bP.length bX : Value).ownBlock ∧ some k_ ≠ (.slice bT cJ.length bS : Value).ownBlock ∧ some k_ ≠ (.slice bE bz.length bB : Value).ownBlock) (Kd.R_keptB (a5.out) hkp (fun k_ hk_ hs_ => (hk_.2.2.2) hs_)) (fun k_ hk_ => ⟨hk_.1.1, hk_.1.2.1, hk_.1.2.2.1, hk_.1.2.2.2⟩)); have br := aM (blk_kept z16 hkp (fun hs_ => (fun e_ => (aI aZ.out bd.out z0) e_) hs_)); have bM := aM (blk_kept z17 hkp (fun hs_ => (fun e_ => (aI aZ.out bh.out z0) e_) hs_)); have b3 := aM (blk_kept z18 hkp (fun hs_ => (fun e_ => (aI aZ.out bi.out z0) e_) hs_)); have b6 := aM (blk_kept z19 hkp (fun hs_ => (fun e_ => (aI aZ.out bj.out z0) e_) hs_)); have b9 := aM (blk_kept z20 hkp (fun hs_ => (fun e_ => (aI aZ.out bc.out z0) e_) hs_)); have bm := aM (blk_kept z21 hkp (fun hs_ => (fun e_ => (aI aZ.out bg.out z0) e_) hs_)); have bq := aM (hb); clear a8; clear a7; clear a6; clear aZ; clear a5; clear bd; clear bh; clear bi; clear bj; clear bc; clear bg; clear HB; have a8 := ba; have a7 := bb; have a6 := bf; have aZ := bk; have a5 := bn; have bd := br; have bh := bM; have bi := b3; have bj := b6; have bc := b9; have bg := bm; have HB := bq; clear ba bb bf bk bn br bM b3 b6 b9 bm bq; (try clear hb); (try clear hkp); (try clear hy0); have hnb233 := dr.out; have hnc233 := df.out; have hnb234 := cS.out; have hnc234 := cB.out; have hnb235 := di.out; have hnc235 := cU.out; have hnb236 := dl.out; have hnc236 := da.out; have hcz237_0 : w232.cell? ⟨bU, 0, none⟩ = some (.slice bK bG.length bJ) := (bC bg.out 0).trans rfl; have hfz237_0 := bF bg.out 0) | ((with_reducible refine aJ (f := 27) rfl ?_); refine aQ (some 88) rfl rfl Try.func27 z1 rfl #[.agg #[.slice bK bG.length bJ], .int .i64 hD] rfl z25 ?_; (with_reducible refine (laws_markRope.calls kj113 (fun k_ => some k_ = (.slice bK bG.length bJ : Value).ownBlock) (.slice bK bG.length bJ) bG hD fQ d5 w _ ?side1 ?side2 nU.out).mono ?_); (case side1 => repeat (first | (with_reducible first | exact HB.out | apply bA | apply pD | apply bD | refine ax ?_ dj.out | refine ax ?_ dZ.out | refine ax ?_ eg.out | refine ax ?_ e7.out | refine ax ?_ e6.out | refine ax ?_ fm.out) | exact HB.out)); (case side2 => exact Kd.R_tight rfl a5.out); rintro e w238 ⟨rfl, hy0, hb, hkp⟩; refine ⟨_, rfl, ?_⟩; have ba := aM (ag (ok' := fun k_ => some k_ ≠ (.slice bY bP.length bX : Value).ownBlock ∧ some k_ ≠ (.slice bT cJ.length bS : Value).ownBlock ∧ some k_ ≠ (.slice bE bz.length bB : Value).ownBlock ∧ some k_ ≠ (.slice bK bG.length bJ : Value).ownBlock) (Kd.R_keptB (a8.out) hkp (fun k_ hk_ hs_ => (hk_.2.2.2) hs_)) (fun k_ hk_ => ⟨hk_.1.1, hk_.1.2.1, hk_.1.2.2.1, hk_.1.2.2.2⟩)); have bb := aM (ag (ok' := fun k_ => some k_ ≠ (.slice bV bI.length bR : Value).ownBlock ∧ some k_ ≠ (.slice bT cJ.length bS : Value).ownBlock ∧ some k_ ≠ (.slice bE bz.length bB : Value).ownBlock ∧ some k_ ≠ (.slice bK bG.length bJ : Value).ownBlock) (Kd.R_keptB (a7.out) hkp (fun k_ hk_ hs_ => (hk_.2.2.2) hs_)) (fun k_ hk_ => ⟨hk_.1.1, hk_.1.2.1, hk_.1.2.2.1, hk_.1.2.2.2⟩)); have bf := aM (ag (ok' := fun k_ => some k_ ≠ (.slice bV bI.length bR : Value).ownBlock ∧ some k_ ≠ (.slice bY bP.length bX : Value).ownBlock ∧ some k_ ≠ (.slice bE bz.length bB : Value).ownBlock ∧ some k_ ≠ (.slice bK bG.length bJ : Value).ownBlock) (Kd.R_keptB (a6.out) hkp (fun k_ hk_ hs_ => (hk_.2.2.2) hs_)) (fun k_ hk_ => ⟨hk_.1.1, hk_.1.2.1, hk_.1.2.2.1, hk_.1.2.2.2⟩)); have bk := aM (ag (ok' := fun k_ => some k_ ≠ (.slice bV bI.length bR : Value).ownBlock ∧ some k_ ≠ (.slice bY bP.length bX : Value).ownBlock ∧ some k_ ≠ (.slice bT cJ.length bS : Value).ownBlock ∧ some k_ ≠ (.slice bK bG.length bJ : Value).ownBlock) (Kd.R_keptB (aZ.out) hkp (fun k_ hk_ hs_ => (hk_.2.2.2) hs_)) (fun k_ hk_ => ⟨hk_.1.1, hk_.1.2.1, hk_.1.2.2.1, hk_.1.2.2.2⟩)); have bn := aM (Kd.R_reok rfl hy0 (fun k_ e_ => a5.out.1 k_ e_)); have br := aM (blk_kept z16 hkp (fun hs_ => (fun e_ => (aI a5.out bd.out z0) e_) hs_)); have bM := aM (blk_kept z17 hkp (fun hs_ => (fun e_ => (aI a5.out bh.out z0) e_) hs_)); have b3 := aM (blk_kept z18 hkp (fun hs_ => (fun e_ => (aI a5.out bi.out z0) e_) hs_)); have b6 := aM (blk_kept z19 hkp (fun hs_ => (fun e_ => (aI a5.out bj.out z0) e_) hs_)); have b9 := aM (blk_kept z20 hkp (fun hs_ => (fun e_ => (aI a5.out bc.out z0) e_) hs_)); have bm := aM (blk_kept z21 hkp (fun hs_ => (fun e_ => (aI a5.out bg.out z0) e_) hs_)); have bq := aM (hb); clear a8; clear a7; clear a6; clear aZ; clear a5; clear bd; clear bh; clear bi; clear bj; clear bc; clear bg; clear HB; have a8 := ba; have a7 := bb; have a6 := bf; have aZ := bk; have a5 := bn; have bd := br; have bh := bM; have bi := b3; have bj := b6; have bc := b9; have bg := bm; have HB := bq; clear ba bb bf bk bn br bM b3 b6 b9 bm bq; (try clear hb); (try clear hkp); (try clear hy0); have hcz239_0 : w238.cell? ⟨bN, 0, none⟩ = some (.slice bE bz.length bB) := (bC bc.out 0).trans rfl; have hfz239_0 := bF bc.out 0) | ((with_reducible refine aJ (f := 28) rfl ?_); refine aQ (some 91) rfl rfl Try.func28 z1 rfl #[.agg #[.slice bE dC.length bB], .int .i64 1] rfl (by (try simp only [List.map_toArray, List.map_cons, List.map_nil]); first | done | (rw [show dC.length = bz.length from (ah aZ.out).1.symm] <;> rfl) | rfl | (simp only [List.length_drop, List.length_take]; rfl)) ?_; (with_reducible refine (laws_heldRope.calls kj113 _ _ dC 1 fL _ ?side1 ?side2 nS.out).mono ?_); (case side1 => repeat (first | exact (ah aZ.out).2.2 | (with_reducible refine aE ?_ _) | (with_reducible refine aG ?_ _) | (with_reducible refine aH ?_))); (case side2 => rw [show dC.length = bz.length from (ah aZ.out).1.symm]; exact (ah aZ.out).2.1); rintro e w240 ⟨rfl, hb⟩; refine ⟨_, rfl, ?_⟩; have ba := aM (af z6 hb); have bb := aM (af z7 hb); have bf := aM (af z8 hb); have bk := aM (af z9 hb); have bn := aM (af z10 hb); have br := aM (ae (g := bO) (o := .cells #[.slice bu l0_0.length bx] 24 (0, 0)) z16 hb); have bM := aM (ae (g := bQ) (o := .cells #[.slice bV bI.length bR] 29 (0, 0)) z17 hb); have b3 := aM (ae (g := bW) (o := .cells #[.slice bY bP.length bX] 29 (0, 0)) z18 hb); have b6 := aM (ae (g := bZ) (o := .cells #[.slice bT cJ.length bS] 29 (0, 0)) z19 hb); have b9 := aM (ae (g := bN) (o := .cells #[.slice bE bz.length bB] 29 (0, 0)) z20 hb); have bm := aM (ae (g := bU) (o := .cells #[.slice bK bG.length bJ] 29 (0, 0)) z21 hb); have bq := aM (ay z35 hb); clear a8; clear a7; clear a6; clear aZ; clear a5; clear bd; clear bh; clear bi; clear bj; clear bc; clear bg; clear HB; have a8 := ba; have a7 := bb; have a6 := bf; have aZ := bk; have a5 := bn; have bd := br; have bh := bM; have bi := b3; have bj := b6; have bc := b9; have bg := bm; have HB := bq; clear ba bb bf bk bn br bM b3 b6 b9 bm bq; (try clear hb); (try clear hb2); (try clear hk); (try clear hi); have hcz241_0 : w240.cell? ⟨bU, 0, none⟩ = some (.slice bK bG.length bJ) := (bC bg.out 0).trans rfl; have hfz241_0 := bF bg.out 0) | ((with_reducible refine aJ (f := 28) rfl ?_); refine aQ (some 96) rfl rfl Try.func28 z1 rfl #[.agg #[.slice bK d5.length bJ], .int .i64 fL] rfl (by (try simp only [List.map_toArray, List.map_cons, List.map_nil]); first | done | (rw [show d5.length = bG.length from (ah a5.out).1.symm] <;> rfl) | rfl | (simp only [List.length_drop, List.length_take]; rfl)) ?_; (with_reducible refine (laws_heldRope.calls kj113 _ _ d5 fL gc _ ?side1 ?side2 pg.out).mono ?_); (case side1 => repeat (first | exact (ah a5.out).2.2 | (with_reducible refine aE ?_ _) | (with_reducible refine aG ?_ _) | (with_reducible refine aH ?_))); (case side2 => rw [show d5.length = bG.length from (ah a5.out).1.symm]; exact (ah a5.out).2.1); rintro e w242 ⟨rfl, hb⟩; refine ⟨_, rfl, ?_⟩; have ba := aM (af z6 hb); have bb := aM (af z7 hb); have bf := aM (af z8 hb); have bk := aM (af z9 hb); have bn := aM (af z10 hb); have br := aM (ae (g := bO) (o := .cells #[.slice bu l0_0.length bx] 24 (0, 0)) z16 hb); have bM := aM (ae (g := bQ) (o := .cells #[.slice bV bI.length bR] 29 (0, 0)) z17 hb); have b3 := aM (ae (g := bW) (o := .cells #[.slice bY bP.length bX] 29 (0, 0)) z18 hb); have b6 := aM (ae (g := bZ) (o := .cells #[.slice bT cJ.length bS] 29 (0, 0)) z19 hb); have b9 := aM (ae (g := bN) (o := .cells #[.slice bE bz.length bB] 29 (0, 0)) z20 hb); have bm := aM (ae (g := bU) (o := .cells #[.slice bK bG.length bJ] 29 (0, 0)) z21 hb); have bq := aM (ay z35 hb); clear a8; clear a7; clear a6; clear aZ; clear a5; clear bd; clear bh; clear bi; clear bj; clear bc; clear bg; clear HB; have a8 := ba; have a7 := bb; have a6 := bf; have aZ := bk; have a5 := bn; have bd := br; have bh := bM; have bi := b3; have bj := b6; have bc := b9; have bg := bm; have HB := bq; clear ba bb bf bk bn br bM b3 b6 b9 bm bq; (try clear hb); (try clear hb2); (try clear hk); (try clear hi); have hnb243 := du.out; have hnc243 := dI.out; have hnb244 := d8.out; have hnc244 := en.out; have hnb245 := fJ.out; have hnc245 := gH.out; have hcz246_0 : w242.cell? ⟨bO, 0, none⟩ = some (.slice bu l0_0.length bx) := (bC bd.out 0).trans rfl; have hfz246_0 := bF bd.out 0) | ((with_reducible refine aJ (f := 16) rfl ?_); refine aQ (some 104) rfl rfl Try.func16 z1 rfl #[.agg #[.slice bu l0_0.length bx]] rfl z25 ?_; (with_reducible refine (laws_toRope.calls kj113 _ _ l0_0 iQ _ ?side1 ?side2 A223.out).mono ?_); (case side1 => repeat (first | exact (aD eb.out HB.out) | (with_reducible refine aE ?_ _) | (with_reducible refine aG ?_ _) | (with_reducible refine aH ?_))); (case side2 => exact ee.out); rintro e w247 ⟨v319, rfl, ho0, hb⟩; refine ⟨_, rfl, ?_⟩; have ba := aM (ai z6 (ak ho0) hb); have bb := aM (ai z7 (ak ho0) hb); have bf := aM (ai z8 (ak ho0) hb); have bk := aM (ai z9 (ak ho0) hb); have bn := aM (ai z10 (ak ho0) hb); have br := aM (aU (aj (aj (aj (aj (aj ho0 (al z6)) (al z7)) (al z8)) (al z9)) (al z10)) (az z35)); have bM := aM (ae (g := bO) (o := .cells #[.slice bu l0_0.length bx] 24 (0, 0)) z16 hb); have b3 := aM (ae (g := bQ) (o := .cells #[.slice bV bI.length bR] 29 (0, 0)) z17 hb); have b6 := aM (ae (g := bW) (o := .cells #[.slice bY bP.length bX] 29 (0, 0)) z18 hb); have b9 := aM (ae (g := bZ) (o := .cells #[.slice bT cJ.length bS] 29 (0, 0)) z19 hb); have bm := aM (ae (g := bN) (o := .cells #[.slice bE bz.length bB] 29 (0, 0)) z20 hb); have bq := aM (ae (g := bU) (o := .cells #[.slice bK bG.length bJ] 29 (0, 0)) z21 hb); have ci := aM (ay z35 hb); clear a8; clear a7; clear a6; clear aZ; clear a5; clear bd; clear bh; clear bi; clear bj; clear bc; clear bg; clear HB; have a8 := ba; have a7 := bb; have a6 := bf; have aZ := bk; have a5 := bn; have dw := br; have bd := bM; have bh := b3; have bi := b6; have bj := b9; have bc := bm; have bg := bq; have HB := ci; clear ba bb bf bk bn br bM b3 b6 b9 bm bq ci; (try clear hb); (try clear hb2); (try clear hk); (try clear hi); (try clear ho0); obtain ⟨jc, iZ, eo248⟩ := Kd.R_slice dw.out; subst eo248) | ((with_reducible refine aJ (f := 39) rfl ?_); refine aQ (some 106) rfl rfl Try.func39 z1 rfl #[.agg #[.slice jc iQ.length iZ], .int .i64 a1] rfl z25 ?_; (with_reducible refine (impl_SplitRope.calls kj113 _ _ iQ a1 dh dk po _ ?side1 ?side2 A224.out).mono ?_); (case side1 => repeat (first | exact (ah dw.out).2.2 | (with_reducible refine aE ?_ _) | (with_reducible refine aG ?_ _) | (with_reducible refine aH ?_))); (case side2 => exact (ah dw.out).2.1); rintro e w249 ⟨v322, v325, rfl, ho0, ho1, hb⟩; refine ⟨_, rfl, ?_⟩; have ba := aM (ag (Kd.R_told (Kd.R_told (Kd.R_old z6 hb) (ak ho0)) (ak ho1)) (fun _ h_ => h_.1)); have bb := aM (ag (Kd.R_told (Kd.R_told (Kd.R_old z7 hb) (ak ho0)) (ak ho1)) (fun _ h_ => h_.1)); have bf := aM (ag (Kd.R_told (Kd.R_told (Kd.R_old z8 hb) (ak ho0)) (ak ho1)) (fun _ h_ => h_.1)); have bk := aM (ag (Kd.R_told (Kd.R_told (Kd.R_old z9 hb) (ak ho0)) (ak ho1)) (fun _ h_ => h_.1)); have bn := aM (ag (Kd.R_told (Kd.R_told (Kd.R_old z10 hb) (ak ho0)) (ak ho1)) (fun _ h_ => h_.1)); have br := aM (ag (Kd.R_told (Kd.R_told (Kd.R_old (by (with_reducible repeat (first | apply ac | apply ab | apply aa)); exact dw.out) hb) (ak ho0)) (ak ho1)) (fun _ h_ => h_.1)); have bM := aM (aU (aj (aj (aj (aj (aj (aj ho0 (al z6)) (al z7)) (al z8)) (al z9)) (al z10)) (al (by (with_reducible repeat (first | apply ac | apply ab | apply aa)); exact dw.out))) (az z35)); have b3 := aM (aU (aj (aj (aj (aj (aj (aj ho1 (al z6)) (al z7)) (al z8)) (al z9)) (al z10)) (al (by (with_reducible repeat (first | apply ac | apply ab | apply aa)); exact dw.out))) (az z35)); have b6 := aM (ae (g := bO) (o := .cells #[.slice bu l0_0.length bx] 24 (0, 0)) z16 hb); have b9 := aM (ae (g := bQ) (o := .cells #[.slice bV bI.length bR] 29 (0, 0)) z17 hb); have bm := aM (ae (g := bW) (o := .cells #[.slice bY bP.length bX] 29 (0, 0)) z18 hb); have bq := aM (ae (g := bZ) (o := .cells #[.slice bT cJ.length bS] 29 (0, 0)) z19 hb); have ci := aM (ae (g := bN) (o := .cells #[.slice bE bz.length bB] 29 (0, 0)) z20 hb); have cX := aM (ae (g := bU) (o := .cells #[.slice bK bG.length bJ] 29 (0, 0)) z21 hb); have cW := aM (ay z35 hb); clear a8; clear a7; clear a6; clear aZ; clear a5; clear dw; clear bd; clear bh; clear bi; clear bj; clear bc; clear bg; clear HB; have a8 := ba; have a7 := bb; have a6 := bf; have aZ := bk; have a5 := bn; have dw := br; have ec := bM; have dO := b3; have bd := b6; have bh := b9; have bi := bm; have bj := bq; have bc := ci; have bg := cX; have HB := cW; clear ba bb bf bk bn br bM b3 b6 b9 bm bq ci cX cW; (try clear hb); (try clear hb2); (try clear hk); (try clear hi); (try clear ho0); (try clear ho1)) | ((with_reducible refine aK (N := 16) rfl ?_); refine aN ?hg (N := 16) ?hd (cs := #[.slice none 0 0]) (t := 29) ?hr ?_; (case hd => rfl); (case hg => rfl); (case hr => first | (go_simp; done) | (go_simp; rfl)); intro cq hg w250 hbox hb; have ba := aM (af z6 hb); have bb := aM (af z7 hb); have bf := aM (af z8 hb); have bk := aM (af z9 hb); have bn := aM (af z10 hb); have br := aM (af (by (with_reducible repeat (first | apply ac | apply ab | apply aa)); exact dw.out) hb); have bM := aM (af (by (with_reducible repeat (first | apply ac | apply ab | apply aa)); exact ec.out) hb); have b3 := aM (af (by (with_reducible repeat (first | apply ac | apply ab | apply aa)); exact dO.out) hb); have b6 := aM (ae (g := bO) (o := .cells #[.slice bu l0_0.length bx] 24 (0, 0)) z16 hb); have b9 := aM (ae (g := bQ) (o := .cells #[.slice bV bI.length bR] 29 (0, 0)) z17 hb); have bm := aM (ae (g := bW) (o := .cells #[.slice bY bP.length bX] 29 (0, 0)) z18 hb); have bq := aM (ae (g := bZ) (o := .cells #[.slice bT cJ.length bS] 29 (0, 0)) z19 hb); have ci := aM (ae (g := bN) (o := .cells #[.slice bE bz.length bB] 29 (0, 0)) z20 hb); have cX := aM (ae (g := bU) (o := .cells #[.slice bK bG.length bJ] 29 (0, 0)) z21 hb); have cW := aM (ay z35 hb); have db := aM (hbox); have ed := aM ((by rw [hg]; exact (az z35) : w.heap.size ≤ cq)); have gj := aM ((by rw [hg]; exact (az z35) : w.heap.size ≤ cq)); have gi := aM ((by rw [hg]; exact aA (aw (g := bO) (o := .cells #[.slice bu l0_0.length bx] 24 (0, 0)) z16) : bO ≠ cq)); have gh := aM ((by rw [hg]; exact aC (aw (g := bO) (o := .cells #[.slice bu l0_0.length bx] 24 (0, 0)) z16) : cq ≠ bO)); have gg := aM ((by rw [hg]; exact aA (aw (g := bQ) (o := .cells #[.slice bV bI.length bR] 29 (0, 0)) z17) : bQ ≠ cq)); have kO := aM ((by rw [hg]; exact aC (aw (g := bQ) (o := .cells #[.slice bV bI.length bR] 29 (0, 0)) z17) : cq ≠ bQ)); have kN := aM ((by rw [hg]; exact aA (aw (g := bW) (o := .cells #[.slice bY bP.length bX] 29 (0, 0)) z18) : bW ≠ cq)); have kM := aM ((by rw [hg]; exact aC (aw (g := bW) (o := .cells #[.slice bY bP.length bX] 29 (0, 0)) z18) : cq ≠ bW)); have nj := aM ((by rw [hg]; exact aA (aw (g := bZ) (o := .cells #[.slice bT cJ.length bS] 29 (0, 0)) z19) : bZ ≠ cq)); have ni := aM ((by rw [hg]; exact aC (aw (g := bZ) (o := .cells #[.slice bT cJ.length bS] 29 (0, 0)) z19) : cq ≠ bZ)); have nh := aM ((by rw [hg]; exact aA (aw (g := bN) (o := .cells #[.slice bE bz.length bB] 29 (0, 0)) z20) : bN ≠ cq)); have ng := aM ((by rw [hg]; exact aC (aw (g := bN) (o := .cells #[.slice bE bz.length bB] 29 (0, 0)) z20) : cq ≠ bN)); have nf := aM ((by rw [hg]; exact aA (aw (g := bU) (o := .cells #[.slice bK bG.length bJ] 29 (0, 0)) z21) : bU ≠ cq)); have nc := aM ((by rw [hg]; exact aC (aw (g := bU) (o := .cells #[.slice bK bG.length bJ] 29 (0, 0)) z21) : cq ≠ bU)); clear a8; clear a7; clear a6; clear aZ; clear a5; clear dw; clear ec; clear dO; clear bd; clear bh; clear bi; clear bj; clear bc; clear bg; clear HB; have a8 := ba; have a7 := bb; have a6 := bf; have aZ := bk; have a5 := bn; have dw := br; have ec := bM; have dO := b3; have bd := b6; have bh := b9; have bi := bm; have bj := bq; have bc := ci; have bg := cX; have HB := cW; have b7 := db; have GW328 := ed; have nz := gj; have eH := gi; have fI := gh; have eG := gg; have fH := kO; have eE := kN; have fG := kM; have eD := nj; have fF := ni; have dD := nh; have ek := ng; have dU := nf; have eC := nc; clear ba bb bf bk bn br bM b3 b6 b9 bm bq ci cX cW db ed gj gi gh gg kO kN kM nj ni nh ng nf nc; clear hb hbox hg) | ((with_reducible refine aK (N := 17) rfl ?_); refine aN ?hg (N := 17) ?hd (cs := #[.slice none 0 0]) (t := 29) ?hr ?_; (case hd => rfl); (case hg => rfl); (case hr => first | (go_simp; done) | (go_simp; rfl)); intro cz hg w251 hbox hb; have ba := aM (af z6 hb); have bb := aM (af z7 hb); have bf := aM (af z8 hb); have bk := aM (af z9 hb); have bn := aM (af z10 hb); have br := aM (af (by (with_reducible repeat (first | apply ac | apply ab | apply aa)); exact dw.out) hb); have bM := aM (af (by (with_reducible repeat (first | apply ac | apply ab | apply aa)); exact ec.out) hb); have b3 := aM (af (by (with_reducible repeat (first | apply ac | apply ab | apply aa)); exact dO.out) hb); have b6 := aM (ae (g := bO) (o := .cells #[.slice bu l0_0.length bx] 24 (0, 0)) z16 hb); have b9 := aM (ae (g := bQ) (o := .cells #[.slice bV bI.length bR] 29 (0, 0)) z17 hb); have bm := aM (ae (g := bW) (o := .cells #[.slice bY bP.length bX] 29 (0, 0)) z18 hb); have bq := aM (ae (g := bZ) (o := .cells #[.slice bT cJ.length bS] 29 (0, 0)) z19 hb); have ci := aM (ae (g := bN) (o := .cells #[.slice bE bz.length bB] 29 (0, 0)) z20 hb); have cX := aM (ae (g := bU) (o := .cells #[.slice bK bG.length bJ] 29 (0, 0)) z21 hb); have cW := aM (ae (g := cq) (o := .cells #[.slice none 0 0] 29 (0, 0)) (by (with_reducible repeat (first | refine aq ?_ _ | refine ap ?_ | refine ar ?_ _)); exact b7.out) hb); have db := aM (ay (by repeat (first | (with_reducible first | exact HB.out | apply bA | apply pD | apply bD | refine ax ?_ dj.out | refine ax ?_ dZ.out | refine ax ?_ eg.out | refine ax ?_ e7.out | refine ax ?_ e6.out | refine ax ?_ fm.out | refine ax ?_ nz.out) | exact HB.out)) hb); have ed := aM (hbox); have gj := aM ((by rw [hg]; exact (az (by repeat (first | (with_reducible first | exact HB.out | apply bA | apply pD | apply bD | refine ax ?_ dj.out | refine ax ?_ dZ.out | refine ax ?_ eg.out | refine ax ?_ e7.out | refine ax ?_ e6.out | refine ax ?_ fm.out | refine ax ?_ nz.out) | exact HB.out))) : w.heap.size ≤ cz)); have gi := aM ((by rw [hg]; exact (az (by repeat (first | (with_reducible first | exact HB.out | apply bA | apply pD | apply bD | refine ax ?_ dj.out | refine ax ?_ dZ.out | refine ax ?_ eg.out | refine ax ?_ e7.out | refine ax ?_ e6.out | refine ax ?_ fm.out | refine ax ?_ nz.out) | exact HB.out))) : w.heap.size ≤ cz)); have gh := aM ((by rw [hg]; exact aA (aw (g := bO) (o := .cells #[.slice bu l0_0.length bx] 24 (0, 0)) z16) : bO ≠ cz)); have gg := aM ((by rw [hg]; exact aC (aw (g := bO) (o := .cells #[.slice bu l0_0.length bx] 24 (0, 0)) z16) : cz ≠ bO)); have kO := aM ((by rw [hg]; exact aA (aw (g := bQ) (o := .cells #[.slice bV bI.length bR] 29 (0, 0)) z17) : bQ ≠ cz)); have kN := aM ((by rw [hg]; exact aC (aw (g := bQ) (o := .cells #[.slice bV bI.length bR] 29 (0, 0)) z17) : cz ≠ bQ)); have kM := aM ((by rw [hg]; exact aA (aw (g := bW) (o := .cells #[.slice bY bP.length bX] 29 (0, 0)) z18) : bW ≠ cz)); have nj := aM ((by rw [hg]; exact aC (aw (g := bW) (o := .cells #[.slice bY bP.length bX] 29 (0, 0)) z18) : cz ≠ bW)); have ni := aM ((by rw [hg]; exact aA (aw (g := bZ) (o := .cells #[.slice bT cJ.length bS] 29 (0, 0)) z19) : bZ ≠ cz)); have nh := aM ((by rw [hg]; exact aC (aw (g := bZ) (o := .cells #[.slice bT cJ.length bS] 29 (0, 0)) z19) : cz ≠ bZ)); have ng := aM ((by rw [hg]; exact aA (aw (g := bN) (o := .cells #[.slice bE bz.length bB] 29 (0, 0)) z20) : bN ≠ cz)); have nf := aM ((by rw [hg]; exact aC (aw (g := bN) (o := .cells #[.slice bE bz.length bB] 29 (0, 0)) z20) : cz ≠ bN)); have nc := aM ((by rw [hg]; exact aA (aw (g := bU) (o := .cells #[.slice bK bG.length bJ] 29 (0, 0)) z21) : bU ≠ cz)); have pr := aM ((by rw [hg]; exact aC (aw (g := bU) (o := .cells #[.slice bK bG.length bJ] 29 (0, 0)) z21) : cz ≠ bU)); have pq := aM ((by rw [hg]; exact aA (aw (g := cq) (o := .cells #[.slice none 0 0] 29 (0, 0)) (by (with_reducible repeat (first | refine aq ?_ _ | refine ap ?_ | refine ar ?_ _)); exact b7.out)) : cq ≠ cz)); have pp := aM ((by rw [hg]; exact aC (aw (g := cq) (o := .cells #[.slice none 0 0] 29 (0, 0)) (by (with_reducible repeat (first | refine aq ?_ _ | refine ap ?_ | refine ar ?_ _)); exact b7.out)) : cz ≠ cq)); clear a8; clear a7; clear a6; clear aZ; clear a5; clear dw; clear ec; clear dO; clear bd; clear bh; clear bi; clear bj; clear bc; clear bg; clear b7; clear HB; have a8 := ba; have a7 := bb; have a6 := bf; have aZ := bk; have a5 := bn; have dw := br; have ec := bM; have dO := b3; have bd := b6; have bh := b9; have bi := bm; have bj := bq; have bc := ci; have bg := cX; have b7 := cW; have HB := db; have b8 := ed; have GW329 := gj; have GE329 := gi; have eQ := gh; have gG := gg; have eF := kO; have fE := kN; have eP := kM; have gF := nj; have eO := ni; have gE := nh; have dV := ng; have eA := nf; have d6 := nc; have eN := pr; have eB := pq; have ez := pp; clear ba bb bf bk bn br bM b3 b6 b9 bm bq ci cX cW db ed gj gi gh gg kO kN kM nj ni nh ng nf nc pr pq pp; clear hb hbox hg; obtain ⟨cK, cD, eo252⟩ := Kd.R_slice ec.out; subst eo252; have hnb253 := fI.out; have hnc253 := eH.out; have hnb254 := fH.out; have hnc254 := eG.out; have hnb255 := fG.out; have hnc255 := eE.out; have hnb256 := fF.out; have hnc256 := eD.out; have hnb257 := ek.out; have hnc257 := dD.out; have hnb258 := eC.out; have hnc258 := dU.out; have hnb259 := eB.out; have hnc259 := ez.out; have hcz260_0 : w251.cell? ⟨cq, 0, none⟩ = some (.slice none 0 0) := (bC b7.out 0).trans rfl; have hfz260_0 := bF b7.out 0; obtain ⟨cH, cG, eo261⟩ := Kd.R_slice dO.out; subst eo261; have hnb262 := gG.out; have hnc262 := eQ.out; have hnb263 := fE.out; have hnc263 := eF.out; have hnb264 := gF.out; have hnc264 := eP.out; have hnb265 := gE.out; have hnc265 := eO.out; have hnb266 := eA.out; have hnc266 := dV.out; have hnb267 := eN.out; have hnc267 := d6.out; have hcz268_0 : w251.cell? ⟨cz, 0, none⟩ = some (.slice none 0 0) := (bC b8.out 0).trans rfl; have hfz268_0 := bF b8.out 0))
            (try simp only [Act.put, sA, sB, sC])
            go_cut [124] (fun v124 wc => ∃ (kq : Nat) (x124_224 : Bool), v124 = .bool x124_224 ∧ Aside0 (laws_FnExactSplitRope.j2 kq fQ x124_224 dC d5 = some r) ∧ Aside0 (kq ≤ kj113) ∧ Aside0 (Kd.R k58 58 wc w.heap.size (fun k_ => some k_ ≠ ((.slice bY bP.length bX) : Value).ownBlock ∧ some k_ ≠ ((.slice bT cJ.length bS) : Value).ownBlock ∧ some k_ ≠ ((.slice bE bz.length bB) : Value).ownBlock ∧ some k_ ≠ ((.slice bK bG.length bJ) : Value).ownBlock ∧ some k_ ≠ ((.slice cK dh.length cD) : Value).ownBlock ∧ some k_ ≠ ((.slice cH dk.length cG) : Value).ownBlock) (.slice bV bI.length bR) bI) ∧ Aside0 (Kd.R k58 58 wc w.heap.size (fun k_ => some k_ ≠ ((.slice bV bI.length bR) : Value).ownBlock ∧ some k_ ≠ ((.slice bT cJ.length bS) : Value).ownBlock ∧ some k_ ≠ ((.slice bE bz.length bB) : Value).ownBlock ∧ some k_ ≠ ((.slice bK bG.length bJ) : Value).ownBlock ∧ some k_ ≠ ((.slice cK dh.length cD) : Value).ownBlock ∧ some k_ ≠ ((.slice cH dk.length cG) : Value).ownBlock) (.slice bY bP.length bX) bP) ∧ Aside0 (Kd.R k58 58 wc w.heap.size (fun k_ => some k_ ≠ ((.slice bV bI.length bR) : Value).ownBlock ∧ some k_ ≠ ((.slice bY bP.length bX) : Value).ownBlock ∧ some k_ ≠ ((.slice bE bz.length bB) : Value).ownBlock ∧ some k_ ≠ ((.slice bK bG.length bJ) : Value).ownBlock ∧ some k_ ≠ ((.slice cK dh.length cD) : Value).ownBlock ∧ some k_ ≠ ((.slice cH dk.length cG) : Value).ownBlock) (.slice bT cJ.length bS) cJ) ∧ Aside0 (Kd.R k58 58 wc w.heap.size (fun k_ => some k_ ≠ ((.slice bV bI.length bR) : Value).ownBlock ∧ some k_ ≠ ((.slice bY bP.length bX) : Value).ownBlock ∧ some k_ ≠ ((.slice bT cJ.length bS) : Value).ownBlock ∧ some k_ ≠ ((.slice bK bG.length bJ) : Value).ownBlock ∧ some k_ ≠ ((.slice cK dh.length cD) : Value).ownBlock ∧ some k_ ≠ ((.slice cH dk.length cG) : Value).ownBlock) (.slice bE bz.length bB) dC) ∧ Aside0 (Kd.R k58 58 wc w.heap.size (fun k_ => some k_ ≠ ((.slice bV bI.length bR) : Value).ownBlock ∧ some k_ ≠ ((.slice bY bP.length bX) : Value).ownBlock ∧ some k_ ≠ ((.slice bT cJ.length bS) : Value).ownBlock ∧ some k_ ≠ ((.slice bE bz.length bB) : Value).ownBlock ∧ some k_ ≠ ((.slice cK dh.length cD) : Value).ownBlock ∧ some k_ ≠ ((.slice cH dk.length cG) : Value).ownBlock) (.slice bK bG.length bJ) d5) ∧ Aside0 (Kd.R k58 58 wc w.heap.size (fun k_ => some k_ ≠ ((.slice bV bI.length bR) : Value).ownBlock ∧ some k_ ≠ ((.slice bY bP.length bX) : Value).ownBlock ∧ some k_ ≠ ((.slice bT cJ.length bS) : Value).ownBlock ∧ some k_ ≠ ((.slice bE bz.length bB) : Value).ownBlock ∧ some k_ ≠ ((.slice bK bG.length bJ) : Value).ownBlock ∧ some k_ ≠ ((.slice cH dk.length cG) : Value).ownBlock) (.slice cK dh.length cD) dh) ∧ Aside0 (Kd.R k58 58 wc w.heap.size (fun k_ => some k_ ≠ ((.slice bV bI.length bR) : Value).ownBlock ∧ some k_ ≠ ((.slice bY bP.length bX) : Value).ownBlock ∧ some k_ ≠ ((.slice bT cJ.length bS) : Value).ownBlock ∧ some k_ ≠ ((.slice bE bz.length bB) : Value).ownBlock ∧ some k_ ≠ ((.slice bK bG.length bJ) : Value).ownBlock ∧ some k_ ≠ ((.slice cK dh.length cD) : Value).ownBlock) (.slice cH dk.length cG) dk) ∧ Aside0 (wc.heap[bO]? = some (.cells #[(.slice bu l0_0.length bx)] 24 (0, 0))) ∧ Aside0 (wc.heap[bQ]? = some (.cells #[(.slice bV bI.length bR)] 29 (0, 0))) ∧ Aside0 (wc.heap[bW]? = some (.cells #[(.slice bY bP.length bX)] 29 (0, 0))) ∧ Aside0 (wc.heap[bZ]? = some (.cells #[(.slice bT cJ.length bS)] 29 (0, 0))) ∧ Aside0 (wc.heap[bN]? = some (.cells #[(.slice bE bz.length bB)] 29 (0, 0))) ∧ Aside0 (wc.heap[bU]? = some (.cells #[(.slice bK bG.length bJ)] 29 (0, 0))) ∧ Aside0 (wc.heap[cq]? = some (.cells #[(.slice cK dh.length cD)] 29 (0, 0))) ∧ Aside0 (wc.heap[cz]? = some (.cells #[(.slice cH dk.length cG)] 29 (0, 0))) ∧ Aside0 (Below w.heap.size w wc))
            case first =>
             have H := nw.out
             clear nw
             replace H := oB H
             obtain ⟨oG, oo, H⟩ := H
             try dsimp only at H
             have pf := aM oo
             clear oo
             by_cases np : oG = true
             ·subst np
              rw [if_pos rfl] at H
              replace H := oB H
              obtain ⟨oF, om, H⟩ := H
              try dsimp only at H
              have pW := aM om
              clear om
              by_cases nn : oF = true
              ·subst nn
               rw [if_pos rfl] at H
               have H' := aM H
               clear H
               have hnb273 := fI.out
               have hnc273 := eH.out
               have hnb274 := fH.out
               have hnc274 := eG.out
               have hnb275 := fG.out
               have hnc275 := eE.out
               have hnb276 := fF.out
               have hnc276 := eD.out
               have hnb277 := ek.out
               have hnc277 := dD.out
               have hnb278 := eC.out
               have hnc278 := dU.out
               have hnb279 := eB.out
               have hnc279 := ez.out
               have hcz280_0 : w251.cell? ⟨cq, 0, none⟩ = some (.slice none 0 0) := (bC b7.out 0).trans rfl
               have hfz280_0 := bF b7.out 0
               have hnb281 := dI.out
               have hnc281 := du.out
               have hnb282 := dH.out
               have hnc282 := dG.out
               have hnb283 := dt.out
               have hnc283 := dE.out
               have hnb284 := cy.out
               have hnc284 := cN.out
               have hnb285 := cB.out
               have hnc285 := cS.out
               have hnb286 := eF.out
               have hnc286 := fE.out
               have hcz287_0 : w251.cell? ⟨bQ, 0, none⟩ = some (.slice bV bI.length bR) := (bC bh.out 0).trans rfl
               have hfz287_0 := bF bh.out 0
               go_wp2_with (first | ((with_reducible refine aJ (f := 18) rfl ?_); refine aQ (some 112) rfl rfl Try.func18 z1 rfl #[.agg #[.slice cK dh.length cD], .agg #[.slice bV bI.length bR]] rfl z25 ?_; (with_reducible refine (laws_eqRope.calls kj113 _ _ dh _ _ bI true _ ?side1 ?side2 ?side3 ?side4 pf.out).mono ?_); (case side1 => refine (ah (e := 58) (base := w.heap.size) (ok := fun k_ => ((((((some k_ ≠ (.slice cH dk.length cG : Value).ownBlock ∧ some k_ ≠ (.slice bV bI.length bR : Value).ownBlock) ∧ some k_ ≠ (.slice bY bP.length bX : Value).ownBlock) ∧ some k_ ≠ (.slice bT cJ.length bS : Value).ownBlock) ∧ some k_ ≠ (.slice bE bz.length bB : Value).ownBlock) ∧ some k_ ≠ (.slice bK bG.length bJ : Value).ownBlock) ∧ some k_ ≠ (.slice jc iQ.length iZ : Value).ownBlock)) (n := dh.length) (c := cD) ?_).2.2; exact z40); (case side2 => exact (ah ec.out).2.1); (case side3 => refine (ah (e := 58) (base := w.heap.size) (ok := fun k_ => ((((some k_ ≠ (.slice bY bP.length bX : Value).ownBlock ∧ (some k_ ≠ (.slice bT cJ.length bS : Value).ownBlock ∧ (some k_ ≠ (.slice bE bz.length bB : Value).ownBlock ∧ some k_ ≠ (.slice bK bG.length bJ : Value).ownBlock))) ∧ some k_ ≠ (.slice jc iQ.length iZ : Value).ownBlock) ∧ some k_ ≠ (.slice cK dh.length cD : Value).ownBlock) ∧ some k_ ≠ (.slice cH dk.length cG : Value).ownBlock)) (n := bI.length) (c := bR) ?_).2.2; exact z41); (case side4 => exact (ah a8.out).2.1); rintro e w288 ⟨rfl, hb⟩; refine ⟨_, rfl, ?_⟩; have ba := aM (af z41 hb); have bb := aM (af (by (with_reducible repeat (first | apply ac | apply ab | apply aa)); exact (ag (ag (am (p := ⟨cz, 0, none⟩) (am (p := ⟨cq, 0, none⟩) (ao (ao a7.out b7.out z0) b8.out z0) (fun _ hk => hk.1.2) (.slice cK dh.length cD)) (fun _ hk => hk.2) (.slice cH dk.length cG)) (fun _ h_ => h_.1)) (fun _ h_ => h_.1))) hb); have bf := aM (af (by (with_reducible repeat (first | apply ac | apply ab | apply aa)); exact (ag (ag (am (p := ⟨cz, 0, none⟩) (am (p := ⟨cq, 0, none⟩) (ao (ao a6.out b7.out z0) b8.out z0) (fun _ hk => hk.1.2) (.slice cK dh.length cD)) (fun _ hk => hk.2) (.slice cH dk.length cG)) (fun _ h_ => h_.1)) (fun _ h_ => h_.1))) hb); have bk := aM (af (by (with_reducible repeat (first | apply ac | apply ab | apply aa)); exact (ag (ag (am (p := ⟨cz, 0, none⟩) (am (p := ⟨cq, 0, none⟩) (ao (ao aZ.out b7.out z0) b8.out z0) (fun _ hk => hk.1.2) (.slice cK dh.length cD)) (fun _ hk => hk.2) (.slice cH dk.length cG)) (fun _ h_ => h_.1)) (fun _ h_ => h_.1))) hb); have bn := aM (af (by (with_reducible repeat (first | apply ac | apply ab | apply aa)); exact (ag (ag (am (p := ⟨cz, 0, none⟩) (am (p := ⟨cq, 0, none⟩) (ao (ao a5.out b7.out z0) b8.out z0) (fun _ hk => hk.1.2) (.slice cK dh.length cD)) (fun _ hk => hk.2) (.slice cH dk.length cG)) (fun _ h_ => h_.1)) (fun _ h_ => h_.1))) hb); have br := aM (af (by (with_reducible repeat (first | apply ac | apply ab | apply aa)); exact (ag (ag (am (p := ⟨cz, 0, none⟩) (am (p := ⟨cq, 0, none⟩) (ao (ao dw.out b7.out z0) b8.out z0) (fun _ hk => hk.1.2) (.slice cK dh.length cD)) (fun _ hk => hk.2) (.slice cH dk.length cG)) (fun _ h_ => h_.1)) (fun _ h_ => h_.1))) hb); have bM := aM (af z40 hb); have b3 := aM (af (by (with_reducible repeat (first | apply ac | apply ab | apply aa)); exact (ag (ag (am (p := ⟨cz, 0, none⟩) (am (p := ⟨cq, 0, none⟩) (ao (ao dO.out b7.out z0) b8.out z0) (fun _ hk => hk.1.2) (.slice cK dh.length cD)) (fun _ hk => hk.2) (.slice cH dk.length cG)) (fun _ h_ => h_.1)) (fun _ h_ => h_.1))) hb); have b6 := aM (ae (g := bO) (o := .cells #[.slice bu l0_0.length bx] 24 (0, 0)) (by (with_reducible repeat (first | refine aq ?_ _ | refine ap ?_ | refine ar ?_ _)); refine au ?_ eQ.out _; (with_reducible repeat (first | refine aq ?_ _ | refine ap ?_ | refine ar ?_ _)); refine au ?_ eH.out _; (with_reducible repeat (first | refine aq ?_ _ | refine ap ?_ | refine ar ?_ _)); exact bd.out) hb); have b9 := aM (ae (g := bQ) (o := .cells #[.slice bV bI.length bR] 29 (0, 0)) (by (with_reducible repeat (first | refine aq ?_ _ | refine ap ?_ | refine ar ?_ _)); refine au ?_ eF.out _; (with_reducible repeat (first | refine aq ?_ _ | refine ap ?_ | refine ar ?_ _)); refine au ?_ eG.out _; (with_reducible repeat (first | refine aq ?_ _ | refine ap ?_ | refine ar ?_ _)); exact bh.out) hb); have bm := aM (ae (g := bW) (o := .cells #[.slice bY bP.length bX] 29 (0, 0)) (by (with_reducible repeat (first | refine aq ?_ _ | refine ap ?_ | refine ar ?_ _)); refine au ?_ eP.out _; (with_reducible repeat (first | refine aq ?_ _ | refine ap ?_ | refine ar ?_ _)); refine au ?_ eE.out _; (with_reducible repeat (first | refine aq ?_ _ | refine ap ?_ | refine ar ?_ _)); exact bi.out) hb); have bq := aM (ae (g := bZ) (o := .cells #[.slice bT cJ.length bS] 29 (0, 0)) (by (with_reducible repeat (first | refine aq ?_ _ | refine ap ?_ | refine ar ?_ _)); refine au ?_ eO.out _; (with_reducible repeat (first | refine aq ?_ _ | refine ap ?_ | refine ar ?_ _)); refine au ?_ eD.out _; (with_reducible repeat (first | refine aq ?_ _ | refine ap ?_ | refine ar ?_ _)); exact bj.out) hb); have ci := aM (ae (g := bN) (o := .cells #[.slice bE bz.length bB] 29 (0, 0)) (by (with_reducible repeat (first | refine aq ?_ _ | refine ap ?_ | refine ar ?_ _)); refine au ?_ dV.out _; (with_reducible repeat (first | refine aq ?_ _ | refine ap ?_ | refine ar ?_ _)); refine au ?_ dD.out _; (with_reducible repeat (first | refine aq ?_ _ | refine ap ?_ | refine ar ?_ _)); exact bc.out) hb); have cX := aM (ae (g := bU) (o := .cells #[.slice bK bG.length bJ] 29 (0, 0)) (by (with_reducible repeat (first | refine aq ?_ _ | refine ap ?_ | refine ar ?_ _)); refine au ?_ d6.out _; (with_reducible repeat (first | refine aq ?_ _ | refine ap ?_ | refine ar ?_ _)); refine au ?_ dU.out _; (with_reducible repeat (first | refine aq ?_ _ | refine ap ?_ | refine ar ?_ _)); exact bg.out) hb); have cW := aM (ae (g := cq) (o := .cells #[.slice cK dh.length cD] 29 (0, 0)) (by (with_reducible repeat (first | refine aq ?_ _ | refine ap ?_ | refine ar ?_ _)); refine au ?_ eB.out _; (with_reducible repeat (first | refine aq ?_ _ | refine ap ?_ | refine ar ?_ _)); refine av (cs := #[.slice none 0 0]) ?_ 0 _ rfl; (with_reducible repeat (first | refine aq ?_ _ | refine ap ?_ | refine ar ?_ _)); exact b7.out) hb); have db := aM (ae (g := cz) (o := .cells #[.slice cH dk.length cG] 29 (0, 0)) (by (with_reducible repeat (first | refine aq ?_ _ | refine ap ?_ | refine ar ?_ _)); refine av (cs := #[.slice none 0 0]) ?_ 0 _ rfl; (with_reducible repeat (first | refine aq ?_ _ | refine ap ?_ | refine ar ?_ _)); refine au ?_ ez.out _; (with_reducible repeat (first | refine aq ?_ _ | refine ap ?_ | refine ar ?_ _)); exact b8.out) hb); have ed := aM (ay z37 hb); clear a8; clear a7; clear a6; clear aZ; clear a5; clear dw; clear ec; clear dO; clear bd; clear bh; clear bi; clear bj; clear bc; clear bg; clear b7; clear b8; clear HB; have a8 := ba; have a7 := bb; have a6 := bf; have aZ := bk; have a5 := bn; have dw := br; have ec := bM; have dO := b3; have bd := b6; have bh := b9; have bi := bm; have bj := bq; have bc := ci; have bg := cX; have b7 := cW; have b8 := db; have HB := ed; clear ba bb bf bk bn br bM b3 b6 b9 bm bq ci cX cW db ed; (try clear hb); (try clear hb2); (try clear hk); (try clear hi); have hnb289 := gG.out; have hnc289 := eQ.out; have hnb290 := gF.out; have hnc290 := eP.out; have hnb291 := gE.out; have hnc291 := eO.out; have hnb292 := eA.out; have hnc292 := dV.out; have hnb293 := eN.out; have hnc293 := d6.out; have hcz294_0 : w288.cell? ⟨cz, 0, none⟩ = some (.slice cH dk.length cG) := (bC b8.out 0).trans rfl; have hfz294_0 := bF b8.out 0; have hnb295 := en.out; have hnc295 := d8.out; have hnb296 := d7.out; have hnc296 := em.out; have hnb297 := cA.out; have hnc297 := cT.out; have hnb298 := cU.out; have hnc298 := di.out; have hcz299_0 : w288.cell? ⟨bW, 0, none⟩ = some (.slice bY bP.length bX) := (bC bi.out 0).trans rfl; have hfz299_0 := bF bi.out 0) | (go_at_call 18; (with_reducible refine (laws_eqRope.calls kj113 _ _ dk _ _ bP true _ ?side1 ?side2 ?side3 ?side4 pW.out).mono ?_); (case side1 => repeat (first | exact (ah dO.out).2.2 | (with_reducible refine aE ?_ _) | (with_reducible refine aG ?_ _) | (with_reducible refine aH ?_))); (case side2 => exact (ah dO.out).2.1); (case side3 => repeat (first | exact (ah a7.out).2.2 | (with_reducible refine aE ?_ _) | (with_reducible refine aG ?_ _) | (with_reducible refine aH ?_))); (case side4 => exact (ah a7.out).2.1); rintro e w300 ⟨rfl, hb⟩; have ba := aM (af z6 hb); have bb := aM (af z7 hb); have bf := aM (af z8 hb); have bk := aM (af z9 hb); have bn := aM (af z10 hb); have br := aM (af (by (with_reducible repeat (first | apply ac | apply ab | apply aa)); exact dw.out) hb); have bM := aM (af (by (with_reducible repeat (first | apply ac | apply ab | apply aa)); exact ec.out) hb); have b3 := aM (af (by (with_reducible repeat (first | apply ac | apply ab | apply aa)); exact dO.out) hb); have b6 := aM (ae (g := bO) (o := .cells #[.slice bu l0_0.length bx] 24 (0, 0)) z16 hb); have b9 := aM (ae (g := bQ) (o := .cells #[.slice bV bI.length bR] 29 (0, 0)) z17 hb); have bm := aM (ae (g := bW) (o := .cells #[.slice bY bP.length bX] 29 (0, 0)) z18 hb); have bq := aM (ae (g := bZ) (o := .cells #[.slice bT cJ.length bS] 29 (0, 0)) z19 hb); have ci := aM (ae (g := bN) (o := .cells #[.slice bE bz.length bB] 29 (0, 0)) z20 hb); have cX := aM (ae (g := bU) (o := .cells #[.slice bK bG.length bJ] 29 (0, 0)) z21 hb); have cW := aM (ae (g := cq) (o := .cells #[.slice cK dh.length cD] 29 (0, 0)) (by (with_reducible repeat (first | refine aq ?_ _ | refine ap ?_ | refine ar ?_ _)); exact b7.out) hb); have db := aM (ae (g := cz) (o := .cells #[.slice cH dk.length cG] 29 (0, 0)) (by (with_reducible repeat (first | refine aq ?_ _ | refine ap ?_ | refine ar ?_ _)); exact b8.out) hb); have ed := aM (ay z37 hb); clear a8; clear a7; clear a6; clear aZ; clear a5; clear dw; clear ec; clear dO; clear bd; clear bh; clear bi; clear bj; clear bc; clear bg; clear b7; clear b8; clear HB; have a8 := ba; have a7 := bb; have a6 := bf; have aZ := bk; have a5 := bn; have dw := br; have ec := bM; have dO := b3; have bd := b6; have bh := b9; have bi := bm; have bj := bq; have bc := ci; have bg := cX; have b7 := cW; have b8 := db; have HB := ed; clear ba bb bf bk bn br bM b3 b6 b9 bm bq ci cX cW db ed; (try clear hb); (try clear hb2); (try clear hk); (try clear hi)))
               go_meet
               case rel => exact ⟨_, ((po != mE)), z2, H', ⟨by have := lP.out; have := nv.out; first | omega | exact Nat.le_refl _⟩, ⟨y21⟩, ⟨y22⟩, ⟨y23⟩, ⟨y24⟩, ⟨y25⟩, ⟨y26⟩, ⟨y27⟩, ⟨by (try simp only [hl293000_113]); (with_reducible repeat (first | refine aq ?_ _ | refine ap ?_ | refine ar ?_ _)); exact bd.out⟩, ⟨by (try simp only [hl293000_113]); (with_reducible repeat (first | refine aq ?_ _ | refine ap ?_ | refine ar ?_ _)); exact bh.out⟩, ⟨by (try simp only [hl293000_113]); (with_reducible repeat (first | refine aq ?_ _ | refine ap ?_ | refine ar ?_ _)); exact bi.out⟩, ⟨by (try simp only [hl293000_113]); (with_reducible repeat (first | refine aq ?_ _ | refine ap ?_ | refine ar ?_ _)); exact bj.out⟩, ⟨by (try simp only [hl293000_113]); (with_reducible repeat (first | refine aq ?_ _ | refine ap ?_ | refine ar ?_ _)); exact bc.out⟩, ⟨by (try simp only [hl293000_113]); (with_reducible repeat (first | refine aq ?_ _ | refine ap ?_ | refine ar ?_ _)); exact bg.out⟩, ⟨by (try simp only [hl293000_113]); (with_reducible repeat (first | refine aq ?_ _ | refine ap ?_ | refine ar ?_ _)); exact b7.out⟩, ⟨by (try simp only [hl293000_113]); (with_reducible repeat (first | refine aq ?_ _ | refine ap ?_ | refine ar ?_ _)); exact b8.out⟩, ⟨y29⟩⟩
              ·replace nn := Bool.eq_false_iff.mpr nn
               subst nn
               rw [if_neg (show ¬ (false = true) by decide)] at H
               have H' := aM H
               clear H
               have hnb301 := fI.out
               have hnc301 := eH.out
               have hnb302 := fH.out
               have hnc302 := eG.out
               have hnb303 := fG.out
               have hnc303 := eE.out
               have hnb304 := fF.out
               have hnc304 := eD.out
               have hnb305 := ek.out
               have hnc305 := dD.out
               have hnb306 := eC.out
               have hnc306 := dU.out
               have hnb307 := eB.out
               have hnc307 := ez.out
               have hcz308_0 : w251.cell? ⟨cq, 0, none⟩ = some (.slice none 0 0) := (bC b7.out 0).trans rfl
               have hfz308_0 := bF b7.out 0
               have hnb309 := dI.out
               have hnc309 := du.out
               have hnb310 := dH.out
               have hnc310 := dG.out
               have hnb311 := dt.out
               have hnc311 := dE.out
               have hnb312 := cy.out
               have hnc312 := cN.out
               have hnb313 := cB.out
               have hnc313 := cS.out
               have hnb314 := eF.out
               have hnc314 := fE.out
               have hcz315_0 : w251.cell? ⟨bQ, 0, none⟩ = some (.slice bV bI.length bR) := (bC bh.out 0).trans rfl
               have hfz315_0 := bF bh.out 0
               go_wp2_with (first | ((with_reducible refine aJ (f := 18) rfl ?_); refine aQ (some 112) rfl rfl Try.func18 z1 rfl #[.agg #[.slice cK dh.length cD], .agg #[.slice bV bI.length bR]] rfl z25 ?_; (with_reducible refine (laws_eqRope.calls kj113 _ _ dh _ _ bI true _ ?side1 ?side2 ?side3 ?side4 pf.out).mono ?_); (case side1 => refine (ah (e := 58) (base := w.heap.size) (ok := fun k_ => ((((((some k_ ≠ (.slice cH dk.length cG : Value).ownBlock ∧ some k_ ≠ (.slice bV bI.length bR : Value).ownBlock) ∧ some k_ ≠ (.slice bY bP.length bX : Value).ownBlock) ∧ some k_ ≠ (.slice bT cJ.length bS : Value).ownBlock) ∧ some k_ ≠ (.slice bE bz.length bB : Value).ownBlock) ∧ some k_ ≠ (.slice bK bG.length bJ : Value).ownBlock) ∧ some k_ ≠ (.slice jc iQ.length iZ : Value).ownBlock)) (n := dh.length) (c := cD) ?_).2.2; exact z40); (case side2 => exact (ah ec.out).2.1); (case side3 => refine (ah (e := 58) (base := w.heap.size) (ok := fun k_ => ((((some k_ ≠ (.slice bY bP.length bX : Value).ownBlock ∧ (some k_ ≠ (.slice bT cJ.length bS : Value).ownBlock ∧ (some k_ ≠ (.slice bE bz.length bB : Value).ownBlock ∧ some k_ ≠ (.slice bK bG.length bJ : Value).ownBlock))) ∧ some k_ ≠ (.slice jc iQ.length iZ : Value).ownBlock) ∧ some k_ ≠ (.slice cK dh.length cD : Value).ownBlock) ∧ some k_ ≠ (.slice cH dk.length cG : Value).ownBlock)) (n := bI.length) (c := bR) ?_).2.2; exact z41); (case side4 => exact (ah a8.out).2.1); rintro e w316 ⟨rfl, hb⟩; refine ⟨_, rfl, ?_⟩; have ba := aM (af z41 hb); have bb := aM (af (by (with_reducible repeat (first | apply ac | apply ab | apply aa)); exact (ag (ag (am (p := ⟨cz, 0, none⟩) (am (p := ⟨cq, 0, none⟩) (ao (ao a7.out b7.out z0) b8.out z0) (fun _ hk => hk.1.2) (.slice cK dh.length cD)) (fun _ hk => hk.2) (.slice cH dk.length cG)) (fun _ h_ => h_.1)) (fun _ h_ => h_.1))) hb); have bf := aM (af (by (with_reducible repeat (first | apply ac | apply ab | apply aa)); exact (ag (ag (am (p := ⟨cz, 0, none⟩) (am (p := ⟨cq, 0, none⟩) (ao (ao a6.out b7.out z0) b8.out z0) (fun _ hk => hk.1.2) (.slice cK dh.length cD)) (fun _ hk => hk.2) (.slice cH dk.length cG)) (fun _ h_ => h_.1)) (fun _ h_ => h_.1))) hb); have bk := aM (af (by (with_reducible repeat (first | apply ac | apply ab | apply aa)); exact (ag (ag (am (p := ⟨cz, 0, none⟩) (am (p := ⟨cq, 0, none⟩) (ao (ao aZ.out b7.out z0) b8.out z0) (fun _ hk => hk.1.2) (.slice cK dh.length cD)) (fun _ hk => hk.2) (.slice cH dk.length cG)) (fun _ h_ => h_.1)) (fun _ h_ => h_.1))) hb); have bn := aM (af (by (with_reducible repeat (first | apply ac | apply ab | apply aa)); exact (ag (ag (am (p := ⟨cz, 0, none⟩) (am (p := ⟨cq, 0, none⟩) (ao (ao a5.out b7.out z0) b8.out z0) (fun _ hk => hk.1.2) (.slice cK dh.length cD)) (fun _ hk => hk.2) (.slice cH dk.length cG)) (fun _ h_ => h_.1)) (fun _ h_ => h_.1))) hb); have br := aM (af (by (with_reducible repeat (first | apply ac | apply ab | apply aa)); exact (ag (ag (am (p := ⟨cz, 0, none⟩) (am (p := ⟨cq, 0, none⟩) (ao (ao dw.out b7.out z0) b8.out z0) (fun _ hk => hk.1.2) (.slice cK dh.length cD)) (fun _ hk => hk.2) (.slice cH dk.length cG)) (fun _ h_ => h_.1)) (fun _ h_ => h_.1))) hb); have bM := aM (af z40 hb); have b3 := aM (af (by (with_reducible repeat (first | apply ac | apply ab | apply aa)); exact (ag (ag (am (p := ⟨cz, 0, none⟩) (am (p := ⟨cq, 0, none⟩) (ao (ao dO.out b7.out z0) b8.out z0) (fun _ hk => hk.1.2) (.slice cK dh.length cD)) (fun _ hk => hk.2) (.slice cH dk.length cG)) (fun _ h_ => h_.1)) (fun _ h_ => h_.1))) hb); have b6 := aM (ae (g := bO) (o := .cells #[.slice bu l0_0.length bx] 24 (0, 0)) (by (with_reducible repeat (first | refine aq ?_ _ | refine ap ?_ | refine ar ?_ _)); refine au ?_ eQ.out _; (with_reducible repeat (first | refine aq ?_ _ | refine ap ?_ | refine ar ?_ _)); refine au ?_ eH.out _; (with_reducible repeat (first | refine aq ?_ _ | refine ap ?_ | refine ar ?_ _)); exact bd.out) hb); have b9 := aM (ae (g := bQ) (o := .cells #[.slice bV bI.length bR] 29 (0, 0)) (by (with_reducible repeat (first | refine aq ?_ _ | refine ap ?_ | refine ar ?_ _)); refine au ?_ eF.out _; (with_reducible repeat (first | refine aq ?_ _ | refine ap ?_ | refine ar ?_ _)); refine au ?_ eG.out _; (with_reducible repeat (first | refine aq ?_ _ | refine ap ?_ | refine ar ?_ _)); exact bh.out) hb); have bm := aM (ae (g := bW) (o := .cells #[.slice bY bP.length bX] 29 (0, 0)) (by (with_reducible repeat (first | refine aq ?_ _ | refine ap ?_ | refine ar ?_ _)); refine au ?_ eP.out _; (with_reducible repeat (first | refine aq ?_ _ | refine ap ?_ | refine ar ?_ _)); refine au ?_ eE.out _; (with_reducible repeat (first | refine aq ?_ _ | refine ap ?_ | refine ar ?_ _)); exact bi.out) hb); have bq := aM (ae (g := bZ) (o := .cells #[.slice bT cJ.length bS] 29 (0, 0)) (by (with_reducible repeat (first | refine aq ?_ _ | refine ap ?_ | refine ar ?_ _)); refine au ?_ eO.out _; (with_reducible repeat (first | refine aq ?_ _ | refine ap ?_ | refine ar ?_ _)); refine au ?_ eD.out _; (with_reducible repeat (first | refine aq ?_ _ | refine ap ?_ | refine ar ?_ _)); exact bj.out) hb); have ci := aM (ae (g := bN) (o := .cells #[.slice bE bz.length bB] 29 (0, 0)) (by (with_reducible repeat (first | refine aq ?_ _ | refine ap ?_ | refine ar ?_ _)); refine au ?_ dV.out _; (with_reducible repeat (first | refine aq ?_ _ | refine ap ?_ | refine ar ?_ _)); refine au ?_ dD.out _; (with_reducible repeat (first | refine aq ?_ _ | refine ap ?_ | refine ar ?_ _)); exact bc.out) hb); have cX := aM (ae (g := bU) (o := .cells #[.slice bK bG.length bJ] 29 (0, 0)) (by (with_reducible repeat (first | refine aq ?_ _ | refine ap ?_ | refine ar ?_ _)); refine au ?_ d6.out _; (with_reducible repeat (first | refine aq ?_ _ | refine ap ?_ | refine ar ?_ _)); refine au ?_ dU.out _; (with_reducible repeat (first | refine aq ?_ _ | refine ap ?_ | refine ar ?_ _)); exact bg.out) hb); have cW := aM (ae (g := cq) (o := .cells #[.slice cK dh.length cD] 29 (0, 0)) (by (with_reducible repeat (first | refine aq ?_ _ | refine ap ?_ | refine ar ?_ _)); refine au ?_ eB.out _; (with_reducible repeat (first | refine aq ?_ _ | refine ap ?_ | refine ar ?_ _)); refine av (cs := #[.slice none 0 0]) ?_ 0 _ rfl; (with_reducible repeat (first | refine aq ?_ _ | refine ap ?_ | refine ar ?_ _)); exact b7.out) hb); have db := aM (ae (g := cz) (o := .cells #[.slice cH dk.length cG] 29 (0, 0)) (by (with_reducible repeat (first | refine aq ?_ _ | refine ap ?_ | refine ar ?_ _)); refine av (cs := #[.slice none 0 0]) ?_ 0 _ rfl; (with_reducible repeat (first | refine aq ?_ _ | refine ap ?_ | refine ar ?_ _)); refine au ?_ ez.out _; (with_reducible repeat (first | refine aq ?_ _ | refine ap ?_ | refine ar ?_ _)); exact b8.out) hb); have ed := aM (ay z37 hb); clear a8; clear a7; clear a6; clear aZ; clear a5; clear dw; clear ec; clear dO; clear bd; clear bh; clear bi; clear bj; clear bc; clear bg; clear b7; clear b8; clear HB; have a8 := ba; have a7 := bb; have a6 := bf; have aZ := bk; have a5 := bn; have dw := br; have ec := bM; have dO := b3; have bd := b6; have bh := b9; have bi := bm; have bj := bq; have bc := ci; have bg := cX; have b7 := cW; have b8 := db; have HB := ed; clear ba bb bf bk bn br bM b3 b6 b9 bm bq ci cX cW db ed; (try clear hb); (try clear hb2); (try clear hk); (try clear hi); have hnb317 := gG.out; have hnc317 := eQ.out; have hnb318 := gF.out; have hnc318 := eP.out; have hnb319 := gE.out; have hnc319 := eO.out; have hnb320 := eA.out; have hnc320 := dV.out; have hnb321 := eN.out; have hnc321 := d6.out; have hcz322_0 : w316.cell? ⟨cz, 0, none⟩ = some (.slice cH dk.length cG) := (bC b8.out 0).trans rfl; have hfz322_0 := bF b8.out 0; have hnb323 := en.out; have hnc323 := d8.out; have hnb324 := d7.out; have hnc324 := em.out; have hnb325 := cA.out; have hnc325 := cT.out; have hnb326 := cU.out; have hnc326 := di.out; have hcz327_0 : w316.cell? ⟨bW, 0, none⟩ = some (.slice bY bP.length bX) := (bC bi.out 0).trans rfl; have hfz327_0 := bF bi.out 0) | (go_at_call 18; (with_reducible refine (laws_eqRope.calls kj113 _ _ dk _ _ bP false _ ?side1 ?side2 ?side3 ?side4 pW.out).mono ?_); (case side1 => repeat (first | exact (ah dO.out).2.2 | (with_reducible refine aE ?_ _) | (with_reducible refine aG ?_ _) | (with_reducible refine aH ?_))); (case side2 => exact (ah dO.out).2.1); (case side3 => repeat (first | exact (ah a7.out).2.2 | (with_reducible refine aE ?_ _) | (with_reducible refine aG ?_ _) | (with_reducible refine aH ?_))); (case side4 => exact (ah a7.out).2.1); rintro e w328 ⟨rfl, hb⟩; have ba := aM (af z6 hb); have bb := aM (af z7 hb); have bf := aM (af z8 hb); have bk := aM (af z9 hb); have bn := aM (af z10 hb); have br := aM (af (by (with_reducible repeat (first | apply ac | apply ab | apply aa)); exact dw.out) hb); have bM := aM (af (by (with_reducible repeat (first | apply ac | apply ab | apply aa)); exact ec.out) hb); have b3 := aM (af (by (with_reducible repeat (first | apply ac | apply ab | apply aa)); exact dO.out) hb); have b6 := aM (ae (g := bO) (o := .cells #[.slice bu l0_0.length bx] 24 (0, 0)) z16 hb); have b9 := aM (ae (g := bQ) (o := .cells #[.slice bV bI.length bR] 29 (0, 0)) z17 hb); have bm := aM (ae (g := bW) (o := .cells #[.slice bY bP.length bX] 29 (0, 0)) z18 hb); have bq := aM (ae (g := bZ) (o := .cells #[.slice bT cJ.length bS] 29 (0, 0)) z19 hb); have ci := aM (ae (g := bN) (o := .cells #[.slice bE bz.length bB] 29 (0, 0)) z20 hb); have cX := aM (ae (g := bU) (o := .cells #[.slice bK bG.length bJ] 29 (0, 0)) z21 hb); have cW := aM (ae (g := cq) (o := .cells #[.slice cK dh.length cD] 29 (0, 0)) (by (with_reducible repeat (first | refine aq ?_ _ | refine ap ?_ | refine ar ?_ _)); exact b7.out) hb); have db := aM (ae (g := cz) (o := .cells #[.slice cH dk.length cG] 29 (0, 0)) (by (with_reducible repeat (first | refine aq ?_ _ | refine ap ?_ | refine ar ?_ _)); exact b8.out) hb); have ed := aM (ay z37 hb); clear a8; clear a7; clear a6; clear aZ; clear a5; clear dw; clear ec; clear dO; clear bd; clear bh; clear bi; clear bj; clear bc; clear bg; clear b7; clear b8; clear HB; have a8 := ba; have a7 := bb; have a6 := bf; have aZ := bk; have a5 := bn; have dw := br; have ec := bM; have dO := b3; have bd := b6; have bh := b9; have bi := bm; have bj := bq; have bc := ci; have bg := cX; have b7 := cW; have b8 := db; have HB := ed; clear ba bb bf bk bn br bM b3 b6 b9 bm bq ci cX cW db ed; (try clear hb); (try clear hb2); (try clear hk); (try clear hi)))
               go_meet
               case rel => exact ⟨_, (true), z2, H', ⟨by have := lP.out; have := nv.out; first | omega | exact Nat.le_refl _⟩, ⟨y21⟩, ⟨y22⟩, ⟨y23⟩, ⟨y24⟩, ⟨y25⟩, ⟨y26⟩, ⟨y27⟩, ⟨by (try simp only [hl293000_113]); (with_reducible repeat (first | refine aq ?_ _ | refine ap ?_ | refine ar ?_ _)); exact bd.out⟩, ⟨by (try simp only [hl293000_113]); (with_reducible repeat (first | refine aq ?_ _ | refine ap ?_ | refine ar ?_ _)); exact bh.out⟩, ⟨by (try simp only [hl293000_113]); (with_reducible repeat (first | refine aq ?_ _ | refine ap ?_ | refine ar ?_ _)); exact bi.out⟩, ⟨by (try simp only [hl293000_113]); (with_reducible repeat (first | refine aq ?_ _ | refine ap ?_ | refine ar ?_ _)); exact bj.out⟩, ⟨by (try simp only [hl293000_113]); (with_reducible repeat (first | refine aq ?_ _ | refine ap ?_ | refine ar ?_ _)); exact bc.out⟩, ⟨by (try simp only [hl293000_113]); (with_reducible repeat (first | refine aq ?_ _ | refine ap ?_ | refine ar ?_ _)); exact bg.out⟩, ⟨by (try simp only [hl293000_113]); (with_reducible repeat (first | refine aq ?_ _ | refine ap ?_ | refine ar ?_ _)); exact b7.out⟩, ⟨by (try simp only [hl293000_113]); (with_reducible repeat (first | refine aq ?_ _ | refine ap ?_ | refine ar ?_ _)); exact b8.out⟩, ⟨y29⟩⟩
             ·replace np := Bool.eq_false_iff.mpr np
              subst np
              rw [if_neg (show ¬ (false = true) by decide)] at H
              have H' := aM H
              clear H
              have hnb329 := fI.out
              have hnc329 := eH.out
              have hnb330 := fH.out
              have hnc330 := eG.out
              have hnb331 := fG.out
              have hnc331 := eE.out
              have hnb332 := fF.out
              have hnc332 := eD.out
              have hnb333 := ek.out
              have hnc333 := dD.out
              have hnb334 := eC.out
              have hnc334 := dU.out
              have hnb335 := eB.out
              have hnc335 := ez.out
              have hcz336_0 : w251.cell? ⟨cq, 0, none⟩ = some (.slice none 0 0) := (bC b7.out 0).trans rfl
              have hfz336_0 := bF b7.out 0
              have hnb337 := dI.out
              have hnc337 := du.out
              have hnb338 := dH.out
              have hnc338 := dG.out
              have hnb339 := dt.out
              have hnc339 := dE.out
              have hnb340 := cy.out
              have hnc340 := cN.out
              have hnb341 := cB.out
              have hnc341 := cS.out
              have hnb342 := eF.out
              have hnc342 := fE.out
              have hcz343_0 : w251.cell? ⟨bQ, 0, none⟩ = some (.slice bV bI.length bR) := (bC bh.out 0).trans rfl
              have hfz343_0 := bF bh.out 0
              go_wp2_with (first | ((with_reducible refine aJ (f := 18) rfl ?_); refine aQ (some 112) rfl rfl Try.func18 z1 rfl #[.agg #[.slice cK dh.length cD], .agg #[.slice bV bI.length bR]] rfl z25 ?_; (with_reducible refine (laws_eqRope.calls kj113 _ _ dh _ _ bI false _ ?side1 ?side2 ?side3 ?side4 pf.out).mono ?_); (case side1 => refine (ah (e := 58) (base := w.heap.size) (ok := fun k_ => ((((((some k_ ≠ (.slice cH dk.length cG : Value).ownBlock ∧ some k_ ≠ (.slice bV bI.length bR : Value).ownBlock) ∧ some k_ ≠ (.slice bY bP.length bX : Value).ownBlock) ∧ some k_ ≠ (.slice bT cJ.length bS : Value).ownBlock) ∧ some k_ ≠ (.slice bE bz.length bB : Value).ownBlock) ∧ some k_ ≠ (.slice bK bG.length bJ : Value).ownBlock) ∧ some k_ ≠ (.slice jc iQ.length iZ : Value).ownBlock)) (n := dh.length) (c := cD) ?_).2.2; exact z40); (case side2 => exact (ah ec.out).2.1); (case side3 => refine (ah (e := 58) (base := w.heap.size) (ok := fun k_ => ((((some k_ ≠ (.slice bY bP.length bX : Value).ownBlock ∧ (some k_ ≠ (.slice bT cJ.length bS : Value).ownBlock ∧ (some k_ ≠ (.slice bE bz.length bB : Value).ownBlock ∧ some k_ ≠ (.slice bK bG.length bJ : Value).ownBlock))) ∧ some k_ ≠ (.slice jc iQ.length iZ : Value).ownBlock) ∧ some k_ ≠ (.slice cK dh.length cD : Value).ownBlock) ∧ some k_ ≠ (.slice cH dk.length cG : Value).ownBlock)) (n := bI.length) (c := bR) ?_).2.2; exact z41); (case side4 => exact (ah a8.out).2.1); rintro e w344 ⟨rfl, hb⟩; refine ⟨_, rfl, ?_⟩; have ba := aM (af z41 hb); have bb := aM (af (by (with_reducible repeat (first | apply ac | apply ab | apply aa)); exact (ag (ag (am (p := ⟨cz, 0, none⟩) (am (p := ⟨cq, 0, none⟩) (ao (ao a7.out b7.out z0) b8.out z0) (fun _ hk => hk.1.2) (.slice cK dh.length cD)) (fun _ hk => hk.2) (.slice cH dk.length cG)) (fun _ h_ => h_.1)) (fun _ h_ => h_.1))) hb); have bf := aM (af (by (with_reducible repeat (first | apply ac | apply ab | apply aa)); exact (ag (ag (am (p := ⟨cz, 0, none⟩) (am (p := ⟨cq, 0, none⟩) (ao (ao a6.out b7.out z0) b8.out z0) (fun _ hk => hk.1.2) (.slice cK dh.length cD)) (fun _ hk => hk.2) (.slice cH dk.length cG)) (fun _ h_ => h_.1)) (fun _ h_ => h_.1))) hb); have bk := aM (af (by (with_reducible repeat (first | apply ac | apply ab | apply aa)); exact (ag (ag (am (p := ⟨cz, 0, none⟩) (am (p := ⟨cq, 0, none⟩) (ao (ao aZ.out b7.out z0) b8.out z0) (fun _ hk => hk.1.2) (.slice cK dh.length cD)) (fun _ hk => hk.2) (.slice cH dk.length cG)) (fun _ h_ => h_.1)) (fun _ h_ => h_.1))) hb); have bn := aM (af (by (with_reducible repeat (first | apply ac | apply ab | apply aa)); exact (ag (ag (am (p := ⟨cz, 0, none⟩) (am (p := ⟨cq, 0, none⟩) (ao (ao a5.out b7.out z0) b8.out z0) (fun _ hk => hk.1.2) (.slice cK dh.length cD)) (fun _ hk => hk.2) (.slice cH dk.length cG)) (fun _ h_ => h_.1)) (fun _ h_ => h_.1))) hb); have br := aM (af (by (with_reducible repeat (first | apply ac | apply ab | apply aa)); exact (ag (ag (am (p := ⟨cz, 0, none⟩) (am (p := ⟨cq, 0, none⟩) (ao (ao dw.out b7.out z0) b8.out z0) (fun _ hk => hk.1.2) (.slice cK dh.length cD)) (fun _ hk => hk.2) (.slice cH dk.length cG)) (fun _ h_ => h_.1)) (fun _ h_ => h_.1))) hb); have bM := aM (af z40 hb); have b3 := aM (af (by (with_reducible repeat (first | apply ac | apply ab | apply aa)); exact (ag (ag (am (p := ⟨cz, 0, none⟩) (am (p := ⟨cq, 0, none⟩) (ao (ao dO.out b7.out z0) b8.out z0) (fun _ hk => hk.1.2) (.slice cK dh.length cD)) (fun _ hk => hk.2) (.slice cH dk.length cG)) (fun _ h_ => h_.1)) (fun _ h_ => h_.1))) hb); have b6 := aM (ae (g := bO) (o := .cells #[.slice bu l0_0.length bx] 24 (0, 0)) (by (with_reducible repeat (first | refine aq ?_ _ | refine ap ?_ | refine ar ?_ _)); refine au ?_ eQ.out _; (with_reducible repeat (first | refine aq ?_ _ | refine ap ?_ | refine ar ?_ _)); refine au ?_ eH.out _; (with_reducible repeat (first | refine aq ?_ _ | refine ap ?_ | refine ar ?_ _)); exact bd.out) hb); have b9 := aM (ae (g := bQ) (o := .cells #[.slice bV bI.length bR] 29 (0, 0)) (by (with_reducible repeat (first | refine aq ?_ _ | refine ap ?_ | refine ar ?_ _)); refine au ?_ eF.out _; (with_reducible repeat (first | refine aq ?_ _ | refine ap ?_ | refine ar ?_ _)); refine au ?_ eG.out _; (with_reducible repeat (first | refine aq ?_ _ | refine ap ?_ | refine ar ?_ _)); exact bh.out) hb); have bm := aM (ae (g := bW) (o := .cells #[.slice bY bP.length bX] 29 (0, 0)) (by (with_reducible repeat (first | refine aq ?_ _ | refine ap ?_ | refine ar ?_ _)); refine au ?_ eP.out _; (with_reducible repeat (first | refine aq ?_ _ | refine ap ?_ | refine ar ?_ _)); refine au ?_ eE.out _; (with_reducible repeat (first | refine aq ?_ _ | refine ap ?_ | refine ar ?_ _)); exact bi.out) hb); have bq := aM (ae (g := bZ) (o := .cells #[.slice bT cJ.length bS] 29 (0, 0)) (by (with_reducible repeat (first | refine aq ?_ _ | refine ap ?_ | refine ar ?_ _)); refine au ?_ eO.out _; (with_reducible repeat (first | refine aq ?_ _ | refine ap ?_ | refine ar ?_ _)); refine au ?_ eD.out _; (with_reducible repeat (first | refine aq ?_ _ | refine ap ?_ | refine ar ?_ _)); exact bj.out) hb); have ci := aM (ae (g := bN) (o := .cells #[.slice bE bz.length bB] 29 (0, 0)) (by (with_reducible repeat (first | refine aq ?_ _ | refine ap ?_ | refine ar ?_ _)); refine au ?_ dV.out _; (with_reducible repeat (first | refine aq ?_ _ | refine ap ?_ | refine ar ?_ _)); refine au ?_ dD.out _; (with_reducible repeat (first | refine aq ?_ _ | refine ap ?_ | refine ar ?_ _)); exact bc.out) hb); have cX := aM (ae (g := bU) (o := .cells #[.slice bK bG.length bJ] 29 (0, 0)) (by (with_reducible repeat (first | refine aq ?_ _ | refine ap ?_ | refine ar ?_ _)); refine au ?_ d6.out _; (with_reducible repeat (first | refine aq ?_ _ | refine ap ?_ | refine ar ?_ _)); refine au ?_ dU.out _; (with_reducible repeat (first | refine aq ?_ _ | refine ap ?_ | refine ar ?_ _)); exact bg.out) hb); have cW := aM (ae (g := cq) (o := .cells #[.slice cK dh.length cD] 29 (0, 0)) (by (with_reducible repeat (first | refine aq ?_ _ | refine ap ?_ | refine ar ?_ _)); refine au ?_ eB.out _; (with_reducible repeat (first | refine aq ?_ _ | refine ap ?_ | refine ar ?_ _)); refine av (cs := #[.slice none 0 0]) ?_ 0 _ rfl; (with_reducible repeat (first | refine aq ?_ _ | refine ap ?_ | refine ar ?_ _)); exact b7.out) hb); have db := aM (ae (g := cz) (o := .cells #[.slice cH dk.length cG] 29 (0, 0)) (by (with_reducible repeat (first | refine aq ?_ _ | refine ap ?_ | refine ar ?_ _)); refine av (cs := #[.slice none 0 0]) ?_ 0 _ rfl; (with_reducible repeat (first | refine aq ?_ _ | refine ap ?_ | refine ar ?_ _)); refine au ?_ ez.out _; (with_reducible repeat (first | refine aq ?_ _ | refine ap ?_ | refine ar ?_ _)); exact b8.out) hb); have ed := aM (ay z37 hb); clear a8; clear a7; clear a6; clear aZ; clear a5; clear dw; clear ec; clear dO; clear bd; clear bh; clear bi; clear bj; clear bc; clear bg; clear b7; clear b8; clear HB; have a8 := ba; have a7 := bb; have a6 := bf; have aZ := bk; have a5 := bn; have dw := br; have ec := bM; have dO := b3; have bd := b6; have bh := b9; have bi := bm; have bj := bq; have bc := ci; have bg := cX; have b7 := cW; have b8 := db; have HB := ed; clear ba bb bf bk bn br bM b3 b6 b9 bm bq ci cX cW db ed; (try clear hb); (try clear hb2); (try clear hk); (try clear hi)))
              go_meet
              case rel => exact ⟨_, (true), z2, H', ⟨by have := lP.out; have := nv.out; first | omega | exact Nat.le_refl _⟩, ⟨y21⟩, ⟨y22⟩, ⟨y23⟩, ⟨y24⟩, ⟨y25⟩, ⟨y26⟩, ⟨y27⟩, ⟨by (try simp only [hl293000_113]); (with_reducible repeat (first | refine aq ?_ _ | refine ap ?_ | refine ar ?_ _)); exact bd.out⟩, ⟨by (try simp only [hl293000_113]); (with_reducible repeat (first | refine aq ?_ _ | refine ap ?_ | refine ar ?_ _)); exact bh.out⟩, ⟨by (try simp only [hl293000_113]); (with_reducible repeat (first | refine aq ?_ _ | refine ap ?_ | refine ar ?_ _)); exact bi.out⟩, ⟨by (try simp only [hl293000_113]); (with_reducible repeat (first | refine aq ?_ _ | refine ap ?_ | refine ar ?_ _)); exact bj.out⟩, ⟨by (try simp only [hl293000_113]); (with_reducible repeat (first | refine aq ?_ _ | refine ap ?_ | refine ar ?_ _)); exact bc.out⟩, ⟨by (try simp only [hl293000_113]); (with_reducible repeat (first | refine aq ?_ _ | refine ap ?_ | refine ar ?_ _)); exact bg.out⟩, ⟨by (try simp only [hl293000_113]); (with_reducible repeat (first | refine aq ?_ _ | refine ap ?_ | refine ar ?_ _)); exact b7.out⟩, ⟨by (try simp only [hl293000_113]); (with_reducible repeat (first | refine aq ?_ _ | refine ap ?_ | refine ar ?_ _)); exact b8.out⟩, ⟨y29⟩⟩
            case rest =>
             clear nw
             try clear c1
             try clear c2
             try clear p2
             try clear c3
             try clear c4
             try clear c4b0
             try clear c5
             try clear c6
             try clear c7
             try clear c8
             try clear c9
             try clear eK
             try clear fd
             try clear fi
             try clear gw
             try clear hJ
             try clear gv
             try clear lp
             try clear i1
             try clear o5
             try clear c19
             try clear c20
             try clear c21
             try clear pz
             try clear rc
             try clear mU
             try clear nJ
             try clear c26
             try clear mw
             try clear px
             try clear pl
             try clear pv
             try clear pu
             try clear o4
             try clear lL
             try clear rb
             try clear o3
             try clear o0
             try clear oZ
             try clear nI
             try clear lJ
             try clear ra
             try clear q3
             try clear qZ
             try clear nH
             try clear nG
             try clear qY
             try clear qX
             try clear oY
             try clear oX
             try clear qW
             try clear qV
             try clear qU
             try clear qS
             try clear qR
             try clear qQ
             try clear qP
             try clear qO
             try clear qN
             try clear qM
             try clear qL
             try clear qK
             try clear qJ
             try clear qI
             try clear qH
             try clear qG
             try clear qE
             try clear qD
             try clear qC
             try clear qB
             try clear qA
             try clear qz
             try clear qy
             try clear qx
             try clear qw
             try clear qv
             try clear qu
             try clear qt
             try clear qr
             try clear qq
             try clear qp
             try clear pI
             try clear pH
             try clear pG
             try clear pF
             try clear pE
             try clear pC
             try clear mP
             try clear mO
             try clear c119
             try clear c120
             try clear c121
             try clear c122
             try clear c123
             try clear lq
             try clear c126b0
             try clear mN
             try clear mM
             try clear c131
             try clear c132
             try clear c133
             try clear c134
             try clear c135
             try clear c137
             try clear c138
             try clear c139
             try clear c140
             try clear c143
             try clear c144
             try clear c145
             try clear c147
             try clear c148
             try clear c151
             try clear c152
             try clear c153
             try clear c154
             try clear c155
             try clear c157
             try clear c158
             try clear c159
             try clear c160
             try clear c163
             try clear c164
             try clear c165
             try clear c167
             try clear c168
             try clear c171
             try clear c172
             try clear c173
             try clear c174
             try clear c175
             try clear c177
             try clear c178
             try clear c179
             try clear c180
             try clear nr
             try clear lN
             try clear c187b0
             try clear c188
             try clear c189
             try clear c190
             try clear c191
             try clear c192
             try clear c195
             try clear c196
             try clear c197
             try clear c198
             try clear lM
             try clear c204b0
             try clear c205
             try clear c206
             try clear c207
             try clear c208
             try clear c209
             try clear c212
             try clear c213
             try clear c214
             try clear c215
             try clear ln
             try clear c222b0
             try clear c222b1
             try clear c226
             try clear c227
             try clear c228
             try clear c229
             try clear c230
             try clear c233
             try clear c234
             try clear c235
             try clear c236
             try clear c243
             try clear c244
             try clear c245
             try clear c253
             try clear c254
             try clear c255
             try clear c256
             try clear c257
             try clear c258
             try clear c259
             try clear c262
             try clear c263
             try clear c264
             try clear c265
             try clear c266
             try clear c267
             try clear np
             try clear nn
             try clear c273
             try clear c274
             try clear c275
             try clear c276
             try clear c277
             try clear c278
             try clear c279
             try clear c281
             try clear c282
             try clear c283
             try clear c284
             try clear c285
             try clear c286
             try clear c289
             try clear c290
             try clear c291
             try clear c292
             try clear c293
             try clear c295
             try clear c296
             try clear c297
             try clear c298
             try clear c301
             try clear c302
             try clear c303
             try clear c304
             try clear c305
             try clear c306
             try clear c307
             try clear c309
             try clear c310
             try clear c311
             try clear c312
             try clear c313
             try clear c314
             try clear c317
             try clear c318
             try clear c319
             try clear c320
             try clear c321
             try clear c323
             try clear c324
             try clear c325
             try clear c326
             try clear c329
             try clear c330
             try clear c331
             try clear c332
             try clear c333
             try clear c334
             try clear c335
             try clear c337
             try clear c338
             try clear c339
             try clear c340
             try clear c341
             try clear c342
             try clear iY
             try clear iX
             try clear ll
             try clear lh
             try clear lg
             try clear ld
             try clear lc
             try clear gq
             try clear lb
             try clear la
             try clear k9
             try clear k8
             try clear gp
             try clear k7
             try clear k6
             try clear hcz193_0
             try clear hcz199_0
             try clear hcz201_0
             try clear hcz210_0
             try clear hcz216_0
             try clear hcz218_0
             try clear hcz220_0
             try clear hcz231_0
             try clear hcz237_0
             try clear hcz239_0
             try clear hcz241_0
             try clear hcz246_0
             try clear ku
             try clear hcz260_0
             try clear hcz268_0
             try clear hcz280_0
             try clear hcz287_0
             try clear fC
             try clear hcz294_0
             try clear hcz299_0
             try clear kg
             try clear hcz308_0
             try clear hcz315_0
             try clear hcz322_0
             try clear hcz327_0
             try clear hcz336_0
             try clear hcz343_0
             try clear iA
             try clear iz
             try clear iy
             try clear kf
             try clear ix
             try clear gD
             try clear ke
             try clear kd
             try clear kc
             try clear kb
             try clear ka
             try clear j9
             try clear iW
             try clear iV
             try clear k5
             try clear k4
             try clear kZ
             try clear kY
             try clear kX
             try clear gn
             try clear kW
             try clear kV
             try clear kU
             try clear kT
             try clear gm
             try clear kS
             try clear kR
             try clear hfz193_0
             try clear hfz199_0
             try clear hfz201_0
             try clear hfz210_0
             try clear hfz216_0
             try clear hfz218_0
             try clear hfz220_0
             try clear hfz231_0
             try clear hfz237_0
             try clear hfz239_0
             try clear hfz241_0
             try clear hfz246_0
             try clear jR
             try clear hfz260_0
             try clear hfz268_0
             try clear hfz280_0
             try clear hfz287_0
             try clear fA
             try clear hfz294_0
             try clear hfz299_0
             try clear jG
             try clear hfz308_0
             try clear hfz315_0
             try clear hfz322_0
             try clear hfz327_0
             try clear hfz336_0
             try clear hfz343_0
             try clear ib
             try clear ia
             try clear hX
             try clear jF
             try clear hV
             try clear gC
             try clear jE
             try clear jD
             try clear jC
             try clear jB
             try clear jA
             try clear jz
             try clear p2
             obtain ⟨kq, x124_224, rfl, HA, HJ224, a8, a7, a6, aZ, a5, cp, co, bd, bh, bi, bj, bc, bg, b7, b8, HB⟩ := hcut
             have hl301000_224 := (ah aZ.out).1
             rw [hl301000_224] at aZ
             (try simp only [hl301000_224])
             (try simp only [hl301000_224] at bd)
             (try simp only [hl301000_224] at bh)
             (try simp only [hl301000_224] at bi)
             (try simp only [hl301000_224] at bj)
             (try simp only [hl301000_224] at bc)
             (try simp only [hl301000_224] at bg)
             (try simp only [hl301000_224] at b7)
             (try simp only [hl301000_224] at b8)
             (try simp only [hl301000_224] at a8)
             (try simp only [hl301000_224] at a7)
             (try simp only [hl301000_224] at a6)
             (try simp only [hl301000_224] at a5)
             (try simp only [hl301000_224] at cp)
             (try simp only [hl301000_224] at co)
             have hl302000_224 := (ah a5.out).1
             rw [hl302000_224] at a5
             (try simp only [hl302000_224])
             (try simp only [hl302000_224] at bd)
             (try simp only [hl302000_224] at bh)
             (try simp only [hl302000_224] at bi)
             (try simp only [hl302000_224] at bj)
             (try simp only [hl302000_224] at bc)
             (try simp only [hl302000_224] at bg)
             (try simp only [hl302000_224] at b7)
             (try simp only [hl302000_224] at b8)
             (try simp only [hl302000_224] at a8)
             (try simp only [hl302000_224] at a7)
             (try simp only [hl302000_224] at a6)
             (try simp only [hl302000_224] at aZ)
             (try simp only [hl302000_224] at cp)
             (try simp only [hl302000_224] at co)
             cases kq with
             | zero => exact absurd HA.out (by simp [laws_FnExactSplitRope.j2])
             | succ kj224 =>
              have H := HA.out
              clear HA
              simp only [laws_FnExactSplitRope.j2] at H
              by_cases nO : x124_224 = true
              ·subst nO
               rw [if_pos rfl] at H
               first | (cases H.trans (congrArg some HRT.out); done) | skip
               all_goals
                obtain rfl := sI H
                go_wp2
                go_ret
                exact ⟨y2, y29⟩
              ·replace nO := Bool.eq_false_iff.mpr nO
               subst nO
               rw [if_neg (show ¬ (false = true) by decide)] at H
               replace H := oB H
               obtain ⟨fK, ol, H⟩ := H
               try dsimp only at H
               have nR := aM ol
               clear ol
               by_cases mL : fK < 0
               ·rw [if_pos mL] at H
                have c347b0 : decide (fK < 0) = true := dT mL
                clear mL
                first | (cases H.trans (congrArg some HRT.out); done) | skip
                all_goals
                 obtain rfl := sI H
                 have hnb348 := de.out
                 have hnc348 := cO.out
                 have hnb349 := cN.out
                 have hnc349 := cy.out
                 have hnb350 := cT.out
                 have hnc350 := cA.out
                 have hnb351 := cZ.out
                 have hnc351 := cI.out
                 have hnb352 := cM.out
                 have hnc352 := cL.out
                 have hnb353 := dD.out
                 have hnc353 := ek.out
                 have hnb354 := dV.out
                 have hnc354 := eA.out
                 have hcz355_0 : wc.cell? ⟨bN, 0, none⟩ = some (.slice bE dC.length bB) := (bC bc.out 0).trans rfl
                 have hfz355_0 := bF bc.out 0
                 go_wp2_with (first | ((with_reducible refine aJ (f := 28) rfl ?_); refine aQ (some 127) rfl rfl Try.func28 z1 rfl #[.agg #[.slice bE dC.length bB], .int .i64 1] rfl z25 ?_; (with_reducible refine (laws_heldRope.calls kj224 _ _ dC 1 fK _ ?side1 ?side2 nR.out).mono ?_); (case side1 => repeat (first | exact (ah aZ.out).2.2 | (with_reducible refine aE ?_ _) | (with_reducible refine aG ?_ _) | (with_reducible refine aH ?_))); (case side2 => exact (ah aZ.out).2.1); rintro e w356 ⟨rfl, hb⟩; refine ⟨_, rfl, ?_⟩; have ba := aM (af z6 hb); have bb := aM (af z7 hb); have bf := aM (af z8 hb); have bk := aM (af z9 hb); have bn := aM (af z10 hb); have br := aM (af (by (with_reducible repeat (first | apply ac | apply ab | apply aa)); exact cp.out) hb); have bM := aM (af (by (with_reducible repeat (first | apply ac | apply ab | apply aa)); exact co.out) hb); have b3 := aM (ae (g := bO) (o := .cells #[.slice bu l0_0.length bx] 24 (0, 0)) z16 hb); have b6 := aM (ae (g := bQ) (o := .cells #[.slice bV bI.length bR] 29 (0, 0)) z17 hb); have b9 := aM (ae (g := bW) (o := .cells #[.slice bY bP.length bX] 29 (0, 0)) z18 hb); have bm := aM (ae (g := bZ) (o := .cells #[.slice bT cJ.length bS] 29 (0, 0)) z19 hb); have bq := aM (ae (g := bN) (o := .cells #[.slice bE dC.length bB] 29 (0, 0)) z20 hb); have ci := aM (ae (g := bU) (o := .cells #[.slice bK d5.length bJ] 29 (0, 0)) z21 hb); have cX := aM (ae (g := cq) (o := .cells #[.slice cK dh.length cD] 29 (0, 0)) (by (with_reducible repeat (first | refine aq ?_ _ | refine ap ?_ | refine ar ?_ _)); exact b7.out) hb); have cW := aM (ae (g := cz) (o := .cells #[.slice cH dk.length cG] 29 (0, 0)) (by (with_reducible repeat (first | refine aq ?_ _ | refine ap ?_ | refine ar ?_ _)); exact b8.out) hb); have db := aM (ay z37 hb); clear a8; clear a7; clear a6; clear aZ; clear a5; clear cp; clear co; clear bd; clear bh; clear bi; clear bj; clear bc; clear bg; clear b7; clear b8; clear HB; have a8 := ba; have a7 := bb; have a6 := bf; have aZ := bk; have a5 := bn; have cp := br; have co := bM; have bd := b3; have bh := b6; have bi := b9; have bj := bm; have bc := bq; have bg := ci; have b7 := cX; have b8 := cW; have HB := db; clear ba bb bf bk bn br bM b3 b6 b9 bm bq ci cX cW db; (try clear hb); (try clear hb2); (try clear hk); (try clear hi)))
                 go_ret
                 exact ⟨y2, y29⟩
               ·rw [if_neg mL] at H
                have c347b0 : decide (fK < 0) = false := dF mL
                clear mL
                replace H := oB H
                obtain ⟨ga, oh, H⟩ := H
                try dsimp only at H
                have pe := aM oh
                clear oh
                by_cases mK : ga < 0
                ·rw [if_pos mK] at H
                 have c358b0 : decide (ga < 0) = true := dT mK
                 clear mK
                 first | (cases H.trans (congrArg some HRT.out); done) | skip
                 all_goals
                  obtain rfl := sI H
                  have hnb359 := de.out
                  have hnc359 := cO.out
                  have hnb360 := cN.out
                  have hnc360 := cy.out
                  have hnb361 := cT.out
                  have hnc361 := cA.out
                  have hnb362 := cZ.out
                  have hnc362 := cI.out
                  have hnb363 := cM.out
                  have hnc363 := cL.out
                  have hnb364 := dD.out
                  have hnc364 := ek.out
                  have hnb365 := dV.out
                  have hnc365 := eA.out
                  have hcz366_0 : wc.cell? ⟨bN, 0, none⟩ = some (.slice bE dC.length bB) := (bC bc.out 0).trans rfl
                  have hfz366_0 := bF bc.out 0
                  go_wp2_with (first | ((with_reducible refine aJ (f := 28) rfl ?_); refine aQ (some 127) rfl rfl Try.func28 z1 rfl #[.agg #[.slice bE dC.length bB], .int .i64 1] rfl z25 ?_; (with_reducible refine (laws_heldRope.calls kj224 _ _ dC 1 fK _ ?side1 ?side2 nR.out).mono ?_); (case side1 => repeat (first | exact (ah aZ.out).2.2 | (with_reducible refine aE ?_ _) | (with_reducible refine aG ?_ _) | (with_reducible refine aH ?_))); (case side2 => exact (ah aZ.out).2.1); rintro e w367 ⟨rfl, hb⟩; refine ⟨_, rfl, ?_⟩; have ba := aM (af z6 hb); have bb := aM (af z7 hb); have bf := aM (af z8 hb); have bk := aM (af z9 hb); have bn := aM (af z10 hb); have br := aM (af (by (with_reducible repeat (first | apply ac | apply ab | apply aa)); exact cp.out) hb); have bM := aM (af (by (with_reducible repeat (first | apply ac | apply ab | apply aa)); exact co.out) hb); have b3 := aM (ae (g := bO) (o := .cells #[.slice bu l0_0.length bx] 24 (0, 0)) z16 hb); have b6 := aM (ae (g := bQ) (o := .cells #[.slice bV bI.length bR] 29 (0, 0)) z17 hb); have b9 := aM (ae (g := bW) (o := .cells #[.slice bY bP.length bX] 29 (0, 0)) z18 hb); have bm := aM (ae (g := bZ) (o := .cells #[.slice bT cJ.length bS] 29 (0, 0)) z19 hb); have bq := aM (ae (g := bN) (o := .cells #[.slice bE dC.length bB] 29 (0, 0)) z20 hb); have ci := aM (ae (g := bU) (o := .cells #[.slice bK d5.length bJ] 29 (0, 0)) z21 hb); have cX := aM (ae (g := cq) (o := .cells #[.slice cK dh.length cD] 29 (0, 0)) (by (with_reducible repeat (first | refine aq ?_ _ | refine ap ?_ | refine ar ?_ _)); exact b7.out) hb); have cW := aM (ae (g := cz) (o := .cells #[.slice cH dk.length cG] 29 (0, 0)) (by (with_reducible repeat (first | refine aq ?_ _ | refine ap ?_ | refine ar ?_ _)); exact b8.out) hb); have db := aM (ay z37 hb); clear a8; clear a7; clear a6; clear aZ; clear a5; clear cp; clear co; clear bd; clear bh; clear bi; clear bj; clear bc; clear bg; clear b7; clear b8; clear HB; have a8 := ba; have a7 := bb; have a6 := bf; have aZ := bk; have a5 := bn; have cp := br; have co := bM; have bd := b3; have bh := b6; have bi := b9; have bj := bm; have bc := bq; have bg := ci; have b7 := cX; have b8 := cW; have HB := db; clear ba bb bf bk bn br bM b3 b6 b9 bm bq ci cX cW db; (try clear hb); (try clear hb2); (try clear hk); (try clear hi); have hnb368 := dr.out; have hnc368 := df.out; have hnb369 := cS.out; have hnc369 := cB.out; have hnb370 := di.out; have hnc370 := cU.out; have hnb371 := dl.out; have hnc371 := da.out; have hnb372 := dU.out; have hnc372 := eC.out; have hnb373 := d6.out; have hnc373 := eN.out; have hcz374_0 : w367.cell? ⟨bU, 0, none⟩ = some (.slice bK d5.length bJ) := (bC bg.out 0).trans rfl; have hfz374_0 := bF bg.out 0) | ((with_reducible refine aJ (f := 28) rfl ?_); refine aQ (some 132) rfl rfl Try.func28 z1 rfl #[.agg #[.slice bK d5.length bJ], .int .i64 fK] rfl z25 ?_; (with_reducible refine (laws_heldRope.calls kj224 _ _ d5 fK ga _ ?side1 ?side2 pe.out).mono ?_); (case side1 => repeat (first | exact (ah a5.out).2.2 | (with_reducible refine aE ?_ _) | (with_reducible refine aG ?_ _) | (with_reducible refine aH ?_))); (case side2 => exact (ah a5.out).2.1); rintro e w375 ⟨rfl, hb⟩; refine ⟨_, rfl, ?_⟩; have ba := aM (af z6 hb); have bb := aM (af z7 hb); have bf := aM (af z8 hb); have bk := aM (af z9 hb); have bn := aM (af z10 hb); have br := aM (af (by (with_reducible repeat (first | apply ac | apply ab | apply aa)); exact cp.out) hb); have bM := aM (af (by (with_reducible repeat (first | apply ac | apply ab | apply aa)); exact co.out) hb); have b3 := aM (ae (g := bO) (o := .cells #[.slice bu l0_0.length bx] 24 (0, 0)) z16 hb); have b6 := aM (ae (g := bQ) (o := .cells #[.slice bV bI.length bR] 29 (0, 0)) z17 hb); have b9 := aM (ae (g := bW) (o := .cells #[.slice bY bP.length bX] 29 (0, 0)) z18 hb); have bm := aM (ae (g := bZ) (o := .cells #[.slice bT cJ.length bS] 29 (0, 0)) z19 hb); have bq := aM (ae (g := bN) (o := .cells #[.slice bE dC.length bB] 29 (0, 0)) z20 hb); have ci := aM (ae (g := bU) (o := .cells #[.slice bK d5.length bJ] 29 (0, 0)) z21 hb); have cX := aM (ae (g := cq) (o := .cells #[.slice cK dh.length cD] 29 (0, 0)) (by (with_reducible repeat (first | refine aq ?_ _ | refine ap ?_ | refine ar ?_ _)); exact b7.out) hb); have cW := aM (ae (g := cz) (o := .cells #[.slice cH dk.length cG] 29 (0, 0)) (by (with_reducible repeat (first | refine aq ?_ _ | refine ap ?_ | refine ar ?_ _)); exact b8.out) hb); have db := aM (ay z37 hb); clear a8; clear a7; clear a6; clear aZ; clear a5; clear cp; clear co; clear bd; clear bh; clear bi; clear bj; clear bc; clear bg; clear b7; clear b8; clear HB; have a8 := ba; have a7 := bb; have a6 := bf; have aZ := bk; have a5 := bn; have cp := br; have co := bM; have bd := b3; have bh := b6; have bi := b9; have bj := bm; have bc := bq; have bg := ci; have b7 := cX; have b8 := cW; have HB := db; clear ba bb bf bk bn br bM b3 b6 b9 bm bq ci cX cW db; (try clear hb); (try clear hb2); (try clear hk); (try clear hi)))
                  go_ret
                  exact ⟨y2, y29⟩
                ·rw [if_neg mK] at H
                 have c358b0 : decide (ga < 0) = false := dF mK
                 clear mK
                 by_cases lK : ga = fQ
                 ·rw [if_pos lK] at H
                  have c376b0 : (ga == fQ) = true := qT lK
                  have c376b1 : (ga != fQ) = false := nF lK
                  clear lK
                  first | (cases H.trans (congrArg some HRT.out); done) | skip
                  all_goals
                   obtain rfl := sI H
                   have hnb377 := de.out
                   have hnc377 := cO.out
                   have hnb378 := cN.out
                   have hnc378 := cy.out
                   have hnb379 := cT.out
                   have hnc379 := cA.out
                   have hnb380 := cZ.out
                   have hnc380 := cI.out
                   have hnb381 := cM.out
                   have hnc381 := cL.out
                   have hnb382 := dD.out
                   have hnc382 := ek.out
                   have hnb383 := dV.out
                   have hnc383 := eA.out
                   have hcz384_0 : wc.cell? ⟨bN, 0, none⟩ = some (.slice bE dC.length bB) := (bC bc.out 0).trans rfl
                   have hfz384_0 := bF bc.out 0
                   go_wp2_with (first | ((with_reducible refine aJ (f := 28) rfl ?_); refine aQ (some 127) rfl rfl Try.func28 z1 rfl #[.agg #[.slice bE dC.length bB], .int .i64 1] rfl z25 ?_; (with_reducible refine (laws_heldRope.calls kj224 _ _ dC 1 fK _ ?side1 ?side2 nR.out).mono ?_); (case side1 => repeat (first | exact (ah aZ.out).2.2 | (with_reducible refine aE ?_ _) | (with_reducible refine aG ?_ _) | (with_reducible refine aH ?_))); (case side2 => exact (ah aZ.out).2.1); rintro e w385 ⟨rfl, hb⟩; refine ⟨_, rfl, ?_⟩; have ba := aM (af z6 hb); have bb := aM (af z7 hb); have bf := aM (af z8 hb); have bk := aM (af z9 hb); have bn := aM (af z10 hb); have br := aM (af (by (with_reducible repeat (first | apply ac | apply ab | apply aa)); exact cp.out) hb); have bM := aM (af (by (with_reducible repeat (first | apply ac | apply ab | apply aa)); exact co.out) hb); have b3 := aM (ae (g := bO) (o := .cells #[.slice bu l0_0.length bx] 24 (0, 0)) z16 hb); have b6 := aM (ae (g := bQ) (o := .cells #[.slice bV bI.length bR] 29 (0, 0)) z17 hb); have b9 := aM (ae (g := bW) (o := .cells #[.slice bY bP.length bX] 29 (0, 0)) z18 hb); have bm := aM (ae (g := bZ) (o := .cells #[.slice bT cJ.length bS] 29 (0, 0)) z19 hb); have bq := aM (ae (g := bN) (o := .cells #[.slice bE dC.length bB] 29 (0, 0)) z20 hb); have ci := aM (ae (g := bU) (o := .cells #[.slice bK d5.length bJ] 29 (0, 0)) z21 hb); have cX := aM (ae (g := cq) (o := .cells #[.slice cK dh.length cD] 29 (0, 0)) (by (with_reducible repeat (first | refine aq ?_ _ | refine ap ?_ | refine ar ?_ _)); exact b7.out) hb); have cW := aM (ae (g := cz) (o := .cells #[.slice cH dk.length cG] 29 (0, 0)) (by (with_reducible repeat (first | refine aq ?_ _ | refine ap ?_ | refine ar ?_ _)); exact b8.out) hb); have db := aM (ay z37 hb); clear a8; clear a7; clear a6; clear aZ; clear a5; clear cp; clear co; clear bd; clear bh; clear bi; clear bj; clear bc; clear bg; clear b7; clear b8; clear HB; have a8 := ba; have a7 := bb; have a6 := bf; have aZ := bk; have a5 := bn; have cp := br; have co := bM; have bd := b3; have bh := b6; have bi := b9; have bj := bm; have bc := bq; have bg := ci; have b7 := cX; have b8 := cW; have HB := db; clear ba bb bf bk bn br bM b3 b6 b9 bm bq ci cX cW db; (try clear hb); (try clear hb2); (try clear hk); (try clear hi); have hnb386 := dr.out; have hnc386 := df.out; have hnb387 := cS.out; have hnc387 := cB.out; have hnb388 := di.out; have hnc388 := cU.out; have hnb389 := dl.out; have hnc389 := da.out; have hnb390 := dU.out; have hnc390 := eC.out; have hnb391 := d6.out; have hnc391 := eN.out; have hcz392_0 : w385.cell? ⟨bU, 0, none⟩ = some (.slice bK d5.length bJ) := (bC bg.out 0).trans rfl; have hfz392_0 := bF bg.out 0) | ((with_reducible refine aJ (f := 28) rfl ?_); refine aQ (some 132) rfl rfl Try.func28 z1 rfl #[.agg #[.slice bK d5.length bJ], .int .i64 fK] rfl z25 ?_; (with_reducible refine (laws_heldRope.calls kj224 _ _ d5 fK ga _ ?side1 ?side2 pe.out).mono ?_); (case side1 => repeat (first | exact (ah a5.out).2.2 | (with_reducible refine aE ?_ _) | (with_reducible refine aG ?_ _) | (with_reducible refine aH ?_))); (case side2 => exact (ah a5.out).2.1); rintro e w393 ⟨rfl, hb⟩; refine ⟨_, rfl, ?_⟩; have ba := aM (af z6 hb); have bb := aM (af z7 hb); have bf := aM (af z8 hb); have bk := aM (af z9 hb); have bn := aM (af z10 hb); have br := aM (af (by (with_reducible repeat (first | apply ac | apply ab | apply aa)); exact cp.out) hb); have bM := aM (af (by (with_reducible repeat (first | apply ac | apply ab | apply aa)); exact co.out) hb); have b3 := aM (ae (g := bO) (o := .cells #[.slice bu l0_0.length bx] 24 (0, 0)) z16 hb); have b6 := aM (ae (g := bQ) (o := .cells #[.slice bV bI.length bR] 29 (0, 0)) z17 hb); have b9 := aM (ae (g := bW) (o := .cells #[.slice bY bP.length bX] 29 (0, 0)) z18 hb); have bm := aM (ae (g := bZ) (o := .cells #[.slice bT cJ.length bS] 29 (0, 0)) z19 hb); have bq := aM (ae (g := bN) (o := .cells #[.slice bE dC.length bB] 29 (0, 0)) z20 hb); have ci := aM (ae (g := bU) (o := .cells #[.slice bK d5.length bJ] 29 (0, 0)) z21 hb); have cX := aM (ae (g := cq) (o := .cells #[.slice cK dh.length cD] 29 (0, 0)) (by (with_reducible repeat (first | refine aq ?_ _ | refine ap ?_ | refine ar ?_ _)); exact b7.out) hb); have cW := aM (ae (g := cz) (o := .cells #[.slice cH dk.length cG] 29 (0, 0)) (by (with_reducible repeat (first | refine aq ?_ _ | refine ap ?_ | refine ar ?_ _)); exact b8.out) hb); have db := aM (ay z37 hb); clear a8; clear a7; clear a6; clear aZ; clear a5; clear cp; clear co; clear bd; clear bh; clear bi; clear bj; clear bc; clear bg; clear b7; clear b8; clear HB; have a8 := ba; have a7 := bb; have a6 := bf; have aZ := bk; have a5 := bn; have cp := br; have co := bM; have bd := b3; have bh := b6; have bi := b9; have bj := bm; have bc := bq; have bg := ci; have b7 := cX; have b8 := cW; have HB := db; clear ba bb bf bk bn br bM b3 b6 b9 bm bq ci cX cW db; (try clear hb); (try clear hb2); (try clear hk); (try clear hi)))
                   go_ret
                   exact ⟨y2, y29⟩
                 ·rw [if_neg lK] at H
                  have c376b0 : (ga == fQ) = false := qF lK
                  have c376b1 : (ga != fQ) = true := nT lK
                  first | (cases H.trans (congrArg some HRT.out); done) | skip
                  all_goals
                   obtain rfl := sI H
                   have hnb394 := de.out
                   have hnc394 := cO.out
                   have hnb395 := cN.out
                   have hnc395 := cy.out
                   have hnb396 := cT.out
                   have hnc396 := cA.out
                   have hnb397 := cZ.out
                   have hnc397 := cI.out
                   have hnb398 := cM.out
                   have hnc398 := cL.out
                   have hnb399 := dD.out
                   have hnc399 := ek.out
                   have hnb400 := dV.out
                   have hnc400 := eA.out
                   have hcz401_0 : wc.cell? ⟨bN, 0, none⟩ = some (.slice bE dC.length bB) := (bC bc.out 0).trans rfl
                   have hfz401_0 := bF bc.out 0
                   go_wp2_with (first | ((with_reducible refine aJ (f := 28) rfl ?_); refine aQ (some 127) rfl rfl Try.func28 z1 rfl #[.agg #[.slice bE dC.length bB], .int .i64 1] rfl z25 ?_; (with_reducible refine (laws_heldRope.calls kj224 _ _ dC 1 fK _ ?side1 ?side2 nR.out).mono ?_); (case side1 => repeat (first | exact (ah aZ.out).2.2 | (with_reducible refine aE ?_ _) | (with_reducible refine aG ?_ _) | (with_reducible refine aH ?_))); (case side2 => exact (ah aZ.out).2.1); rintro e w402 ⟨rfl, hb⟩; refine ⟨_, rfl, ?_⟩; have ba := aM (af z6 hb); have bb := aM (af z7 hb); have bf := aM (af z8 hb); have bk := aM (af z9 hb); have bn := aM (af z10 hb); have br := aM (af (by (with_reducible repeat (first | apply ac | apply ab | apply aa)); exact cp.out) hb); have bM := aM (af (by (with_reducible repeat (first | apply ac | apply ab | apply aa)); exact co.out) hb); have b3 := aM (ae (g := bO) (o := .cells #[.slice bu l0_0.length bx] 24 (0, 0)) z16 hb); have b6 := aM (ae (g := bQ) (o := .cells #[.slice bV bI.length bR] 29 (0, 0)) z17 hb); have b9 := aM (ae (g := bW) (o := .cells #[.slice bY bP.length bX] 29 (0, 0)) z18 hb); have bm := aM (ae (g := bZ) (o := .cells #[.slice bT cJ.length bS] 29 (0, 0)) z19 hb); have bq := aM (ae (g := bN) (o := .cells #[.slice bE dC.length bB] 29 (0, 0)) z20 hb); have ci := aM (ae (g := bU) (o := .cells #[.slice bK d5.length bJ] 29 (0, 0)) z21 hb); have cX := aM (ae (g := cq) (o := .cells #[.slice cK dh.length cD] 29 (0, 0)) (by (with_reducible repeat (first | refine aq ?_ _ | refine ap ?_ | refine ar ?_ _)); exact b7.out) hb); have cW := aM (ae (g := cz) (o := .cells #[.slice cH dk.length cG] 29 (0, 0)) (by (with_reducible repeat (first | refine aq ?_ _ | refine ap ?_ | refine ar ?_ _)); exact b8.out) hb); have db := aM (ay z37 hb); clear a8; clear a7; clear a6; clear aZ; clear a5; clear cp; clear co; clear bd; clear bh; clear bi; clear bj; clear bc; clear bg; clear b7; clear b8; clear HB; have a8 := ba; have a7 := bb; have a6 := bf; have aZ := bk; have a5 := bn; have cp := br; have co := bM; have bd := b3; have bh := b6; have bi := b9; have bj := bm; have bc := bq; have bg := ci; have b7 := cX; have b8 := cW; have HB := db; clear ba bb bf bk bn br bM b3 b6 b9 bm bq ci cX cW db; (try clear hb); (try clear hb2); (try clear hk); (try clear hi); have hnb403 := dr.out; have hnc403 := df.out; have hnb404 := cS.out; have hnc404 := cB.out; have hnb405 := di.out; have hnc405 := cU.out; have hnb406 := dl.out; have hnc406 := da.out; have hnb407 := dU.out; have hnc407 := eC.out; have hnb408 := d6.out; have hnc408 := eN.out; have hcz409_0 : w402.cell? ⟨bU, 0, none⟩ = some (.slice bK d5.length bJ) := (bC bg.out 0).trans rfl; have hfz409_0 := bF bg.out 0) | ((with_reducible refine aJ (f := 28) rfl ?_); refine aQ (some 132) rfl rfl Try.func28 z1 rfl #[.agg #[.slice bK d5.length bJ], .int .i64 fK] rfl z25 ?_; (with_reducible refine (laws_heldRope.calls kj224 _ _ d5 fK ga _ ?side1 ?side2 pe.out).mono ?_); (case side1 => repeat (first | exact (ah a5.out).2.2 | (with_reducible refine aE ?_ _) | (with_reducible refine aG ?_ _) | (with_reducible refine aH ?_))); (case side2 => exact (ah a5.out).2.1); rintro e w410 ⟨rfl, hb⟩; refine ⟨_, rfl, ?_⟩; have ba := aM (af z6 hb); have bb := aM (af z7 hb); have bf := aM (af z8 hb); have bk := aM (af z9 hb); have bn := aM (af z10 hb); have br := aM (af (by (with_reducible repeat (first | apply ac | apply ab | apply aa)); exact cp.out) hb); have bM := aM (af (by (with_reducible repeat (first | apply ac | apply ab | apply aa)); exact co.out) hb); have b3 := aM (ae (g := bO) (o := .cells #[.slice bu l0_0.length bx] 24 (0, 0)) z16 hb); have b6 := aM (ae (g := bQ) (o := .cells #[.slice bV bI.length bR] 29 (0, 0)) z17 hb); have b9 := aM (ae (g := bW) (o := .cells #[.slice bY bP.length bX] 29 (0, 0)) z18 hb); have bm := aM (ae (g := bZ) (o := .cells #[.slice bT cJ.length bS] 29 (0, 0)) z19 hb); have bq := aM (ae (g := bN) (o := .cells #[.slice bE dC.length bB] 29 (0, 0)) z20 hb); have ci := aM (ae (g := bU) (o := .cells #[.slice bK d5.length bJ] 29 (0, 0)) z21 hb); have cX := aM (ae (g := cq) (o := .cells #[.slice cK dh.length cD] 29 (0, 0)) (by (with_reducible repeat (first | refine aq ?_ _ | refine ap ?_ | refine ar ?_ _)); exact b7.out) hb); have cW := aM (ae (g := cz) (o := .cells #[.slice cH dk.length cG] 29 (0, 0)) (by (with_reducible repeat (first | refine aq ?_ _ | refine ap ?_ | refine ar ?_ _)); exact b8.out) hb); have db := aM (ay z37 hb); clear a8; clear a7; clear a6; clear aZ; clear a5; clear cp; clear co; clear bd; clear bh; clear bi; clear bj; clear bc; clear bg; clear b7; clear b8; clear HB; have a8 := ba; have a7 := bb; have a6 := bf; have aZ := bk; have a5 := bn; have cp := br; have co := bM; have bd := b3; have bh := b6; have bi := b9; have bj := bm; have bc := bq; have bg := ci; have b7 := cX; have b8 := cW; have HB := db; clear ba bb bf bk bn br bM b3 b6 b9 bm bq ci cX cW db; (try clear hb); (try clear hb2); (try clear hk); (try clear hi)))
                   go_ret
                   exact ⟨y2, y29⟩
           ·rw [if_neg ln] at H
            have c222b0 : (gc == fQ) = false := qF ln
            have c222b1 : (gc != fQ) = true := nT ln
            first | (cases H.trans (congrArg some HRT.out); done) | skip
            all_goals
             obtain rfl := sI H
             have hnb411 := de.out
             have hnc411 := cO.out
             have hnb412 := cN.out
             have hnc412 := cy.out
             have hnb413 := cT.out
             have hnc413 := cA.out
             have hnb414 := cZ.out
             have hnc414 := cI.out
             have hnb415 := cM.out
             have hnc415 := cL.out
             have hcz416_0 : wc.cell? ⟨bN, 0, none⟩ = some (.slice bE bz.length bB) := (bC bc.out 0).trans rfl
             have hfz416_0 := bF bc.out 0
             go_wp2_with (first | ((with_reducible refine aJ (f := 27) rfl ?_); refine aQ (some 85) rfl rfl Try.func27 z1 rfl #[.agg #[.slice bE bz.length bB], .int .i64 1] rfl z25 ?_; (with_reducible refine (laws_markRope.calls kj113 (fun k_ => some k_ = (.slice bE bz.length bB : Value).ownBlock) (.slice bE bz.length bB) bz 1 hD dC w _ ?side1 ?side2 nV.out).mono ?_); (case side1 => repeat (first | (with_reducible first | exact HB.out | apply bA | apply pD | apply bD | refine ax ?_ dj.out | refine ax ?_ dZ.out | refine ax ?_ eg.out | refine ax ?_ e7.out | refine ax ?_ e6.out | refine ax ?_ fm.out) | exact HB.out)); (case side2 => exact Kd.R_tight rfl aZ.out); rintro e w417 ⟨rfl, hy0, hb, hkp⟩; refine ⟨_, rfl, ?_⟩; have ba := aM (ag (ok' := fun k_ => some k_ ≠ (.slice bY bP.length bX : Value).ownBlock ∧ some k_ ≠ (.slice bT cJ.length bS : Value).ownBlock ∧ some k_ ≠ (.slice bE bz.length bB : Value).ownBlock ∧ some k_ ≠ (.slice bK bG.length bJ : Value).ownBlock) (Kd.R_keptB (a8.out) hkp (fun k_ hk_ hs_ => (hk_.2.2.1) hs_)) (fun k_ hk_ => ⟨hk_.1.1, hk_.1.2.1, hk_.1.2.2.1, hk_.1.2.2.2⟩)); have bb := aM (ag (ok' := fun k_ => some k_ ≠ (.slice bV bI.length bR : Value).ownBlock ∧ some k_ ≠ (.slice bT cJ.length bS : Value).ownBlock ∧ some k_ ≠ (.slice bE bz.length bB : Value).ownBlock ∧ some k_ ≠ (.slice bK bG.length bJ : Value).ownBlock) (Kd.R_keptB (a7.out) hkp (fun k_ hk_ hs_ => (hk_.2.2.1) hs_)) (fun k_ hk_ => ⟨hk_.1.1, hk_.1.2.1, hk_.1.2.2.1, hk_.1.2.2.2⟩)); have bf := aM (ag (ok' := fun k_ => some k_ ≠ (.slice bV bI.length bR : Value).ownBlock ∧ some k_ ≠ (.slice bY bP.length bX : Value).ownBlock ∧ some k_ ≠ (.slice bE bz.length bB : Value).ownBlock ∧ some k_ ≠ (.slice bK bG.length bJ : Value).ownBlock) (Kd.R_keptB (a6.out) hkp (fun k_ hk_ hs_ => (hk_.2.2.1) hs_)) (fun k_ hk_ => ⟨hk_.1.1, hk_.1.2.1, hk_.1.2.2.1, hk_.1.2.2.2⟩)); have bk := aM (Kd.R_reok rfl hy0 (fun k_ e_ => aZ.out.1 k_ e_)); have bn := aM (ag (ok' := fun k_ => some k_ ≠ (.slice bV bI.length bR : Value).ownBlock ∧ some k_ ≠ (.slice bY bP.length bX : Value).ownBlock ∧ some k_ ≠ (.slice bT cJ.length bS : Value).ownBlock ∧ some k_ ≠ (.slice bE bz.length bB : Value).ownBlock) (Kd.R_keptB (a5.out) hkp (fun k_ hk_ hs_ => (hk_.2.2.2) hs_)) (fun k_ hk_ => ⟨hk_.1.1, hk_.1.2.1, hk_.1.2.2.1, hk_.1.2.2.2⟩)); have br := aM (blk_kept z16 hkp (fun hs_ => (fun e_ => (aI aZ.out bd.out z0) e_) hs_)); have bM := aM (blk_kept z17 hkp (fun hs_ => (fun e_ => (aI aZ.out bh.out z0) e_) hs_)); have b3 := aM (blk_kept z18 hkp (fun hs_ => (fun e_ => (aI aZ.out bi.out z0) e_) hs_)); have b6 := aM (blk_kept z19 hkp (fun hs_ => (fun e_ => (aI aZ.out bj.out z0) e_) hs_)); have b9 := aM (blk_kept z20 hkp (fun hs_ => (fun e_ => (aI aZ.out bc.out z0) e_) hs_)); have bm := aM (blk_kept z21 hkp (fun hs_ => (fun e_ => (aI aZ.out bg.out z0) e_) hs_)); have bq := aM (hb); clear a8; clear a7; clear a6; clear aZ; clear a5; clear bd; clear bh; clear bi; clear bj; clear bc; clear bg; clear HB; have a8 := ba; have a7 := bb; have a6 := bf; have aZ := bk; have a5 := bn; have bd := br; have bh := bM; have bi := b3; have bj := b6; have bc := b9; have bg := bm; have HB := bq; clear ba bb bf bk bn br bM b3 b6 b9 bm bq; (try clear hb); (try clear hkp); (try clear hy0); have hnb418 := dr.out; have hnc418 := df.out; have hnb419 := cS.out; have hnc419 := cB.out; have hnb420 := di.out; have hnc420 := cU.out; have hnb421 := dl.out; have hnc421 := da.out; have hcz422_0 : w417.cell? ⟨bU, 0, none⟩ = some (.slice bK bG.length bJ) := (bC bg.out 0).trans rfl; have hfz422_0 := bF bg.out 0) | ((with_reducible refine aJ (f := 27) rfl ?_); refine aQ (some 88) rfl rfl Try.func27 z1 rfl #[.agg #[.slice bK bG.length bJ], .int .i64 hD] rfl z25 ?_; (with_reducible refine (laws_markRope.calls kj113 (fun k_ => some k_ = (.slice bK bG.length bJ : Value).ownBlock) (.slice bK bG.length bJ) bG hD fQ d5 w _ ?side1 ?side2 nU.out).mono ?_); (case side1 => repeat (first | (with_reducible first | exact HB.out | apply bA | apply pD | apply bD | refine ax ?_ dj.out | refine ax ?_ dZ.out | refine ax ?_ eg.out | refine ax ?_ e7.out | refine ax ?_ e6.out | refine ax ?_ fm.out) | exact HB.out)); (case side2 => exact Kd.R_tight rfl a5.out); rintro e w423 ⟨rfl, hy0, hb, hkp⟩; refine ⟨_, rfl, ?_⟩; have ba := aM (ag (ok' := fun k_ => some k_ ≠ (.slice bY bP.length bX : Value).ownBlock ∧ some k_ ≠ (.slice bT cJ.length bS : Value).ownBlock ∧ some k_ ≠ (.slice bE bz.length bB : Value).ownBlock ∧ some k_ ≠ (.slice bK bG.length bJ : Value).ownBlock) (Kd.R_keptB (a8.out) hkp (fun k_ hk_ hs_ => (hk_.2.2.2) hs_)) (fun k_ hk_ => ⟨hk_.1.1, hk_.1.2.1, hk_.1.2.2.1, hk_.1.2.2.2⟩)); have bb := aM (ag (ok' := fun k_ => some k_ ≠ (.slice bV bI.length bR : Value).ownBlock ∧ some k_ ≠ (.slice bT cJ.length bS : Value).ownBlock ∧ some k_ ≠ (.slice bE bz.length bB : Value).ownBlock ∧ some k_ ≠ (.slice bK bG.length bJ : Value).ownBlock) (Kd.R_keptB (a7.out) hkp (fun k_ hk_ hs_ => (hk_.2.2.2) hs_)) (fun k_ hk_ => ⟨hk_.1.1, hk_.1.2.1, hk_.1.2.2.1, hk_.1.2.2.2⟩)); have bf := aM (ag (ok' := fun k_ => some k_ ≠ (.slice bV bI.length bR : Value).ownBlock ∧ some k_ ≠ (.slice bY bP.length bX : Value).ownBlock ∧ some k_ ≠ (.slice bE bz.length bB : Value).ownBlock ∧ some k_ ≠ (.slice bK bG.length bJ : Value).ownBlock) (Kd.R_keptB (a6.out) hkp (fun k_ hk_ hs_ => (hk_.2.2.2) hs_)) (fun k_ hk_ => ⟨hk_.1.1, hk_.1.2.1, hk_.1.2.2.1, hk_.1.2.2.2⟩)); have bk := aM (ag (ok' := fun k_ => some k_ ≠ (.slice bV bI.length bR : Value).ownBlock ∧ some k_ ≠ (.slice bY bP.length bX : Value).ownBlock ∧ some k_ ≠ (.slice bT cJ.length bS : Value).ownBlock ∧ some k_ ≠ (.slice bK bG.length bJ : Value).ownBlock) (Kd.R_keptB (aZ.out) hkp (fun k_ hk_ hs_ => (hk_.2.2.2) hs_)) (fun k_ hk_ => ⟨hk_.1.1, hk_.1.2.1, hk_.1.2.2.1, hk_.1.2.2.2⟩)); have bn := aM (Kd.R_reok rfl hy0 (fun k_ e_ => a5.out.1 k_ e_)); have br := aM (blk_kept z16 hkp (fun hs_ => (fun e_ => (aI a5.out bd.out z0) e_) hs_)); have bM := aM (blk_kept z17 hkp (fun hs_ => (fun e_ => (aI a5.out bh.out z0) e_) hs_)); have b3 := aM (blk_kept z18 hkp (fun hs_ => (fun e_ => (aI a5.out bi.out z0) e_) hs_)); have b6 := aM (blk_kept z19 hkp (fun hs_ => (fun e_ => (aI a5.out bj.out z0) e_) hs_)); have b9 := aM (blk_kept z20 hkp (fun hs_ => (fun e_ => (aI a5.out bc.out z0) e_) hs_)); have bm := aM (blk_kept z21 hkp (fun hs_ => (fun e_ => (aI a5.out bg.out z0) e_) hs_)); have bq := aM (hb); clear a8; clear a7; clear a6; clear aZ; clear a5; clear bd; clear bh; clear bi; clear bj; clear bc; clear bg; clear HB; have a8 := ba; have a7 := bb; have a6 := bf; have aZ := bk; have a5 := bn; have bd := br; have bh := bM; have bi := b3; have bj := b6; have bc := b9; have bg := bm; have HB := bq; clear ba bb bf bk bn br bM b3 b6 b9 bm bq; (try clear hb); (try clear hkp); (try clear hy0); have hcz424_0 : w423.cell? ⟨bN, 0, none⟩ = some (.slice bE bz.length bB) := (bC bc.out 0).trans rfl; have hfz424_0 := bF bc.out 0) | ((with_reducible refine aJ (f := 28) rfl ?_); refine aQ (some 91) rfl rfl Try.func28 z1 rfl #[.agg #[.slice bE dC.length bB], .int .i64 1] rfl (by (try simp only [List.map_toArray, List.map_cons, List.map_nil]); first | done | (rw [show dC.length = bz.length from (ah aZ.out).1.symm] <;> rfl) | rfl | (simp only [List.length_drop, List.length_take]; rfl)) ?_; (with_reducible refine (laws_heldRope.calls kj113 _ _ dC 1 fL _ ?side1 ?side2 nS.out).mono ?_); (case side1 => repeat (first | exact (ah aZ.out).2.2 | (with_reducible refine aE ?_ _) | (with_reducible refine aG ?_ _) | (with_reducible refine aH ?_))); (case side2 => rw [show dC.length = bz.length from (ah aZ.out).1.symm]; exact (ah aZ.out).2.1); rintro e w425 ⟨rfl, hb⟩; refine ⟨_, rfl, ?_⟩; have ba := aM (af z6 hb); have bb := aM (af z7 hb); have bf := aM (af z8 hb); have bk := aM (af z9 hb); have bn := aM (af z10 hb); have br := aM (ae (g := bO) (o := .cells #[.slice bu l0_0.length bx] 24 (0, 0)) z16 hb); have bM := aM (ae (g := bQ) (o := .cells #[.slice bV bI.length bR] 29 (0, 0)) z17 hb); have b3 := aM (ae (g := bW) (o := .cells #[.slice bY bP.length bX] 29 (0, 0)) z18 hb); have b6 := aM (ae (g := bZ) (o := .cells #[.slice bT cJ.length bS] 29 (0, 0)) z19 hb); have b9 := aM (ae (g := bN) (o := .cells #[.slice bE bz.length bB] 29 (0, 0)) z20 hb); have bm := aM (ae (g := bU) (o := .cells #[.slice bK bG.length bJ] 29 (0, 0)) z21 hb); have bq := aM (ay z35 hb); clear a8; clear a7; clear a6; clear aZ; clear a5; clear bd; clear bh; clear bi; clear bj; clear bc; clear bg; clear HB; have a8 := ba; have a7 := bb; have a6 := bf; have aZ := bk; have a5 := bn; have bd := br; have bh := bM; have bi := b3; have bj := b6; have bc := b9; have bg := bm; have HB := bq; clear ba bb bf bk bn br bM b3 b6 b9 bm bq; (try clear hb); (try clear hb2); (try clear hk); (try clear hi); have hcz426_0 : w425.cell? ⟨bU, 0, none⟩ = some (.slice bK bG.length bJ) := (bC bg.out 0).trans rfl; have hfz426_0 := bF bg.out 0) | ((with_reducible refine aJ (f := 28) rfl ?_); refine aQ (some 96) rfl rfl Try.func28 z1 rfl #[.agg #[.slice bK d5.length bJ], .int .i64 fL] rfl (by (try simp only [List.map_toArray, List.map_cons, List.map_nil]); first | done | (rw [show d5.length = bG.length from (ah a5.out).1.symm] <;> rfl) | rfl | (simp only [List.length_drop, List.length_take]; rfl)) ?_; (with_reducible refine (laws_heldRope.calls kj113 _ _ d5 fL gc _ ?side1 ?side2 pg.out).mono ?_); (case side1 => repeat (first | exact (ah a5.out).2.2 | (with_reducible refine aE ?_ _) | (with_reducible refine aG ?_ _) | (with_reducible refine aH ?_))); (case side2 => rw [show d5.length = bG.length from (ah a5.out).1.symm]; exact (ah a5.out).2.1); rintro e w427 ⟨rfl, hb⟩; refine ⟨_, rfl, ?_⟩; have ba := aM (af z6 hb); have bb := aM (af z7 hb); have bf := aM (af z8 hb); have bk := aM (af z9 hb); have bn := aM (af z10 hb); have br := aM (ae (g := bO) (o := .cells #[.slice bu l0_0.length bx] 24 (0, 0)) z16 hb); have bM := aM (ae (g := bQ) (o := .cells #[.slice bV bI.length bR] 29 (0, 0)) z17 hb); have b3 := aM (ae (g := bW) (o := .cells #[.slice bY bP.length bX] 29 (0, 0)) z18 hb); have b6 := aM (ae (g := bZ) (o := .cells #[.slice bT cJ.length bS] 29 (0, 0)) z19 hb); have b9 := aM (ae (g := bN) (o := .cells #[.slice bE bz.length bB] 29 (0, 0)) z20 hb); have bm := aM (ae (g := bU) (o := .cells #[.slice bK bG.length bJ] 29 (0, 0)) z21 hb); have bq := aM (ay z35 hb); clear a8; clear a7; clear a6; clear aZ; clear a5; clear bd; clear bh; clear bi; clear bj; clear bc; clear bg; clear HB; have a8 := ba; have a7 := bb; have a6 := bf; have aZ := bk; have a5 := bn; have bd := br; have bh := bM; have bi := b3; have bj := b6; have bc := b9; have bg := bm; have HB := bq; clear ba bb bf bk bn br bM b3 b6 b9 bm bq; (try clear hb); (try clear hb2); (try clear hk); (try clear hi)))
             go_ret
             exact ⟨y2, y28⟩
     ·replace mO := Bool.eq_false_iff.mpr mO
      subst mO
      rw [if_neg (show ¬ (false = true) by decide)] at H
      first | (cases H.trans (congrArg some HRT.out); done) | skip
      all_goals
       obtain rfl := sI H
       try go_wp2
       have ba := aM (aa a8.out)
       have bb := aM (aa a7.out)
       have bf := aM (aa a6.out)
       have bk := aM (aa aZ.out)
       have bn := aM (aa a5.out)
       have br := aM (ap bd.out)
       have bM := aM (ap bh.out)
       have b3 := aM (ap bi.out)
       have b6 := aM (ap bj.out)
       have b9 := aM (ap bc.out)
       have bm := aM (ap bg.out)
       have bq := aM (bD HB.out)
       clear a8
       clear a7
       clear a6
       clear aZ
       clear a5
       clear bd
       clear bh
       clear bi
       clear bj
       clear bc
       clear bg
       clear HB
       have a8 := ba
       have a7 := bb
       have a6 := bf
       have aZ := bk
       have a5 := bn
       have bd := br
       have bh := bM
       have bi := b3
       have bj := b6
       have bc := b9
       have bg := bm
       have HB := bq
       clear ba bb bf bk bn br bM b3 b6 b9 bm bq
       refine start_ (n := 5) (S := fun w' => w'.cell? ⟨bZ, 0, none⟩ = some (.slice bT cr.length bS) ∧ w'.cell? ⟨bO, 0, none⟩ = some (.slice bu l0_0.length bx)) (ds := []) #[false, false, false, false, false] z1 rfl rfl ⟨(bC bj.out 0).trans rfl, (bC bd.out 0).trans rfl⟩ (fun hHeld => ?_)
       generalize wc.drew = w428 at a8 a7 a6 aZ a5 bd bh bi bj bc bg HB hHeld ⊢
       refine tA 0 56 ?_ (hy := by rintro w' ⟨s0, s1⟩; go_simp; with_reducible rfl)
       refine tA 1 57 ?_ (hy := by rintro w' ⟨s0, s1⟩; go_simp; with_reducible rfl)
       refine one_ (i := 2) (N := some 58) #[true, true, true, false, false] rfl rfl z1 z0 (fun K hK => ?_)
       refine goes_ Try.func16 z1 rfl #[.agg #[.slice bu l0_0.length bx]] (by rfl) rfl rfl z25 ?_
       with_reducible refine (laws_toRope.calls kj11 _ _ l0_0 hH _ ?side1 ?side2 nE.out).mono ?_
       (case side1 => repeat (first | exact (aD eb.out HB.out) | (with_reducible refine aE ?_ _) | (with_reducible refine aG ?_ _) | (with_reducible refine aH ?_)))
       (case side2 => exact ee.out)
       rintro e w429 ⟨v305, rfl, ho0, hb⟩
       refine ⟨_, rfl, ?_⟩
       have ba := aM (ai z6 (ak ho0) hb)
       have bb := aM (ai z7 (ak ho0) hb)
       have bf := aM (ai z8 (ak ho0) hb)
       have bk := aM (ai z9 (ak ho0) hb)
       have bn := aM (ai z10 (ak ho0) hb)
       have br := aM (aU (aj (aj (aj (aj (aj ho0 (al z6)) (al z7)) (al z8)) (al z9)) (al z10)) (az z35))
       have bM := aM (ae (g := bO) (o := .cells #[.slice bu l0_0.length bx] 24 (0, 0)) z16 hb)
       have b3 := aM (ae (g := bQ) (o := .cells #[.slice bV bI.length bR] 29 (0, 0)) z17 hb)
       have b6 := aM (ae (g := bW) (o := .cells #[.slice bY bP.length bX] 29 (0, 0)) z18 hb)
       have b9 := aM (ae (g := bZ) (o := .cells #[.slice bT cr.length bS] 29 (0, 0)) z19 hb)
       have bm := aM (ae (g := bN) (o := .cells #[.slice bE bz.length bB] 29 (0, 0)) z20 hb)
       have bq := aM (ae (g := bU) (o := .cells #[.slice bK bG.length bJ] 29 (0, 0)) z21 hb)
       have ci := aM (ay z35 hb)
       clear a8
       clear a7
       clear a6
       clear aZ
       clear a5
       clear bd
       clear bh
       clear bi
       clear bj
       clear bc
       clear bg
       clear HB
       have a8 := ba
       have a7 := bb
       have a6 := bf
       have aZ := bk
       have a5 := bn
       have dm := br
       have bd := bM
       have bh := b3
       have bi := b6
       have bj := b9
       have bc := bm
       have bg := bq
       have HB := ci
       clear ba bb bf bk bn br bM b3 b6 b9 bm bq ci
       (try clear hb)
       (try clear hb2)
       (try clear hk)
       (try clear hi)
       (try clear ho0)
       obtain ⟨Ao430, co430, eo430⟩ := Kd.R_slice dm.out
       (first | subst eo430 | (injection eo430 with f1_ f2_ f3_; have f4_ := f1_.symm; have f5_ := f3_.symm; clear f1_ f2_ f3_; subst f4_; subst f5_))
       refine hK.out _ _ ⟨(bC bj.out 0).trans rfl, (bC bd.out 0).trans rfl⟩ (fun hHeld => ?_)
       clear hK K
       refine norm_ (a' := ?_) ?_ ?_
       rotate_left
       ·show Act.put _ (some 58) _ = _
        simp only [Act.put, sA, sB, sC, i64_w, i32_w]
        rfl
       refine one_ (i := 3) (N := some 59) #[true, true, true, true, false] rfl rfl z1 z0 (fun K hK => ?_)
       refine goes_ Try.func18 z1 rfl #[.agg #[.slice bT cr.length bS], .agg #[.slice Ao430 hH.length co430]] (by rfl) rfl rfl z25 ?_
       with_reducible refine (laws_eqRope.calls kj11 _ _ cr _ _ hH false _ ?side1 ?side2 ?side3 ?side4 qd.out).mono ?_
       (case side1 => repeat (first | exact (ah a6.out).2.2 | (with_reducible refine aE ?_ _) | (with_reducible refine aG ?_ _) | (with_reducible refine aH ?_)))
       (case side2 => exact (ah a6.out).2.1)
       (case side3 => repeat (first | exact (ah dm.out).2.2 | (with_reducible refine aE ?_ _) | (with_reducible refine aG ?_ _) | (with_reducible refine aH ?_)))
       (case side4 => exact (ah dm.out).2.1)
       rintro e w431 ⟨rfl, hb⟩
       refine ⟨_, rfl, ?_⟩
       have ba := aM (af z6 hb)
       have bb := aM (af z7 hb)
       have bf := aM (af z8 hb)
       have bk := aM (af z9 hb)
       have bn := aM (af z10 hb)
       have br := aM (af (by (with_reducible repeat (first | apply ac | apply ab | apply aa)); exact dm.out) hb)
       have bM := aM (ae (g := bO) (o := .cells #[.slice bu l0_0.length bx] 24 (0, 0)) z16 hb)
       have b3 := aM (ae (g := bQ) (o := .cells #[.slice bV bI.length bR] 29 (0, 0)) z17 hb)
       have b6 := aM (ae (g := bW) (o := .cells #[.slice bY bP.length bX] 29 (0, 0)) z18 hb)
       have b9 := aM (ae (g := bZ) (o := .cells #[.slice bT cr.length bS] 29 (0, 0)) z19 hb)
       have bm := aM (ae (g := bN) (o := .cells #[.slice bE bz.length bB] 29 (0, 0)) z20 hb)
       have bq := aM (ae (g := bU) (o := .cells #[.slice bK bG.length bJ] 29 (0, 0)) z21 hb)
       have ci := aM (ay z35 hb)
       clear a8
       clear a7
       clear a6
       clear aZ
       clear a5
       clear dm
       clear bd
       clear bh
       clear bi
       clear bj
       clear bc
       clear bg
       clear HB
       have a8 := ba
       have a7 := bb
       have a6 := bf
       have aZ := bk
       have a5 := bn
       have dm := br
       have bd := bM
       have bh := b3
       have bi := b6
       have bj := b9
       have bc := bm
       have bg := bq
       have HB := ci
       clear ba bb bf bk bn br bM b3 b6 b9 bm bq ci
       (try clear hb)
       (try clear hb2)
       (try clear hk)
       (try clear hi)
       refine hK.out _ _ ⟨(bC bj.out 0).trans rfl, (bC bd.out 0).trans rfl⟩ (fun hHeld => ?_)
       clear hK K
       refine norm_ (a' := ?_) ?_ ?_
       rotate_left
       ·show Act.put _ (some 59) _ = _
        simp only [Act.put, sA, sB, sC, i64_w, i32_w]
        rfl
       refine pA 4 60 ?_
       refine done_ z1 ?_
       try go_wp2
       go_ret
       exact ⟨y2, y28⟩

/-! ### What an argument's reading gives: a value of its kind -/
section
open Go.ChangeShapes Go.WideShapes Go.Deep
/-- A value of type t, as an argument's reading has it, is of kind d, and G if the argument's weights are within reach. -/
structure Opens (P : Program) (t : TypeId) {α : Type} (d : Kd α) (G : α → Prop) : Prop where
 out : ∀ {H : Type} {enc : TypeId × Value → H} {w : World} {base : Nat} {spare : Nat → Bool} {held : Bool} {fuel : Nat} {cs : List Value} {x : DataW H × List MemPlace},
  DataW.trod enc P w base spare held fuel t cs = some x → ∃ a, d.K w a cs ∧ ((x.1.weights P t).all (· ≤ reachBytes) = true → G a)
/-- The same for fields in line, from a cell on. -/
structure OpensL (P : Program) (fs : List Field) (off : Nat) {α : Type} (d : Kd α) (G : α → Prop) : Prop where
 out : ∀ {H : Type} {enc : TypeId × Value → H} {w : World} {base : Nat} {spare : Nat → Bool} {held : Bool} {n : Nat} {cs : List Value} {xs : List (DataW H × List MemPlace)},
  cs.length = off + d.sz → xs.length = fs.length → (∀ (i : Nat) (f : Field), fs[i]? = some f → DataW.trod enc P w base spare held n f.type ((cs.drop f.offset).take (P.cellsOf f.type)) = xs[i]?) →
  ∃ a, d.K w a (cs.drop off) ∧ ((DataW.weightsEach P (fs.map (·.type)) (xs.map (·.1))).all (· ≤ reachBytes) = true → G a)
theorem reach_eq : reachBytes = 140737488351232 := by first | rfl | decide
theorem opens_int {P : Program} {t : TypeId} {k : IntKind} (ht : P.underlying t = some (.int k)) : Opens P t (Kd.int k) (fun n => (Lit.int k n).wf = true) := by
 constructor
 intro H enc w base spare held fuel cs x h
 obtain ⟨n, rfl, rfl, hw⟩ := DataW.trod_int ht h
 exact ⟨n, rfl, fun _ => hw⟩
theorem opens_bool {P : Program} {t : TypeId} (ht : P.underlying t = some .bool) : Opens P t Kd.bool (fun _ => True) := by
 constructor
 intro H enc w base spare held fuel cs x h
 obtain ⟨n, rfl, _⟩ := DataW.trod_bool ht h
 exact ⟨n, rfl, fun _ => trivial⟩
theorem opens_string {P : Program} {t : TypeId} (ht : P.underlying t = some .string) : Opens P t Kd.string (fun s => s.size ≤ 140737488351232) := by
 constructor
 intro H enc w base spare held fuel cs x h
 obtain ⟨s, rfl, rfl, _⟩ := DataW.trod_string ht h
 refine ⟨s, rfl, fun hw => ?_⟩
 simp only [DataW.weights, List.all_cons, List.all_nil, Bool.and_true, decide_eq_true_eq, Array.length_toList] at hw
 rw [reach_eq] at hw
 exact hw
theorem weightsAll_mem {H : Type} {P : Program} {e : TypeId} : ∀ {ds : List (DataW H)} {d : DataW H}, d ∈ ds → (DataW.weightsAll P e ds).all (· ≤ reachBytes) = true → (d.weights P e).all (· ≤ reachBytes) = true
 | _ :: _, _, .head _, h => by
  simp only [DataW.weightsAll, List.all_append, Bool.and_eq_true] at h
  exact h.1
 | _ :: _, _, .tail _ hm, h => by
  simp only [DataW.weightsAll, List.all_append, Bool.and_eq_true] at h
  exact weightsAll_mem hm h.2
theorem opens_list {α : Type} (Q : Nat → α → Prop) (n : Nat) (h : ∀ i, i < n → ∃ a, Q i a) : ∃ l : List α, l.length = n ∧ ∀ i a, l[i]? = some a → Q i a := by
 induction n with
 | zero => exact ⟨[], rfl, fun i a hi => by simp at hi⟩
 | succ n ih =>
  obtain ⟨l, hl, hq⟩ := ih (fun i hi => h i (by omega))
  obtain ⟨a, ha⟩ := h n (by omega)
  refine ⟨l ++ [a], by simp [hl], fun i b hi => ?_⟩
  by_cases hin : i < n
  ·rw [List.getElem?_append_left (by omega)] at hi
   exact hq i b hi
  ·obtain ⟨hlt, _⟩ := List.getElem?_eq_some_iff.1 hi
   have e : i = l.length := by simp at hlt; omega
   subst e
   rw [List.getElem?_append_right (Nat.le_refl _)] at hi
   simp at hi
   subst hi
   rw [hl]
   exact ha
theorem opens_slice {P : Program} {t e : TypeId} {α : Type} {d : Kd α} {G : α → Prop} {B : Nat} (q : Nat) (ht : P.underlying t = some (.slice e)) (hc : P.cellsOf e = d.sz) (hB : P.bytesOf e = B) (he : Opens P e d G) :
  Opens P t (Kd.slice q d) (fun l => l.length ≤ maxLen ∧ l.length * B ≤ 140737488351232 ∧ ∀ x ∈ l, G x) := by
 constructor
 intro H enc w base spare held fuel cs x h
 rcases open_slice ht h with ⟨rfl, rfl⟩ | ⟨a, len, cap, m, n, D, Pl, rfl, hb, hl, hm, hmm, rfl, hi⟩
 ·exact ⟨[], ⟨none, 0, rfl, Nat.le_refl _, Kd.C_nil _ _⟩, fun _ => ⟨Nat.zero_le _, by simp, fun x hx => by simp at hx⟩⟩
 ·have hlm : len ≤ m := by rw [hmm]; split <;> omega
  obtain ⟨l, hll, hlq⟩ := opens_list (fun i a_ => ∃ cs', w.cells? base (a.add (i * P.cellsOf e)) (P.cellsOf e) = some cs' ∧ d.K w a_ cs' ∧ (((D i).weights P e).all (· ≤ reachBytes) = true → G a_)) len (fun i hil => by
   obtain ⟨cs', hc1, ht1⟩ := hi i (by omega)
   obtain ⟨a_, hk, hg⟩ := he.out ht1
   exact ⟨a_, cs', hc1, hk, hg⟩)
  refine ⟨l, ⟨some a, cap, by rw [hll], by omega, ⟨rfl, ?_, fun _ => ⟨a, rfl, fun j p hj => ?_⟩⟩⟩, fun hw => ?_⟩
  ·rw [hll]
   have hmx : maxLen ≤ 9223372036854775807 := by first | decide | (unfold maxLen; omega)
   omega
  ·obtain ⟨cs', hc1, hk, _⟩ := hlq j p hj
   obtain ⟨_, hcl, hat⟩ := World.cells?_some hc1
   refine ⟨cs', d.K_len hk, hk, fun i u hu => ?_⟩
   obtain ⟨hlt, _⟩ := List.getElem?_eq_some_iff.1 hu
   have := hat i (by omega)
   rw [← Go.Deep.add_add, ← hc, this, hu]
  ·simp only [DataW.weights, ht, List.all_cons, List.all_append, Bool.and_eq_true, decide_eq_true_eq, List.length_map, List.length_range] at hw
   obtain ⟨hw1, hw2, _⟩ := hw
   rw [reach_eq, hB] at hw1
   refine ⟨by omega, ?_, fun x hx => ?_⟩
   ·rw [hll]
    exact Nat.le_trans (Nat.mul_le_mul_right _ (by omega)) hw1
   ·obtain ⟨j, hj⟩ := List.getElem?_of_mem hx
    obtain ⟨cs', _, _, hg⟩ := hlq j x hj
    obtain ⟨hlt, _⟩ := List.getElem?_eq_some_iff.1 hj
    exact hg (weightsAll_mem (List.mem_map.2 ⟨j, List.mem_range.2 (by omega), rfl⟩) hw2)
theorem opensL_one {P : Program} {f : Field} {off : Nat} {α : Type} {d : Kd α} {G : α → Prop} (ho : f.offset = off) (hc : P.cellsOf f.type = d.sz) (h : Opens P f.type d G) : OpensL P [f] off d G := by
 constructor
 intro H enc w base spare held n cs xs hl hx hr
 match xs, hx with
 | [x], _ =>
  have h0 := hr 0 f rfl
  rw [ho, hc, List.take_of_length_le (by rw [List.length_drop]; omega)] at h0
  obtain ⟨a, hk, hg⟩ := h.out h0
  refine ⟨a, hk, fun hw => hg ?_⟩
  simpa [DataW.weightsEach] using hw
theorem opensL_cons {P : Program} {f : Field} {fs : List Field} {off : Nat} {α β : Type} {d : Kd α} {d' : Kd β} {G : α → Prop} {G' : β → Prop} (ho : f.offset = off) (hc : P.cellsOf f.type = d.sz) (h : Opens P f.type d G) (h' : OpensL P fs (off + d.sz) d' G') :
  OpensL P (f :: fs) off (Kd.pair d d') (fun p => G p.1 ∧ G' p.2) := by
 constructor
 intro H enc w base spare held n cs xs hl hx hr
 match xs, hx with
 | x :: xs, hx =>
  have hl' : cs.length = off + (d.sz + d'.sz) := hl
  have h0 := hr 0 f rfl
  rw [ho, hc] at h0
  obtain ⟨a, hk, hg⟩ := h.out h0
  obtain ⟨b, hk', hg'⟩ := h'.out (enc := enc) (w := w) (base := base) (spare := spare) (held := held) (n := n) (cs := cs) (xs := xs) (by omega) (by simpa using hx) (fun i g hi => by simpa using hr (i + 1) g (by simpa using hi))
  refine ⟨(a, b), ⟨_, _, ?_, hk, hk'⟩, fun hw => ?_⟩
  ·rw [← List.drop_drop, List.take_append_drop]
  ·simp only [List.map_cons, DataW.weightsEach, List.all_append, Bool.and_eq_true] at hw
   exact ⟨hg hw.1, hg' hw.2⟩
theorem opens_struct {P : Program} {t : TypeId} {fs : Array Field} {α : Type} {d : Kd α} {G : α → Prop} (ht : P.underlying t = some (.struct fs)) (hc : P.cellsOf t = d.sz) (h : OpensL P fs.toList 0 d G) : Opens P t d G := by
 constructor
 intro H enc w base spare held fuel cs x hx
 obtain ⟨xs, n, _, rfl, hl, hxl, hr⟩ := DataW.trod_struct ht hx
 obtain ⟨a, hk, hg⟩ := h.out (enc := enc) (w := w) (base := base) (spare := spare) (held := held) (n := n) (cs := cs) (xs := xs) (by omega) (by simpa using hxl) (fun i f hi => hr i f (by simpa using hi))
 refine ⟨a, hk, fun hw => hg ?_⟩
 simpa [DataW.weights, ht] using hw
theorem opens_iso {P : Program} {t : TypeId} {α β : Type} {d : Kd α} {G : α → Prop} {f : β → α} (g : α → β) (hf : ∀ a, f (g a) = a) (h : Opens P t d G) : Opens P t (Kd.iso d f) (fun b => G (f b)) := by
 constructor
 intro H enc w base spare held fuel cs x hx
 obtain ⟨a, hk, hg⟩ := h.out hx
 refine ⟨g a, ?_, fun hw => ?_⟩
 ·show d.K w (f (g a)) cs
  rw [hf]
  exact hk
 ·show G (f (g a))
  rw [hf]
  exact hg hw
theorem Opens.imp {P : Program} {t : TypeId} {α : Type} {d : Kd α} {G G' : α → Prop} (h : Opens P t d G) (hG : ∀ a, G a → G' a) : Opens P t d G' := by
 constructor
 intro H enc w base spare held fuel cs x hx
 obtain ⟨a, hk, hg⟩ := h.out hx
 exact ⟨a, hk, fun hw => hG a (hg hw)⟩
/-- The j-th argument, out of the row's own weights. -/
theorem sized_any {H : Type} {P : Program} {ts : List TypeId} {ds : List (DataW H)} (h : (DataW.weightsEach P ts ds).all (· ≤ reachBytes) = true) {j : Nat} {t : TypeId} {d : DataW H} (ht : ts[j]? = some t) (hd : ds[j]? = some d) : (d.weights P t).all (· ≤ reachBytes) = true :=
 List.all_eq_true.2 fun n hn => List.all_eq_true.1 h n (DataW.weights_mem_each ht hd n hn)
end
def G_T99 (x : S99) : Prop := ((Lit.int .i64 x.f0).wf = true) ∧ ((Lit.int .i64 x.f1).wf = true) ∧ (x.f2.size ≤ 140737488351232) ∧ ((Lit.int .i64 x.f3).wf = true) ∧ ((Lit.int .i64 x.f4).wf = true)
set_option maxRecDepth 100000 in
theorem opens_T99 : Opens Try.prog 99 k99 G_T99 := opens_iso (fun p => ⟨p.1, p.2.1, p.2.2.1, p.2.2.2.1, p.2.2.2.2⟩) (fun _ => rfl) (opens_struct Try.underlying99 z1 (opensL_cons rfl z1 (opens_int Try.underlying3) (opensL_cons rfl z1 (opens_int Try.underlying3) (opensL_cons rfl z1 (opens_string Try.underlying9) (opensL_cons rfl z1 (opens_int Try.underlying3) (opensL_one rfl z1 (opens_int Try.underlying3)))))))
def G_T24 (x : S24) : Prop := (x.f0.length ≤ maxLen ∧ x.f0.length * 48 ≤ 140737488351232 ∧ ∀ x2_ ∈ x.f0, G_T99 x2_)
set_option maxRecDepth 100000 in
theorem opens_T24 : Opens Try.prog 24 k24 G_T24 := opens_iso (fun p => ⟨p⟩) (fun _ => rfl) (opens_struct Try.underlying24 z1 (opensL_one rfl z1 (opens_slice 99 Try.underlying22 z1 z1 opens_T99)))

/-- THE ONE PURE STATEMENT of laws_FnExactSplitRope: yours. -/
def laws_FnExactSplitRope.Pure : Prop := ∀ (l0_0 : List (S99)) (a1 : Int), (l0_0.length ≤ maxLen ∧ l0_0.length * 48 ≤ 140737488351232 ∧ ∀ x2_ ∈ l0_0, G_T99 x2_) → (Lit.int .i64 a1).wf = true → ∃ k, laws_FnExactSplitRope.f k l0_0 a1 = some true
theorem laws_FnExactSplitRope.walk (P : laws_FnExactSplitRope.Pure) (bu : Option Addr) (bx : Nat) (l0_0 : List (S99)) (a1 : Int) (w : World) (hr0_0 : Kd.C k99 w bu l0_0.length l0_0) (hc0_0 : l0_0.length ≤ bx) (hG0_0 : l0_0.length ≤ maxLen ∧ l0_0.length * 48 ≤ 140737488351232 ∧ ∀ x2_ ∈ l0_0, G_T99 x2_) (w1 : (Lit.int .i64 a1).wf = true) :
  Calls Try.prog 11 #[.agg #[.slice bu l0_0.length bx], .int .i64 a1] w fun e w' => e = .returned (.bool true) ∧ Below w.heap.size w w' := by
 obtain ⟨k, h⟩ := P l0_0 a1 hG0_0 w1
 refine (laws_FnExactSplitRope.calls k _ _ l0_0 a1 true ⟨rfl⟩ w hr0_0 hc0_0 h).mono ?_
 rintro e w' ⟨rfl, hd⟩
 exact ⟨rfl, hd⟩

end Go.Proofs.Ytmkenlejdaphnaa.AFnExactSplitRope
