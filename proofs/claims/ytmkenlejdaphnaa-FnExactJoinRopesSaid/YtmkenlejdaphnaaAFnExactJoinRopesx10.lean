-- this session's own text: written by wip/tools/ownprint.py over the kit's print
import Derived.SizedLaws
import Derived.Deep.Slices
import Derived.Deep.Fields
import Derived.ChangeSame
import Derived.Test.YtmkenlejdaphnaaAFnExactJoinRopesx0
import Derived.Test.YtmkenlejdaphnaaAFnExactJoinRopesx1
import Derived.Test.YtmkenlejdaphnaaAFnExactJoinRopesx2
import Derived.Test.YtmkenlejdaphnaaAFnExactJoinRopesx3
import Derived.Test.YtmkenlejdaphnaaAFnExactJoinRopesx6
import Derived.Test.YtmkenlejdaphnaaAFnExactJoinRopesx9
namespace Go.Proofs.Ytmkenlejdaphnaa.AFnExactJoinRopes
open Go.RowKit Go.Proofs.YtmkenlejdaphnaaW.PrintWords Go.Proofs.YtmkenlejdaphnaaW.PrintLast Go.Proofs.YtmkenlejdaphnaaW.PrintMore
attribute [local go_sem] max2_int min2_int max_two min_two max_three min_three max_four min_four   -- for this text's walks alone
set_option linter.unusedVariables false
set_option linter.unusedSimpArgs false

/-! ### laws_FnExactJoinRopes: function 9 -/
mutual
def laws_FnExactJoinRopes.j0 : Nat → Bool → Bool → Bool → List (S99) → List (S99) → List (S58) → List (S58) → List (S58) → List (S58) → Option (Bool)
 | 0, _, _, _, _, _, _, _, _, _ => none
 | k + 1, x7, x11, x53, x215000, x216000, x229000, x233000, x237000, x242000 => if x53 = true then (some false) else ((laws_toRope.f k x215000).bind fun eB => ((laws_eqRope.f k x233000 eB).bind fun ma => (if ma = true then ((laws_toRope.f k x216000).bind fun e8 => ((laws_eqRope.f k x237000 e8).bind fun l9 => (if l9 = true then ((laws_markRope.f k x233000 1).bind fun bt251 => ((laws_markRope.f k x237000 bt251.1).bind fun bt253 => (if bt253.1 < 0 then (laws_FnExactJoinRopes.j1 k x7 true x215000 x216000 x229000 x242000) else ((laws_eqRope.f k x242000 x229000).bind fun l7 => (if l7 = true then (laws_FnExactJoinRopes.j1 k x7 (x11 != x7) x215000 x216000 x229000 x242000) else (laws_FnExactJoinRopes.j1 k x7 true x215000 x216000 x229000 x242000)))))) else (some false)))) else (some false))))
def laws_FnExactJoinRopes.j1 : Nat → Bool → Bool → List (S99) → List (S99) → List (S58) → List (S58) → Option (Bool)
 | 0, _, _, _, _, _, _ => none
 | k + 1, x7, x82, x215000, x216000, x229000, x242000 => if x82 = true then (some false) else ((laws_markRope.f k x242000 1).bind fun g9 => ((laws_heldRope.f k g9.2 1).bind fun fx => (if fx < 0 then (some false) else (if fx = g9.1 then ((laws_toRope.f k x215000).bind fun eG => ((laws_toRope.f k x216000).bind fun eA => ((impl_JoinRopes.f k eG eA).bind fun lF => ((laws_eqRope.f k lF.1 x229000).bind fun l6 => (if l6 = true then (laws_FnExactJoinRopes.j2 k g9.1 (lF.2 != x7) g9.2) else (laws_FnExactJoinRopes.j2 k g9.1 true g9.2)))))) else (some false)))))
def laws_FnExactJoinRopes.j2 : Nat → Int → Bool → List (S58) → Option (Bool)
 | 0, _, _, _ => none
 | k + 1, x13, x110, x242000 => if x110 = true then (some false) else ((laws_heldRope.f k x242000 1).bind fun fw => (if fw < 0 then (some false) else (if fw = x13 then (some true) else (some false))))
end
def laws_FnExactJoinRopes.f (k : Nat) (l0_0 : List (S99)) (l1_0 : List (S99)) : Option (Bool) := (laws_szRope.f k l0_0 1048576).bind fun e9 => (if e9 < 0 then (some true) else ((laws_szRope.f k l1_0 e9).bind fun ic => (if ic < 0 then (some true) else ((laws_toRope.f k l0_0).bind fun dX => ((laws_toRope.f k l1_0).bind fun dW => ((spec_JoinRopes.f k dX dW).bind fun ep => ((laws_toRope.f k l0_0).bind fun ce => ((laws_toRope.f k l1_0).bind fun ch => ((impl_JoinRopes.f k ce ch).bind fun en => ((laws_eqRope.f k en.1 ep.1).bind fun kR => (if kR = true then (laws_FnExactJoinRopes.j0 k ep.2 en.2 (en.2 != ep.2) l0_0 l1_0 ep.1 ce ch en.1) else (laws_FnExactJoinRopes.j0 k ep.2 en.2 true l0_0 l1_0 ep.1 ce ch en.1))))))))))))
theorem laws_FnExactJoinRopes.mono_l : ∀ k, (∀ y0 y1 y2 y3 y4 y5 y6 y7 y8, LeO (laws_FnExactJoinRopes.j0 k y0 y1 y2 y3 y4 y5 y6 y7 y8) (laws_FnExactJoinRopes.j0 (k + 1) y0 y1 y2 y3 y4 y5 y6 y7 y8)) ∧ (∀ y0 y1 y2 y3 y4 y5, LeO (laws_FnExactJoinRopes.j1 k y0 y1 y2 y3 y4 y5) (laws_FnExactJoinRopes.j1 (k + 1) y0 y1 y2 y3 y4 y5)) ∧ (∀ y0 y1 y2, LeO (laws_FnExactJoinRopes.j2 k y0 y1 y2) (laws_FnExactJoinRopes.j2 (k + 1) y0 y1 y2))
 | 0 => ⟨fun _ _ _ _ _ _ _ _ _ r h => by simp [laws_FnExactJoinRopes.j0] at h, fun _ _ _ _ _ _ r h => by simp [laws_FnExactJoinRopes.j1] at h, fun _ _ _ r h => by simp [laws_FnExactJoinRopes.j2] at h⟩
 | k + 1 => by
  obtain ⟨ih0, ih1, ih2⟩ := laws_FnExactJoinRopes.mono_l k
  refine ⟨?_, ?_, ?_⟩
  ·intro y0 y1 y2 y3 y4 y5 y6 y7 y8
   unfold laws_FnExactJoinRopes.j0
   repeat' first
   | (with_reducible exact ih0 _ _ _ _ _ _ _ _ _)
   | (with_reducible exact ih1 _ _ _ _ _ _)
   | (with_reducible exact ih2 _ _ _)
   | (with_reducible exact impl_JoinRopes.mono _ _ _)
   | (with_reducible exact laws_eqRope.mono _ _ _)
   | (with_reducible exact laws_heldRope.mono _ _ _)
   | (with_reducible exact laws_markRope.mono _ _ _)
   | (with_reducible exact laws_szRope.mono _ _ _)
   | (with_reducible exact laws_toRope.mono _ _)
   | (with_reducible exact spec_JoinRopes.mono _ _ _)
   | (with_reducible exact LeO.refl _)
   | (with_reducible exact LeO.none _)
   | (with_reducible refine LeO.ite ?_ ?_)
   | (with_reducible refine LeO.bind ?_ (fun _ => ?_))
   | exact ih0 _ _ _ _ _ _ _ _ _
   | exact ih1 _ _ _ _ _ _
   | exact ih2 _ _ _
   | exact impl_JoinRopes.mono _ _ _
   | exact laws_eqRope.mono _ _ _
   | exact laws_heldRope.mono _ _ _
   | exact laws_markRope.mono _ _ _
   | exact laws_szRope.mono _ _ _
   | exact laws_toRope.mono _ _
   | exact spec_JoinRopes.mono _ _ _
   | exact LeO.none _
   | refine LeO.ite ?_ ?_
   | refine LeO.bind ?_ (fun _ => ?_)
  ·intro y0 y1 y2 y3 y4 y5
   unfold laws_FnExactJoinRopes.j1
   repeat' first
   | (with_reducible exact ih0 _ _ _ _ _ _ _ _ _)
   | (with_reducible exact ih1 _ _ _ _ _ _)
   | (with_reducible exact ih2 _ _ _)
   | (with_reducible exact impl_JoinRopes.mono _ _ _)
   | (with_reducible exact laws_eqRope.mono _ _ _)
   | (with_reducible exact laws_heldRope.mono _ _ _)
   | (with_reducible exact laws_markRope.mono _ _ _)
   | (with_reducible exact laws_szRope.mono _ _ _)
   | (with_reducible exact laws_toRope.mono _ _)
   | (with_reducible exact spec_JoinRopes.mono _ _ _)
   | (with_reducible exact LeO.refl _)
   | (with_reducible exact LeO.none _)
   | (with_reducible refine LeO.ite ?_ ?_)
   | (with_reducible refine LeO.bind ?_ (fun _ => ?_))
   | exact ih0 _ _ _ _ _ _ _ _ _
   | exact ih1 _ _ _ _ _ _
   | exact ih2 _ _ _
   | exact impl_JoinRopes.mono _ _ _
   | exact laws_eqRope.mono _ _ _
   | exact laws_heldRope.mono _ _ _
   | exact laws_markRope.mono _ _ _
   | exact laws_szRope.mono _ _ _
   | exact laws_toRope.mono _ _
   | exact spec_JoinRopes.mono _ _ _
   | exact LeO.none _
   | refine LeO.ite ?_ ?_
   | refine LeO.bind ?_ (fun _ => ?_)
  ·intro y0 y1 y2
   unfold laws_FnExactJoinRopes.j2
   repeat' first
   | (with_reducible exact ih0 _ _ _ _ _ _ _ _ _)
   | (with_reducible exact ih1 _ _ _ _ _ _)
   | (with_reducible exact ih2 _ _ _)
   | (with_reducible exact impl_JoinRopes.mono _ _ _)
   | (with_reducible exact laws_eqRope.mono _ _ _)
   | (with_reducible exact laws_heldRope.mono _ _ _)
   | (with_reducible exact laws_markRope.mono _ _ _)
   | (with_reducible exact laws_szRope.mono _ _ _)
   | (with_reducible exact laws_toRope.mono _ _)
   | (with_reducible exact spec_JoinRopes.mono _ _ _)
   | (with_reducible exact LeO.refl _)
   | (with_reducible exact LeO.none _)
   | (with_reducible refine LeO.ite ?_ ?_)
   | (with_reducible refine LeO.bind ?_ (fun _ => ?_))
   | exact ih0 _ _ _ _ _ _ _ _ _
   | exact ih1 _ _ _ _ _ _
   | exact ih2 _ _ _
   | exact impl_JoinRopes.mono _ _ _
   | exact laws_eqRope.mono _ _ _
   | exact laws_heldRope.mono _ _ _
   | exact laws_markRope.mono _ _ _
   | exact laws_szRope.mono _ _ _
   | exact laws_toRope.mono _ _
   | exact spec_JoinRopes.mono _ _ _
   | exact LeO.none _
   | refine LeO.ite ?_ ?_
   | refine LeO.bind ?_ (fun _ => ?_)
theorem laws_FnExactJoinRopes.mono : ∀ a0 a1 k, LeO (laws_FnExactJoinRopes.f k a0 a1) (laws_FnExactJoinRopes.f (k + 1) a0 a1) := by
 intro a0 a1 k
 obtain ⟨ih0, ih1, ih2⟩ := laws_FnExactJoinRopes.mono_l k
 unfold laws_FnExactJoinRopes.f
 repeat' first
   | (with_reducible exact ih0 _ _ _ _ _ _ _ _ _)
   | (with_reducible exact ih1 _ _ _ _ _ _)
   | (with_reducible exact ih2 _ _ _)
   | (with_reducible exact impl_JoinRopes.mono _ _ _)
   | (with_reducible exact laws_eqRope.mono _ _ _)
   | (with_reducible exact laws_heldRope.mono _ _ _)
   | (with_reducible exact laws_markRope.mono _ _ _)
   | (with_reducible exact laws_szRope.mono _ _ _)
   | (with_reducible exact laws_toRope.mono _ _)
   | (with_reducible exact spec_JoinRopes.mono _ _ _)
   | (with_reducible exact LeO.refl _)
   | (with_reducible exact LeO.none _)
   | (with_reducible refine LeO.ite ?_ ?_)
   | (with_reducible refine LeO.bind ?_ (fun _ => ?_))
   | exact ih0 _ _ _ _ _ _ _ _ _
   | exact ih1 _ _ _ _ _ _
   | exact ih2 _ _ _
   | exact impl_JoinRopes.mono _ _ _
   | exact laws_eqRope.mono _ _ _
   | exact laws_heldRope.mono _ _ _
   | exact laws_markRope.mono _ _ _
   | exact laws_szRope.mono _ _ _
   | exact laws_toRope.mono _ _
   | exact spec_JoinRopes.mono _ _ _
   | exact LeO.none _
   | refine LeO.ite ?_ ?_
   | refine LeO.bind ?_ (fun _ => ?_)
def laws_FnExactJoinRopes.T8 : Bool × List (List Nat × List Nat) := (true, [([], []), ([0], [0]), ([], []), ([2, 1], [2]), ([1, 3, 3], [1, 3]), ([4], [4]), ([5], [5]), ([5], [5]), ([], []), ([8, 6, 4, 0, 1, 2, 3, 4, 5, 6, 8], [6, 8]), ([7, 9, 0, 1, 2, 3, 4, 5, 6, 7, 8, 9], [7])])
def laws_FnExactJoinRopes.B8 : List Nat := [0, 1, 0, 7, 15, 31, 63, 63, 0, 383, 1023]
theorem laws_FnExactJoinRopes.tab8 : rtab .any (opsOf Try.f9 8) = laws_FnExactJoinRopes.T8 := by kernel_rfl
theorem laws_FnExactJoinRopes.bits8 : waitsOk laws_FnExactJoinRopes.T8.2 laws_FnExactJoinRopes.B8 = true := by kernel_rfl
def laws_FnExactJoinRopes.T31 : Bool × List (List Nat × List Nat) := (true, [([], []), ([0], [0]), ([], []), ([2, 1], [2]), ([1, 3, 3], [1, 3]), ([4], [4]), ([5], [5]), ([5], [5]), ([], []), ([8, 6, 4, 0, 1, 2, 3, 4, 5, 6, 8], [6, 8]), ([7, 9, 0, 1, 2, 3, 4, 5, 6, 7, 8, 9], [7])])
def laws_FnExactJoinRopes.B31 : List Nat := [0, 1, 0, 7, 15, 31, 63, 63, 0, 383, 1023]
theorem laws_FnExactJoinRopes.tab31 : rtab .any (opsOf Try.f9 31) = laws_FnExactJoinRopes.T31 := by kernel_rfl
theorem laws_FnExactJoinRopes.bits31 : waitsOk laws_FnExactJoinRopes.T31.2 laws_FnExactJoinRopes.B31 = true := by kernel_rfl
set_option maxHeartbeats 8000000 in
set_option maxRecDepth 100000 in
theorem laws_FnExactJoinRopes.calls (k : Nat) (bm : Option Addr) (bn : Nat) (l0_0 : List (S99)) (bK : Option Addr) (bL : Nat) (l1_0 : List (S99)) (r : Bool) (HRT : Aside0 (r = true)) (w : World) (hr0_0 : Kd.C k99 w bm l0_0.length l0_0) (hc0_0 : l0_0.length ≤ bn) (hr1_0 : Kd.C k99 w bK l1_0.length l1_0) (hc1_0 : l1_0.length ≤ bL) (h : laws_FnExactJoinRopes.f k l0_0 l1_0 = some r) :
  Calls Try.prog 9 #[.agg #[.slice bm l0_0.length bn], .agg #[.slice bK l1_0.length bL]] w fun e w' => e = .returned (.bool r) ∧ Below w.heap.size w w' := by
 have hu24 := Try.underlying24
 have hu29 := Try.underlying29
 have du := aM hr0_0
 have dy := aM hc0_0
 clear hr0_0 hc0_0
 have ec := aM hr1_0
 have ed := aM hc1_0
 clear hr1_0 hc1_0
 have HB := aM (Below.refl w.heap.size w)
 have H : ((laws_szRope.f k l0_0 1048576).bind fun e9 => (if e9 < 0 then (some true) else ((laws_szRope.f k l1_0 e9).bind fun ic => (if ic < 0 then (some true) else ((laws_toRope.f k l0_0).bind fun dX => ((laws_toRope.f k l1_0).bind fun dW => ((spec_JoinRopes.f k dX dW).bind fun ep => ((laws_toRope.f k l0_0).bind fun ce => ((laws_toRope.f k l1_0).bind fun ch => ((impl_JoinRopes.f k ce ch).bind fun en => ((laws_eqRope.f k en.1 ep.1).bind fun kR => (if kR = true then (laws_FnExactJoinRopes.j0 k ep.2 en.2 (en.2 != ep.2) l0_0 l1_0 ep.1 ce ch en.1) else (laws_FnExactJoinRopes.j0 k ep.2 en.2 true l0_0 l1_0 ep.1 ce ch en.1))))))))))))) = some r := h
 clear h
 replace H := oB H
 obtain ⟨e9, jj, H⟩ := H
 try dsimp only at H
 have A3 := aM jj
 clear jj
 by_cases c4 : e9 < 0
 ·rw [if_pos c4] at H
  have c4b0 : decide (e9 < 0) = true := dT c4
  clear c4
  first | (cases H.trans (congrArg some HRT.out); done) | skip
  all_goals
   obtain rfl := sI H
   go_enter Try.func9, Try.ntmps9
   go_wp2_with (first | ((with_reducible refine aK (N := 2) rfl ?_); refine aN ?hg (N := 2) ?hd (cs := #[.slice bm l0_0.length bn]) (t := 24) ?hr ?_; (case hd => rfl); (case hg => rfl); (case hr => first | (go_simp; done) | (go_simp; rfl)); intro bh hg w5 hbox hb; have ba := aM (ay z20 hb); have bc := aM (hbox); have bf := aM ((by rw [hg]; exact (az z20) : w.heap.size ≤ bh)); have bk := aM ((by rw [hg]; exact (az z20) : w.heap.size ≤ bh)); clear HB; have HB := ba; have a7 := bc; have lK := bf; have dt := bk; clear ba bc bf bk; clear hb hbox hg) | ((with_reducible refine aK (N := 3) rfl ?_); refine aN ?hg (N := 3) ?hd (cs := #[.slice bK l1_0.length bL]) (t := 24) ?hr ?_; (case hd => rfl); (case hg => rfl); (case hr => first | (go_simp; done) | (go_simp; rfl)); intro bj hg w6 hbox hb; have ba := aM (ae (g := bh) (o := .cells #[.slice bm l0_0.length bn] 24 (0, 0)) z12 hb); have bc := aM (ay (by repeat (first | (with_reducible first | exact HB.out | apply bA | apply pD | apply bD | refine ax ?_ dt.out) | exact HB.out)) hb); have bf := aM (hbox); have bk := aM ((by rw [hg]; exact (az (by repeat (first | (with_reducible first | exact HB.out | apply bA | apply pD | apply bD | refine ax ?_ dt.out) | exact HB.out))) : w.heap.size ≤ bj)); have bw := aM ((by rw [hg]; exact (az (by repeat (first | (with_reducible first | exact HB.out | apply bA | apply pD | apply bD | refine ax ?_ dt.out) | exact HB.out))) : w.heap.size ≤ bj)); have bx := aM ((by rw [hg]; exact aA (aw (g := bh) (o := .cells #[.slice bm l0_0.length bn] 24 (0, 0)) z12) : bh ≠ bj)); have bG := aM ((by rw [hg]; exact aC (aw (g := bh) (o := .cells #[.slice bm l0_0.length bn] 24 (0, 0)) z12) : bj ≠ bh)); clear a7; clear HB; have a7 := ba; have HB := bc; have a9 := bf; have lJ := bk; have dV := bw; have es := bx; have er := bG; clear ba bc bf bk bw bx bG; clear hb hbox hg; have mF := es.out; have mE := er.out; have k0 : w6.cell? ⟨bh, 0, none⟩ = some (.slice bm l0_0.length bn) := (bC a7.out 0).trans rfl; have kY := bF a7.out 0) | ((with_reducible refine aJ (f := 14) rfl ?_); refine aQ (some 19) rfl rfl Try.func14 z0 rfl #[.agg #[.slice bm l0_0.length bn], .int .i64 1048576] rfl z21 ?_; (with_reducible refine (laws_szRope.calls k _ _ l0_0 1048576 e9 _ ?side1 ?side2 A3.out).mono ?_); (case side1 => repeat (first | exact (aD du.out HB.out) | (with_reducible refine aE ?_ _) | (with_reducible refine aG ?_ _) | (with_reducible refine aH ?_))); (case side2 => exact dy.out); rintro e w9 ⟨rfl, hb⟩; refine ⟨_, rfl, ?_⟩; have ba := aM (ae (g := bh) (o := .cells #[.slice bm l0_0.length bn] 24 (0, 0)) z12 hb); have bc := aM (ae (g := bj) (o := .cells #[.slice bK l1_0.length bL] 24 (0, 0)) z13 hb); have bf := aM (ay z23 hb); clear a7; clear a9; clear HB; have a7 := ba; have a9 := bc; have HB := bf; clear ba bc bf; (try clear hb); (try clear hb2); (try clear hk); (try clear hi)))
   go_ret
   exact ⟨y2, by repeat (first | (with_reducible first | exact HB.out | apply bA | apply pD | apply bD | refine ax ?_ dt.out | refine ax ?_ dV.out) | exact HB.out)⟩
 ·rw [if_neg c4] at H
  have c4b0 : decide (e9 < 0) = false := dF c4
  clear c4
  replace H := oB H
  obtain ⟨ic, kL, H⟩ := H
  try dsimp only at H
  have nG := aM kL
  clear kL
  by_cases eI : ic < 0
  ·rw [if_pos eI] at H
   have c11b0 : decide (ic < 0) = true := dT eI
   clear eI
   first | (cases H.trans (congrArg some HRT.out); done) | skip
   all_goals
    obtain rfl := sI H
    go_enter Try.func9, Try.ntmps9
    go_wp2_with (first | ((with_reducible refine aK (N := 2) rfl ?_); refine aN ?hg (N := 2) ?hd (cs := #[.slice bm l0_0.length bn]) (t := 24) ?hr ?_; (case hd => rfl); (case hg => rfl); (case hr => first | (go_simp; done) | (go_simp; rfl)); intro bh hg w12 hbox hb; have ba := aM (ay z20 hb); have bc := aM (hbox); have bf := aM ((by rw [hg]; exact (az z20) : w.heap.size ≤ bh)); have bk := aM ((by rw [hg]; exact (az z20) : w.heap.size ≤ bh)); clear HB; have HB := ba; have a7 := bc; have lK := bf; have dt := bk; clear ba bc bf bk; clear hb hbox hg) | ((with_reducible refine aK (N := 3) rfl ?_); refine aN ?hg (N := 3) ?hd (cs := #[.slice bK l1_0.length bL]) (t := 24) ?hr ?_; (case hd => rfl); (case hg => rfl); (case hr => first | (go_simp; done) | (go_simp; rfl)); intro bj hg w13 hbox hb; have ba := aM (ae (g := bh) (o := .cells #[.slice bm l0_0.length bn] 24 (0, 0)) z12 hb); have bc := aM (ay (by repeat (first | (with_reducible first | exact HB.out | apply bA | apply pD | apply bD | refine ax ?_ dt.out) | exact HB.out)) hb); have bf := aM (hbox); have bk := aM ((by rw [hg]; exact (az (by repeat (first | (with_reducible first | exact HB.out | apply bA | apply pD | apply bD | refine ax ?_ dt.out) | exact HB.out))) : w.heap.size ≤ bj)); have bw := aM ((by rw [hg]; exact (az (by repeat (first | (with_reducible first | exact HB.out | apply bA | apply pD | apply bD | refine ax ?_ dt.out) | exact HB.out))) : w.heap.size ≤ bj)); have bx := aM ((by rw [hg]; exact aA (aw (g := bh) (o := .cells #[.slice bm l0_0.length bn] 24 (0, 0)) z12) : bh ≠ bj)); have bG := aM ((by rw [hg]; exact aC (aw (g := bh) (o := .cells #[.slice bm l0_0.length bn] 24 (0, 0)) z12) : bj ≠ bh)); clear a7; clear HB; have a7 := ba; have HB := bc; have a9 := bf; have lJ := bk; have dV := bw; have es := bx; have er := bG; clear ba bc bf bk bw bx bG; clear hb hbox hg; have hnb14 := es.out; have hnc14 := er.out; have hcz15_0 : w13.cell? ⟨bh, 0, none⟩ = some (.slice bm l0_0.length bn) := (bC a7.out 0).trans rfl; have hfz15_0 := bF a7.out 0) | ((with_reducible refine aJ (f := 14) rfl ?_); refine aQ (some 19) rfl rfl Try.func14 z0 rfl #[.agg #[.slice bm l0_0.length bn], .int .i64 1048576] rfl z21 ?_; (with_reducible refine (laws_szRope.calls k _ _ l0_0 1048576 e9 _ ?side1 ?side2 A3.out).mono ?_); (case side1 => repeat (first | exact (aD du.out HB.out) | (with_reducible refine aE ?_ _) | (with_reducible refine aG ?_ _) | (with_reducible refine aH ?_))); (case side2 => exact dy.out); rintro e w16 ⟨rfl, hb⟩; refine ⟨_, rfl, ?_⟩; have ba := aM (ae (g := bh) (o := .cells #[.slice bm l0_0.length bn] 24 (0, 0)) z12 hb); have bc := aM (ae (g := bj) (o := .cells #[.slice bK l1_0.length bL] 24 (0, 0)) z13 hb); have bf := aM (ay z23 hb); clear a7; clear a9; clear HB; have a7 := ba; have a9 := bc; have HB := bf; clear ba bc bf; (try clear hb); (try clear hb2); (try clear hk); (try clear hi); have jf : w16.cell? ⟨bj, 0, none⟩ = some (.slice bK l1_0.length bL) := (bC a9.out 0).trans rfl; have iL := bF a9.out 0) | ((with_reducible refine aJ (f := 14) rfl ?_); refine aQ (some 24) rfl rfl Try.func14 z0 rfl #[.agg #[.slice bK l1_0.length bL], .int .i64 e9] rfl z21 ?_; (with_reducible refine (laws_szRope.calls k _ _ l1_0 e9 ic _ ?side1 ?side2 nG.out).mono ?_); (case side1 => repeat (first | exact (aD ec.out HB.out) | (with_reducible refine aE ?_ _) | (with_reducible refine aG ?_ _) | (with_reducible refine aH ?_))); (case side2 => exact ed.out); rintro e w18 ⟨rfl, hb⟩; refine ⟨_, rfl, ?_⟩; have ba := aM (ae (g := bh) (o := .cells #[.slice bm l0_0.length bn] 24 (0, 0)) z12 hb); have bc := aM (ae (g := bj) (o := .cells #[.slice bK l1_0.length bL] 24 (0, 0)) z13 hb); have bf := aM (ay z23 hb); clear a7; clear a9; clear HB; have a7 := ba; have a9 := bc; have HB := bf; clear ba bc bf; (try clear hb); (try clear hb2); (try clear hk); (try clear hi)))
    go_ret
    exact ⟨y2, by repeat (first | (with_reducible first | exact HB.out | apply bA | apply pD | apply bD | refine ax ?_ dt.out | refine ax ?_ dV.out) | exact HB.out)⟩
  ·rw [if_neg eI] at H
   have c11b0 : decide (ic < 0) = false := dF eI
   clear eI
   replace H := oB H
   obtain ⟨dX, m8, H⟩ := H
   try dsimp only at H
   have nE := aM m8
   clear m8
   replace H := oB H
   obtain ⟨dW, m0, H⟩ := H
   try dsimp only at H
   have mD := aM m0
   clear m0
   replace H := oB H
   obtain ⟨⟨bH, gp⟩, mZ, H⟩ := H
   try dsimp only at H
   have nu := aM mZ
   clear mZ
   replace H := oB H
   obtain ⟨ce, mY, H⟩ := H
   try dsimp only at H
   have A22 := aM mY
   clear mY
   replace H := oB H
   obtain ⟨ch, mX, H⟩ := H
   try dsimp only at H
   have A23 := aM mX
   clear mX
   replace H := oB H
   obtain ⟨⟨bE, lp⟩, mW, H⟩ := H
   try dsimp only at H
   have A24 := aM mW
   clear mW
   have mr := aM H
   clear H
   go_enter Try.func9, Try.ntmps9
   try go_wp2_with (first | ((with_reducible refine aK (N := 2) rfl ?_); refine aN ?hg (N := 2) ?hd (cs := #[.slice bm l0_0.length bn]) (t := 24) ?hr ?_; (case hd => rfl); (case hg => rfl); (case hr => first | (go_simp; done) | (go_simp; rfl)); intro bh hg w26 hbox hb; have ba := aM (ay z20 hb); have bc := aM (hbox); have bf := aM ((by rw [hg]; exact (az z20) : w.heap.size ≤ bh)); have bk := aM ((by rw [hg]; exact (az z20) : w.heap.size ≤ bh)); clear HB; have HB := ba; have a7 := bc; have lK := bf; have dt := bk; clear ba bc bf bk; clear hb hbox hg) | ((with_reducible refine aK (N := 3) rfl ?_); refine aN ?hg (N := 3) ?hd (cs := #[.slice bK l1_0.length bL]) (t := 24) ?hr ?_; (case hd => rfl); (case hg => rfl); (case hr => first | (go_simp; done) | (go_simp; rfl)); intro bj hg w27 hbox hb; have ba := aM (ae (g := bh) (o := .cells #[.slice bm l0_0.length bn] 24 (0, 0)) z12 hb); have bc := aM (ay (by repeat (first | (with_reducible first | exact HB.out | apply bA | apply pD | apply bD | refine ax ?_ dt.out) | exact HB.out)) hb); have bf := aM (hbox); have bk := aM ((by rw [hg]; exact (az (by repeat (first | (with_reducible first | exact HB.out | apply bA | apply pD | apply bD | refine ax ?_ dt.out) | exact HB.out))) : w.heap.size ≤ bj)); have bw := aM ((by rw [hg]; exact (az (by repeat (first | (with_reducible first | exact HB.out | apply bA | apply pD | apply bD | refine ax ?_ dt.out) | exact HB.out))) : w.heap.size ≤ bj)); have bx := aM ((by rw [hg]; exact aA (aw (g := bh) (o := .cells #[.slice bm l0_0.length bn] 24 (0, 0)) z12) : bh ≠ bj)); have bG := aM ((by rw [hg]; exact aC (aw (g := bh) (o := .cells #[.slice bm l0_0.length bn] 24 (0, 0)) z12) : bj ≠ bh)); clear a7; clear HB; have a7 := ba; have HB := bc; have a9 := bf; have lJ := bk; have dV := bw; have es := bx; have er := bG; clear ba bc bf bk bw bx bG; clear hb hbox hg; have hnb28 := es.out; have hnc28 := er.out; have hcz29_0 : w27.cell? ⟨bh, 0, none⟩ = some (.slice bm l0_0.length bn) := (bC a7.out 0).trans rfl; have hfz29_0 := bF a7.out 0) | ((with_reducible refine aJ (f := 14) rfl ?_); refine aQ (some 19) rfl rfl Try.func14 z0 rfl #[.agg #[.slice bm l0_0.length bn], .int .i64 1048576] rfl z21 ?_; (with_reducible refine (laws_szRope.calls k _ _ l0_0 1048576 e9 _ ?side1 ?side2 A3.out).mono ?_); (case side1 => repeat (first | exact (aD du.out HB.out) | (with_reducible refine aE ?_ _) | (with_reducible refine aG ?_ _) | (with_reducible refine aH ?_))); (case side2 => exact dy.out); rintro e w30 ⟨rfl, hb⟩; refine ⟨_, rfl, ?_⟩; have ba := aM (ae (g := bh) (o := .cells #[.slice bm l0_0.length bn] 24 (0, 0)) z12 hb); have bc := aM (ae (g := bj) (o := .cells #[.slice bK l1_0.length bL] 24 (0, 0)) z13 hb); have bf := aM (ay z23 hb); clear a7; clear a9; clear HB; have a7 := ba; have a9 := bc; have HB := bf; clear ba bc bf; (try clear hb); (try clear hb2); (try clear hk); (try clear hi); have hcz31_0 : w30.cell? ⟨bj, 0, none⟩ = some (.slice bK l1_0.length bL) := (bC a9.out 0).trans rfl; have hfz31_0 := bF a9.out 0) | ((with_reducible refine aJ (f := 14) rfl ?_); refine aQ (some 24) rfl rfl Try.func14 z0 rfl #[.agg #[.slice bK l1_0.length bL], .int .i64 e9] rfl z21 ?_; (with_reducible refine (laws_szRope.calls k _ _ l1_0 e9 ic _ ?side1 ?side2 nG.out).mono ?_); (case side1 => repeat (first | exact (aD ec.out HB.out) | (with_reducible refine aE ?_ _) | (with_reducible refine aG ?_ _) | (with_reducible refine aH ?_))); (case side2 => exact ed.out); rintro e w32 ⟨rfl, hb⟩; refine ⟨_, rfl, ?_⟩; have ba := aM (ae (g := bh) (o := .cells #[.slice bm l0_0.length bn] 24 (0, 0)) z12 hb); have bc := aM (ae (g := bj) (o := .cells #[.slice bK l1_0.length bL] 24 (0, 0)) z13 hb); have bf := aM (ay z23 hb); clear a7; clear a9; clear HB; have a7 := ba; have a9 := bc; have HB := bf; clear ba bc bf; (try clear hb); (try clear hb2); (try clear hk); (try clear hi)))
   have ba := aM (ap a7.out)
   have bc := aM (ap a9.out)
   have bf := aM (bD HB.out)
   clear a7
   clear a9
   clear HB
   have a7 := ba
   have a9 := bc
   have HB := bf
   clear ba bc bf
   refine start_ (n := 11) (S := fun w' => w'.cell? ⟨bh, 0, none⟩ = some (.slice bm l0_0.length bn) ∧ w'.cell? ⟨bj, 0, none⟩ = some (.slice bK l1_0.length bL)) (ds := []) #[false, false, false, false, false, false, false, false, false, false, false] z0 rfl rfl ⟨(bC a7.out 0).trans rfl, (bC a9.out 0).trans rfl⟩ (fun hHeld => ?_); refine with_tabW laws_FnExactJoinRopes.tab8 laws_FnExactJoinRopes.bits8 (fun HT_ HW_ => ?_)
   generalize w32.drew = w33 at a7 a9 HB hHeld ⊢
   refine tA 0 28 ?_ (hy := by rintro w' ⟨s0, s1⟩; go_simp; with_reducible rfl)
   refine tA 2 30 ?_ (hy := by rintro w' ⟨s0, s1⟩; go_simp; with_reducible rfl)
   refine join_ (σ := Value × Value × Value × Nat) 2 #[true, true, true, true, true, true, true, true, true, false, false] (fun s_ => [(29, .agg #[s_.1]), (31, .agg #[s_.2.1]), (32, .tuple #[.agg #[s_.2.2.1], .bool gp]), (6, .pointer (some ⟨s_.2.2.2, 0, none⟩)), (27, .tuple #[.agg #[s_.2.2.1], .bool gp]), (33, .agg #[s_.2.2.1]), (34, .bool gp)]) (fun s_ w' => (w'.cell? ⟨bh, 0, none⟩ = some (.slice bm l0_0.length bn) ∧ w'.cell? ⟨bj, 0, none⟩ = some (.slice bK l1_0.length bL)) ∧ (Kd.R k58 58 w' w.heap.size (fun _ => True) s_.2.2.1 bH) ∧ (w'.heap[bh]? = some (.cells #[.slice bm l0_0.length bn] 24 (0, 0))) ∧ (w'.heap[bj]? = some (.cells #[.slice bK l1_0.length bL] 24 (0, 0))) ∧ (w'.heap[s_.2.2.2]? = some (.cells #[.slice none 0 0] 29 (0, 0))) ∧ (w.heap.size ≤ s_.2.2.2) ∧ (w.heap.size ≤ s_.2.2.2) ∧ (bh ≠ s_.2.2.2) ∧ (s_.2.2.2 ≠ bh) ∧ (bj ≠ s_.2.2.2) ∧ (s_.2.2.2 ≠ bj) ∧ (Below w.heap.size w w')) ?_ ?_
   rotate_left
   ·intro hCont
    refine two_ (i := 1) (j := 8) (Ni := some 29) (Nj := some 6) #[true, true, true, false, false, false, false, false, false, false, false] #[true, false, true, false, false, false, false, false, true, false, false] rfl rfl rfl rfl (two_of HT_.out z0) (by decide) (by decide) (fun K hK => ?_) (fun K hK => ?_)
    ·skip
     refine goes_ Try.func16 z0 rfl #[.agg #[.slice bm l0_0.length bn]] (by rfl) rfl rfl z21 ?_
     with_reducible refine (laws_toRope.calls k _ _ l0_0 dX _ ?side1 ?side2 nE.out).mono ?_
     (case side1 => repeat (first | exact (aD du.out HB.out) | (with_reducible refine aE ?_ _) | (with_reducible refine aG ?_ _) | (with_reducible refine aH ?_)))
     (case side2 => exact dy.out)
     rintro e w34 ⟨v219, rfl, ho0, hb⟩
     refine ⟨_, rfl, ?_⟩
     have ba := aM (aT ho0 (az z23))
     have bc := aM (ae (g := bh) (o := .cells #[.slice bm l0_0.length bn] 24 (0, 0)) z12 hb)
     have bf := aM (ae (g := bj) (o := .cells #[.slice bK l1_0.length bL] 24 (0, 0)) z13 hb)
     have bk := aM (ay z23 hb)
     clear a7
     clear a9
     clear HB
     have cn := ba
     have a7 := bc
     have a9 := bf
     have HB := bk
     clear ba bc bf bk
     (try clear hb)
     (try clear hb2)
     (try clear hk)
     (try clear hi)
     (try clear ho0)
     refine hK.out _ _ ⟨(bC a7.out 0).trans rfl, (bC a9.out 0).trans rfl⟩ (fun hHeld => ?_)
     clear hK K
     refine norm_ (a' := ?_) ?_ ?_
     rotate_left
     ·show Act.put _ (some 29) _ = _
      simp only [Act.put, sA, sB, sC, i64_w, i32_w]
      rfl
     refine two_ (i := 3) (j := 8) (Ni := some 31) (Nj := some 6) #[true, true, true, true, false, false, false, false, false, false, false] #[true, true, true, false, false, false, false, false, true, false, false] rfl rfl rfl rfl (two_of HT_.out z0) (by decide) (by decide) (fun K hK => ?_) (fun K hK => ?_)
     ·skip
      refine goes_ Try.func16 z0 rfl #[.agg #[.slice bK l1_0.length bL]] (by rfl) rfl rfl z21 ?_
      with_reducible refine (laws_toRope.calls k _ _ l1_0 dW _ ?side1 ?side2 mD.out).mono ?_
      (case side1 => repeat (first | exact (aD ec.out HB.out) | (with_reducible refine aE ?_ _) | (with_reducible refine aG ?_ _) | (with_reducible refine aH ?_)))
      (case side2 => exact ed.out)
      rintro e w35 ⟨v222, rfl, ho0, hb⟩
      refine ⟨_, rfl, ?_⟩
      have ba := aM (ai (by (with_reducible repeat (first | apply ac | apply ab | apply aa)); exact cn.out) (ak ho0) hb)
      have bc := aM (aT (aj ho0 (al (by (with_reducible repeat (first | apply ac | apply ab | apply aa)); exact cn.out))) (az z23))
      have bf := aM (ae (g := bh) (o := .cells #[.slice bm l0_0.length bn] 24 (0, 0)) z12 hb)
      have bk := aM (ae (g := bj) (o := .cells #[.slice bK l1_0.length bL] 24 (0, 0)) z13 hb)
      have bw := aM (ay z23 hb)
      clear cn
      clear a7
      clear a9
      clear HB
      have cn := ba
      have cS := bc
      have a7 := bf
      have a9 := bk
      have HB := bw
      clear ba bc bf bk bw
      (try clear hb)
      (try clear hb2)
      (try clear hk)
      (try clear hi)
      (try clear ho0)
      obtain ⟨lC, lr, eo36⟩ := Kd.R_slice cn.out
      (first | subst eo36 | (injection eo36 with f1_ f2_ f3_; have f4_ := f1_.symm; have f5_ := f3_.symm; clear f1_ f2_ f3_; subst f4_; subst f5_))
      obtain ⟨eD, eC, eo37⟩ := Kd.R_slice cS.out
      (first | subst eo37 | (injection eo37 with f1_ f2_ f3_; have f4_ := f1_.symm; have f5_ := f3_.symm; clear f1_ f2_ f3_; subst f4_; subst f5_))
      refine hK.out _ _ ⟨(bC a7.out 0).trans rfl, (bC a9.out 0).trans rfl⟩ (fun hHeld => ?_)
      clear hK K
      refine norm_ (a' := ?_) ?_ ?_
      rotate_left
      ·show Act.put _ (some 31) _ = _
       simp only [Act.put, sA, sB, sC, i64_w, i32_w]
       rfl
      refine two_ (i := 4) (j := 8) (Ni := some 32) (Nj := some 6) #[true, true, true, true, true, false, false, false, false, false, false] #[true, true, true, true, false, false, false, false, true, false, false] rfl rfl rfl rfl (two_of HT_.out z0) (by decide) (by decide) (fun K hK => ?_) (fun K hK => ?_)
      ·skip
       refine goes_ Try.func34 z0 rfl #[.agg #[.slice lC dX.length lr], .agg #[.slice eD dW.length eC]] (by rfl) rfl rfl z21 ?_
       with_reducible refine (spec_JoinRopes.calls k (fun k_ => some k_ = (.slice lC dX.length lr : Value).ownBlock) (.slice lC dX.length lr) dX (fun k_ => some k_ = (.slice eD dW.length eC : Value).ownBlock) (.slice eD dW.length eC) dW bH gp w _ ?side1 ?side2 ?side3 ?side4 ?side5 nu.out).mono ?_
       (case side1 => repeat (first | (with_reducible first | exact HB.out | apply bA | apply pD | apply bD | refine ax ?_ dt.out | refine ax ?_ dV.out) | exact HB.out))
       (case side2 => exact Kd.R_tight rfl cn.out)
       (case side3 => exact fun k_ e_ => (cn.out.1 k_ e_.symm).2)
       (case side4 => exact Kd.R_tight rfl cS.out)
       (case side5 => exact fun k_ e_ => (cS.out.1 k_ e_.symm).2)
       rintro e w38 ⟨v225, rfl, ho0, hb, hkp⟩
       refine ⟨_, rfl, ?_⟩
       have ba := aM (blk_kept z12 hkp (fun hs_ => Or.elim hs_ (fun e_ => (fun e_ => (aI cn.out a7.out (by decide)) e_) e_) (fun e_ => (fun e_ => (aI cS.out a7.out (by decide)) e_) e_)))
       have bc := aM (blk_kept z13 hkp (fun hs_ => Or.elim hs_ (fun e_ => (fun e_ => (aI cn.out a9.out (by decide)) e_) e_) (fun e_ => (fun e_ => (aI cS.out a9.out (by decide)) e_) e_)))
       have bf := aM (ag (ok' := fun k_ => True) ho0 (fun k_ hk_ => trivial))
       have bk := aM (hb)
       clear a7
       clear a9
       clear HB
       clear cn
       clear cS
       have a7 := ba
       have a9 := bc
       have co := bf
       have HB := bk
       clear ba bc bf bk
       (try clear hb)
       (try clear hkp)
       (try clear ho0)
       refine hK.out _ _ ⟨(bC a7.out 0).trans rfl, (bC a9.out 0).trans rfl⟩ (fun hHeld => ?_)
       clear hK K
       refine norm_ (a' := ?_) ?_ ?_
       rotate_left
       ·show Act.put _ (some 32) _ = _
        simp only [Act.put, sA, sB, sC, i64_w, i32_w]
        rfl
       refine pA 5 27 ?_
       refine pA 6 33 ?_
       refine pA 7 34 ?_
       refine one_ (i := 8) (N := some 6) #[true, true, true, true, true, true, true, true, true, false, false] rfl rfl (one_of HT_.out z0) (by decide) (fun K hK => ?_)
       refine box_step ?hg (N := 6) ?hd (cs := #[.slice none 0 0]) (t := 29) ?hr ?_; (case hd => rfl); (case hg => rfl); (case hr => first | (go_simp; done) | (go_simp; rfl))
       intro bo hg w39 hbox hb
       have ba := aM (af (by (with_reducible repeat (first | apply ac | apply ab | apply aa)); exact co.out) hb)
       have bc := aM (ae (g := bh) (o := .cells #[.slice bm l0_0.length bn] 24 (0, 0)) z12 hb)
       have bf := aM (ae (g := bj) (o := .cells #[.slice bK l1_0.length bL] 24 (0, 0)) z13 hb)
       have bk := aM (ay z23 hb)
       have bw := aM (hbox)
       have bx := aM ((by rw [hg]; exact (az z23) : w.heap.size ≤ bo))
       have bG := aM ((by rw [hg]; exact (az z23) : w.heap.size ≤ bo))
       have bY := aM ((by rw [hg]; exact aA (aw (g := bh) (o := .cells #[.slice bm l0_0.length bn] 24 (0, 0)) z12) : bh ≠ bo))
       have bZ := aM ((by rw [hg]; exact aC (aw (g := bh) (o := .cells #[.slice bm l0_0.length bn] 24 (0, 0)) z12) : bo ≠ bh))
       have b3 := aM ((by rw [hg]; exact aA (aw (g := bj) (o := .cells #[.slice bK l1_0.length bL] 24 (0, 0)) z13) : bj ≠ bo))
       have br := aM ((by rw [hg]; exact aC (aw (g := bj) (o := .cells #[.slice bK l1_0.length bL] 24 (0, 0)) z13) : bo ≠ bj))
       clear co
       clear a7
       clear a9
       clear HB
       have co := ba
       have a7 := bc
       have a9 := bf
       have HB := bk
       have bb := bw
       have gg := bx
       have dH := bG
       have cw := bY
       have cC := bZ
       have cu := b3
       have cB := br
       clear ba bc bf bk bw bx bG bY bZ b3 br
       clear hb hbox hg
       refine hK.out _ _ ⟨(bC a7.out 0).trans rfl, (bC a9.out 0).trans rfl⟩ (fun hHeld => ?_)
       clear hK K
       refine norm_ (a' := ?_) ?_ ?_
       rotate_left
       ·show Act.put _ (some 6) _ = _
        simp only [Act.put, sA, sB, sC, i64_w, i32_w]
        rfl
       exact norm_ (by simp only [putAll, Act.put, sA, sB, sC] <;> rfl) (hCont (.slice lC dX.length lr, .slice eD dW.length eC, v225, bo) _ ⟨hHeld, (by (with_reducible repeat (first | apply ac | apply ab | apply aa)); exact co.out), z12, z13, z14, gg.out, dH.out, cw.out, cC.out, cu.out, cB.out, z26⟩)
      ·skip
       refine box_step ?hg (N := 6) ?hd (cs := #[.slice none 0 0]) (t := 29) ?hr ?_; (case hd => rfl); (case hg => rfl); (case hr => first | (go_simp; done) | (go_simp; rfl))
       intro bo hg w36 hbox hb
       have ba := aM (af (by (with_reducible repeat (first | apply ac | apply ab | apply aa)); exact cn.out) hb)
       have bc := aM (af (by (with_reducible repeat (first | apply ac | apply ab | apply aa)); exact cS.out) hb)
       have bf := aM (ae (g := bh) (o := .cells #[.slice bm l0_0.length bn] 24 (0, 0)) z12 hb)
       have bk := aM (ae (g := bj) (o := .cells #[.slice bK l1_0.length bL] 24 (0, 0)) z13 hb)
       have bw := aM (ay z23 hb)
       have bx := aM (hbox)
       have bG := aM ((by rw [hg]; exact (az z23) : w.heap.size ≤ bo))
       have bY := aM ((by rw [hg]; exact (az z23) : w.heap.size ≤ bo))
       have bZ := aM ((by rw [hg]; exact aA (aw (g := bh) (o := .cells #[.slice bm l0_0.length bn] 24 (0, 0)) z12) : bh ≠ bo))
       have b3 := aM ((by rw [hg]; exact aC (aw (g := bh) (o := .cells #[.slice bm l0_0.length bn] 24 (0, 0)) z12) : bo ≠ bh))
       have br := aM ((by rw [hg]; exact aA (aw (g := bj) (o := .cells #[.slice bK l1_0.length bL] 24 (0, 0)) z13) : bj ≠ bo))
       have bP := aM ((by rw [hg]; exact aC (aw (g := bj) (o := .cells #[.slice bK l1_0.length bL] 24 (0, 0)) z13) : bo ≠ bj))
       clear cn
       clear cS
       clear a7
       clear a9
       clear HB
       have cn := ba
       have cS := bc
       have a7 := bf
       have a9 := bk
       have HB := bw
       have bb := bx
       have gg := bG
       have dH := bY
       have cw := bZ
       have cC := b3
       have cu := br
       have cB := bP
       clear ba bc bf bk bw bx bG bY bZ b3 br bP
       clear hb hbox hg
       obtain ⟨eD, eC, eo37⟩ := Kd.R_slice cn.out
       (first | subst eo37 | (injection eo37 with f1_ f2_ f3_; have f4_ := f1_.symm; have f5_ := f3_.symm; clear f1_ f2_ f3_; subst f4_; subst f5_))
       obtain ⟨fO, fH, eo38⟩ := Kd.R_slice cS.out
       (first | subst eo38 | (injection eo38 with f1_ f2_ f3_; have f4_ := f1_.symm; have f5_ := f3_.symm; clear f1_ f2_ f3_; subst f4_; subst f5_))
       refine hK.out _ _ ⟨(bC a7.out 0).trans rfl, (bC a9.out 0).trans rfl⟩ (fun hHeld => ?_)
       clear hK K
       refine norm_ (a' := ?_) ?_ ?_
       rotate_left
       ·show Act.put _ (some 6) _ = _
        simp only [Act.put, sA, sB, sC, i64_w, i32_w]
        rfl
       refine one_ (i := 4) (N := some 32) #[true, true, true, true, true, false, false, false, true, false, false] rfl rfl (one_of HT_.out z0) (by decide) (fun K hK => ?_)
       refine goes_ Try.func34 z0 rfl #[.agg #[.slice eD dX.length eC], .agg #[.slice fO dW.length fH]] (by rfl) rfl rfl z21 ?_
       with_reducible refine (spec_JoinRopes.calls k (fun k_ => some k_ = (.slice eD dX.length eC : Value).ownBlock) (.slice eD dX.length eC) dX (fun k_ => some k_ = (.slice fO dW.length fH : Value).ownBlock) (.slice fO dW.length fH) dW bH gp w _ ?side1 ?side2 ?side3 ?side4 ?side5 nu.out).mono ?_
       (case side1 => repeat (first | (with_reducible first | exact HB.out | apply bA | apply pD | apply bD | refine ax ?_ dt.out | refine ax ?_ dV.out | refine ax ?_ dH.out) | exact HB.out))
       (case side2 => exact Kd.R_tight rfl cn.out)
       (case side3 => exact fun k_ e_ => (cn.out.1 k_ e_.symm).2)
       (case side4 => exact Kd.R_tight rfl cS.out)
       (case side5 => exact fun k_ e_ => (cS.out.1 k_ e_.symm).2)
       rintro e w39 ⟨v225, rfl, ho0, hb, hkp⟩
       refine ⟨_, rfl, ?_⟩
       have ba := aM (blk_kept z12 hkp (fun hs_ => Or.elim hs_ (fun e_ => (fun e_ => (aI cn.out a7.out (by decide)) e_) e_) (fun e_ => (fun e_ => (aI cS.out a7.out (by decide)) e_) e_)))
       have bc := aM (blk_kept z13 hkp (fun hs_ => Or.elim hs_ (fun e_ => (fun e_ => (aI cn.out a9.out (by decide)) e_) e_) (fun e_ => (fun e_ => (aI cS.out a9.out (by decide)) e_) e_)))
       have bf := aM (blk_kept z14 hkp (fun hs_ => Or.elim hs_ (fun e_ => (fun e_ => (aI cn.out bb.out (by decide)) e_) e_) (fun e_ => (fun e_ => (aI cS.out bb.out (by decide)) e_) e_)))
       have bk := aM (ag (ok' := fun k_ => True) ho0 (fun k_ hk_ => trivial))
       have bw := aM (hb)
       clear a7
       clear a9
       clear bb
       clear HB
       clear cn
       clear cS
       have a7 := ba
       have a9 := bc
       have bb := bf
       have co := bk
       have HB := bw
       clear ba bc bf bk bw
       (try clear hb)
       (try clear hkp)
       (try clear ho0)
       refine hK.out _ _ ⟨(bC a7.out 0).trans rfl, (bC a9.out 0).trans rfl⟩ (fun hHeld => ?_)
       clear hK K
       refine norm_ (a' := ?_) ?_ ?_
       rotate_left
       ·show Act.put _ (some 32) _ = _
        simp only [Act.put, sA, sB, sC, i64_w, i32_w]
        rfl
       refine pA 5 27 ?_
       refine pA 6 33 ?_
       refine pA 7 34 ?_
       exact norm_ (by simp only [putAll, Act.put, sA, sB, sC] <;> rfl) (hCont (.slice eD dX.length eC, .slice fO dW.length fH, v225, bo) _ ⟨hHeld, (by (with_reducible repeat (first | apply ac | apply ab | apply aa)); exact co.out), z12, z13, z14, gg.out, dH.out, cw.out, cC.out, cu.out, cB.out, z26⟩)
     ·skip
      refine box_step ?hg (N := 6) ?hd (cs := #[.slice none 0 0]) (t := 29) ?hr ?_; (case hd => rfl); (case hg => rfl); (case hr => first | (go_simp; done) | (go_simp; rfl))
      intro bo hg w35 hbox hb
      have ba := aM (af (by (with_reducible repeat (first | apply ac | apply ab | apply aa)); exact cn.out) hb)
      have bc := aM (ae (g := bh) (o := .cells #[.slice bm l0_0.length bn] 24 (0, 0)) z12 hb)
      have bf := aM (ae (g := bj) (o := .cells #[.slice bK l1_0.length bL] 24 (0, 0)) z13 hb)
      have bk := aM (ay z23 hb)
      have bw := aM (hbox)
      have bx := aM ((by rw [hg]; exact (az z23) : w.heap.size ≤ bo))
      have bG := aM ((by rw [hg]; exact (az z23) : w.heap.size ≤ bo))
      have bY := aM ((by rw [hg]; exact aA (aw (g := bh) (o := .cells #[.slice bm l0_0.length bn] 24 (0, 0)) z12) : bh ≠ bo))
      have bZ := aM ((by rw [hg]; exact aC (aw (g := bh) (o := .cells #[.slice bm l0_0.length bn] 24 (0, 0)) z12) : bo ≠ bh))
      have b3 := aM ((by rw [hg]; exact aA (aw (g := bj) (o := .cells #[.slice bK l1_0.length bL] 24 (0, 0)) z13) : bj ≠ bo))
      have br := aM ((by rw [hg]; exact aC (aw (g := bj) (o := .cells #[.slice bK l1_0.length bL] 24 (0, 0)) z13) : bo ≠ bj))
      clear cn
      clear a7
      clear a9
      clear HB
      have cn := ba
      have a7 := bc
      have a9 := bf
      have HB := bk
      have bb := bw
      have gg := bx
      have dH := bG
      have cw := bY
      have cC := bZ
      have cu := b3
      have cB := br
      clear ba bc bf bk bw bx bG bY bZ b3 br
      clear hb hbox hg
      refine hK.out _ _ ⟨(bC a7.out 0).trans rfl, (bC a9.out 0).trans rfl⟩ (fun hHeld => ?_)
      clear hK K
      refine norm_ (a' := ?_) ?_ ?_
      rotate_left
      ·show Act.put _ (some 6) _ = _
       simp only [Act.put, sA, sB, sC, i64_w, i32_w]
       rfl
      refine one_ (i := 3) (N := some 31) #[true, true, true, true, false, false, false, false, true, false, false] rfl rfl (one_of HT_.out z0) (by decide) (fun K hK => ?_)
      refine goes_ Try.func16 z0 rfl #[.agg #[.slice bK l1_0.length bL]] (by rfl) rfl rfl z21 ?_
      with_reducible refine (laws_toRope.calls k _ _ l1_0 dW _ ?side1 ?side2 mD.out).mono ?_
      (case side1 => repeat (first | exact (aD ec.out HB.out) | (with_reducible refine aE ?_ _) | (with_reducible refine aG ?_ _) | (with_reducible refine aH ?_)))
      (case side2 => exact ed.out)
      rintro e w36 ⟨v222, rfl, ho0, hb⟩
      refine ⟨_, rfl, ?_⟩
      have ba := aM (ai (by (with_reducible repeat (first | apply ac | apply ab | apply aa)); exact cn.out) (ak ho0) hb)
      have bc := aM (aT (aj ho0 (al (by (with_reducible repeat (first | apply ac | apply ab | apply aa)); exact cn.out))) (az z26))
      have bf := aM (ae (g := bh) (o := .cells #[.slice bm l0_0.length bn] 24 (0, 0)) z12 hb)
      have bk := aM (ae (g := bj) (o := .cells #[.slice bK l1_0.length bL] 24 (0, 0)) z13 hb)
      have bw := aM (ae (g := bo) (o := .cells #[.slice none 0 0] 29 (0, 0)) z14 hb)
      have bx := aM (ay z26 hb)
      clear cn
      clear a7
      clear a9
      clear bb
      clear HB
      have cn := ba
      have cS := bc
      have a7 := bf
      have a9 := bk
      have bb := bw
      have HB := bx
      clear ba bc bf bk bw bx
      (try clear hb)
      (try clear hb2)
      (try clear hk)
      (try clear hi)
      (try clear ho0)
      obtain ⟨eD, eC, eo37⟩ := Kd.R_slice cn.out
      (first | subst eo37 | (injection eo37 with f1_ f2_ f3_; have f4_ := f1_.symm; have f5_ := f3_.symm; clear f1_ f2_ f3_; subst f4_; subst f5_))
      obtain ⟨fO, fH, eo38⟩ := Kd.R_slice cS.out
      (first | subst eo38 | (injection eo38 with f1_ f2_ f3_; have f4_ := f1_.symm; have f5_ := f3_.symm; clear f1_ f2_ f3_; subst f4_; subst f5_))
      refine hK.out _ _ ⟨(bC a7.out 0).trans rfl, (bC a9.out 0).trans rfl⟩ (fun hHeld => ?_)
      clear hK K
      refine norm_ (a' := ?_) ?_ ?_
      rotate_left
      ·show Act.put _ (some 31) _ = _
       simp only [Act.put, sA, sB, sC, i64_w, i32_w]
       rfl
      refine one_ (i := 4) (N := some 32) #[true, true, true, true, true, false, false, false, true, false, false] rfl rfl (one_of HT_.out z0) (by decide) (fun K hK => ?_)
      refine goes_ Try.func34 z0 rfl #[.agg #[.slice eD dX.length eC], .agg #[.slice fO dW.length fH]] (by rfl) rfl rfl z21 ?_
      with_reducible refine (spec_JoinRopes.calls k (fun k_ => some k_ = (.slice eD dX.length eC : Value).ownBlock) (.slice eD dX.length eC) dX (fun k_ => some k_ = (.slice fO dW.length fH : Value).ownBlock) (.slice fO dW.length fH) dW bH gp w _ ?side1 ?side2 ?side3 ?side4 ?side5 nu.out).mono ?_
      (case side1 => repeat (first | (with_reducible first | exact HB.out | apply bA | apply pD | apply bD | refine ax ?_ dt.out | refine ax ?_ dV.out | refine ax ?_ dH.out) | exact HB.out))
      (case side2 => exact Kd.R_tight rfl cn.out)
      (case side3 => exact fun k_ e_ => (cn.out.1 k_ e_.symm).2)
      (case side4 => exact Kd.R_tight rfl cS.out)
      (case side5 => exact fun k_ e_ => (cS.out.1 k_ e_.symm).2)
      rintro e w39 ⟨v225, rfl, ho0, hb, hkp⟩
      refine ⟨_, rfl, ?_⟩
      have ba := aM (blk_kept z12 hkp (fun hs_ => Or.elim hs_ (fun e_ => (fun e_ => (aI cn.out a7.out (by decide)) e_) e_) (fun e_ => (fun e_ => (aI cS.out a7.out (by decide)) e_) e_)))
      have bc := aM (blk_kept z13 hkp (fun hs_ => Or.elim hs_ (fun e_ => (fun e_ => (aI cn.out a9.out (by decide)) e_) e_) (fun e_ => (fun e_ => (aI cS.out a9.out (by decide)) e_) e_)))
      have bf := aM (blk_kept z14 hkp (fun hs_ => Or.elim hs_ (fun e_ => (fun e_ => (aI cn.out bb.out (by decide)) e_) e_) (fun e_ => (fun e_ => (aI cS.out bb.out (by decide)) e_) e_)))
      have bk := aM (ag (ok' := fun k_ => True) ho0 (fun k_ hk_ => trivial))
      have bw := aM (hb)
      clear a7
      clear a9
      clear bb
      clear HB
      clear cn
      clear cS
      have a7 := ba
      have a9 := bc
      have bb := bf
      have co := bk
      have HB := bw
      clear ba bc bf bk bw
      (try clear hb)
      (try clear hkp)
      (try clear ho0)
      refine hK.out _ _ ⟨(bC a7.out 0).trans rfl, (bC a9.out 0).trans rfl⟩ (fun hHeld => ?_)
      clear hK K
      refine norm_ (a' := ?_) ?_ ?_
      rotate_left
      ·show Act.put _ (some 32) _ = _
       simp only [Act.put, sA, sB, sC, i64_w, i32_w]
       rfl
      refine pA 5 27 ?_
      refine pA 6 33 ?_
      refine pA 7 34 ?_
      exact norm_ (by simp only [putAll, Act.put, sA, sB, sC] <;> rfl) (hCont (.slice eD dX.length eC, .slice fO dW.length fH, v225, bo) _ ⟨hHeld, (by (with_reducible repeat (first | apply ac | apply ab | apply aa)); exact co.out), z12, z13, z14, gg.out, dH.out, cw.out, cC.out, cu.out, cB.out, z26⟩)
    ·skip
     refine box_step ?hg (N := 6) ?hd (cs := #[.slice none 0 0]) (t := 29) ?hr ?_; (case hd => rfl); (case hg => rfl); (case hr => first | (go_simp; done) | (go_simp; rfl))
     intro bo hg w34 hbox hb
     have ba := aM (ae (g := bh) (o := .cells #[.slice bm l0_0.length bn] 24 (0, 0)) z12 hb)
     have bc := aM (ae (g := bj) (o := .cells #[.slice bK l1_0.length bL] 24 (0, 0)) z13 hb)
     have bf := aM (ay z23 hb)
     have bk := aM (hbox)
     have bw := aM ((by rw [hg]; exact (az z23) : w.heap.size ≤ bo))
     have bx := aM ((by rw [hg]; exact (az z23) : w.heap.size ≤ bo))
     have bG := aM ((by rw [hg]; exact aA (aw (g := bh) (o := .cells #[.slice bm l0_0.length bn] 24 (0, 0)) z12) : bh ≠ bo))
     have bY := aM ((by rw [hg]; exact aC (aw (g := bh) (o := .cells #[.slice bm l0_0.length bn] 24 (0, 0)) z12) : bo ≠ bh))
     have bZ := aM ((by rw [hg]; exact aA (aw (g := bj) (o := .cells #[.slice bK l1_0.length bL] 24 (0, 0)) z13) : bj ≠ bo))
     have b3 := aM ((by rw [hg]; exact aC (aw (g := bj) (o := .cells #[.slice bK l1_0.length bL] 24 (0, 0)) z13) : bo ≠ bj))
     clear a7
     clear a9
     clear HB
     have a7 := ba
     have a9 := bc
     have HB := bf
     have bb := bk
     have gg := bw
     have dH := bx
     have cw := bG
     have cC := bY
     have cu := bZ
     have cB := b3
     clear ba bc bf bk bw bx bG bY bZ b3
     clear hb hbox hg
     refine hK.out _ _ ⟨(bC a7.out 0).trans rfl, (bC a9.out 0).trans rfl⟩ (fun hHeld => ?_)
     clear hK K
     refine norm_ (a' := ?_) ?_ ?_
     rotate_left
     ·show Act.put _ (some 6) _ = _
      simp only [Act.put, sA, sB, sC, i64_w, i32_w]
      rfl
     refine one_ (i := 1) (N := some 29) #[true, true, true, false, false, false, false, false, true, false, false] rfl rfl (one_of HT_.out z0) (by decide) (fun K hK => ?_)
     refine goes_ Try.func16 z0 rfl #[.agg #[.slice bm l0_0.length bn]] (by rfl) rfl rfl z21 ?_
     with_reducible refine (laws_toRope.calls k _ _ l0_0 dX _ ?side1 ?side2 nE.out).mono ?_
     (case side1 => repeat (first | exact (aD du.out HB.out) | (with_reducible refine aE ?_ _) | (with_reducible refine aG ?_ _) | (with_reducible refine aH ?_)))
     (case side2 => exact dy.out)
     rintro e w35 ⟨v219, rfl, ho0, hb⟩
     refine ⟨_, rfl, ?_⟩
     have ba := aM (aT ho0 (az z26))
     have bc := aM (ae (g := bh) (o := .cells #[.slice bm l0_0.length bn] 24 (0, 0)) z12 hb)
     have bf := aM (ae (g := bj) (o := .cells #[.slice bK l1_0.length bL] 24 (0, 0)) z13 hb)
     have bk := aM (ae (g := bo) (o := .cells #[.slice none 0 0] 29 (0, 0)) z14 hb)
     have bw := aM (ay z26 hb)
     clear a7
     clear a9
     clear bb
     clear HB
     have cn := ba
     have a7 := bc
     have a9 := bf
     have bb := bk
     have HB := bw
     clear ba bc bf bk bw
     (try clear hb)
     (try clear hb2)
     (try clear hk)
     (try clear hi)
     (try clear ho0)
     refine hK.out _ _ ⟨(bC a7.out 0).trans rfl, (bC a9.out 0).trans rfl⟩ (fun hHeld => ?_)
     clear hK K
     refine norm_ (a' := ?_) ?_ ?_
     rotate_left
     ·show Act.put _ (some 29) _ = _
      simp only [Act.put, sA, sB, sC, i64_w, i32_w]
      rfl
     refine one_ (i := 3) (N := some 31) #[true, true, true, true, false, false, false, false, true, false, false] rfl rfl (one_of HT_.out z0) (by decide) (fun K hK => ?_)
     refine goes_ Try.func16 z0 rfl #[.agg #[.slice bK l1_0.length bL]] (by rfl) rfl rfl z21 ?_
     with_reducible refine (laws_toRope.calls k _ _ l1_0 dW _ ?side1 ?side2 mD.out).mono ?_
     (case side1 => repeat (first | exact (aD ec.out HB.out) | (with_reducible refine aE ?_ _) | (with_reducible refine aG ?_ _) | (with_reducible refine aH ?_)))
     (case side2 => exact ed.out)
     rintro e w36 ⟨v222, rfl, ho0, hb⟩
     refine ⟨_, rfl, ?_⟩
     have ba := aM (ai (by (with_reducible repeat (first | apply ac | apply ab | apply aa)); exact cn.out) (ak ho0) hb)
     have bc := aM (aT (aj ho0 (al (by (with_reducible repeat (first | apply ac | apply ab | apply aa)); exact cn.out))) (az z26))
     have bf := aM (ae (g := bh) (o := .cells #[.slice bm l0_0.length bn] 24 (0, 0)) z12 hb)
     have bk := aM (ae (g := bj) (o := .cells #[.slice bK l1_0.length bL] 24 (0, 0)) z13 hb)
     have bw := aM (ae (g := bo) (o := .cells #[.slice none 0 0] 29 (0, 0)) z14 hb)
     have bx := aM (ay z26 hb)
     clear cn
     clear a7
     clear a9
     clear bb
     clear HB
     have cn := ba
     have cS := bc
     have a7 := bf
     have a9 := bk
     have bb := bw
     have HB := bx
     clear ba bc bf bk bw bx
     (try clear hb)
     (try clear hb2)
     (try clear hk)
     (try clear hi)
     (try clear ho0)
     obtain ⟨eD, eC, eo37⟩ := Kd.R_slice cn.out
     (first | subst eo37 | (injection eo37 with f1_ f2_ f3_; have f4_ := f1_.symm; have f5_ := f3_.symm; clear f1_ f2_ f3_; subst f4_; subst f5_))
     obtain ⟨fO, fH, eo38⟩ := Kd.R_slice cS.out
     (first | subst eo38 | (injection eo38 with f1_ f2_ f3_; have f4_ := f1_.symm; have f5_ := f3_.symm; clear f1_ f2_ f3_; subst f4_; subst f5_))
     refine hK.out _ _ ⟨(bC a7.out 0).trans rfl, (bC a9.out 0).trans rfl⟩ (fun hHeld => ?_)
     clear hK K
     refine norm_ (a' := ?_) ?_ ?_
     rotate_left
     ·show Act.put _ (some 31) _ = _
      simp only [Act.put, sA, sB, sC, i64_w, i32_w]
      rfl
     refine one_ (i := 4) (N := some 32) #[true, true, true, true, true, false, false, false, true, false, false] rfl rfl (one_of HT_.out z0) (by decide) (fun K hK => ?_)
     refine goes_ Try.func34 z0 rfl #[.agg #[.slice eD dX.length eC], .agg #[.slice fO dW.length fH]] (by rfl) rfl rfl z21 ?_
     with_reducible refine (spec_JoinRopes.calls k (fun k_ => some k_ = (.slice eD dX.length eC : Value).ownBlock) (.slice eD dX.length eC) dX (fun k_ => some k_ = (.slice fO dW.length fH : Value).ownBlock) (.slice fO dW.length fH) dW bH gp w _ ?side1 ?side2 ?side3 ?side4 ?side5 nu.out).mono ?_
     (case side1 => repeat (first | (with_reducible first | exact HB.out | apply bA | apply pD | apply bD | refine ax ?_ dt.out | refine ax ?_ dV.out | refine ax ?_ dH.out) | exact HB.out))
     (case side2 => exact Kd.R_tight rfl cn.out)
     (case side3 => exact fun k_ e_ => (cn.out.1 k_ e_.symm).2)
     (case side4 => exact Kd.R_tight rfl cS.out)
     (case side5 => exact fun k_ e_ => (cS.out.1 k_ e_.symm).2)
     rintro e w39 ⟨v225, rfl, ho0, hb, hkp⟩
     refine ⟨_, rfl, ?_⟩
     have ba := aM (blk_kept z12 hkp (fun hs_ => Or.elim hs_ (fun e_ => (fun e_ => (aI cn.out a7.out (by decide)) e_) e_) (fun e_ => (fun e_ => (aI cS.out a7.out (by decide)) e_) e_)))
     have bc := aM (blk_kept z13 hkp (fun hs_ => Or.elim hs_ (fun e_ => (fun e_ => (aI cn.out a9.out (by decide)) e_) e_) (fun e_ => (fun e_ => (aI cS.out a9.out (by decide)) e_) e_)))
     have bf := aM (blk_kept z14 hkp (fun hs_ => Or.elim hs_ (fun e_ => (fun e_ => (aI cn.out bb.out (by decide)) e_) e_) (fun e_ => (fun e_ => (aI cS.out bb.out (by decide)) e_) e_)))
     have bk := aM (ag (ok' := fun k_ => True) ho0 (fun k_ hk_ => trivial))
     have bw := aM (hb)
     clear a7
     clear a9
     clear bb
     clear HB
     clear cn
     clear cS
     have a7 := ba
     have a9 := bc
     have bb := bf
     have co := bk
     have HB := bw
     clear ba bc bf bk bw
     (try clear hb)
     (try clear hkp)
     (try clear ho0)
     refine hK.out _ _ ⟨(bC a7.out 0).trans rfl, (bC a9.out 0).trans rfl⟩ (fun hHeld => ?_)
     clear hK K
     refine norm_ (a' := ?_) ?_ ?_
     rotate_left
     ·show Act.put _ (some 32) _ = _
      simp only [Act.put, sA, sB, sC, i64_w, i32_w]
      rfl
     refine pA 5 27 ?_
     refine pA 6 33 ?_
     refine pA 7 34 ?_
     exact norm_ (by simp only [putAll, Act.put, sA, sB, sC] <;> rfl) (hCont (.slice eD dX.length eC, .slice fO dW.length fH, v225, bo) _ ⟨hHeld, (by (with_reducible repeat (first | apply ac | apply ab | apply aa)); exact co.out), z12, z13, z14, gg.out, dH.out, cw.out, cC.out, cu.out, cB.out, z26⟩)
   rintro ⟨v219, v222, v225, bo⟩ w40 ⟨hS_, h0_, h1_, h2_, h3_, h4_, h5_, h6_, h7_, h8_, h9_, h10_⟩
   have ba : Aside0 (Kd.R k58 58 w40 w.heap.size (fun _ => True) v225 bH) := ⟨h0_⟩
   have bc : Aside0 (w40.heap[bh]? = some (.cells #[.slice bm l0_0.length bn] 24 (0, 0))) := ⟨h1_⟩
   have bf : Aside0 (w40.heap[bj]? = some (.cells #[.slice bK l1_0.length bL] 24 (0, 0))) := ⟨h2_⟩
   have bk : Aside0 (w40.heap[bo]? = some (.cells #[.slice none 0 0] 29 (0, 0))) := ⟨h3_⟩
   have bw : Aside0 (w.heap.size ≤ bo) := ⟨h4_⟩
   have bx : Aside0 (w.heap.size ≤ bo) := ⟨h5_⟩
   have bG : Aside0 (bh ≠ bo) := ⟨h6_⟩
   have bY : Aside0 (bo ≠ bh) := ⟨h7_⟩
   have bZ : Aside0 (bj ≠ bo) := ⟨h8_⟩
   have b3 : Aside0 (bo ≠ bj) := ⟨h9_⟩
   have br : Aside0 (Below w.heap.size w w40) := ⟨h10_⟩
   clear a7
   clear a9
   clear HB
   clear h0_ h1_ h2_ h3_ h4_ h5_ h6_ h7_ h8_ h9_ h10_
   have co := ba
   have a7 := bc
   have a9 := bf
   have bb := bk
   have gg := bw
   have dH := bx
   have cw := bG
   have cC := bY
   have cu := bZ
   have cB := b3
   have HB := br
   clear ba bc bf bk bw bx bG bY bZ b3 br
   have hHeld : w40.cell? ⟨bh, 0, none⟩ = some (.slice bm l0_0.length bn) ∧ w40.cell? ⟨bj, 0, none⟩ = some (.slice bK l1_0.length bL) := hS_
   obtain ⟨bQ, bN, eo41⟩ := Kd.R_slice co.out
   (first | subst eo41 | (injection eo41 with f1_ f2_ f3_; have f4_ := f1_.symm; have f5_ := f3_.symm; clear f1_ f2_ f3_; subst f4_; subst f5_))
   refine norm_ (a' := ?_) ?_ ?_
   rotate_left
   ·simp only [putAll, Act.put, sA, sB, sC]
    rfl
   refine one_ (i := 9) (N := none) #[true, true, true, true, true, true, true, true, true, true, false] rfl rfl (one_of HT_.out z0) (by decide) (fun K hK => ?_)
   have hs42 : w40.cell? ⟨bo, 0, none⟩ = some (.slice none 0 0) := (bC bb.out 0).trans rfl
   have hfs42 := bF bb.out 0
   have hns42_0 := cw.out
   have hns42_1 := cu.out
   have hms42_0 := cC.out
   have hms42_1 := cB.out
   refine skip_ (w1 := ?_) (by rfl) rfl ?_ ?_
   rotate_left
   ·go_simp
    rfl
   refine hK.out _ _ ⟨((cell_far (p := ⟨bo, _, none⟩) cw.out _).trans (hHeld.1)), ((cell_far (p := ⟨bo, _, none⟩) cu.out _).trans (hHeld.2))⟩ (fun hHeld => ?_)
   clear hK K
   refine pA 10 7 ?_
   refine done_ (done_of HT_.out z0) ?_
   have hnb43 := cw.out
   have hnc43 := cC.out
   have iT : w40.cell? ⟨bh, 0, none⟩ = some (.slice bm l0_0.length bn) := (bC a7.out 0).trans rfl
   have ip := bF a7.out 0
   go_upto_region 12 with (first | ((with_reducible refine aJ (f := 16) rfl ?_); refine aQ (some 36) rfl rfl Try.func16 z0 rfl #[.agg #[.slice bm l0_0.length bn]] rfl z21 ?_; (with_reducible refine (laws_toRope.calls k _ _ l0_0 ce _ ?side1 ?side2 A22.out).mono ?_); (case side1 => exact aD du.out z26); (case side2 => exact dy.out); rintro e w45 ⟨v230, rfl, ho0, hb⟩; refine ⟨_, rfl, ?_⟩; have ba := aM (ai (by (with_reducible repeat (first | apply ac | apply ab | apply aa)); exact (ag (am (p := ⟨bo, 0, none⟩) (ao co.out bb.out (by decide)) (fun _ hk => hk.2) (.slice bQ bH.length bN)) (fun _ h_ => h_.1))) (ak ho0) hb); have bc := aM (aT (aj ho0 (al (by (with_reducible repeat (first | apply ac | apply ab | apply aa)); exact (ag (am (p := ⟨bo, 0, none⟩) (ao co.out bb.out (by decide)) (fun _ hk => hk.2) (.slice bQ bH.length bN)) (fun _ h_ => h_.1))))) (az z26)); have bf := aM (ae (g := bh) (o := .cells #[.slice bm l0_0.length bn] 24 (0, 0)) (by (with_reducible repeat (first | refine aq ?_ _ | refine ap ?_ | refine ar ?_ _)); refine au ?_ cw.out _; (with_reducible repeat (first | refine aq ?_ _ | refine ap ?_ | refine ar ?_ _)); exact a7.out) hb); have bk := aM (ae (g := bj) (o := .cells #[.slice bK l1_0.length bL] 24 (0, 0)) (by (with_reducible repeat (first | refine aq ?_ _ | refine ap ?_ | refine ar ?_ _)); refine au ?_ cu.out _; (with_reducible repeat (first | refine aq ?_ _ | refine ap ?_ | refine ar ?_ _)); exact a9.out) hb); have bw := aM (ae (g := bo) (o := .cells #[.slice bQ bH.length bN] 29 (0, 0)) (by (with_reducible repeat (first | refine aq ?_ _ | refine ap ?_ | refine ar ?_ _)); refine av (cs := #[.slice none 0 0]) ?_ 0 _ rfl; (with_reducible repeat (first | refine aq ?_ _ | refine ap ?_ | refine ar ?_ _)); exact bb.out) hb); have bx := aM (ay z26 hb); clear co; clear a7; clear a9; clear bb; clear HB; have co := ba; have df := bc; have a7 := bf; have a9 := bk; have bb := bw; have HB := bx; clear ba bc bf bk bw bx; (try clear hb); (try clear hb2); (try clear hk); (try clear hi); (try clear ho0)) | ((with_reducible refine aK (N := 8) rfl ?_); refine aN ?hg (N := 8) ?hd (cs := #[.slice none 0 0]) (t := 29) ?hr ?_; (case hd => rfl); (case hg => rfl); (case hr => first | (go_simp; done) | (go_simp; rfl)); intro bM hg w46 hbox hb; have ba := aM (af (by (with_reducible repeat (first | apply ac | apply ab | apply aa)); exact co.out) hb); have bc := aM (af (by (with_reducible repeat (first | apply ac | apply ab | apply aa)); exact df.out) hb); have bf := aM (ae (g := bh) (o := .cells #[.slice bm l0_0.length bn] 24 (0, 0)) z12 hb); have bk := aM (ae (g := bj) (o := .cells #[.slice bK l1_0.length bL] 24 (0, 0)) z13 hb); have bw := aM (ae (g := bo) (o := .cells #[.slice bQ bH.length bN] 29 (0, 0)) z14 hb); have bx := aM (ay z26 hb); have bG := aM (hbox); have bY := aM ((by rw [hg]; exact (az z26) : w.heap.size ≤ bM)); have bZ := aM ((by rw [hg]; exact (az z26) : w.heap.size ≤ bM)); have b3 := aM ((by rw [hg]; exact aA (aw (g := bh) (o := .cells #[.slice bm l0_0.length bn] 24 (0, 0)) z12) : bh ≠ bM)); have br := aM ((by rw [hg]; exact aC (aw (g := bh) (o := .cells #[.slice bm l0_0.length bn] 24 (0, 0)) z12) : bM ≠ bh)); have bP := aM ((by rw [hg]; exact aA (aw (g := bj) (o := .cells #[.slice bK l1_0.length bL] 24 (0, 0)) z13) : bj ≠ bM)); have b4 := aM ((by rw [hg]; exact aC (aw (g := bj) (o := .cells #[.slice bK l1_0.length bL] 24 (0, 0)) z13) : bM ≠ bj)); have cH := aM ((by rw [hg]; exact aA (aw (g := bo) (o := .cells #[.slice bQ bH.length bN] 29 (0, 0)) z14) : bo ≠ bM)); have dc := aM ((by rw [hg]; exact aC (aw (g := bo) (o := .cells #[.slice bQ bH.length bN] 29 (0, 0)) z14) : bM ≠ bo)); clear co; clear df; clear a7; clear a9; clear bb; clear HB; have co := ba; have df := bc; have a7 := bf; have a9 := bk; have bb := bw; have HB := bx; have bg := bG; have GW232 := bY; have fd := bZ; have fV := b3; have hO := br; have fT := bP; have hJ := b4; have dD := cH; have dN := dc; clear ba bc bf bk bw bx bG bY bZ b3 br bP b4 cH dc; clear hb hbox hg; obtain ⟨bS, bR, eo47⟩ := Kd.R_slice df.out; subst eo47; have hnb48 := hO.out; have hnc48 := fV.out; have hnb49 := hJ.out; have hnc49 := fT.out; have hnb50 := dN.out; have hnc50 := dD.out; have iS : w46.cell? ⟨bM, 0, none⟩ = some (.slice none 0 0) := (bC bg.out 0).trans rfl; have im := bF bg.out 0; have hnb52 := cu.out; have hnc52 := cB.out; have iR : w46.cell? ⟨bj, 0, none⟩ = some (.slice bK l1_0.length bL) := (bC a9.out 0).trans rfl; have il := bF a9.out 0) | ((with_reducible refine aJ (f := 16) rfl ?_); refine aQ (some 38) rfl rfl Try.func16 z0 rfl #[.agg #[.slice bK l1_0.length bL]] rfl z21 ?_; (with_reducible refine (laws_toRope.calls k _ _ l1_0 ch _ ?side1 ?side2 A23.out).mono ?_); (case side1 => exact aD ec.out z28); (case side2 => exact ed.out); rintro e w54 ⟨v234, rfl, ho0, hb⟩; refine ⟨_, rfl, ?_⟩; have ba := aM (ai (by (with_reducible repeat (first | apply ac | apply ab | apply aa)); exact (ag (am (p := ⟨bM, 0, none⟩) (ao co.out bg.out (by decide)) (fun _ hk => hk.2) (.slice bS ce.length bR)) (fun _ h_ => h_.1))) (ak ho0) hb); have bc := aM (ai (by (with_reducible repeat (first | apply ac | apply ab | apply aa)); exact (ag (am (p := ⟨bM, 0, none⟩) (ao df.out bg.out (by decide)) (fun _ hk => hk.2) (.slice bS ce.length bR)) (fun _ h_ => h_.1))) (ak ho0) hb); have bf := aM (aT (aj (aj ho0 (al (by (with_reducible repeat (first | apply ac | apply ab | apply aa)); exact (ag (am (p := ⟨bM, 0, none⟩) (ao co.out bg.out (by decide)) (fun _ hk => hk.2) (.slice bS ce.length bR)) (fun _ h_ => h_.1))))) (al (by (with_reducible repeat (first | apply ac | apply ab | apply aa)); exact (ag (am (p := ⟨bM, 0, none⟩) (ao df.out bg.out (by decide)) (fun _ hk => hk.2) (.slice bS ce.length bR)) (fun _ h_ => h_.1))))) (az z28)); have bk := aM (ae (g := bh) (o := .cells #[.slice bm l0_0.length bn] 24 (0, 0)) (by (with_reducible repeat (first | refine aq ?_ _ | refine ap ?_ | refine ar ?_ _)); refine au ?_ fV.out _; (with_reducible repeat (first | refine aq ?_ _ | refine ap ?_ | refine ar ?_ _)); exact a7.out) hb); have bw := aM (ae (g := bj) (o := .cells #[.slice bK l1_0.length bL] 24 (0, 0)) (by (with_reducible repeat (first | refine aq ?_ _ | refine ap ?_ | refine ar ?_ _)); refine au ?_ fT.out _; (with_reducible repeat (first | refine aq ?_ _ | refine ap ?_ | refine ar ?_ _)); exact a9.out) hb); have bx := aM (ae (g := bo) (o := .cells #[.slice bQ bH.length bN] 29 (0, 0)) (by (with_reducible repeat (first | refine aq ?_ _ | refine ap ?_ | refine ar ?_ _)); refine au ?_ dD.out _; (with_reducible repeat (first | refine aq ?_ _ | refine ap ?_ | refine ar ?_ _)); exact bb.out) hb); have bG := aM (ae (g := bM) (o := .cells #[.slice bS ce.length bR] 29 (0, 0)) (by (with_reducible repeat (first | refine aq ?_ _ | refine ap ?_ | refine ar ?_ _)); refine av (cs := #[.slice none 0 0]) ?_ 0 _ rfl; (with_reducible repeat (first | refine aq ?_ _ | refine ap ?_ | refine ar ?_ _)); exact bg.out) hb); have bY := aM (ay z28 hb); clear co; clear df; clear a7; clear a9; clear bb; clear bg; clear HB; have co := ba; have df := bc; have dG := bf; have a7 := bk; have a9 := bw; have bb := bx; have bg := bG; have HB := bY; clear ba bc bf bk bw bx bG bY; (try clear hb); (try clear hb2); (try clear hk); (try clear hi); (try clear ho0)) | ((with_reducible refine aK (N := 9) rfl ?_); refine aN ?hg (N := 9) ?hd (cs := #[.slice none 0 0]) (t := 29) ?hr ?_; (case hd => rfl); (case hg => rfl); (case hr => first | (go_simp; done) | (go_simp; rfl)); intro bO hg w55 hbox hb; have ba := aM (af (by (with_reducible repeat (first | apply ac | apply ab | apply aa)); exact co.out) hb); have bc := aM (af (by (with_reducible repeat (first | apply ac | apply ab | apply aa)); exact df.out) hb); have bf := aM (af (by (with_reducible repeat (first | apply ac | apply ab | apply aa)); exact dG.out) hb); have bk := aM (ae (g := bh) (o := .cells #[.slice bm l0_0.length bn] 24 (0, 0)) z12 hb); have bw := aM (ae (g := bj) (o := .cells #[.slice bK l1_0.length bL] 24 (0, 0)) z13 hb); have bx := aM (ae (g := bo) (o := .cells #[.slice bQ bH.length bN] 29 (0, 0)) z14 hb); have bG := aM (ae (g := bM) (o := .cells #[.slice bS ce.length bR] 29 (0, 0)) z15 hb); have bY := aM (ay z28 hb); have bZ := aM (hbox); have b3 := aM ((by rw [hg]; exact (az z28) : w.heap.size ≤ bO)); have br := aM ((by rw [hg]; exact (az z28) : w.heap.size ≤ bO)); have bP := aM ((by rw [hg]; exact aA (aw (g := bh) (o := .cells #[.slice bm l0_0.length bn] 24 (0, 0)) z12) : bh ≠ bO)); have b4 := aM ((by rw [hg]; exact aC (aw (g := bh) (o := .cells #[.slice bm l0_0.length bn] 24 (0, 0)) z12) : bO ≠ bh)); have cH := aM ((by rw [hg]; exact aA (aw (g := bj) (o := .cells #[.slice bK l1_0.length bL] 24 (0, 0)) z13) : bj ≠ bO)); have dc := aM ((by rw [hg]; exact aC (aw (g := bj) (o := .cells #[.slice bK l1_0.length bL] 24 (0, 0)) z13) : bO ≠ bj)); have dY := aM ((by rw [hg]; exact aA (aw (g := bo) (o := .cells #[.slice bQ bH.length bN] 29 (0, 0)) z14) : bo ≠ bO)); have ej := aM ((by rw [hg]; exact aC (aw (g := bo) (o := .cells #[.slice bQ bH.length bN] 29 (0, 0)) z14) : bO ≠ bo)); have ei := aM ((by rw [hg]; exact aA (aw (g := bM) (o := .cells #[.slice bS ce.length bR] 29 (0, 0)) z15) : bM ≠ bO)); have eh := aM ((by rw [hg]; exact aC (aw (g := bM) (o := .cells #[.slice bS ce.length bR] 29 (0, 0)) z15) : bO ≠ bM)); clear co; clear df; clear dG; clear a7; clear a9; clear bb; clear bg; clear HB; have co := ba; have df := bc; have dG := bf; have a7 := bk; have a9 := bw; have bb := bx; have bg := bG; have HB := bY; have bi := bZ; have GW236 := b3; have fc := br; have fU := bP; have hI := b4; have fS := cH; have hH := dc; have dC := dY; have dM := ej; have fR := ei; have hD := eh; clear ba bc bf bk bw bx bG bY bZ b3 br bP b4 cH dc dY ej ei eh; clear hb hbox hg; obtain ⟨bU, bT, eo56⟩ := Kd.R_slice dG.out; subst eo56; have hnb57 := hI.out; have hnc57 := fU.out; have hnb58 := hH.out; have hnc58 := fS.out; have hnb59 := dM.out; have hnc59 := dC.out; have hnb60 := hD.out; have hnc60 := fR.out; have kf : w55.cell? ⟨bO, 0, none⟩ = some (.slice none 0 0) := (bC bi.out 0).trans rfl; have jQ := bF bi.out 0; have ke : w55.cell? ⟨bM, 0, none⟩ = some (.slice bS ce.length bR) := (bC bg.out 0).trans rfl; have jP := bF bg.out 0) | ((with_reducible refine aJ (f := 35) rfl ?_); refine aQ (some 42) rfl rfl Try.func35 z0 rfl #[.agg #[.slice bS ce.length bR], .agg #[.slice bU ch.length bT]] rfl z21 ?_; (with_reducible refine (impl_JoinRopes.calls k _ _ ce _ _ ch bE lp _ ?side1 ?side2 ?side3 ?side4 A24.out).mono ?_); (case side1 => refine (ah (e := 58) (base := w.heap.size) (ok := fun k_ => ((True ∧ some k_ ≠ (.slice bQ bH.length bN : Value).ownBlock) ∧ some k_ ≠ (.slice bU ch.length bT : Value).ownBlock)) (n := ce.length) (c := bR) ?_).2.2; exact (by (with_reducible repeat (first | apply ac | apply ab | apply aa)); exact (ag (am (p := ⟨bO, 0, none⟩) (ao df.out bi.out (by decide)) (fun _ hk => hk.2) (.slice bU ch.length bT)) (fun _ h_ => h_.1)))); (case side2 => exact (ah df.out).2.1); (case side3 => refine (ah (e := 58) (base := w.heap.size) (ok := fun k_ => ((True ∧ some k_ ≠ (.slice bQ bH.length bN : Value).ownBlock) ∧ some k_ ≠ (.slice bS ce.length bR : Value).ownBlock)) (n := ch.length) (c := bT) ?_).2.2; exact (by (with_reducible repeat (first | apply ac | apply ab | apply aa)); exact (ag (am (p := ⟨bO, 0, none⟩) (ao dG.out bi.out (by decide)) (fun _ hk => hk.2) (.slice bU ch.length bT)) (fun _ h_ => h_.1)))); (case side4 => exact (ah dG.out).2.1); rintro e w63 ⟨v238, rfl, ho0, hb⟩; refine ⟨_, rfl, ?_⟩; have ba := aM (ai (by (with_reducible repeat (first | apply ac | apply ab | apply aa)); exact (ag (am (p := ⟨bO, 0, none⟩) (ao co.out bi.out (by decide)) (fun _ hk => hk.2) (.slice bU ch.length bT)) (fun _ h_ => h_.1))) (ak ho0) hb); have bc := aM (ai (by (with_reducible repeat (first | apply ac | apply ab | apply aa)); exact (ag (am (p := ⟨bO, 0, none⟩) (ao df.out bi.out (by decide)) (fun _ hk => hk.2) (.slice bU ch.length bT)) (fun _ h_ => h_.1))) (ak ho0) hb); have bf := aM (ai (by (with_reducible repeat (first | apply ac | apply ab | apply aa)); exact (ag (am (p := ⟨bO, 0, none⟩) (ao dG.out bi.out (by decide)) (fun _ hk => hk.2) (.slice bU ch.length bT)) (fun _ h_ => h_.1))) (ak ho0) hb); have bk := aM (aT (aj (aj (aj ho0 (al (by (with_reducible repeat (first | apply ac | apply ab | apply aa)); exact (ag (am (p := ⟨bO, 0, none⟩) (ao co.out bi.out (by decide)) (fun _ hk => hk.2) (.slice bU ch.length bT)) (fun _ h_ => h_.1))))) (al (by (with_reducible repeat (first | apply ac | apply ab | apply aa)); exact (ag (am (p := ⟨bO, 0, none⟩) (ao df.out bi.out (by decide)) (fun _ hk => hk.2) (.slice bU ch.length bT)) (fun _ h_ => h_.1))))) (al (by (with_reducible repeat (first | apply ac | apply ab | apply aa)); exact (ag (am (p := ⟨bO, 0, none⟩) (ao dG.out bi.out (by decide)) (fun _ hk => hk.2) (.slice bU ch.length bT)) (fun _ h_ => h_.1))))) (az (by repeat (first | (with_reducible first | exact HB.out | apply bA | apply pD | apply bD | refine ax ?_ dt.out | refine ax ?_ dV.out | refine ax ?_ dH.out | refine ax ?_ fd.out | refine ax ?_ fc.out) | exact HB.out)))); have bw := aM (ae (g := bh) (o := .cells #[.slice bm l0_0.length bn] 24 (0, 0)) (by (with_reducible repeat (first | refine aq ?_ _ | refine ap ?_ | refine ar ?_ _)); refine au ?_ fU.out _; (with_reducible repeat (first | refine aq ?_ _ | refine ap ?_ | refine ar ?_ _)); exact a7.out) hb); have bx := aM (ae (g := bj) (o := .cells #[.slice bK l1_0.length bL] 24 (0, 0)) (by (with_reducible repeat (first | refine aq ?_ _ | refine ap ?_ | refine ar ?_ _)); refine au ?_ fS.out _; (with_reducible repeat (first | refine aq ?_ _ | refine ap ?_ | refine ar ?_ _)); exact a9.out) hb); have bG := aM (ae (g := bo) (o := .cells #[.slice bQ bH.length bN] 29 (0, 0)) (by (with_reducible repeat (first | refine aq ?_ _ | refine ap ?_ | refine ar ?_ _)); refine au ?_ dC.out _; (with_reducible repeat (first | refine aq ?_ _ | refine ap ?_ | refine ar ?_ _)); exact bb.out) hb); have bY := aM (ae (g := bM) (o := .cells #[.slice bS ce.length bR] 29 (0, 0)) (by (with_reducible repeat (first | refine aq ?_ _ | refine ap ?_ | refine ar ?_ _)); refine au ?_ fR.out _; (with_reducible repeat (first | refine aq ?_ _ | refine ap ?_ | refine ar ?_ _)); exact bg.out) hb); have bZ := aM (ae (g := bO) (o := .cells #[.slice bU ch.length bT] 29 (0, 0)) (by (with_reducible repeat (first | refine aq ?_ _ | refine ap ?_ | refine ar ?_ _)); refine av (cs := #[.slice none 0 0]) ?_ 0 _ rfl; (with_reducible repeat (first | refine aq ?_ _ | refine ap ?_ | refine ar ?_ _)); exact bi.out) hb); have b3 := aM (ay (by repeat (first | (with_reducible first | exact HB.out | apply bA | apply pD | apply bD | refine ax ?_ dt.out | refine ax ?_ dV.out | refine ax ?_ dH.out | refine ax ?_ fd.out | refine ax ?_ fc.out) | exact HB.out)) hb); clear co; clear df; clear dG; clear a7; clear a9; clear bb; clear bg; clear bi; clear HB; have co := ba; have df := bc; have dG := bf; have d0 := bk; have a7 := bw; have a9 := bx; have bb := bG; have bg := bY; have bi := bZ; have HB := b3; clear ba bc bf bk bw bx bG bY bZ b3; (try clear hb); (try clear hb2); (try clear hk); (try clear hi); (try clear ho0)) | ((with_reducible refine aK (N := 10) rfl ?_); refine aN ?hg (N := 10) ?hd (cs := #[.slice none 0 0]) (t := 29) ?hr ?_; (case hd => rfl); (case hg => rfl); (case hr => first | (go_simp; done) | (go_simp; rfl)); intro bB hg w64 hbox hb; have ba := aM (af (by (with_reducible repeat (first | apply ac | apply ab | apply aa)); exact co.out) hb); have bc := aM (af (by (with_reducible repeat (first | apply ac | apply ab | apply aa)); exact df.out) hb); have bf := aM (af (by (with_reducible repeat (first | apply ac | apply ab | apply aa)); exact dG.out) hb); have bk := aM (af (by (with_reducible repeat (first | apply ac | apply ab | apply aa)); exact d0.out) hb); have bw := aM (ae (g := bh) (o := .cells #[.slice bm l0_0.length bn] 24 (0, 0)) z12 hb); have bx := aM (ae (g := bj) (o := .cells #[.slice bK l1_0.length bL] 24 (0, 0)) z13 hb); have bG := aM (ae (g := bo) (o := .cells #[.slice bQ bH.length bN] 29 (0, 0)) z14 hb); have bY := aM (ae (g := bM) (o := .cells #[.slice bS ce.length bR] 29 (0, 0)) z15 hb); have bZ := aM (ae (g := bO) (o := .cells #[.slice bU ch.length bT] 29 (0, 0)) z16 hb); have b3 := aM (ay (by repeat (first | (with_reducible first | exact HB.out | apply bA | apply pD | apply bD | refine ax ?_ dt.out | refine ax ?_ dV.out | refine ax ?_ dH.out | refine ax ?_ fd.out | refine ax ?_ fc.out) | exact HB.out)) hb); have br := aM (hbox); have bP := aM ((by rw [hg]; exact (az (by repeat (first | (with_reducible first | exact HB.out | apply bA | apply pD | apply bD | refine ax ?_ dt.out | refine ax ?_ dV.out | refine ax ?_ dH.out | refine ax ?_ fd.out | refine ax ?_ fc.out) | exact HB.out))) : w.heap.size ≤ bB)); have b4 := aM ((by rw [hg]; exact (az (by repeat (first | (with_reducible first | exact HB.out | apply bA | apply pD | apply bD | refine ax ?_ dt.out | refine ax ?_ dV.out | refine ax ?_ dH.out | refine ax ?_ fd.out | refine ax ?_ fc.out) | exact HB.out))) : w.heap.size ≤ bB)); have cH := aM ((by rw [hg]; exact aA (aw (g := bh) (o := .cells #[.slice bm l0_0.length bn] 24 (0, 0)) z12) : bh ≠ bB)); have dc := aM ((by rw [hg]; exact aC (aw (g := bh) (o := .cells #[.slice bm l0_0.length bn] 24 (0, 0)) z12) : bB ≠ bh)); have dY := aM ((by rw [hg]; exact aA (aw (g := bj) (o := .cells #[.slice bK l1_0.length bL] 24 (0, 0)) z13) : bj ≠ bB)); have ej := aM ((by rw [hg]; exact aC (aw (g := bj) (o := .cells #[.slice bK l1_0.length bL] 24 (0, 0)) z13) : bB ≠ bj)); have ei := aM ((by rw [hg]; exact aA (aw (g := bo) (o := .cells #[.slice bQ bH.length bN] 29 (0, 0)) z14) : bo ≠ bB)); have eh := aM ((by rw [hg]; exact aC (aw (g := bo) (o := .cells #[.slice bQ bH.length bN] 29 (0, 0)) z14) : bB ≠ bo)); have eM := aM ((by rw [hg]; exact aA (aw (g := bM) (o := .cells #[.slice bS ce.length bR] 29 (0, 0)) z15) : bM ≠ bB)); have eL := aM ((by rw [hg]; exact aC (aw (g := bM) (o := .cells #[.slice bS ce.length bR] 29 (0, 0)) z15) : bB ≠ bM)); have eK := aM ((by rw [hg]; exact aA (aw (g := bO) (o := .cells #[.slice bU ch.length bT] 29 (0, 0)) z16) : bO ≠ bB)); have eJ := aM ((by rw [hg]; exact aC (aw (g := bO) (o := .cells #[.slice bU ch.length bT] 29 (0, 0)) z16) : bB ≠ bO)); clear co; clear df; clear dG; clear d0; clear a7; clear a9; clear bb; clear bg; clear bi; clear HB; have co := ba; have df := bc; have dG := bf; have d0 := bk; have a7 := bw; have a9 := bx; have bb := bG; have bg := bY; have bi := bZ; have HB := b3; have bd := br; have GW241 := bP; have jv := b4; have cY := cH; have dm := dc; have cX := dY; have dl := ej; have cE := ei; have cT := eh; have cL := eM; have da := eL; have cK := eK; have cZ := eJ; clear ba bc bf bk bw bx bG bY bZ b3 br bP b4 cH dc dY ej ei eh eM eL eK eJ; clear hb hbox hg; obtain ⟨bJ, bI, eo65⟩ := Kd.R_slice d0.out; subst eo65; have hnb66 := dm.out; have hnc66 := cY.out; have hnb67 := dl.out; have hnc67 := cX.out; have hnb68 := cT.out; have hnc68 := cE.out; have hnb69 := da.out; have hnc69 := cL.out; have hnb70 := cZ.out; have hnc70 := cK.out; have kd : w64.cell? ⟨bB, 0, none⟩ = some (.slice none 0 0) := (bC bd.out 0).trans rfl; have jO := bF bd.out 0))
   (try simp only [Act.put, sA, sB, sC])
   go_cut [53] (fun v53 wc => ∃ (kq : Nat) (x53_24 : Bool), v53 = .bool x53_24 ∧ Aside0 (laws_FnExactJoinRopes.j0 kq gp lp x53_24 l0_0 l1_0 bH ce ch bE = some r) ∧ Aside0 (kq ≤ k) ∧ Aside0 (Kd.R k58 58 wc w.heap.size (fun k_ => some k_ ≠ ((.slice bS ce.length bR) : Value).ownBlock ∧ some k_ ≠ ((.slice bU ch.length bT) : Value).ownBlock ∧ some k_ ≠ ((.slice bJ bE.length bI) : Value).ownBlock) (.slice bQ bH.length bN) bH) ∧ Aside0 (Kd.R k58 58 wc w.heap.size (fun k_ => some k_ ≠ ((.slice bQ bH.length bN) : Value).ownBlock ∧ some k_ ≠ ((.slice bU ch.length bT) : Value).ownBlock ∧ some k_ ≠ ((.slice bJ bE.length bI) : Value).ownBlock) (.slice bS ce.length bR) ce) ∧ Aside0 (Kd.R k58 58 wc w.heap.size (fun k_ => some k_ ≠ ((.slice bQ bH.length bN) : Value).ownBlock ∧ some k_ ≠ ((.slice bS ce.length bR) : Value).ownBlock ∧ some k_ ≠ ((.slice bJ bE.length bI) : Value).ownBlock) (.slice bU ch.length bT) ch) ∧ Aside0 (Kd.R k58 58 wc w.heap.size (fun k_ => some k_ ≠ ((.slice bQ bH.length bN) : Value).ownBlock ∧ some k_ ≠ ((.slice bS ce.length bR) : Value).ownBlock ∧ some k_ ≠ ((.slice bU ch.length bT) : Value).ownBlock) (.slice bJ bE.length bI) bE) ∧ Aside0 (wc.heap[bh]? = some (.cells #[(.slice bm l0_0.length bn)] 24 (0, 0))) ∧ Aside0 (wc.heap[bj]? = some (.cells #[(.slice bK l1_0.length bL)] 24 (0, 0))) ∧ Aside0 (wc.heap[bo]? = some (.cells #[(.slice bQ bH.length bN)] 29 (0, 0))) ∧ Aside0 (wc.heap[bM]? = some (.cells #[(.slice bS ce.length bR)] 29 (0, 0))) ∧ Aside0 (wc.heap[bO]? = some (.cells #[(.slice bU ch.length bT)] 29 (0, 0))) ∧ Aside0 (wc.heap[bB]? = some (.cells #[(.slice bJ bE.length bI)] 29 (0, 0))) ∧ Aside0 (Below w.heap.size w wc))
   case first =>
    have H := mr.out
    clear mr
    replace H := oB H
    obtain ⟨kR, mQ, H⟩ := H
    try dsimp only at H
    have nB := aM mQ
    clear mQ
    by_cases my : kR = true
    ·subst my
     rw [if_pos rfl] at H
     have H' := aM H
     clear H
     have hnb74 := dm.out
     have hnc74 := cY.out
     have hnb75 := dl.out
     have hnc75 := cX.out
     have hnb76 := cT.out
     have hnc76 := cE.out
     have hnb77 := da.out
     have hnc77 := cL.out
     have hnb78 := cZ.out
     have hnc78 := cK.out
     have kc : w64.cell? ⟨bB, 0, none⟩ = some (.slice none 0 0) := (bC bd.out 0).trans rfl
     have jN := bF bd.out 0
     have hnb80 := cC.out
     have hnc80 := cw.out
     have hnb81 := cB.out
     have hnc81 := cu.out
     have hnb82 := dD.out
     have hnc82 := dN.out
     have hnb83 := dC.out
     have hnc83 := dM.out
     have kb : w64.cell? ⟨bo, 0, none⟩ = some (.slice bQ bH.length bN) := (bC bb.out 0).trans rfl
     have jM := bF bb.out 0
     go_wp2_with (first | ((with_reducible refine aJ (f := 18) rfl ?_); refine aQ (some 47) rfl rfl Try.func18 z0 rfl #[.agg #[.slice bJ bE.length bI], .agg #[.slice bQ bH.length bN]] rfl z21 ?_; (with_reducible refine (laws_eqRope.calls k _ _ bE _ _ bH true _ ?side1 ?side2 ?side3 ?side4 nB.out).mono ?_); (case side1 => refine (ah (e := 58) (base := w.heap.size) (ok := fun k_ => (((True ∧ some k_ ≠ (.slice bQ bH.length bN : Value).ownBlock) ∧ some k_ ≠ (.slice bS ce.length bR : Value).ownBlock) ∧ some k_ ≠ (.slice bU ch.length bT : Value).ownBlock)) (n := bE.length) (c := bI) ?_).2.2; exact (by (with_reducible repeat (first | apply ac | apply ab | apply aa)); exact (ag (am (p := ⟨bB, 0, none⟩) (ao d0.out bd.out (by decide)) (fun _ hk => hk.2) (.slice bJ bE.length bI)) (fun _ h_ => h_.1)))); (case side2 => exact (ah d0.out).2.1); (case side3 => refine (ah (e := 58) (base := w.heap.size) (ok := fun k_ => (((True ∧ some k_ ≠ (.slice bS ce.length bR : Value).ownBlock) ∧ some k_ ≠ (.slice bU ch.length bT : Value).ownBlock) ∧ some k_ ≠ (.slice bJ bE.length bI : Value).ownBlock)) (n := bH.length) (c := bN) ?_).2.2; exact (by (with_reducible repeat (first | apply ac | apply ab | apply aa)); exact (ag (am (p := ⟨bB, 0, none⟩) (ao co.out bd.out (by decide)) (fun _ hk => hk.2) (.slice bJ bE.length bI)) (fun _ h_ => h_.1)))); (case side4 => exact (ah co.out).2.1); rintro e w85 ⟨rfl, hb⟩; refine ⟨_, rfl, ?_⟩; have ba := aM (af (by (with_reducible repeat (first | apply ac | apply ab | apply aa)); exact (ag (am (p := ⟨bB, 0, none⟩) (ao co.out bd.out (by decide)) (fun _ hk => hk.2) (.slice bJ bE.length bI)) (fun _ h_ => h_.1))) hb); have bc := aM (af (by (with_reducible repeat (first | apply ac | apply ab | apply aa)); exact (ag (am (p := ⟨bB, 0, none⟩) (ao df.out bd.out (by decide)) (fun _ hk => hk.2) (.slice bJ bE.length bI)) (fun _ h_ => h_.1))) hb); have bf := aM (af (by (with_reducible repeat (first | apply ac | apply ab | apply aa)); exact (ag (am (p := ⟨bB, 0, none⟩) (ao dG.out bd.out (by decide)) (fun _ hk => hk.2) (.slice bJ bE.length bI)) (fun _ h_ => h_.1))) hb); have bk := aM (af (by (with_reducible repeat (first | apply ac | apply ab | apply aa)); exact (ag (am (p := ⟨bB, 0, none⟩) (ao d0.out bd.out (by decide)) (fun _ hk => hk.2) (.slice bJ bE.length bI)) (fun _ h_ => h_.1))) hb); have bw := aM (ae (g := bh) (o := .cells #[.slice bm l0_0.length bn] 24 (0, 0)) (by (with_reducible repeat (first | refine aq ?_ _ | refine ap ?_ | refine ar ?_ _)); refine au ?_ cY.out _; (with_reducible repeat (first | refine aq ?_ _ | refine ap ?_ | refine ar ?_ _)); exact a7.out) hb); have bx := aM (ae (g := bj) (o := .cells #[.slice bK l1_0.length bL] 24 (0, 0)) (by (with_reducible repeat (first | refine aq ?_ _ | refine ap ?_ | refine ar ?_ _)); refine au ?_ cX.out _; (with_reducible repeat (first | refine aq ?_ _ | refine ap ?_ | refine ar ?_ _)); exact a9.out) hb); have bG := aM (ae (g := bo) (o := .cells #[.slice bQ bH.length bN] 29 (0, 0)) (by (with_reducible repeat (first | refine aq ?_ _ | refine ap ?_ | refine ar ?_ _)); refine au ?_ cE.out _; (with_reducible repeat (first | refine aq ?_ _ | refine ap ?_ | refine ar ?_ _)); exact bb.out) hb); have bY := aM (ae (g := bM) (o := .cells #[.slice bS ce.length bR] 29 (0, 0)) (by (with_reducible repeat (first | refine aq ?_ _ | refine ap ?_ | refine ar ?_ _)); refine au ?_ cL.out _; (with_reducible repeat (first | refine aq ?_ _ | refine ap ?_ | refine ar ?_ _)); exact bg.out) hb); have bZ := aM (ae (g := bO) (o := .cells #[.slice bU ch.length bT] 29 (0, 0)) (by (with_reducible repeat (first | refine aq ?_ _ | refine ap ?_ | refine ar ?_ _)); refine au ?_ cK.out _; (with_reducible repeat (first | refine aq ?_ _ | refine ap ?_ | refine ar ?_ _)); exact bi.out) hb); have b3 := aM (ae (g := bB) (o := .cells #[.slice bJ bE.length bI] 29 (0, 0)) (by (with_reducible repeat (first | refine aq ?_ _ | refine ap ?_ | refine ar ?_ _)); refine av (cs := #[.slice none 0 0]) ?_ 0 _ rfl; (with_reducible repeat (first | refine aq ?_ _ | refine ap ?_ | refine ar ?_ _)); exact bd.out) hb); have br := aM (ay z30 hb); clear co; clear df; clear dG; clear d0; clear a7; clear a9; clear bb; clear bg; clear bi; clear bd; clear HB; have co := ba; have df := bc; have dG := bf; have d0 := bk; have a7 := bw; have a9 := bx; have bb := bG; have bg := bY; have bi := bZ; have bd := b3; have HB := br; clear ba bc bf bk bw bx bG bY bZ b3 br; (try clear hb); (try clear hb2); (try clear hk); (try clear hi)))
     go_meet
     case rel => exact ⟨_, ((lp != gp)), z1, H', ⟨by first | omega | exact Nat.le_refl _⟩, ⟨by (with_reducible repeat (first | apply ac | apply ab | apply aa)); exact ag co.out (fun _ hk => ⟨hk.1.1.2, ⟨hk.1.2, hk.2⟩⟩)⟩, ⟨by (with_reducible repeat (first | apply ac | apply ab | apply aa)); exact ag df.out (fun _ hk => ⟨hk.1.1.2, ⟨hk.1.2, hk.2⟩⟩)⟩, ⟨by (with_reducible repeat (first | apply ac | apply ab | apply aa)); exact ag dG.out (fun _ hk => ⟨hk.1.1.2, ⟨hk.1.2, hk.2⟩⟩)⟩, ⟨by (with_reducible repeat (first | apply ac | apply ab | apply aa)); exact ag d0.out (fun _ hk => ⟨hk.1.1.2, ⟨hk.1.2, hk.2⟩⟩)⟩, ⟨y4⟩, ⟨y5⟩, ⟨y6⟩, ⟨y7⟩, ⟨y8⟩, ⟨y9⟩, ⟨y15⟩⟩
    ·replace my := Bool.eq_false_iff.mpr my
     subst my
     rw [if_neg (show ¬ (false = true) by decide)] at H
     have H' := aM H
     clear H
     have hnb86 := dm.out
     have hnc86 := cY.out
     have hnb87 := dl.out
     have hnc87 := cX.out
     have hnb88 := cT.out
     have hnc88 := cE.out
     have hnb89 := da.out
     have hnc89 := cL.out
     have hnb90 := cZ.out
     have hnc90 := cK.out
     have ka : w64.cell? ⟨bB, 0, none⟩ = some (.slice none 0 0) := (bC bd.out 0).trans rfl
     have jL := bF bd.out 0
     have hnb92 := cC.out
     have hnc92 := cw.out
     have hnb93 := cB.out
     have hnc93 := cu.out
     have hnb94 := dD.out
     have hnc94 := dN.out
     have hnb95 := dC.out
     have hnc95 := dM.out
     have j9 : w64.cell? ⟨bo, 0, none⟩ = some (.slice bQ bH.length bN) := (bC bb.out 0).trans rfl
     have jK := bF bb.out 0
     go_wp2_with (first | ((with_reducible refine aJ (f := 18) rfl ?_); refine aQ (some 47) rfl rfl Try.func18 z0 rfl #[.agg #[.slice bJ bE.length bI], .agg #[.slice bQ bH.length bN]] rfl z21 ?_; (with_reducible refine (laws_eqRope.calls k _ _ bE _ _ bH false _ ?side1 ?side2 ?side3 ?side4 nB.out).mono ?_); (case side1 => refine (ah (e := 58) (base := w.heap.size) (ok := fun k_ => (((True ∧ some k_ ≠ (.slice bQ bH.length bN : Value).ownBlock) ∧ some k_ ≠ (.slice bS ce.length bR : Value).ownBlock) ∧ some k_ ≠ (.slice bU ch.length bT : Value).ownBlock)) (n := bE.length) (c := bI) ?_).2.2; exact (by (with_reducible repeat (first | apply ac | apply ab | apply aa)); exact (ag (am (p := ⟨bB, 0, none⟩) (ao d0.out bd.out (by decide)) (fun _ hk => hk.2) (.slice bJ bE.length bI)) (fun _ h_ => h_.1)))); (case side2 => exact (ah d0.out).2.1); (case side3 => refine (ah (e := 58) (base := w.heap.size) (ok := fun k_ => (((True ∧ some k_ ≠ (.slice bS ce.length bR : Value).ownBlock) ∧ some k_ ≠ (.slice bU ch.length bT : Value).ownBlock) ∧ some k_ ≠ (.slice bJ bE.length bI : Value).ownBlock)) (n := bH.length) (c := bN) ?_).2.2; exact (by (with_reducible repeat (first | apply ac | apply ab | apply aa)); exact (ag (am (p := ⟨bB, 0, none⟩) (ao co.out bd.out (by decide)) (fun _ hk => hk.2) (.slice bJ bE.length bI)) (fun _ h_ => h_.1)))); (case side4 => exact (ah co.out).2.1); rintro e w97 ⟨rfl, hb⟩; refine ⟨_, rfl, ?_⟩; have ba := aM (af (by (with_reducible repeat (first | apply ac | apply ab | apply aa)); exact (ag (am (p := ⟨bB, 0, none⟩) (ao co.out bd.out (by decide)) (fun _ hk => hk.2) (.slice bJ bE.length bI)) (fun _ h_ => h_.1))) hb); have bc := aM (af (by (with_reducible repeat (first | apply ac | apply ab | apply aa)); exact (ag (am (p := ⟨bB, 0, none⟩) (ao df.out bd.out (by decide)) (fun _ hk => hk.2) (.slice bJ bE.length bI)) (fun _ h_ => h_.1))) hb); have bf := aM (af (by (with_reducible repeat (first | apply ac | apply ab | apply aa)); exact (ag (am (p := ⟨bB, 0, none⟩) (ao dG.out bd.out (by decide)) (fun _ hk => hk.2) (.slice bJ bE.length bI)) (fun _ h_ => h_.1))) hb); have bk := aM (af (by (with_reducible repeat (first | apply ac | apply ab | apply aa)); exact (ag (am (p := ⟨bB, 0, none⟩) (ao d0.out bd.out (by decide)) (fun _ hk => hk.2) (.slice bJ bE.length bI)) (fun _ h_ => h_.1))) hb); have bw := aM (ae (g := bh) (o := .cells #[.slice bm l0_0.length bn] 24 (0, 0)) (by (with_reducible repeat (first | refine aq ?_ _ | refine ap ?_ | refine ar ?_ _)); refine au ?_ cY.out _; (with_reducible repeat (first | refine aq ?_ _ | refine ap ?_ | refine ar ?_ _)); exact a7.out) hb); have bx := aM (ae (g := bj) (o := .cells #[.slice bK l1_0.length bL] 24 (0, 0)) (by (with_reducible repeat (first | refine aq ?_ _ | refine ap ?_ | refine ar ?_ _)); refine au ?_ cX.out _; (with_reducible repeat (first | refine aq ?_ _ | refine ap ?_ | refine ar ?_ _)); exact a9.out) hb); have bG := aM (ae (g := bo) (o := .cells #[.slice bQ bH.length bN] 29 (0, 0)) (by (with_reducible repeat (first | refine aq ?_ _ | refine ap ?_ | refine ar ?_ _)); refine au ?_ cE.out _; (with_reducible repeat (first | refine aq ?_ _ | refine ap ?_ | refine ar ?_ _)); exact bb.out) hb); have bY := aM (ae (g := bM) (o := .cells #[.slice bS ce.length bR] 29 (0, 0)) (by (with_reducible repeat (first | refine aq ?_ _ | refine ap ?_ | refine ar ?_ _)); refine au ?_ cL.out _; (with_reducible repeat (first | refine aq ?_ _ | refine ap ?_ | refine ar ?_ _)); exact bg.out) hb); have bZ := aM (ae (g := bO) (o := .cells #[.slice bU ch.length bT] 29 (0, 0)) (by (with_reducible repeat (first | refine aq ?_ _ | refine ap ?_ | refine ar ?_ _)); refine au ?_ cK.out _; (with_reducible repeat (first | refine aq ?_ _ | refine ap ?_ | refine ar ?_ _)); exact bi.out) hb); have b3 := aM (ae (g := bB) (o := .cells #[.slice bJ bE.length bI] 29 (0, 0)) (by (with_reducible repeat (first | refine aq ?_ _ | refine ap ?_ | refine ar ?_ _)); refine av (cs := #[.slice none 0 0]) ?_ 0 _ rfl; (with_reducible repeat (first | refine aq ?_ _ | refine ap ?_ | refine ar ?_ _)); exact bd.out) hb); have br := aM (ay z30 hb); clear co; clear df; clear dG; clear d0; clear a7; clear a9; clear bb; clear bg; clear bi; clear bd; clear HB; have co := ba; have df := bc; have dG := bf; have d0 := bk; have a7 := bw; have a9 := bx; have bb := bG; have bg := bY; have bi := bZ; have bd := b3; have HB := br; clear ba bc bf bk bw bx bG bY bZ b3 br; (try clear hb); (try clear hb2); (try clear hk); (try clear hi)))
     go_meet
     case rel => exact ⟨_, (true), z1, H', ⟨by first | omega | exact Nat.le_refl _⟩, ⟨by (with_reducible repeat (first | apply ac | apply ab | apply aa)); exact ag co.out (fun _ hk => ⟨hk.1.1.2, ⟨hk.1.2, hk.2⟩⟩)⟩, ⟨by (with_reducible repeat (first | apply ac | apply ab | apply aa)); exact ag df.out (fun _ hk => ⟨hk.1.1.2, ⟨hk.1.2, hk.2⟩⟩)⟩, ⟨by (with_reducible repeat (first | apply ac | apply ab | apply aa)); exact ag dG.out (fun _ hk => ⟨hk.1.1.2, ⟨hk.1.2, hk.2⟩⟩)⟩, ⟨by (with_reducible repeat (first | apply ac | apply ab | apply aa)); exact ag d0.out (fun _ hk => ⟨hk.1.1.2, ⟨hk.1.2, hk.2⟩⟩)⟩, ⟨y4⟩, ⟨y5⟩, ⟨y6⟩, ⟨y7⟩, ⟨y8⟩, ⟨y9⟩, ⟨y15⟩⟩
   case rest =>
    clear mr
    try clear c1
    try clear p2
    try clear c3
    try clear c4
    try clear c5
    try clear c6
    try clear c7
    try clear c8
    try clear c9
    try clear ji
    try clear mm
    try clear c34
    try clear ml
    try clear c43
    try clear lu
    try clear ls
    try clear c50
    try clear c52
    try clear c57
    try clear c58
    try clear c59
    try clear c60
    try clear c66
    try clear c67
    try clear c68
    try clear c69
    try clear c70
    try clear my
    try clear c74
    try clear c75
    try clear c76
    try clear c77
    try clear c78
    try clear c80
    try clear c81
    try clear c82
    try clear c83
    try clear c86
    try clear c87
    try clear c88
    try clear c89
    try clear c90
    try clear c92
    try clear c93
    try clear c94
    try clear c95
    try clear iT
    try clear iS
    try clear iR
    try clear kf
    try clear ke
    try clear kd
    try clear kc
    try clear kb
    try clear ka
    try clear j9
    try clear ip
    try clear im
    try clear il
    try clear jQ
    try clear jP
    try clear jO
    try clear jN
    try clear jM
    try clear jL
    try clear jK
    obtain ⟨kq, x53_24, rfl, HA, lb, a6, aZ, a5, aY, a7, a9, bb, bg, bi, bd, HB⟩ := hcut
    cases kq with
    | zero => exact absurd HA.out (by simp [laws_FnExactJoinRopes.j0])
    | succ kj24 =>
     have H := HA.out
     clear HA
     simp only [laws_FnExactJoinRopes.j0] at H
     by_cases mI : x53_24 = true
     ·subst mI
      rw [if_pos rfl] at H
      first | (cases H.trans (congrArg some HRT.out); done) | skip
      all_goals
       obtain rfl := sI H
       go_wp2
       go_ret
       exact ⟨y2, y15⟩
     ·replace mI := Bool.eq_false_iff.mpr mI
      subst mI
      rw [if_neg (show ¬ (false = true) by decide)] at H
      replace H := oB H
      obtain ⟨eB, mN, H⟩ := H
      try dsimp only at H
      have ny := aM mN
      clear mN
      replace H := oB H
      obtain ⟨ma, l5, H⟩ := H
      try dsimp only at H
      have kL := aM l5
      clear l5
      by_cases k9 : ma = true
      ·subst k9
       rw [if_pos rfl] at H
       replace H := oB H
       obtain ⟨e8, l4, H⟩ := H
       try dsimp only at H
       have nh := aM l4
       clear l4
       replace H := oB H
       obtain ⟨l9, l3, H⟩ := H
       try dsimp only at H
       have ng := aM l3
       clear l3
       by_cases k8 : l9 = true
       ·subst k8
        rw [if_pos rfl] at H
        replace H := oB H
        obtain ⟨⟨l8, ct⟩, l2, H⟩ := H
        try dsimp only at H
        have A105 := aM l2
        clear l2
        replace H := oB H
        obtain ⟨⟨ln, cr⟩, lZ, H⟩ := H
        try dsimp only at H
        have A106 := aM lZ
        clear lZ
        have ld := aM H
        clear H
        try go_wp2
        have ba := aM (aa a6.out)
        have bc := aM (aa aZ.out)
        have bf := aM (aa a5.out)
        have bk := aM (aa aY.out)
        have bw := aM (ap a7.out)
        have bx := aM (ap a9.out)
        have bG := aM (ap bb.out)
        have bY := aM (ap bg.out)
        have bZ := aM (ap bi.out)
        have b3 := aM (ap bd.out)
        have br := aM (bD HB.out)
        clear a6
        clear aZ
        clear a5
        clear aY
        clear a7
        clear a9
        clear bb
        clear bg
        clear bi
        clear bd
        clear HB
        have a6 := ba
        have aZ := bc
        have a5 := bf
        have aY := bk
        have a7 := bw
        have a9 := bx
        have bb := bG
        have bg := bY
        have bi := bZ
        have bd := b3
        have HB := br
        clear ba bc bf bk bw bx bG bY bZ b3 br
        refine start_ (n := 5) (S := fun w' => w'.cell? ⟨bM, 0, none⟩ = some (.slice bS ce.length bR) ∧ w'.cell? ⟨bh, 0, none⟩ = some (.slice bm l0_0.length bn)) (ds := []) #[false, false, false, false, false] z0 rfl rfl ⟨(bC bg.out 0).trans rfl, (bC a7.out 0).trans rfl⟩ (fun hHeld => ?_)
        generalize wc.drew = w108 at a6 aZ a5 aY a7 a9 bb bg bi bd HB hHeld ⊢
        refine tA 0 54 ?_ (hy := by rintro w' ⟨s0, s1⟩; go_simp; with_reducible rfl)
        refine tA 1 55 ?_ (hy := by rintro w' ⟨s0, s1⟩; go_simp; with_reducible rfl)
        refine one_ (i := 2) (N := some 56) #[true, true, true, false, false] rfl rfl z0 (by decide) (fun K hK => ?_)
        refine goes_ Try.func16 z0 rfl #[.agg #[.slice bm l0_0.length bn]] (by rfl) rfl rfl z21 ?_
        with_reducible refine (laws_toRope.calls kj24 _ _ l0_0 eB _ ?side1 ?side2 ny.out).mono ?_
        (case side1 => repeat (first | exact (aD du.out HB.out) | (with_reducible refine aE ?_ _) | (with_reducible refine aG ?_ _) | (with_reducible refine aH ?_)))
        (case side2 => exact dy.out)
        rintro e w109 ⟨v244, rfl, ho0, hb⟩
        refine ⟨_, rfl, ?_⟩
        have ba := aM (ai z4 (ak ho0) hb)
        have bc := aM (ai z5 (ak ho0) hb)
        have bf := aM (ai z6 (ak ho0) hb)
        have bk := aM (ai z7 (ak ho0) hb)
        have bw := aM (aT (aj (aj (aj (aj ho0 (al z4)) (al z5)) (al z6)) (al z7)) (az z30))
        have bx := aM (ae (g := bh) (o := .cells #[.slice bm l0_0.length bn] 24 (0, 0)) z12 hb)
        have bG := aM (ae (g := bj) (o := .cells #[.slice bK l1_0.length bL] 24 (0, 0)) z13 hb)
        have bY := aM (ae (g := bo) (o := .cells #[.slice bQ bH.length bN] 29 (0, 0)) z14 hb)
        have bZ := aM (ae (g := bM) (o := .cells #[.slice bS ce.length bR] 29 (0, 0)) z15 hb)
        have b3 := aM (ae (g := bO) (o := .cells #[.slice bU ch.length bT] 29 (0, 0)) z16 hb)
        have br := aM (ae (g := bB) (o := .cells #[.slice bJ bE.length bI] 29 (0, 0)) z17 hb)
        have bP := aM (ay z30 hb)
        clear a6
        clear aZ
        clear a5
        clear aY
        clear a7
        clear a9
        clear bb
        clear bg
        clear bi
        clear bd
        clear HB
        have a6 := ba
        have aZ := bc
        have a5 := bf
        have aY := bk
        have ca := bw
        have a7 := bx
        have a9 := bG
        have bb := bY
        have bg := bZ
        have bi := b3
        have bd := br
        have HB := bP
        clear ba bc bf bk bw bx bG bY bZ b3 br bP
        (try clear hb)
        (try clear hb2)
        (try clear hk)
        (try clear hi)
        (try clear ho0)
        obtain ⟨fQ, fJ, eo110⟩ := Kd.R_slice ca.out
        (first | subst eo110 | (injection eo110 with f1_ f2_ f3_; have f4_ := f1_.symm; have f5_ := f3_.symm; clear f1_ f2_ f3_; subst f4_; subst f5_))
        refine hK.out _ _ ⟨(bC bg.out 0).trans rfl, (bC a7.out 0).trans rfl⟩ (fun hHeld => ?_)
        clear hK K
        refine norm_ (a' := ?_) ?_ ?_
        rotate_left
        ·show Act.put _ (some 56) _ = _
         simp only [Act.put, sA, sB, sC, i64_w, i32_w]
         rfl
        refine one_ (i := 3) (N := some 57) #[true, true, true, true, false] rfl rfl z0 (by decide) (fun K hK => ?_)
        refine goes_ Try.func18 z0 rfl #[.agg #[.slice bS ce.length bR], .agg #[.slice fQ eB.length fJ]] (by rfl) rfl rfl z21 ?_
        with_reducible refine (laws_eqRope.calls kj24 _ _ ce _ _ eB true _ ?side1 ?side2 ?side3 ?side4 kL.out).mono ?_
        (case side1 => repeat (first | exact (ah aZ.out).2.2 | (with_reducible refine aE ?_ _) | (with_reducible refine aG ?_ _) | (with_reducible refine aH ?_)))
        (case side2 => exact (ah aZ.out).2.1)
        (case side3 => repeat (first | exact (ah ca.out).2.2 | (with_reducible refine aE ?_ _) | (with_reducible refine aG ?_ _) | (with_reducible refine aH ?_)))
        (case side4 => exact (ah ca.out).2.1)
        rintro e w111 ⟨rfl, hb⟩
        refine ⟨_, rfl, ?_⟩
        have ba := aM (af z4 hb)
        have bc := aM (af z5 hb)
        have bf := aM (af z6 hb)
        have bk := aM (af z7 hb)
        have bw := aM (af (by (with_reducible repeat (first | apply ac | apply ab | apply aa)); exact ca.out) hb)
        have bx := aM (ae (g := bh) (o := .cells #[.slice bm l0_0.length bn] 24 (0, 0)) z12 hb)
        have bG := aM (ae (g := bj) (o := .cells #[.slice bK l1_0.length bL] 24 (0, 0)) z13 hb)
        have bY := aM (ae (g := bo) (o := .cells #[.slice bQ bH.length bN] 29 (0, 0)) z14 hb)
        have bZ := aM (ae (g := bM) (o := .cells #[.slice bS ce.length bR] 29 (0, 0)) z15 hb)
        have b3 := aM (ae (g := bO) (o := .cells #[.slice bU ch.length bT] 29 (0, 0)) z16 hb)
        have br := aM (ae (g := bB) (o := .cells #[.slice bJ bE.length bI] 29 (0, 0)) z17 hb)
        have bP := aM (ay z30 hb)
        clear a6
        clear aZ
        clear a5
        clear aY
        clear ca
        clear a7
        clear a9
        clear bb
        clear bg
        clear bi
        clear bd
        clear HB
        have a6 := ba
        have aZ := bc
        have a5 := bf
        have aY := bk
        have ca := bw
        have a7 := bx
        have a9 := bG
        have bb := bY
        have bg := bZ
        have bi := b3
        have bd := br
        have HB := bP
        clear ba bc bf bk bw bx bG bY bZ b3 br bP
        (try clear hb)
        (try clear hb2)
        (try clear hk)
        (try clear hi)
        refine hK.out _ _ ⟨(bC bg.out 0).trans rfl, (bC a7.out 0).trans rfl⟩ (fun hHeld => ?_)
        clear hK K
        refine norm_ (a' := ?_) ?_ ?_
        rotate_left
        ·show Act.put _ (some 57) _ = _
         simp only [Act.put, sA, sB, sC, i64_w, i32_w]
         rfl
        refine pA 4 58 ?_
        refine done_ z0 ?_
        try go_wp2
        have ba := aM (aa a6.out)
        have bc := aM (aa aZ.out)
        have bf := aM (aa a5.out)
        have bk := aM (aa aY.out)
        have bw := aM (aa ca.out)
        have bx := aM (ap a7.out)
        have bG := aM (ap a9.out)
        have bY := aM (ap bb.out)
        have bZ := aM (ap bg.out)
        have b3 := aM (ap bi.out)
        have br := aM (ap bd.out)
        have bP := aM (bD HB.out)
        clear a6
        clear aZ
        clear a5
        clear aY
        clear ca
        clear a7
        clear a9
        clear bb
        clear bg
        clear bi
        clear bd
        clear HB
        have a6 := ba
        have aZ := bc
        have a5 := bf
        have aY := bk
        have ca := bw
        have a7 := bx
        have a9 := bG
        have bb := bY
        have bg := bZ
        have bi := b3
        have bd := br
        have HB := bP
        clear ba bc bf bk bw bx bG bY bZ b3 br bP
        refine start_ (n := 5) (S := fun w' => w'.cell? ⟨bO, 0, none⟩ = some (.slice bU ch.length bT) ∧ w'.cell? ⟨bj, 0, none⟩ = some (.slice bK l1_0.length bL)) (ds := []) #[false, false, false, false, false] z0 rfl rfl ⟨(bC bi.out 0).trans rfl, (bC a9.out 0).trans rfl⟩ (fun hHeld => ?_)
        generalize w111.drew = w112 at a6 aZ a5 aY ca a7 a9 bb bg bi bd HB hHeld ⊢
        refine tA 0 59 ?_ (hy := by rintro w' ⟨s0, s1⟩; go_simp; with_reducible rfl)
        refine tA 1 60 ?_ (hy := by rintro w' ⟨s0, s1⟩; go_simp; with_reducible rfl)
        refine one_ (i := 2) (N := some 61) #[true, true, true, false, false] rfl rfl z0 (by decide) (fun K hK => ?_)
        refine goes_ Try.func16 z0 rfl #[.agg #[.slice bK l1_0.length bL]] (by rfl) rfl rfl z21 ?_
        with_reducible refine (laws_toRope.calls kj24 _ _ l1_0 e8 _ ?side1 ?side2 nh.out).mono ?_
        (case side1 => repeat (first | exact (aD ec.out HB.out) | (with_reducible refine aE ?_ _) | (with_reducible refine aG ?_ _) | (with_reducible refine aH ?_)))
        (case side2 => exact ed.out)
        rintro e w113 ⟨v248, rfl, ho0, hb⟩
        refine ⟨_, rfl, ?_⟩
        have ba := aM (ai z4 (ak ho0) hb)
        have bc := aM (ai z5 (ak ho0) hb)
        have bf := aM (ai z6 (ak ho0) hb)
        have bk := aM (ai z7 (ak ho0) hb)
        have bw := aM (ai (by (with_reducible repeat (first | apply ac | apply ab | apply aa)); exact ca.out) (ak ho0) hb)
        have bx := aM (aT (aj (aj (aj (aj (aj ho0 (al z4)) (al z5)) (al z6)) (al z7)) (al (by (with_reducible repeat (first | apply ac | apply ab | apply aa)); exact ca.out))) (az z30))
        have bG := aM (ae (g := bh) (o := .cells #[.slice bm l0_0.length bn] 24 (0, 0)) z12 hb)
        have bY := aM (ae (g := bj) (o := .cells #[.slice bK l1_0.length bL] 24 (0, 0)) z13 hb)
        have bZ := aM (ae (g := bo) (o := .cells #[.slice bQ bH.length bN] 29 (0, 0)) z14 hb)
        have b3 := aM (ae (g := bM) (o := .cells #[.slice bS ce.length bR] 29 (0, 0)) z15 hb)
        have br := aM (ae (g := bO) (o := .cells #[.slice bU ch.length bT] 29 (0, 0)) z16 hb)
        have bP := aM (ae (g := bB) (o := .cells #[.slice bJ bE.length bI] 29 (0, 0)) z17 hb)
        have b4 := aM (ay z30 hb)
        clear a6
        clear aZ
        clear a5
        clear aY
        clear ca
        clear a7
        clear a9
        clear bb
        clear bg
        clear bi
        clear bd
        clear HB
        have a6 := ba
        have aZ := bc
        have a5 := bf
        have aY := bk
        have ca := bw
        have dv := bx
        have a7 := bG
        have a9 := bY
        have bb := bZ
        have bg := b3
        have bi := br
        have bd := bP
        have HB := b4
        clear ba bc bf bk bw bx bG bY bZ b3 br bP b4
        (try clear hb)
        (try clear hb2)
        (try clear hk)
        (try clear hi)
        (try clear ho0)
        obtain ⟨fP, fI, eo114⟩ := Kd.R_slice dv.out
        (first | subst eo114 | (injection eo114 with f1_ f2_ f3_; have f4_ := f1_.symm; have f5_ := f3_.symm; clear f1_ f2_ f3_; subst f4_; subst f5_))
        refine hK.out _ _ ⟨(bC bi.out 0).trans rfl, (bC a9.out 0).trans rfl⟩ (fun hHeld => ?_)
        clear hK K
        refine norm_ (a' := ?_) ?_ ?_
        rotate_left
        ·show Act.put _ (some 61) _ = _
         simp only [Act.put, sA, sB, sC, i64_w, i32_w]
         rfl
        refine one_ (i := 3) (N := some 62) #[true, true, true, true, false] rfl rfl z0 (by decide) (fun K hK => ?_)
        refine goes_ Try.func18 z0 rfl #[.agg #[.slice bU ch.length bT], .agg #[.slice fP e8.length fI]] (by rfl) rfl rfl z21 ?_
        with_reducible refine (laws_eqRope.calls kj24 _ _ ch _ _ e8 true _ ?side1 ?side2 ?side3 ?side4 ng.out).mono ?_
        (case side1 => repeat (first | exact (ah a5.out).2.2 | (with_reducible refine aE ?_ _) | (with_reducible refine aG ?_ _) | (with_reducible refine aH ?_)))
        (case side2 => exact (ah a5.out).2.1)
        (case side3 => repeat (first | exact (ah dv.out).2.2 | (with_reducible refine aE ?_ _) | (with_reducible refine aG ?_ _) | (with_reducible refine aH ?_)))
        (case side4 => exact (ah dv.out).2.1)
        rintro e w115 ⟨rfl, hb⟩
        refine ⟨_, rfl, ?_⟩
        have ba := aM (af z4 hb)
        have bc := aM (af z5 hb)
        have bf := aM (af z6 hb)
        have bk := aM (af z7 hb)
        have bw := aM (af (by (with_reducible repeat (first | apply ac | apply ab | apply aa)); exact ca.out) hb)
        have bx := aM (af (by (with_reducible repeat (first | apply ac | apply ab | apply aa)); exact dv.out) hb)
        have bG := aM (ae (g := bh) (o := .cells #[.slice bm l0_0.length bn] 24 (0, 0)) z12 hb)
        have bY := aM (ae (g := bj) (o := .cells #[.slice bK l1_0.length bL] 24 (0, 0)) z13 hb)
        have bZ := aM (ae (g := bo) (o := .cells #[.slice bQ bH.length bN] 29 (0, 0)) z14 hb)
        have b3 := aM (ae (g := bM) (o := .cells #[.slice bS ce.length bR] 29 (0, 0)) z15 hb)
        have br := aM (ae (g := bO) (o := .cells #[.slice bU ch.length bT] 29 (0, 0)) z16 hb)
        have bP := aM (ae (g := bB) (o := .cells #[.slice bJ bE.length bI] 29 (0, 0)) z17 hb)
        have b4 := aM (ay z30 hb)
        clear a6
        clear aZ
        clear a5
        clear aY
        clear ca
        clear dv
        clear a7
        clear a9
        clear bb
        clear bg
        clear bi
        clear bd
        clear HB
        have a6 := ba
        have aZ := bc
        have a5 := bf
        have aY := bk
        have ca := bw
        have dv := bx
        have a7 := bG
        have a9 := bY
        have bb := bZ
        have bg := b3
        have bi := br
        have bd := bP
        have HB := b4
        clear ba bc bf bk bw bx bG bY bZ b3 br bP b4
        (try clear hb)
        (try clear hb2)
        (try clear hk)
        (try clear hi)
        refine hK.out _ _ ⟨(bC bi.out 0).trans rfl, (bC a9.out 0).trans rfl⟩ (fun hHeld => ?_)
        clear hK K
        refine norm_ (a' := ?_) ?_ ?_
        rotate_left
        ·show Act.put _ (some 62) _ = _
         simp only [Act.put, sA, sB, sC, i64_w, i32_w]
         rfl
        refine pA 4 63 ?_
        refine done_ z0 ?_
        have hnb116 := hO.out
        have hnc116 := fV.out
        have hnb117 := hJ.out
        have hnc117 := fT.out
        have hnb118 := dN.out
        have hnc118 := dD.out
        have hnb119 := fR.out
        have hnc119 := hD.out
        have hnb120 := cL.out
        have hnc120 := da.out
        have hcz121_0 : w115.cell? ⟨bM, 0, none⟩ = some (.slice bS ce.length bR) := (bC bg.out 0).trans rfl
        have hfz121_0 := bF bg.out 0
        go_upto_region 21 with (first | ((with_reducible refine aJ (f := 27) rfl ?_); refine aQ (some 66) rfl rfl Try.func27 z0 rfl #[.agg #[.slice bS ce.length bR], .int .i64 1] rfl z21 ?_; (with_reducible refine (laws_markRope.calls kj24 (fun k_ => some k_ = (.slice bS ce.length bR : Value).ownBlock) (.slice bS ce.length bR) ce 1 l8 ct w _ ?side1 ?side2 A105.out).mono ?_); (case side1 => repeat (first | (with_reducible first | exact HB.out | apply bA | apply pD | apply bD | refine ax ?_ dt.out | refine ax ?_ dV.out | refine ax ?_ dH.out | refine ax ?_ fd.out | refine ax ?_ fc.out | refine ax ?_ jv.out) | exact HB.out)); (case side2 => exact Kd.R_tight rfl aZ.out); rintro e w122 ⟨rfl, hy0, hb, hkp⟩; refine ⟨_, rfl, ?_⟩; have ba := aM (ag (ok' := fun k_ => some k_ ≠ (.slice bS ce.length bR : Value).ownBlock ∧ some k_ ≠ (.slice bU ch.length bT : Value).ownBlock ∧ some k_ ≠ (.slice bJ bE.length bI : Value).ownBlock ∧ some k_ ≠ (.slice fQ eB.length fJ : Value).ownBlock ∧ some k_ ≠ (.slice fP e8.length fI : Value).ownBlock) (Kd.R_keptB (a6.out) hkp (fun k_ hk_ hs_ => (hk_.1.1.1) hs_)) (fun k_ hk_ => ⟨hk_.1.1.1.1, hk_.1.1.1.2.1, hk_.1.1.1.2.2, hk_.1.1.2, hk_.1.2⟩)); have bc := aM (Kd.R_reok rfl hy0 (fun k_ e_ => aZ.out.1 k_ e_)); have bf := aM (ag (ok' := fun k_ => some k_ ≠ (.slice bQ bH.length bN : Value).ownBlock ∧ some k_ ≠ (.slice bS ce.length bR : Value).ownBlock ∧ some k_ ≠ (.slice bJ bE.length bI : Value).ownBlock ∧ some k_ ≠ (.slice fQ eB.length fJ : Value).ownBlock ∧ some k_ ≠ (.slice fP e8.length fI : Value).ownBlock) (Kd.R_keptB (a5.out) hkp (fun k_ hk_ hs_ => (hk_.1.1.2.1) hs_)) (fun k_ hk_ => ⟨hk_.1.1.1.1, hk_.1.1.1.2.1, hk_.1.1.1.2.2, hk_.1.1.2, hk_.1.2⟩)); have bk := aM (ag (ok' := fun k_ => some k_ ≠ (.slice bQ bH.length bN : Value).ownBlock ∧ some k_ ≠ (.slice bS ce.length bR : Value).ownBlock ∧ some k_ ≠ (.slice bU ch.length bT : Value).ownBlock ∧ some k_ ≠ (.slice fQ eB.length fJ : Value).ownBlock ∧ some k_ ≠ (.slice fP e8.length fI : Value).ownBlock) (Kd.R_keptB (aY.out) hkp (fun k_ hk_ hs_ => (hk_.1.1.2.1) hs_)) (fun k_ hk_ => ⟨hk_.1.1.1.1, hk_.1.1.1.2.1, hk_.1.1.1.2.2, hk_.1.1.2, hk_.1.2⟩)); have bw := aM (blk_kept z12 hkp (fun hs_ => (fun e_ => (aI aZ.out a7.out (by decide)) e_) hs_)); have bx := aM (blk_kept z13 hkp (fun hs_ => (fun e_ => (aI aZ.out a9.out (by decide)) e_) hs_)); have bG := aM (blk_kept z14 hkp (fun hs_ => (fun e_ => (aI aZ.out bb.out (by decide)) e_) hs_)); have bY := aM (blk_kept z15 hkp (fun hs_ => (fun e_ => (aI aZ.out bg.out (by decide)) e_) hs_)); have bZ := aM (blk_kept z16 hkp (fun hs_ => (fun e_ => (aI aZ.out bi.out (by decide)) e_) hs_)); have b3 := aM (blk_kept z17 hkp (fun hs_ => (fun e_ => (aI aZ.out bd.out (by decide)) e_) hs_)); have br := aM (ag (ok' := fun k_ => some k_ ≠ (.slice bQ bH.length bN : Value).ownBlock ∧ some k_ ≠ (.slice bS ce.length bR : Value).ownBlock ∧ some k_ ≠ (.slice bU ch.length bT : Value).ownBlock ∧ some k_ ≠ (.slice bJ bE.length bI : Value).ownBlock ∧ some k_ ≠ (.slice fP e8.length fI : Value).ownBlock) (Kd.R_keptB (ca.out) hkp (fun k_ hk_ hs_ => (hk_.1.1.1.2) hs_)) (fun k_ hk_ => ⟨hk_.1.1.1.1.1.2, hk_.1.1.1.1.2, hk_.1.1.1.2, hk_.1.1.2, hk_.1.2⟩)); have bP := aM (ag (ok' := fun k_ => some k_ ≠ (.slice bQ bH.length bN : Value).ownBlock ∧ some k_ ≠ (.slice bS ce.length bR : Value).ownBlock ∧ some k_ ≠ (.slice bU ch.length bT : Value).ownBlock ∧ some k_ ≠ (.slice bJ bE.length bI : Value).ownBlock ∧ some k_ ≠ (.slice fQ eB.length fJ : Value).ownBlock) (Kd.R_keptB (dv.out) hkp (fun k_ hk_ hs_ => (hk_.1.1.1.2) hs_)) (fun k_ hk_ => ⟨hk_.1.1.1.1.1.2, hk_.1.1.1.1.2, hk_.1.1.1.2, hk_.1.1.2, hk_.1.2⟩)); have b4 := aM (hb); clear a6; clear aZ; clear a5; clear aY; clear a7; clear a9; clear bb; clear bg; clear bi; clear bd; clear ca; clear dv; clear HB; have a6 := ba; have aZ := bc; have a5 := bf; have aY := bk; have a7 := bw; have a9 := bx; have bb := bG; have bg := bY; have bi := bZ; have bd := b3; have ca := br; have dv := bP; have HB := b4; clear ba bc bf bk bw bx bG bY bZ b3 br bP b4; (try clear hb); (try clear hkp); (try clear hy0); have hnb123 := hI.out; have hnc123 := fU.out; have hnb124 := hH.out; have hnc124 := fS.out; have hnb125 := dM.out; have hnc125 := dC.out; have hnb126 := cK.out; have hnc126 := cZ.out; have hcz127_0 : w122.cell? ⟨bO, 0, none⟩ = some (.slice bU ch.length bT) := (bC bi.out 0).trans rfl; have hfz127_0 := bF bi.out 0) | ((with_reducible refine aJ (f := 27) rfl ?_); refine aQ (some 69) rfl rfl Try.func27 z0 rfl #[.agg #[.slice bU ch.length bT], .int .i64 l8] rfl z21 ?_; (with_reducible refine (laws_markRope.calls kj24 (fun k_ => some k_ = (.slice bU ch.length bT : Value).ownBlock) (.slice bU ch.length bT) ch l8 ln cr w _ ?side1 ?side2 A106.out).mono ?_); (case side1 => repeat (first | (with_reducible first | exact HB.out | apply bA | apply pD | apply bD | refine ax ?_ dt.out | refine ax ?_ dV.out | refine ax ?_ dH.out | refine ax ?_ fd.out | refine ax ?_ fc.out | refine ax ?_ jv.out) | exact HB.out)); (case side2 => exact Kd.R_tight rfl a5.out); rintro e w128 ⟨rfl, hy0, hb, hkp⟩; refine ⟨_, rfl, ?_⟩; have ba := aM (ag (ok' := fun k_ => some k_ ≠ (.slice bS ce.length bR : Value).ownBlock ∧ some k_ ≠ (.slice bU ch.length bT : Value).ownBlock ∧ some k_ ≠ (.slice bJ bE.length bI : Value).ownBlock ∧ some k_ ≠ (.slice fQ eB.length fJ : Value).ownBlock ∧ some k_ ≠ (.slice fP e8.length fI : Value).ownBlock) (Kd.R_keptB (a6.out) hkp (fun k_ hk_ hs_ => (hk_.2.1) hs_)) (fun k_ hk_ => ⟨hk_.1.1, hk_.1.2.1, hk_.1.2.2.1, hk_.1.2.2.2.1, hk_.1.2.2.2.2⟩)); have bc := aM (ag (ok' := fun k_ => some k_ ≠ (.slice bQ bH.length bN : Value).ownBlock ∧ some k_ ≠ (.slice bU ch.length bT : Value).ownBlock ∧ some k_ ≠ (.slice bJ bE.length bI : Value).ownBlock ∧ some k_ ≠ (.slice fQ eB.length fJ : Value).ownBlock ∧ some k_ ≠ (.slice fP e8.length fI : Value).ownBlock) (Kd.R_keptB (aZ.out) hkp (fun k_ hk_ hs_ => (hk_.1.1.2.1) hs_)) (fun k_ hk_ => ⟨hk_.1.1.1.1, hk_.1.1.1.2.1, hk_.1.1.1.2.2, hk_.1.1.2, hk_.1.2⟩)); have bf := aM (Kd.R_reok rfl hy0 (fun k_ e_ => a5.out.1 k_ e_)); have bk := aM (ag (ok' := fun k_ => some k_ ≠ (.slice bQ bH.length bN : Value).ownBlock ∧ some k_ ≠ (.slice bS ce.length bR : Value).ownBlock ∧ some k_ ≠ (.slice bU ch.length bT : Value).ownBlock ∧ some k_ ≠ (.slice fQ eB.length fJ : Value).ownBlock ∧ some k_ ≠ (.slice fP e8.length fI : Value).ownBlock) (Kd.R_keptB (aY.out) hkp (fun k_ hk_ hs_ => (hk_.2.2.1) hs_)) (fun k_ hk_ => ⟨hk_.1.1, hk_.1.2.1, hk_.1.2.2.1, hk_.1.2.2.2.1, hk_.1.2.2.2.2⟩)); have bw := aM (blk_kept z12 hkp (fun hs_ => (fun e_ => (aI a5.out a7.out (by decide)) e_) hs_)); have bx := aM (blk_kept z13 hkp (fun hs_ => (fun e_ => (aI a5.out a9.out (by decide)) e_) hs_)); have bG := aM (blk_kept z14 hkp (fun hs_ => (fun e_ => (aI a5.out bb.out (by decide)) e_) hs_)); have bY := aM (blk_kept z15 hkp (fun hs_ => (fun e_ => (aI a5.out bg.out (by decide)) e_) hs_)); have bZ := aM (blk_kept z16 hkp (fun hs_ => (fun e_ => (aI a5.out bi.out (by decide)) e_) hs_)); have b3 := aM (blk_kept z17 hkp (fun hs_ => (fun e_ => (aI a5.out bd.out (by decide)) e_) hs_)); have br := aM (ag (ok' := fun k_ => some k_ ≠ (.slice bQ bH.length bN : Value).ownBlock ∧ some k_ ≠ (.slice bS ce.length bR : Value).ownBlock ∧ some k_ ≠ (.slice bU ch.length bT : Value).ownBlock ∧ some k_ ≠ (.slice bJ bE.length bI : Value).ownBlock ∧ some k_ ≠ (.slice fP e8.length fI : Value).ownBlock) (Kd.R_keptB (ca.out) hkp (fun k_ hk_ hs_ => (hk_.2.2.1) hs_)) (fun k_ hk_ => ⟨hk_.1.1, hk_.1.2.1, hk_.1.2.2.1, hk_.1.2.2.2.1, hk_.1.2.2.2.2⟩)); have bP := aM (ag (ok' := fun k_ => some k_ ≠ (.slice bQ bH.length bN : Value).ownBlock ∧ some k_ ≠ (.slice bS ce.length bR : Value).ownBlock ∧ some k_ ≠ (.slice bU ch.length bT : Value).ownBlock ∧ some k_ ≠ (.slice bJ bE.length bI : Value).ownBlock ∧ some k_ ≠ (.slice fQ eB.length fJ : Value).ownBlock) (Kd.R_keptB (dv.out) hkp (fun k_ hk_ hs_ => (hk_.2.2.1) hs_)) (fun k_ hk_ => ⟨hk_.1.1, hk_.1.2.1, hk_.1.2.2.1, hk_.1.2.2.2.1, hk_.1.2.2.2.2⟩)); have b4 := aM (hb); clear a6; clear aZ; clear a5; clear aY; clear a7; clear a9; clear bb; clear bg; clear bi; clear bd; clear ca; clear dv; clear HB; have a6 := ba; have aZ := bc; have a5 := bf; have aY := bk; have a7 := bw; have a9 := bx; have bb := bG; have bg := bY; have bi := bZ; have bd := b3; have ca := br; have dv := bP; have HB := b4; clear ba bc bf bk bw bx bG bY bZ b3 br bP b4; (try clear hb); (try clear hkp); (try clear hy0)))
        (try simp only [Act.put, sA, sB, sC])
        go_cut [82] (fun v82 wc => ∃ (kq : Nat) (x82_106 : Bool), v82 = .bool x82_106 ∧ Aside0 (laws_FnExactJoinRopes.j1 kq gp x82_106 l0_0 l1_0 bH bE = some r) ∧ Aside0 (kq ≤ kj24) ∧ Aside0 (Kd.R k58 58 wc w.heap.size (fun k_ => some k_ ≠ ((.slice bS ce.length bR) : Value).ownBlock ∧ some k_ ≠ ((.slice bU ch.length bT) : Value).ownBlock ∧ some k_ ≠ ((.slice bJ bE.length bI) : Value).ownBlock) (.slice bQ bH.length bN) bH) ∧ Aside0 (Kd.R k58 58 wc w.heap.size (fun k_ => some k_ ≠ ((.slice bQ bH.length bN) : Value).ownBlock ∧ some k_ ≠ ((.slice bU ch.length bT) : Value).ownBlock ∧ some k_ ≠ ((.slice bJ bE.length bI) : Value).ownBlock) (.slice bS ce.length bR) ct) ∧ Aside0 (Kd.R k58 58 wc w.heap.size (fun k_ => some k_ ≠ ((.slice bQ bH.length bN) : Value).ownBlock ∧ some k_ ≠ ((.slice bS ce.length bR) : Value).ownBlock ∧ some k_ ≠ ((.slice bJ bE.length bI) : Value).ownBlock) (.slice bU ch.length bT) cr) ∧ Aside0 (Kd.R k58 58 wc w.heap.size (fun k_ => some k_ ≠ ((.slice bQ bH.length bN) : Value).ownBlock ∧ some k_ ≠ ((.slice bS ce.length bR) : Value).ownBlock ∧ some k_ ≠ ((.slice bU ch.length bT) : Value).ownBlock) (.slice bJ bE.length bI) bE) ∧ Aside0 (wc.heap[bh]? = some (.cells #[(.slice bm l0_0.length bn)] 24 (0, 0))) ∧ Aside0 (wc.heap[bj]? = some (.cells #[(.slice bK l1_0.length bL)] 24 (0, 0))) ∧ Aside0 (wc.heap[bo]? = some (.cells #[(.slice bQ bH.length bN)] 29 (0, 0))) ∧ Aside0 (wc.heap[bM]? = some (.cells #[(.slice bS ce.length bR)] 29 (0, 0))) ∧ Aside0 (wc.heap[bO]? = some (.cells #[(.slice bU ch.length bT)] 29 (0, 0))) ∧ Aside0 (wc.heap[bB]? = some (.cells #[(.slice bJ bE.length bI)] 29 (0, 0))) ∧ Aside0 (Below w.heap.size w wc))
        case first =>
         have H := ld.out
         clear ld
         by_cases jH : ln < 0
         ·rw [if_pos jH] at H
          have c129b0 : decide (ln < 0) = true := dT jH
          clear jH
          (first | rw [c129b0] | (simp only [i64_w, i32_w]; rw [c129b0]) | skip)
          have H' := aM H
          clear H
          go_wp2
          go_meet
          case rel => exact ⟨_, (true), z1, H', ⟨by have := lb.out; first | omega | exact Nat.le_refl _⟩, ⟨by (with_reducible repeat (first | apply ac | apply ab | apply aa)); exact ag a6.out (fun _ hk => ⟨hk.1, ⟨hk.2.1, hk.2.2.1⟩⟩)⟩, ⟨by (with_reducible repeat (first | apply ac | apply ab | apply aa)); exact ag aZ.out (fun _ hk => ⟨hk.1, ⟨hk.2.1, hk.2.2.1⟩⟩)⟩, ⟨by (with_reducible repeat (first | apply ac | apply ab | apply aa)); exact ag a5.out (fun _ hk => ⟨hk.1, ⟨hk.2.1, hk.2.2.1⟩⟩)⟩, ⟨by (with_reducible repeat (first | apply ac | apply ab | apply aa)); exact ag aY.out (fun _ hk => ⟨hk.1, ⟨hk.2.1, hk.2.2.1⟩⟩)⟩, ⟨y4⟩, ⟨y5⟩, ⟨y6⟩, ⟨y7⟩, ⟨y8⟩, ⟨y9⟩, ⟨y15⟩⟩
         ·rw [if_neg jH] at H
          have c129b0 : decide (ln < 0) = false := dF jH
          clear jH
          (first | rw [c129b0] | (simp only [i64_w, i32_w]; rw [c129b0]) | skip)
          replace H := oB H
          obtain ⟨l7, lY, H⟩ := H
          try dsimp only at H
          have nb := aM lY
          clear lY
          by_cases k7 : l7 = true
          ·subst k7
           rw [if_pos rfl] at H
           have H' := aM H
           clear H
           have hnb132 := dm.out
           have hnc132 := cY.out
           have hnb133 := dl.out
           have hnc133 := cX.out
           have hnb134 := cT.out
           have hnc134 := cE.out
           have hnb135 := da.out
           have hnc135 := cL.out
           have hnb136 := cZ.out
           have hnc136 := cK.out
           have hcz137_0 : w128.cell? ⟨bB, 0, none⟩ = some (.slice bJ bE.length bI) := (bC bd.out 0).trans rfl
           have hfz137_0 := bF bd.out 0
           have hnb138 := cC.out
           have hnc138 := cw.out
           have hnb139 := cB.out
           have hnc139 := cu.out
           have hnb140 := dD.out
           have hnc140 := dN.out
           have hnb141 := dC.out
           have hnc141 := dM.out
           have hcz142_0 : w128.cell? ⟨bo, 0, none⟩ = some (.slice bQ bH.length bN) := (bC bb.out 0).trans rfl
           have hfz142_0 := bF bb.out 0
           go_wp2_with (first | (go_at_call 18; (with_reducible refine (laws_eqRope.calls kj24 _ _ bE _ _ bH true _ ?side1 ?side2 ?side3 ?side4 nb.out).mono ?_); (case side1 => repeat (first | exact (ah aY.out).2.2 | (with_reducible refine aE ?_ _) | (with_reducible refine aG ?_ _) | (with_reducible refine aH ?_))); (case side2 => exact (ah aY.out).2.1); (case side3 => repeat (first | exact (ah a6.out).2.2 | (with_reducible refine aE ?_ _) | (with_reducible refine aG ?_ _) | (with_reducible refine aH ?_))); (case side4 => exact (ah a6.out).2.1); rintro e w143 ⟨rfl, hb⟩; have ba := aM (af z4 hb); have bc := aM (af z5 hb); have bf := aM (af z6 hb); have bk := aM (af z7 hb); have bw := aM (af (by (with_reducible repeat (first | apply ac | apply ab | apply aa)); exact ca.out) hb); have bx := aM (af (by (with_reducible repeat (first | apply ac | apply ab | apply aa)); exact dv.out) hb); have bG := aM (ae (g := bh) (o := .cells #[.slice bm l0_0.length bn] 24 (0, 0)) z12 hb); have bY := aM (ae (g := bj) (o := .cells #[.slice bK l1_0.length bL] 24 (0, 0)) z13 hb); have bZ := aM (ae (g := bo) (o := .cells #[.slice bQ bH.length bN] 29 (0, 0)) z14 hb); have b3 := aM (ae (g := bM) (o := .cells #[.slice bS ce.length bR] 29 (0, 0)) z15 hb); have br := aM (ae (g := bO) (o := .cells #[.slice bU ch.length bT] 29 (0, 0)) z16 hb); have bP := aM (ae (g := bB) (o := .cells #[.slice bJ bE.length bI] 29 (0, 0)) z17 hb); have b4 := aM (ay z30 hb); clear a6; clear aZ; clear a5; clear aY; clear ca; clear dv; clear a7; clear a9; clear bb; clear bg; clear bi; clear bd; clear HB; have a6 := ba; have aZ := bc; have a5 := bf; have aY := bk; have ca := bw; have dv := bx; have a7 := bG; have a9 := bY; have bb := bZ; have bg := b3; have bi := br; have bd := bP; have HB := b4; clear ba bc bf bk bw bx bG bY bZ b3 br bP b4; (try clear hb); (try clear hb2); (try clear hk); (try clear hi)))
           go_meet
           case rel => exact ⟨_, ((lp != gp)), z1, H', ⟨by have := lb.out; first | omega | exact Nat.le_refl _⟩, ⟨by (with_reducible repeat (first | apply ac | apply ab | apply aa)); exact ag a6.out (fun _ hk => ⟨hk.1, ⟨hk.2.1, hk.2.2.1⟩⟩)⟩, ⟨by (with_reducible repeat (first | apply ac | apply ab | apply aa)); exact ag aZ.out (fun _ hk => ⟨hk.1, ⟨hk.2.1, hk.2.2.1⟩⟩)⟩, ⟨by (with_reducible repeat (first | apply ac | apply ab | apply aa)); exact ag a5.out (fun _ hk => ⟨hk.1, ⟨hk.2.1, hk.2.2.1⟩⟩)⟩, ⟨by (with_reducible repeat (first | apply ac | apply ab | apply aa)); exact ag aY.out (fun _ hk => ⟨hk.1, ⟨hk.2.1, hk.2.2.1⟩⟩)⟩, ⟨y4⟩, ⟨y5⟩, ⟨y6⟩, ⟨y7⟩, ⟨y8⟩, ⟨y9⟩, ⟨y15⟩⟩
          ·replace k7 := Bool.eq_false_iff.mpr k7
           subst k7
           rw [if_neg (show ¬ (false = true) by decide)] at H
           have H' := aM H
           clear H
           have hnb144 := dm.out
           have hnc144 := cY.out
           have hnb145 := dl.out
           have hnc145 := cX.out
           have hnb146 := cT.out
           have hnc146 := cE.out
           have hnb147 := da.out
           have hnc147 := cL.out
           have hnb148 := cZ.out
           have hnc148 := cK.out
           have hcz149_0 : w128.cell? ⟨bB, 0, none⟩ = some (.slice bJ bE.length bI) := (bC bd.out 0).trans rfl
           have hfz149_0 := bF bd.out 0
           have hnb150 := cC.out
           have hnc150 := cw.out
           have hnb151 := cB.out
           have hnc151 := cu.out
           have hnb152 := dD.out
           have hnc152 := dN.out
           have hnb153 := dC.out
           have hnc153 := dM.out
           have hcz154_0 : w128.cell? ⟨bo, 0, none⟩ = some (.slice bQ bH.length bN) := (bC bb.out 0).trans rfl
           have hfz154_0 := bF bb.out 0
           go_wp2_with (first | (go_at_call 18; (with_reducible refine (laws_eqRope.calls kj24 _ _ bE _ _ bH false _ ?side1 ?side2 ?side3 ?side4 nb.out).mono ?_); (case side1 => repeat (first | exact (ah aY.out).2.2 | (with_reducible refine aE ?_ _) | (with_reducible refine aG ?_ _) | (with_reducible refine aH ?_))); (case side2 => exact (ah aY.out).2.1); (case side3 => repeat (first | exact (ah a6.out).2.2 | (with_reducible refine aE ?_ _) | (with_reducible refine aG ?_ _) | (with_reducible refine aH ?_))); (case side4 => exact (ah a6.out).2.1); rintro e w155 ⟨rfl, hb⟩; have ba := aM (af z4 hb); have bc := aM (af z5 hb); have bf := aM (af z6 hb); have bk := aM (af z7 hb); have bw := aM (af (by (with_reducible repeat (first | apply ac | apply ab | apply aa)); exact ca.out) hb); have bx := aM (af (by (with_reducible repeat (first | apply ac | apply ab | apply aa)); exact dv.out) hb); have bG := aM (ae (g := bh) (o := .cells #[.slice bm l0_0.length bn] 24 (0, 0)) z12 hb); have bY := aM (ae (g := bj) (o := .cells #[.slice bK l1_0.length bL] 24 (0, 0)) z13 hb); have bZ := aM (ae (g := bo) (o := .cells #[.slice bQ bH.length bN] 29 (0, 0)) z14 hb); have b3 := aM (ae (g := bM) (o := .cells #[.slice bS ce.length bR] 29 (0, 0)) z15 hb); have br := aM (ae (g := bO) (o := .cells #[.slice bU ch.length bT] 29 (0, 0)) z16 hb); have bP := aM (ae (g := bB) (o := .cells #[.slice bJ bE.length bI] 29 (0, 0)) z17 hb); have b4 := aM (ay z30 hb); clear a6; clear aZ; clear a5; clear aY; clear ca; clear dv; clear a7; clear a9; clear bb; clear bg; clear bi; clear bd; clear HB; have a6 := ba; have aZ := bc; have a5 := bf; have aY := bk; have ca := bw; have dv := bx; have a7 := bG; have a9 := bY; have bb := bZ; have bg := b3; have bi := br; have bd := bP; have HB := b4; clear ba bc bf bk bw bx bG bY bZ b3 br bP b4; (try clear hb); (try clear hb2); (try clear hk); (try clear hi)))
           go_meet
           case rel => exact ⟨_, (true), z1, H', ⟨by have := lb.out; first | omega | exact Nat.le_refl _⟩, ⟨by (with_reducible repeat (first | apply ac | apply ab | apply aa)); exact ag a6.out (fun _ hk => ⟨hk.1, ⟨hk.2.1, hk.2.2.1⟩⟩)⟩, ⟨by (with_reducible repeat (first | apply ac | apply ab | apply aa)); exact ag aZ.out (fun _ hk => ⟨hk.1, ⟨hk.2.1, hk.2.2.1⟩⟩)⟩, ⟨by (with_reducible repeat (first | apply ac | apply ab | apply aa)); exact ag a5.out (fun _ hk => ⟨hk.1, ⟨hk.2.1, hk.2.2.1⟩⟩)⟩, ⟨by (with_reducible repeat (first | apply ac | apply ab | apply aa)); exact ag aY.out (fun _ hk => ⟨hk.1, ⟨hk.2.1, hk.2.2.1⟩⟩)⟩, ⟨y4⟩, ⟨y5⟩, ⟨y6⟩, ⟨y7⟩, ⟨y8⟩, ⟨y9⟩, ⟨y15⟩⟩
        case rest =>
         clear ld
         try clear c1
         try clear c2
         try clear p2
         try clear c3
         try clear c4
         try clear c5
         try clear c6
         try clear c7
         try clear c8
         try clear c9
         try clear eE
         try clear eI
         try clear gr
         try clear gR
         try clear gX
         try clear fK
         try clear ji
         try clear mm
         try clear mK
         try clear c34
         try clear ml
         try clear c43
         try clear lu
         try clear ls
         try clear c50
         try clear c52
         try clear c57
         try clear c58
         try clear c59
         try clear c60
         try clear c66
         try clear c67
         try clear c68
         try clear c69
         try clear c70
         try clear my
         try clear c74
         try clear c75
         try clear c76
         try clear c77
         try clear c78
         try clear c80
         try clear c81
         try clear c82
         try clear c83
         try clear c86
         try clear c87
         try clear c88
         try clear c89
         try clear c90
         try clear c92
         try clear c93
         try clear c94
         try clear c95
         try clear mI
         try clear k9
         try clear k8
         try clear c116
         try clear c117
         try clear c118
         try clear c119
         try clear c120
         try clear c123
         try clear c124
         try clear c125
         try clear c126
         try clear jH
         try clear c129b0
         try clear k7
         try clear c132
         try clear c133
         try clear c134
         try clear c135
         try clear c136
         try clear c138
         try clear c139
         try clear c140
         try clear c141
         try clear c144
         try clear c145
         try clear c146
         try clear c147
         try clear c148
         try clear c150
         try clear c151
         try clear c152
         try clear c153
         try clear hcz121_0
         try clear hcz127_0
         try clear hcz137_0
         try clear hcz142_0
         try clear hcz149_0
         try clear hcz154_0
         try clear iT
         try clear iS
         try clear iR
         try clear kf
         try clear ke
         try clear kd
         try clear kc
         try clear kb
         try clear ka
         try clear j9
         try clear hfz121_0
         try clear hfz127_0
         try clear hfz137_0
         try clear hfz142_0
         try clear hfz149_0
         try clear hfz154_0
         try clear ip
         try clear im
         try clear il
         try clear jQ
         try clear jP
         try clear jO
         try clear jN
         try clear jM
         try clear jL
         try clear jK
         try clear p2
         obtain ⟨kq, x82_106, rfl, HA, lH, a6, aZ, a5, aY, a7, a9, bb, bg, bi, bd, HB⟩ := hcut
         have hl233000_106 := (ah aZ.out).1
         rw [hl233000_106] at aZ
         (try simp only [hl233000_106])
         (try simp only [hl233000_106] at a7)
         (try simp only [hl233000_106] at a9)
         (try simp only [hl233000_106] at bb)
         (try simp only [hl233000_106] at bg)
         (try simp only [hl233000_106] at bi)
         (try simp only [hl233000_106] at bd)
         (try simp only [hl233000_106] at a6)
         (try simp only [hl233000_106] at a5)
         (try simp only [hl233000_106] at aY)
         have hl237000_106 := (ah a5.out).1
         rw [hl237000_106] at a5
         (try simp only [hl237000_106])
         (try simp only [hl237000_106] at a7)
         (try simp only [hl237000_106] at a9)
         (try simp only [hl237000_106] at bb)
         (try simp only [hl237000_106] at bg)
         (try simp only [hl237000_106] at bi)
         (try simp only [hl237000_106] at bd)
         (try simp only [hl237000_106] at a6)
         (try simp only [hl237000_106] at aZ)
         (try simp only [hl237000_106] at aY)
         cases kq with
         | zero => exact absurd HA.out (by simp [laws_FnExactJoinRopes.j1])
         | succ kj106 =>
          have H := HA.out
          clear HA
          simp only [laws_FnExactJoinRopes.j1] at H
          by_cases lA : x82_106 = true
          ·subst lA
           rw [if_pos rfl] at H
           first | (cases H.trans (congrArg some HRT.out); done) | skip
           all_goals
            obtain rfl := sI H
            go_wp2
            go_ret
            exact ⟨y2, y15⟩
          ·replace lA := Bool.eq_false_iff.mpr lA
           subst lA
           rw [if_neg (show ¬ (false = true) by decide)] at H
           replace H := oB H
           obtain ⟨⟨fy, dK⟩, lX, H⟩ := H
           try dsimp only at H
           have mw := aM lX
           clear lX
           replace H := oB H
           obtain ⟨fx, lW, H⟩ := H
           try dsimp only at H
           have mv := aM lW
           clear lW
           by_cases kI : fx < 0
           ·rw [if_pos kI] at H
            have c159b0 : decide (fx < 0) = true := dT kI
            clear kI
            first | (cases H.trans (congrArg some HRT.out); done) | skip
            all_goals
             obtain rfl := sI H
             have hnb160 := dm.out
             have hnc160 := cY.out
             have hnb161 := dl.out
             have hnc161 := cX.out
             have hnb162 := cT.out
             have hnc162 := cE.out
             have hnb163 := da.out
             have hnc163 := cL.out
             have hnb164 := cZ.out
             have hnc164 := cK.out
             have hcz165_0 : wc.cell? ⟨bB, 0, none⟩ = some (.slice bJ bE.length bI) := (bC bd.out 0).trans rfl
             have hfz165_0 := bF bd.out 0
             go_wp2_with (first | ((with_reducible refine aJ (f := 27) rfl ?_); refine aQ (some 85) rfl rfl Try.func27 z0 rfl #[.agg #[.slice bJ bE.length bI], .int .i64 1] rfl z21 ?_; (with_reducible refine (laws_markRope.calls kj106 (fun k_ => some k_ = (.slice bJ bE.length bI : Value).ownBlock) (.slice bJ bE.length bI) bE 1 fy dK w _ ?side1 ?side2 mw.out).mono ?_); (case side1 => repeat (first | (with_reducible first | exact HB.out | apply bA | apply pD | apply bD | refine ax ?_ dt.out | refine ax ?_ dV.out | refine ax ?_ dH.out | refine ax ?_ fd.out | refine ax ?_ fc.out | refine ax ?_ jv.out) | exact HB.out)); (case side2 => exact Kd.R_tight rfl aY.out); rintro e w166 ⟨rfl, hy0, hb, hkp⟩; refine ⟨_, rfl, ?_⟩; have ba := aM (ag (ok' := fun k_ => some k_ ≠ (.slice bS ct.length bR : Value).ownBlock ∧ some k_ ≠ (.slice bU cr.length bT : Value).ownBlock ∧ some k_ ≠ (.slice bJ bE.length bI : Value).ownBlock) (Kd.R_keptB (a6.out) hkp (fun k_ hk_ hs_ => (hk_.2.2) hs_)) (fun k_ hk_ => ⟨hk_.1.1, hk_.1.2.1, hk_.1.2.2⟩)); have bc := aM (ag (ok' := fun k_ => some k_ ≠ (.slice bQ bH.length bN : Value).ownBlock ∧ some k_ ≠ (.slice bU cr.length bT : Value).ownBlock ∧ some k_ ≠ (.slice bJ bE.length bI : Value).ownBlock) (Kd.R_keptB (aZ.out) hkp (fun k_ hk_ hs_ => (hk_.2.2) hs_)) (fun k_ hk_ => ⟨hk_.1.1, hk_.1.2.1, hk_.1.2.2⟩)); have bf := aM (ag (ok' := fun k_ => some k_ ≠ (.slice bQ bH.length bN : Value).ownBlock ∧ some k_ ≠ (.slice bS ct.length bR : Value).ownBlock ∧ some k_ ≠ (.slice bJ bE.length bI : Value).ownBlock) (Kd.R_keptB (a5.out) hkp (fun k_ hk_ hs_ => (hk_.2.2) hs_)) (fun k_ hk_ => ⟨hk_.1.1, hk_.1.2.1, hk_.1.2.2⟩)); have bk := aM (Kd.R_reok rfl hy0 (fun k_ e_ => aY.out.1 k_ e_)); have bw := aM (blk_kept z12 hkp (fun hs_ => (fun e_ => (aI aY.out a7.out (by decide)) e_) hs_)); have bx := aM (blk_kept z13 hkp (fun hs_ => (fun e_ => (aI aY.out a9.out (by decide)) e_) hs_)); have bG := aM (blk_kept z14 hkp (fun hs_ => (fun e_ => (aI aY.out bb.out (by decide)) e_) hs_)); have bY := aM (blk_kept z15 hkp (fun hs_ => (fun e_ => (aI aY.out bg.out (by decide)) e_) hs_)); have bZ := aM (blk_kept z16 hkp (fun hs_ => (fun e_ => (aI aY.out bi.out (by decide)) e_) hs_)); have b3 := aM (blk_kept z17 hkp (fun hs_ => (fun e_ => (aI aY.out bd.out (by decide)) e_) hs_)); have br := aM (hb); clear a6; clear aZ; clear a5; clear aY; clear a7; clear a9; clear bb; clear bg; clear bi; clear bd; clear HB; have a6 := ba; have aZ := bc; have a5 := bf; have aY := bk; have a7 := bw; have a9 := bx; have bb := bG; have bg := bY; have bi := bZ; have bd := b3; have HB := br; clear ba bc bf bk bw bx bG bY bZ b3 br; (try clear hb); (try clear hkp); (try clear hy0); have hcz167_0 : w166.cell? ⟨bB, 0, none⟩ = some (.slice bJ bE.length bI) := (bC bd.out 0).trans rfl; have hfz167_0 := bF bd.out 0) | ((with_reducible refine aJ (f := 28) rfl ?_); refine aQ (some 88) rfl rfl Try.func28 z0 rfl #[.agg #[.slice bJ dK.length bI], .int .i64 1] rfl (by (try simp only [List.map_toArray, List.map_cons, List.map_nil]); first | done | (rw [show dK.length = bE.length from (ah aY.out).1.symm] <;> rfl) | rfl | (simp only [List.length_drop, List.length_take]; rfl)) ?_; (with_reducible refine (laws_heldRope.calls kj106 _ _ dK 1 fx _ ?side1 ?side2 mv.out).mono ?_); (case side1 => repeat (first | exact (ah aY.out).2.2 | (with_reducible refine aE ?_ _) | (with_reducible refine aG ?_ _) | (with_reducible refine aH ?_))); (case side2 => rw [show dK.length = bE.length from (ah aY.out).1.symm]; exact (ah aY.out).2.1); rintro e w168 ⟨rfl, hb⟩; refine ⟨_, rfl, ?_⟩; have ba := aM (af z4 hb); have bc := aM (af z5 hb); have bf := aM (af z6 hb); have bk := aM (af z7 hb); have bw := aM (ae (g := bh) (o := .cells #[.slice bm l0_0.length bn] 24 (0, 0)) z12 hb); have bx := aM (ae (g := bj) (o := .cells #[.slice bK l1_0.length bL] 24 (0, 0)) z13 hb); have bG := aM (ae (g := bo) (o := .cells #[.slice bQ bH.length bN] 29 (0, 0)) z14 hb); have bY := aM (ae (g := bM) (o := .cells #[.slice bS ct.length bR] 29 (0, 0)) z15 hb); have bZ := aM (ae (g := bO) (o := .cells #[.slice bU cr.length bT] 29 (0, 0)) z16 hb); have b3 := aM (ae (g := bB) (o := .cells #[.slice bJ bE.length bI] 29 (0, 0)) z17 hb); have br := aM (ay z30 hb); clear a6; clear aZ; clear a5; clear aY; clear a7; clear a9; clear bb; clear bg; clear bi; clear bd; clear HB; have a6 := ba; have aZ := bc; have a5 := bf; have aY := bk; have a7 := bw; have a9 := bx; have bb := bG; have bg := bY; have bi := bZ; have bd := b3; have HB := br; clear ba bc bf bk bw bx bG bY bZ b3 br; (try clear hb); (try clear hb2); (try clear hk); (try clear hi)))
             go_ret
             exact ⟨y2, y15⟩
           ·rw [if_neg kI] at H
            have c159b0 : decide (fx < 0) = false := dF kI
            clear kI
            by_cases jG : fx = fy
            ·rw [if_pos jG] at H
             have c169b0 : (fx == fy) = true := qT jG
             have c169b1 : (fx != fy) = false := nF jG
             clear jG
             replace H := oB H
             obtain ⟨eG, lV, H⟩ := H
             try dsimp only at H
             have m9 := aM lV
             clear lV
             replace H := oB H
             obtain ⟨eA, lU, H⟩ := H
             try dsimp only at H
             have mu := aM lU
             clear lU
             replace H := oB H
             obtain ⟨⟨db, jk⟩, lT, H⟩ := H
             try dsimp only at H
             have lD := aM lT
             clear lT
             have lc := aM H
             clear H
             have hnb174 := dm.out
             have hnc174 := cY.out
             have hnb175 := dl.out
             have hnc175 := cX.out
             have hnb176 := cT.out
             have hnc176 := cE.out
             have hnb177 := da.out
             have hnc177 := cL.out
             have hnb178 := cZ.out
             have hnc178 := cK.out
             have hcz179_0 : wc.cell? ⟨bB, 0, none⟩ = some (.slice bJ bE.length bI) := (bC bd.out 0).trans rfl
             have hfz179_0 := bF bd.out 0
             try go_wp2_with (first | ((with_reducible refine aJ (f := 27) rfl ?_); refine aQ (some 85) rfl rfl Try.func27 z0 rfl #[.agg #[.slice bJ bE.length bI], .int .i64 1] rfl z21 ?_; (with_reducible refine (laws_markRope.calls kj106 (fun k_ => some k_ = (.slice bJ bE.length bI : Value).ownBlock) (.slice bJ bE.length bI) bE 1 fy dK w _ ?side1 ?side2 mw.out).mono ?_); (case side1 => repeat (first | (with_reducible first | exact HB.out | apply bA | apply pD | apply bD | refine ax ?_ dt.out | refine ax ?_ dV.out | refine ax ?_ dH.out | refine ax ?_ fd.out | refine ax ?_ fc.out | refine ax ?_ jv.out) | exact HB.out)); (case side2 => exact Kd.R_tight rfl aY.out); rintro e w180 ⟨rfl, hy0, hb, hkp⟩; refine ⟨_, rfl, ?_⟩; have ba := aM (ag (ok' := fun k_ => some k_ ≠ (.slice bS ct.length bR : Value).ownBlock ∧ some k_ ≠ (.slice bU cr.length bT : Value).ownBlock ∧ some k_ ≠ (.slice bJ bE.length bI : Value).ownBlock) (Kd.R_keptB (a6.out) hkp (fun k_ hk_ hs_ => (hk_.2.2) hs_)) (fun k_ hk_ => ⟨hk_.1.1, hk_.1.2.1, hk_.1.2.2⟩)); have bc := aM (ag (ok' := fun k_ => some k_ ≠ (.slice bQ bH.length bN : Value).ownBlock ∧ some k_ ≠ (.slice bU cr.length bT : Value).ownBlock ∧ some k_ ≠ (.slice bJ bE.length bI : Value).ownBlock) (Kd.R_keptB (aZ.out) hkp (fun k_ hk_ hs_ => (hk_.2.2) hs_)) (fun k_ hk_ => ⟨hk_.1.1, hk_.1.2.1, hk_.1.2.2⟩)); have bf := aM (ag (ok' := fun k_ => some k_ ≠ (.slice bQ bH.length bN : Value).ownBlock ∧ some k_ ≠ (.slice bS ct.length bR : Value).ownBlock ∧ some k_ ≠ (.slice bJ bE.length bI : Value).ownBlock) (Kd.R_keptB (a5.out) hkp (fun k_ hk_ hs_ => (hk_.2.2) hs_)) (fun k_ hk_ => ⟨hk_.1.1, hk_.1.2.1, hk_.1.2.2⟩)); have bk := aM (Kd.R_reok rfl hy0 (fun k_ e_ => aY.out.1 k_ e_)); have bw := aM (blk_kept z12 hkp (fun hs_ => (fun e_ => (aI aY.out a7.out (by decide)) e_) hs_)); have bx := aM (blk_kept z13 hkp (fun hs_ => (fun e_ => (aI aY.out a9.out (by decide)) e_) hs_)); have bG := aM (blk_kept z14 hkp (fun hs_ => (fun e_ => (aI aY.out bb.out (by decide)) e_) hs_)); have bY := aM (blk_kept z15 hkp (fun hs_ => (fun e_ => (aI aY.out bg.out (by decide)) e_) hs_)); have bZ := aM (blk_kept z16 hkp (fun hs_ => (fun e_ => (aI aY.out bi.out (by decide)) e_) hs_)); have b3 := aM (blk_kept z17 hkp (fun hs_ => (fun e_ => (aI aY.out bd.out (by decide)) e_) hs_)); have br := aM (hb); clear a6; clear aZ; clear a5; clear aY; clear a7; clear a9; clear bb; clear bg; clear bi; clear bd; clear HB; have a6 := ba; have aZ := bc; have a5 := bf; have aY := bk; have a7 := bw; have a9 := bx; have bb := bG; have bg := bY; have bi := bZ; have bd := b3; have HB := br; clear ba bc bf bk bw bx bG bY bZ b3 br; (try clear hb); (try clear hkp); (try clear hy0); have hcz181_0 : w180.cell? ⟨bB, 0, none⟩ = some (.slice bJ bE.length bI) := (bC bd.out 0).trans rfl; have hfz181_0 := bF bd.out 0) | ((with_reducible refine aJ (f := 28) rfl ?_); refine aQ (some 88) rfl rfl Try.func28 z0 rfl #[.agg #[.slice bJ dK.length bI], .int .i64 1] rfl (by (try simp only [List.map_toArray, List.map_cons, List.map_nil]); first | done | (rw [show dK.length = bE.length from (ah aY.out).1.symm] <;> rfl) | rfl | (simp only [List.length_drop, List.length_take]; rfl)) ?_; (with_reducible refine (laws_heldRope.calls kj106 _ _ dK 1 fx _ ?side1 ?side2 mv.out).mono ?_); (case side1 => repeat (first | exact (ah aY.out).2.2 | (with_reducible refine aE ?_ _) | (with_reducible refine aG ?_ _) | (with_reducible refine aH ?_))); (case side2 => rw [show dK.length = bE.length from (ah aY.out).1.symm]; exact (ah aY.out).2.1); rintro e w182 ⟨rfl, hb⟩; refine ⟨_, rfl, ?_⟩; have ba := aM (af z4 hb); have bc := aM (af z5 hb); have bf := aM (af z6 hb); have bk := aM (af z7 hb); have bw := aM (ae (g := bh) (o := .cells #[.slice bm l0_0.length bn] 24 (0, 0)) z12 hb); have bx := aM (ae (g := bj) (o := .cells #[.slice bK l1_0.length bL] 24 (0, 0)) z13 hb); have bG := aM (ae (g := bo) (o := .cells #[.slice bQ bH.length bN] 29 (0, 0)) z14 hb); have bY := aM (ae (g := bM) (o := .cells #[.slice bS ct.length bR] 29 (0, 0)) z15 hb); have bZ := aM (ae (g := bO) (o := .cells #[.slice bU cr.length bT] 29 (0, 0)) z16 hb); have b3 := aM (ae (g := bB) (o := .cells #[.slice bJ bE.length bI] 29 (0, 0)) z17 hb); have br := aM (ay z30 hb); clear a6; clear aZ; clear a5; clear aY; clear a7; clear a9; clear bb; clear bg; clear bi; clear bd; clear HB; have a6 := ba; have aZ := bc; have a5 := bf; have aY := bk; have a7 := bw; have a9 := bx; have bb := bG; have bg := bY; have bi := bZ; have bd := b3; have HB := br; clear ba bc bf bk bw bx bG bY bZ b3 br; (try clear hb); (try clear hb2); (try clear hk); (try clear hi)))
             have ba := aM (aa a6.out)
             have bc := aM (aa aZ.out)
             have bf := aM (aa a5.out)
             have bk := aM (aa aY.out)
             have bw := aM (ap a7.out)
             have bx := aM (ap a9.out)
             have bG := aM (ap bb.out)
             have bY := aM (ap bg.out)
             have bZ := aM (ap bi.out)
             have b3 := aM (ap bd.out)
             have br := aM (bD HB.out)
             clear a6
             clear aZ
             clear a5
             clear aY
             clear a7
             clear a9
             clear bb
             clear bg
             clear bi
             clear bd
             clear HB
             have a6 := ba
             have aZ := bc
             have a5 := bf
             have aY := bk
             have a7 := bw
             have a9 := bx
             have bb := bG
             have bg := bY
             have bi := bZ
             have bd := b3
             have HB := br
             clear ba bc bf bk bw bx bG bY bZ b3 br
             refine start_ (n := 11) (S := fun w' => w'.cell? ⟨bh, 0, none⟩ = some (.slice bm l0_0.length bn) ∧ w'.cell? ⟨bj, 0, none⟩ = some (.slice bK l1_0.length bL)) (ds := []) #[false, false, false, false, false, false, false, false, false, false, false] z0 rfl rfl ⟨(bC a7.out 0).trans rfl, (bC a9.out 0).trans rfl⟩ (fun hHeld => ?_); refine with_tabW laws_FnExactJoinRopes.tab31 laws_FnExactJoinRopes.bits31 (fun HT_ HW_ => ?_)
             generalize w182.drew = w183 at a6 aZ a5 aY a7 a9 bb bg bi bd HB hHeld ⊢
             refine tA 0 95 ?_ (hy := by rintro w' ⟨s0, s1⟩; go_simp; with_reducible rfl)
             refine tA 2 97 ?_ (hy := by rintro w' ⟨s0, s1⟩; go_simp; with_reducible rfl)
             refine join_ (σ := Value × Value × Value × Nat) 2 #[true, true, true, true, true, true, true, true, true, false, false] (fun s_ => [(96, .agg #[s_.1]), (98, .agg #[s_.2.1]), (99, .tuple #[.agg #[s_.2.2.1], .bool jk]), (15, .pointer (some ⟨s_.2.2.2, 0, none⟩)), (94, .tuple #[.agg #[s_.2.2.1], .bool jk]), (100, .agg #[s_.2.2.1]), (101, .bool jk)]) (fun s_ w' => (w'.cell? ⟨bh, 0, none⟩ = some (.slice bm l0_0.length bn) ∧ w'.cell? ⟨bj, 0, none⟩ = some (.slice bK l1_0.length bL)) ∧ (Kd.R k58 58 w' w.heap.size (fun k_ => some k_ ≠ (s_.2.1 : Value).ownBlock ∧ some k_ ≠ (s_.2.2.1 : Value).ownBlock ∧ some k_ ≠ (.slice bQ bH.length bN : Value).ownBlock ∧ some k_ ≠ (.slice bS ct.length bR : Value).ownBlock ∧ some k_ ≠ (.slice bU cr.length bT : Value).ownBlock ∧ some k_ ≠ (.slice bJ bE.length bI : Value).ownBlock) s_.1 eG) ∧ (Kd.R k58 58 w' w.heap.size (fun k_ => some k_ ≠ (s_.1 : Value).ownBlock ∧ some k_ ≠ (s_.2.2.1 : Value).ownBlock ∧ some k_ ≠ (.slice bQ bH.length bN : Value).ownBlock ∧ some k_ ≠ (.slice bS ct.length bR : Value).ownBlock ∧ some k_ ≠ (.slice bU cr.length bT : Value).ownBlock ∧ some k_ ≠ (.slice bJ bE.length bI : Value).ownBlock) s_.2.1 eA) ∧ (Kd.R k58 58 w' w.heap.size (fun k_ => some k_ ≠ (s_.1 : Value).ownBlock ∧ some k_ ≠ (s_.2.1 : Value).ownBlock ∧ some k_ ≠ (.slice bQ bH.length bN : Value).ownBlock ∧ some k_ ≠ (.slice bS ct.length bR : Value).ownBlock ∧ some k_ ≠ (.slice bU cr.length bT : Value).ownBlock ∧ some k_ ≠ (.slice bJ bE.length bI : Value).ownBlock) s_.2.2.1 db) ∧ (Kd.R k58 58 w' w.heap.size (fun k_ => some k_ ≠ (s_.1 : Value).ownBlock ∧ some k_ ≠ (s_.2.1 : Value).ownBlock ∧ some k_ ≠ (s_.2.2.1 : Value).ownBlock ∧ some k_ ≠ (.slice bS ct.length bR : Value).ownBlock ∧ some k_ ≠ (.slice bU cr.length bT : Value).ownBlock ∧ some k_ ≠ (.slice bJ bE.length bI : Value).ownBlock) (.slice bQ bH.length bN) bH) ∧ (Kd.R k58 58 w' w.heap.size (fun k_ => some k_ ≠ (s_.1 : Value).ownBlock ∧ some k_ ≠ (s_.2.1 : Value).ownBlock ∧ some k_ ≠ (s_.2.2.1 : Value).ownBlock ∧ some k_ ≠ (.slice bQ bH.length bN : Value).ownBlock ∧ some k_ ≠ (.slice bU cr.length bT : Value).ownBlock ∧ some k_ ≠ (.slice bJ bE.length bI : Value).ownBlock) (.slice bS ct.length bR) ct) ∧ (Kd.R k58 58 w' w.heap.size (fun k_ => some k_ ≠ (s_.1 : Value).ownBlock ∧ some k_ ≠ (s_.2.1 : Value).ownBlock ∧ some k_ ≠ (s_.2.2.1 : Value).ownBlock ∧ some k_ ≠ (.slice bQ bH.length bN : Value).ownBlock ∧ some k_ ≠ (.slice bS ct.length bR : Value).ownBlock ∧ some k_ ≠ (.slice bJ bE.length bI : Value).ownBlock) (.slice bU cr.length bT) cr) ∧ (Kd.R k58 58 w' w.heap.size (fun k_ => some k_ ≠ (s_.1 : Value).ownBlock ∧ some k_ ≠ (s_.2.1 : Value).ownBlock ∧ some k_ ≠ (s_.2.2.1 : Value).ownBlock ∧ some k_ ≠ (.slice bQ bH.length bN : Value).ownBlock ∧ some k_ ≠ (.slice bS ct.length bR : Value).ownBlock ∧ some k_ ≠ (.slice bU cr.length bT : Value).ownBlock) (.slice bJ bE.length bI) dK) ∧ (w'.heap[bh]? = some (.cells #[.slice bm l0_0.length bn] 24 (0, 0))) ∧ (w'.heap[bj]? = some (.cells #[.slice bK l1_0.length bL] 24 (0, 0))) ∧ (w'.heap[bo]? = some (.cells #[.slice bQ bH.length bN] 29 (0, 0))) ∧ (w'.heap[bM]? = some (.cells #[.slice bS ct.length bR] 29 (0, 0))) ∧ (w'.heap[bO]? = some (.cells #[.slice bU cr.length bT] 29 (0, 0))) ∧ (w'.heap[bB]? = some (.cells #[.slice bJ bE.length bI] 29 (0, 0))) ∧ (w'.heap[s_.2.2.2]? = some (.cells #[.slice none 0 0] 29 (0, 0))) ∧ (w.heap.size ≤ s_.2.2.2) ∧ (w.heap.size ≤ s_.2.2.2) ∧ (bh ≠ s_.2.2.2) ∧ (s_.2.2.2 ≠ bh) ∧ (bj ≠ s_.2.2.2) ∧ (s_.2.2.2 ≠ bj) ∧ (bo ≠ s_.2.2.2) ∧ (s_.2.2.2 ≠ bo) ∧ (bM ≠ s_.2.2.2) ∧ (s_.2.2.2 ≠ bM) ∧ (bO ≠ s_.2.2.2) ∧ (s_.2.2.2 ≠ bO) ∧ (bB ≠ s_.2.2.2) ∧ (s_.2.2.2 ≠ bB) ∧ (Below w.heap.size w w')) ?_ ?_
             rotate_left
             ·intro hCont
              refine two_ (i := 1) (j := 8) (Ni := some 96) (Nj := some 15) #[true, true, true, false, false, false, false, false, false, false, false] #[true, false, true, false, false, false, false, false, true, false, false] rfl rfl rfl rfl (two_of HT_.out z0) (by decide) (by decide) (fun K hK => ?_) (fun K hK => ?_)
              ·skip
               refine goes_ Try.func16 z0 rfl #[.agg #[.slice bm l0_0.length bn]] (by rfl) rfl rfl z21 ?_
               with_reducible refine (laws_toRope.calls kj106 _ _ l0_0 eG _ ?side1 ?side2 m9.out).mono ?_
               (case side1 => repeat (first | exact (aD du.out HB.out) | (with_reducible refine aE ?_ _) | (with_reducible refine aG ?_ _) | (with_reducible refine aH ?_)))
               (case side2 => exact dy.out)
               rintro e w184 ⟨v260, rfl, ho0, hb⟩
               refine ⟨_, rfl, ?_⟩
               have ba := aM (ai z4 (ak ho0) hb)
               have bc := aM (ai z5 (ak ho0) hb)
               have bf := aM (ai z6 (ak ho0) hb)
               have bk := aM (ai z7 (ak ho0) hb)
               have bw := aM (aT (aj (aj (aj (aj ho0 (al z4)) (al z5)) (al z6)) (al z7)) (az z30))
               have bx := aM (ae (g := bh) (o := .cells #[.slice bm l0_0.length bn] 24 (0, 0)) z12 hb)
               have bG := aM (ae (g := bj) (o := .cells #[.slice bK l1_0.length bL] 24 (0, 0)) z13 hb)
               have bY := aM (ae (g := bo) (o := .cells #[.slice bQ bH.length bN] 29 (0, 0)) z14 hb)
               have bZ := aM (ae (g := bM) (o := .cells #[.slice bS ct.length bR] 29 (0, 0)) z15 hb)
               have b3 := aM (ae (g := bO) (o := .cells #[.slice bU cr.length bT] 29 (0, 0)) z16 hb)
               have br := aM (ae (g := bB) (o := .cells #[.slice bJ bE.length bI] 29 (0, 0)) z17 hb)
               have bP := aM (ay z30 hb)
               clear a6
               clear aZ
               clear a5
               clear aY
               clear a7
               clear a9
               clear bb
               clear bg
               clear bi
               clear bd
               clear HB
               have a6 := ba
               have aZ := bc
               have a5 := bf
               have aY := bk
               have cq := bw
               have a7 := bx
               have a9 := bG
               have bb := bY
               have bg := bZ
               have bi := b3
               have bd := br
               have HB := bP
               clear ba bc bf bk bw bx bG bY bZ b3 br bP
               (try clear hb)
               (try clear hb2)
               (try clear hk)
               (try clear hi)
               (try clear ho0)
               refine hK.out _ _ ⟨(bC a7.out 0).trans rfl, (bC a9.out 0).trans rfl⟩ (fun hHeld => ?_)
               clear hK K
               refine norm_ (a' := ?_) ?_ ?_
               rotate_left
               ·show Act.put _ (some 96) _ = _
                simp only [Act.put, sA, sB, sC, i64_w, i32_w]
                rfl
               refine two_ (i := 3) (j := 8) (Ni := some 98) (Nj := some 15) #[true, true, true, true, false, false, false, false, false, false, false] #[true, true, true, false, false, false, false, false, true, false, false] rfl rfl rfl rfl (two_of HT_.out z0) (by decide) (by decide) (fun K hK => ?_) (fun K hK => ?_)
               ·skip
                refine goes_ Try.func16 z0 rfl #[.agg #[.slice bK l1_0.length bL]] (by rfl) rfl rfl z21 ?_
                with_reducible refine (laws_toRope.calls kj106 _ _ l1_0 eA _ ?side1 ?side2 mu.out).mono ?_
                (case side1 => repeat (first | exact (aD ec.out HB.out) | (with_reducible refine aE ?_ _) | (with_reducible refine aG ?_ _) | (with_reducible refine aH ?_)))
                (case side2 => exact ed.out)
                rintro e w185 ⟨v263, rfl, ho0, hb⟩
                refine ⟨_, rfl, ?_⟩
                have ba := aM (ai z4 (ak ho0) hb)
                have bc := aM (ai z5 (ak ho0) hb)
                have bf := aM (ai z6 (ak ho0) hb)
                have bk := aM (ai z7 (ak ho0) hb)
                have bw := aM (ai z3 (ak ho0) hb)
                have bx := aM (aT (aj (aj (aj (aj (aj ho0 (al z4)) (al z5)) (al z6)) (al z7)) (al z3)) (az z30))
                have bG := aM (ae (g := bh) (o := .cells #[.slice bm l0_0.length bn] 24 (0, 0)) z12 hb)
                have bY := aM (ae (g := bj) (o := .cells #[.slice bK l1_0.length bL] 24 (0, 0)) z13 hb)
                have bZ := aM (ae (g := bo) (o := .cells #[.slice bQ bH.length bN] 29 (0, 0)) z14 hb)
                have b3 := aM (ae (g := bM) (o := .cells #[.slice bS ct.length bR] 29 (0, 0)) z15 hb)
                have br := aM (ae (g := bO) (o := .cells #[.slice bU cr.length bT] 29 (0, 0)) z16 hb)
                have bP := aM (ae (g := bB) (o := .cells #[.slice bJ bE.length bI] 29 (0, 0)) z17 hb)
                have b4 := aM (ay z30 hb)
                clear a6
                clear aZ
                clear a5
                clear aY
                clear cq
                clear a7
                clear a9
                clear bb
                clear bg
                clear bi
                clear bd
                clear HB
                have a6 := ba
                have aZ := bc
                have a5 := bf
                have aY := bk
                have cq := bw
                have ck := bx
                have a7 := bG
                have a9 := bY
                have bb := bZ
                have bg := b3
                have bi := br
                have bd := bP
                have HB := b4
                clear ba bc bf bk bw bx bG bY bZ b3 br bP b4
                (try clear hb)
                (try clear hb2)
                (try clear hk)
                (try clear hi)
                (try clear ho0)
                obtain ⟨lO, lE, eo186⟩ := Kd.R_slice cq.out
                (first | subst eo186 | (injection eo186 with f1_ f2_ f3_; have f4_ := f1_.symm; have f5_ := f3_.symm; clear f1_ f2_ f3_; subst f4_; subst f5_))
                obtain ⟨eX, eO, eo187⟩ := Kd.R_slice ck.out
                (first | subst eo187 | (injection eo187 with f1_ f2_ f3_; have f4_ := f1_.symm; have f5_ := f3_.symm; clear f1_ f2_ f3_; subst f4_; subst f5_))
                refine hK.out _ _ ⟨(bC a7.out 0).trans rfl, (bC a9.out 0).trans rfl⟩ (fun hHeld => ?_)
                clear hK K
                refine norm_ (a' := ?_) ?_ ?_
                rotate_left
                ·show Act.put _ (some 98) _ = _
                 simp only [Act.put, sA, sB, sC, i64_w, i32_w]
                 rfl
                refine two_ (i := 4) (j := 8) (Ni := some 99) (Nj := some 15) #[true, true, true, true, true, false, false, false, false, false, false] #[true, true, true, true, false, false, false, false, true, false, false] rfl rfl rfl rfl (two_of HT_.out z0) (by decide) (by decide) (fun K hK => ?_) (fun K hK => ?_)
                ·skip
                 refine goes_ Try.func35 z0 rfl #[.agg #[.slice lO eG.length lE], .agg #[.slice eX eA.length eO]] (by rfl) rfl rfl z21 ?_
                 with_reducible refine (impl_JoinRopes.calls kj106 _ _ eG _ _ eA db jk _ ?side1 ?side2 ?side3 ?side4 lD.out).mono ?_
                 (case side1 => repeat (first | exact (ah cq.out).2.2 | (with_reducible refine aE ?_ _) | (with_reducible refine aG ?_ _) | (with_reducible refine aH ?_)))
                 (case side2 => exact (ah cq.out).2.1)
                 (case side3 => repeat (first | exact (ah ck.out).2.2 | (with_reducible refine aE ?_ _) | (with_reducible refine aG ?_ _) | (with_reducible refine aH ?_)))
                 (case side4 => exact (ah ck.out).2.1)
                 rintro e w188 ⟨v266, rfl, ho0, hb⟩
                 refine ⟨_, rfl, ?_⟩
                 have ba := aM (ai z4 (ak ho0) hb)
                 have bc := aM (ai z5 (ak ho0) hb)
                 have bf := aM (ai z6 (ak ho0) hb)
                 have bk := aM (ai z7 (ak ho0) hb)
                 have bw := aM (ai z3 (ak ho0) hb)
                 have bx := aM (ai (by (with_reducible repeat (first | apply ac | apply ab | apply aa)); exact ck.out) (ak ho0) hb)
                 have bG := aM (aT (aj (aj (aj (aj (aj (aj ho0 (al z4)) (al z5)) (al z6)) (al z7)) (al z3)) (al (by (with_reducible repeat (first | apply ac | apply ab | apply aa)); exact ck.out))) (az z30))
                 have bY := aM (ae (g := bh) (o := .cells #[.slice bm l0_0.length bn] 24 (0, 0)) z12 hb)
                 have bZ := aM (ae (g := bj) (o := .cells #[.slice bK l1_0.length bL] 24 (0, 0)) z13 hb)
                 have b3 := aM (ae (g := bo) (o := .cells #[.slice bQ bH.length bN] 29 (0, 0)) z14 hb)
                 have br := aM (ae (g := bM) (o := .cells #[.slice bS ct.length bR] 29 (0, 0)) z15 hb)
                 have bP := aM (ae (g := bO) (o := .cells #[.slice bU cr.length bT] 29 (0, 0)) z16 hb)
                 have b4 := aM (ae (g := bB) (o := .cells #[.slice bJ bE.length bI] 29 (0, 0)) z17 hb)
                 have cH := aM (ay z30 hb)
                 clear a6
                 clear aZ
                 clear a5
                 clear aY
                 clear cq
                 clear ck
                 clear a7
                 clear a9
                 clear bb
                 clear bg
                 clear bi
                 clear bd
                 clear HB
                 have a6 := ba
                 have aZ := bc
                 have a5 := bf
                 have aY := bk
                 have cq := bw
                 have ck := bx
                 have dA := bG
                 have a7 := bY
                 have a9 := bZ
                 have bb := b3
                 have bg := br
                 have bi := bP
                 have bd := b4
                 have HB := cH
                 clear ba bc bf bk bw bx bG bY bZ b3 br bP b4 cH
                 (try clear hb)
                 (try clear hb2)
                 (try clear hk)
                 (try clear hi)
                 (try clear ho0)
                 refine hK.out _ _ ⟨(bC a7.out 0).trans rfl, (bC a9.out 0).trans rfl⟩ (fun hHeld => ?_)
                 clear hK K
                 refine norm_ (a' := ?_) ?_ ?_
                 rotate_left
                 ·show Act.put _ (some 99) _ = _
                  simp only [Act.put, sA, sB, sC, i64_w, i32_w]
                  rfl
                 refine pA 5 94 ?_
                 refine pA 6 100 ?_
                 refine pA 7 101 ?_
                 refine one_ (i := 8) (N := some 15) #[true, true, true, true, true, true, true, true, true, false, false] rfl rfl (one_of HT_.out z0) (by decide) (fun K hK => ?_)
                 refine box_step ?hg (N := 15) ?hd (cs := #[.slice none 0 0]) (t := 29) ?hr ?_; (case hd => rfl); (case hg => rfl); (case hr => first | (go_simp; done) | (go_simp; rfl))
                 intro bu hg w189 hbox hb
                 have ba := aM (af z4 hb)
                 have bc := aM (af z5 hb)
                 have bf := aM (af z6 hb)
                 have bk := aM (af z7 hb)
                 have bw := aM (af z3 hb)
                 have bx := aM (af (by (with_reducible repeat (first | apply ac | apply ab | apply aa)); exact ck.out) hb)
                 have bG := aM (af (by (with_reducible repeat (first | apply ac | apply ab | apply aa)); exact dA.out) hb)
                 have bY := aM (ae (g := bh) (o := .cells #[.slice bm l0_0.length bn] 24 (0, 0)) z12 hb)
                 have bZ := aM (ae (g := bj) (o := .cells #[.slice bK l1_0.length bL] 24 (0, 0)) z13 hb)
                 have b3 := aM (ae (g := bo) (o := .cells #[.slice bQ bH.length bN] 29 (0, 0)) z14 hb)
                 have br := aM (ae (g := bM) (o := .cells #[.slice bS ct.length bR] 29 (0, 0)) z15 hb)
                 have bP := aM (ae (g := bO) (o := .cells #[.slice bU cr.length bT] 29 (0, 0)) z16 hb)
                 have b4 := aM (ae (g := bB) (o := .cells #[.slice bJ bE.length bI] 29 (0, 0)) z17 hb)
                 have cH := aM (ay z30 hb)
                 have dc := aM (hbox)
                 have dY := aM ((by rw [hg]; exact (az z30) : w.heap.size ≤ bu))
                 have ej := aM ((by rw [hg]; exact (az z30) : w.heap.size ≤ bu))
                 have ei := aM ((by rw [hg]; exact aA (aw (g := bh) (o := .cells #[.slice bm l0_0.length bn] 24 (0, 0)) z12) : bh ≠ bu))
                 have eh := aM ((by rw [hg]; exact aC (aw (g := bh) (o := .cells #[.slice bm l0_0.length bn] 24 (0, 0)) z12) : bu ≠ bh))
                 have eM := aM ((by rw [hg]; exact aA (aw (g := bj) (o := .cells #[.slice bK l1_0.length bL] 24 (0, 0)) z13) : bj ≠ bu))
                 have eL := aM ((by rw [hg]; exact aC (aw (g := bj) (o := .cells #[.slice bK l1_0.length bL] 24 (0, 0)) z13) : bu ≠ bj))
                 have eK := aM ((by rw [hg]; exact aA (aw (g := bo) (o := .cells #[.slice bQ bH.length bN] 29 (0, 0)) z14) : bo ≠ bu))
                 have eJ := aM ((by rw [hg]; exact aC (aw (g := bo) (o := .cells #[.slice bQ bH.length bN] 29 (0, 0)) z14) : bu ≠ bo))
                 have fB := aM ((by rw [hg]; exact aA (aw (g := bM) (o := .cells #[.slice bS ct.length bR] 29 (0, 0)) z15) : bM ≠ bu))
                 have fA := aM ((by rw [hg]; exact aC (aw (g := bM) (o := .cells #[.slice bS ct.length bR] 29 (0, 0)) z15) : bu ≠ bM))
                 have fz := aM ((by rw [hg]; exact aA (aw (g := bO) (o := .cells #[.slice bU cr.length bT] 29 (0, 0)) z16) : bO ≠ bu))
                 have gW := aM ((by rw [hg]; exact aC (aw (g := bO) (o := .cells #[.slice bU cr.length bT] 29 (0, 0)) z16) : bu ≠ bO))
                 have jm := aM ((by rw [hg]; exact aA (aw (g := bB) (o := .cells #[.slice bJ bE.length bI] 29 (0, 0)) z17) : bB ≠ bu))
                 have kW := aM ((by rw [hg]; exact aC (aw (g := bB) (o := .cells #[.slice bJ bE.length bI] 29 (0, 0)) z17) : bu ≠ bB))
                 clear a6
                 clear aZ
                 clear a5
                 clear aY
                 clear cq
                 clear ck
                 clear dA
                 clear a7
                 clear a9
                 clear bb
                 clear bg
                 clear bi
                 clear bd
                 clear HB
                 have a6 := ba
                 have aZ := bc
                 have a5 := bf
                 have aY := bk
                 have cq := bw
                 have ck := bx
                 have dA := bG
                 have a7 := bY
                 have a9 := bZ
                 have bb := b3
                 have bg := br
                 have bi := bP
                 have bd := b4
                 have HB := cH
                 have b9 := dc
                 have gc := dY
                 have gj := ej
                 have cN := ei
                 have dk := eh
                 have cM := eM
                 have dj := eL
                 have cW := eK
                 have di := eJ
                 have cV := fB
                 have dh := fA
                 have cU := fz
                 have dg := gW
                 have cA := jm
                 have cJ := kW
                 clear ba bc bf bk bw bx bG bY bZ b3 br bP b4 cH dc dY ej ei eh eM eL eK eJ fB fA fz gW jm kW
                 clear hb hbox hg
                 refine hK.out _ _ ⟨(bC a7.out 0).trans rfl, (bC a9.out 0).trans rfl⟩ (fun hHeld => ?_)
                 clear hK K
                 refine norm_ (a' := ?_) ?_ ?_
                 rotate_left
                 ·show Act.put _ (some 15) _ = _
                  simp only [Act.put, sA, sB, sC, i64_w, i32_w]
                  rfl
                 exact norm_ (by simp only [putAll, Act.put, sA, sB, sC] <;> rfl) (hCont (.slice lO eG.length lE, .slice eX eA.length eO, v266, bu) _ ⟨hHeld, (by (with_reducible repeat (first | apply ac | apply ab | apply aa)); exact ag cq.out (fun _ hk => ⟨hk.1.2, ⟨hk.2, ⟨hk.1.1.1.1.1.2, ⟨hk.1.1.1.1.2, ⟨hk.1.1.1.2, hk.1.1.2⟩⟩⟩⟩⟩)), (by (with_reducible repeat (first | apply ac | apply ab | apply aa)); exact ag ck.out (fun _ hk => ⟨hk.1.2, ⟨hk.2, ⟨hk.1.1.1.1.1.2, ⟨hk.1.1.1.1.2, ⟨hk.1.1.1.2, hk.1.1.2⟩⟩⟩⟩⟩)), (by (with_reducible repeat (first | apply ac | apply ab | apply aa)); exact ag dA.out (fun _ hk => ⟨hk.1.2, ⟨hk.2, ⟨hk.1.1.1.1.1.2, ⟨hk.1.1.1.1.2, ⟨hk.1.1.1.2, hk.1.1.2⟩⟩⟩⟩⟩)), (by (with_reducible repeat (first | apply ac | apply ab | apply aa)); exact ag a6.out (fun _ hk => ⟨hk.1.1.2, ⟨hk.1.2, ⟨hk.2, ⟨hk.1.1.1.1, ⟨hk.1.1.1.2.1, hk.1.1.1.2.2⟩⟩⟩⟩⟩)), (by (with_reducible repeat (first | apply ac | apply ab | apply aa)); exact ag aZ.out (fun _ hk => ⟨hk.1.1.2, ⟨hk.1.2, ⟨hk.2, ⟨hk.1.1.1.1, ⟨hk.1.1.1.2.1, hk.1.1.1.2.2⟩⟩⟩⟩⟩)), (by (with_reducible repeat (first | apply ac | apply ab | apply aa)); exact ag a5.out (fun _ hk => ⟨hk.1.1.2, ⟨hk.1.2, ⟨hk.2, ⟨hk.1.1.1.1, ⟨hk.1.1.1.2.1, hk.1.1.1.2.2⟩⟩⟩⟩⟩)), (by (with_reducible repeat (first | apply ac | apply ab | apply aa)); exact ag aY.out (fun _ hk => ⟨hk.1.1.2, ⟨hk.1.2, ⟨hk.2, ⟨hk.1.1.1.1, ⟨hk.1.1.1.2.1, hk.1.1.1.2.2⟩⟩⟩⟩⟩)), z12, z13, z14, z15, z16, z17, z18, gc.out, gj.out, cN.out, dk.out, cM.out, dj.out, cW.out, di.out, cV.out, dh.out, cU.out, dg.out, cA.out, cJ.out, z32⟩)
                ·skip
                 refine box_step ?hg (N := 15) ?hd (cs := #[.slice none 0 0]) (t := 29) ?hr ?_; (case hd => rfl); (case hg => rfl); (case hr => first | (go_simp; done) | (go_simp; rfl))
                 intro bu hg w186 hbox hb
                 have ba := aM (af z4 hb)
                 have bc := aM (af z5 hb)
                 have bf := aM (af z6 hb)
                 have bk := aM (af z7 hb)
                 have bw := aM (af z3 hb)
                 have bx := aM (af (by (with_reducible repeat (first | apply ac | apply ab | apply aa)); exact ck.out) hb)
                 have bG := aM (ae (g := bh) (o := .cells #[.slice bm l0_0.length bn] 24 (0, 0)) z12 hb)
                 have bY := aM (ae (g := bj) (o := .cells #[.slice bK l1_0.length bL] 24 (0, 0)) z13 hb)
                 have bZ := aM (ae (g := bo) (o := .cells #[.slice bQ bH.length bN] 29 (0, 0)) z14 hb)
                 have b3 := aM (ae (g := bM) (o := .cells #[.slice bS ct.length bR] 29 (0, 0)) z15 hb)
                 have br := aM (ae (g := bO) (o := .cells #[.slice bU cr.length bT] 29 (0, 0)) z16 hb)
                 have bP := aM (ae (g := bB) (o := .cells #[.slice bJ bE.length bI] 29 (0, 0)) z17 hb)
                 have b4 := aM (ay z30 hb)
                 have cH := aM (hbox)
                 have dc := aM ((by rw [hg]; exact (az z30) : w.heap.size ≤ bu))
                 have dY := aM ((by rw [hg]; exact (az z30) : w.heap.size ≤ bu))
                 have ej := aM ((by rw [hg]; exact aA (aw (g := bh) (o := .cells #[.slice bm l0_0.length bn] 24 (0, 0)) z12) : bh ≠ bu))
                 have ei := aM ((by rw [hg]; exact aC (aw (g := bh) (o := .cells #[.slice bm l0_0.length bn] 24 (0, 0)) z12) : bu ≠ bh))
                 have eh := aM ((by rw [hg]; exact aA (aw (g := bj) (o := .cells #[.slice bK l1_0.length bL] 24 (0, 0)) z13) : bj ≠ bu))
                 have eM := aM ((by rw [hg]; exact aC (aw (g := bj) (o := .cells #[.slice bK l1_0.length bL] 24 (0, 0)) z13) : bu ≠ bj))
                 have eL := aM ((by rw [hg]; exact aA (aw (g := bo) (o := .cells #[.slice bQ bH.length bN] 29 (0, 0)) z14) : bo ≠ bu))
                 have eK := aM ((by rw [hg]; exact aC (aw (g := bo) (o := .cells #[.slice bQ bH.length bN] 29 (0, 0)) z14) : bu ≠ bo))
                 have eJ := aM ((by rw [hg]; exact aA (aw (g := bM) (o := .cells #[.slice bS ct.length bR] 29 (0, 0)) z15) : bM ≠ bu))
                 have fB := aM ((by rw [hg]; exact aC (aw (g := bM) (o := .cells #[.slice bS ct.length bR] 29 (0, 0)) z15) : bu ≠ bM))
                 have fA := aM ((by rw [hg]; exact aA (aw (g := bO) (o := .cells #[.slice bU cr.length bT] 29 (0, 0)) z16) : bO ≠ bu))
                 have fz := aM ((by rw [hg]; exact aC (aw (g := bO) (o := .cells #[.slice bU cr.length bT] 29 (0, 0)) z16) : bu ≠ bO))
                 have gW := aM ((by rw [hg]; exact aA (aw (g := bB) (o := .cells #[.slice bJ bE.length bI] 29 (0, 0)) z17) : bB ≠ bu))
                 have jm := aM ((by rw [hg]; exact aC (aw (g := bB) (o := .cells #[.slice bJ bE.length bI] 29 (0, 0)) z17) : bu ≠ bB))
                 clear a6
                 clear aZ
                 clear a5
                 clear aY
                 clear cq
                 clear ck
                 clear a7
                 clear a9
                 clear bb
                 clear bg
                 clear bi
                 clear bd
                 clear HB
                 have a6 := ba
                 have aZ := bc
                 have a5 := bf
                 have aY := bk
                 have cq := bw
                 have ck := bx
                 have a7 := bG
                 have a9 := bY
                 have bb := bZ
                 have bg := b3
                 have bi := br
                 have bd := bP
                 have HB := b4
                 have b9 := cH
                 have gc := dc
                 have gj := dY
                 have cN := ej
                 have dk := ei
                 have cM := eh
                 have dj := eM
                 have cW := eL
                 have di := eK
                 have cV := eJ
                 have dh := fB
                 have cU := fA
                 have dg := fz
                 have cA := gW
                 have cJ := jm
                 clear ba bc bf bk bw bx bG bY bZ b3 br bP b4 cH dc dY ej ei eh eM eL eK eJ fB fA fz gW jm
                 clear hb hbox hg
                 obtain ⟨eX, eO, eo187⟩ := Kd.R_slice cq.out
                 (first | subst eo187 | (injection eo187 with f1_ f2_ f3_; have f4_ := f1_.symm; have f5_ := f3_.symm; clear f1_ f2_ f3_; subst f4_; subst f5_))
                 obtain ⟨gn, f8, eo188⟩ := Kd.R_slice ck.out
                 (first | subst eo188 | (injection eo188 with f1_ f2_ f3_; have f4_ := f1_.symm; have f5_ := f3_.symm; clear f1_ f2_ f3_; subst f4_; subst f5_))
                 refine hK.out _ _ ⟨(bC a7.out 0).trans rfl, (bC a9.out 0).trans rfl⟩ (fun hHeld => ?_)
                 clear hK K
                 refine norm_ (a' := ?_) ?_ ?_
                 rotate_left
                 ·show Act.put _ (some 15) _ = _
                  simp only [Act.put, sA, sB, sC, i64_w, i32_w]
                  rfl
                 refine one_ (i := 4) (N := some 99) #[true, true, true, true, true, false, false, false, true, false, false] rfl rfl (one_of HT_.out z0) (by decide) (fun K hK => ?_)
                 refine goes_ Try.func35 z0 rfl #[.agg #[.slice eX eG.length eO], .agg #[.slice gn eA.length f8]] (by rfl) rfl rfl z21 ?_
                 with_reducible refine (impl_JoinRopes.calls kj106 _ _ eG _ _ eA db jk _ ?side1 ?side2 ?side3 ?side4 lD.out).mono ?_
                 (case side1 => repeat (first | exact (ah cq.out).2.2 | (with_reducible refine aE ?_ _) | (with_reducible refine aG ?_ _) | (with_reducible refine aH ?_)))
                 (case side2 => exact (ah cq.out).2.1)
                 (case side3 => repeat (first | exact (ah ck.out).2.2 | (with_reducible refine aE ?_ _) | (with_reducible refine aG ?_ _) | (with_reducible refine aH ?_)))
                 (case side4 => exact (ah ck.out).2.1)
                 rintro e w189 ⟨v266, rfl, ho0, hb⟩
                 refine ⟨_, rfl, ?_⟩
                 have ba := aM (ai z4 (ak ho0) hb)
                 have bc := aM (ai z5 (ak ho0) hb)
                 have bf := aM (ai z6 (ak ho0) hb)
                 have bk := aM (ai z7 (ak ho0) hb)
                 have bw := aM (ai z3 (ak ho0) hb)
                 have bx := aM (ai (by (with_reducible repeat (first | apply ac | apply ab | apply aa)); exact ck.out) (ak ho0) hb)
                 have bG := aM (aT (aj (aj (aj (aj (aj (aj ho0 (al z4)) (al z5)) (al z6)) (al z7)) (al z3)) (al (by (with_reducible repeat (first | apply ac | apply ab | apply aa)); exact ck.out))) (az z32))
                 have bY := aM (ae (g := bh) (o := .cells #[.slice bm l0_0.length bn] 24 (0, 0)) z12 hb)
                 have bZ := aM (ae (g := bj) (o := .cells #[.slice bK l1_0.length bL] 24 (0, 0)) z13 hb)
                 have b3 := aM (ae (g := bo) (o := .cells #[.slice bQ bH.length bN] 29 (0, 0)) z14 hb)
                 have br := aM (ae (g := bM) (o := .cells #[.slice bS ct.length bR] 29 (0, 0)) z15 hb)
                 have bP := aM (ae (g := bO) (o := .cells #[.slice bU cr.length bT] 29 (0, 0)) z16 hb)
                 have b4 := aM (ae (g := bB) (o := .cells #[.slice bJ bE.length bI] 29 (0, 0)) z17 hb)
                 have cH := aM (ae (g := bu) (o := .cells #[.slice none 0 0] 29 (0, 0)) z18 hb)
                 have dc := aM (ay z32 hb)
                 clear a6
                 clear aZ
                 clear a5
                 clear aY
                 clear cq
                 clear ck
                 clear a7
                 clear a9
                 clear bb
                 clear bg
                 clear bi
                 clear bd
                 clear b9
                 clear HB
                 have a6 := ba
                 have aZ := bc
                 have a5 := bf
                 have aY := bk
                 have cq := bw
                 have ck := bx
                 have dA := bG
                 have a7 := bY
                 have a9 := bZ
                 have bb := b3
                 have bg := br
                 have bi := bP
                 have bd := b4
                 have b9 := cH
                 have HB := dc
                 clear ba bc bf bk bw bx bG bY bZ b3 br bP b4 cH dc
                 (try clear hb)
                 (try clear hb2)
                 (try clear hk)
                 (try clear hi)
                 (try clear ho0)
                 refine hK.out _ _ ⟨(bC a7.out 0).trans rfl, (bC a9.out 0).trans rfl⟩ (fun hHeld => ?_)
                 clear hK K
                 refine norm_ (a' := ?_) ?_ ?_
                 rotate_left
                 ·show Act.put _ (some 99) _ = _
                  simp only [Act.put, sA, sB, sC, i64_w, i32_w]
                  rfl
                 refine pA 5 94 ?_
                 refine pA 6 100 ?_
                 refine pA 7 101 ?_
                 exact norm_ (by simp only [putAll, Act.put, sA, sB, sC] <;> rfl) (hCont (.slice eX eG.length eO, .slice gn eA.length f8, v266, bu) _ ⟨hHeld, (by (with_reducible repeat (first | apply ac | apply ab | apply aa)); exact ag cq.out (fun _ hk => ⟨hk.1.2, ⟨hk.2, ⟨hk.1.1.1.1.1.2, ⟨hk.1.1.1.1.2, ⟨hk.1.1.1.2, hk.1.1.2⟩⟩⟩⟩⟩)), (by (with_reducible repeat (first | apply ac | apply ab | apply aa)); exact ag ck.out (fun _ hk => ⟨hk.1.2, ⟨hk.2, ⟨hk.1.1.1.1.1.2, ⟨hk.1.1.1.1.2, ⟨hk.1.1.1.2, hk.1.1.2⟩⟩⟩⟩⟩)), (by (with_reducible repeat (first | apply ac | apply ab | apply aa)); exact ag dA.out (fun _ hk => ⟨hk.1.2, ⟨hk.2, ⟨hk.1.1.1.1.1.2, ⟨hk.1.1.1.1.2, ⟨hk.1.1.1.2, hk.1.1.2⟩⟩⟩⟩⟩)), (by (with_reducible repeat (first | apply ac | apply ab | apply aa)); exact ag a6.out (fun _ hk => ⟨hk.1.1.2, ⟨hk.1.2, ⟨hk.2, ⟨hk.1.1.1.1, ⟨hk.1.1.1.2.1, hk.1.1.1.2.2⟩⟩⟩⟩⟩)), (by (with_reducible repeat (first | apply ac | apply ab | apply aa)); exact ag aZ.out (fun _ hk => ⟨hk.1.1.2, ⟨hk.1.2, ⟨hk.2, ⟨hk.1.1.1.1, ⟨hk.1.1.1.2.1, hk.1.1.1.2.2⟩⟩⟩⟩⟩)), (by (with_reducible repeat (first | apply ac | apply ab | apply aa)); exact ag a5.out (fun _ hk => ⟨hk.1.1.2, ⟨hk.1.2, ⟨hk.2, ⟨hk.1.1.1.1, ⟨hk.1.1.1.2.1, hk.1.1.1.2.2⟩⟩⟩⟩⟩)), (by (with_reducible repeat (first | apply ac | apply ab | apply aa)); exact ag aY.out (fun _ hk => ⟨hk.1.1.2, ⟨hk.1.2, ⟨hk.2, ⟨hk.1.1.1.1, ⟨hk.1.1.1.2.1, hk.1.1.1.2.2⟩⟩⟩⟩⟩)), z12, z13, z14, z15, z16, z17, z18, gc.out, gj.out, cN.out, dk.out, cM.out, dj.out, cW.out, di.out, cV.out, dh.out, cU.out, dg.out, cA.out, cJ.out, z32⟩)
               ·skip
                refine box_step ?hg (N := 15) ?hd (cs := #[.slice none 0 0]) (t := 29) ?hr ?_; (case hd => rfl); (case hg => rfl); (case hr => first | (go_simp; done) | (go_simp; rfl))
                intro bu hg w185 hbox hb
                have ba := aM (af z4 hb)
                have bc := aM (af z5 hb)
                have bf := aM (af z6 hb)
                have bk := aM (af z7 hb)
                have bw := aM (af z3 hb)
                have bx := aM (ae (g := bh) (o := .cells #[.slice bm l0_0.length bn] 24 (0, 0)) z12 hb)
                have bG := aM (ae (g := bj) (o := .cells #[.slice bK l1_0.length bL] 24 (0, 0)) z13 hb)
                have bY := aM (ae (g := bo) (o := .cells #[.slice bQ bH.length bN] 29 (0, 0)) z14 hb)
                have bZ := aM (ae (g := bM) (o := .cells #[.slice bS ct.length bR] 29 (0, 0)) z15 hb)
                have b3 := aM (ae (g := bO) (o := .cells #[.slice bU cr.length bT] 29 (0, 0)) z16 hb)
                have br := aM (ae (g := bB) (o := .cells #[.slice bJ bE.length bI] 29 (0, 0)) z17 hb)
                have bP := aM (ay z30 hb)
                have b4 := aM (hbox)
                have cH := aM ((by rw [hg]; exact (az z30) : w.heap.size ≤ bu))
                have dc := aM ((by rw [hg]; exact (az z30) : w.heap.size ≤ bu))
                have dY := aM ((by rw [hg]; exact aA (aw (g := bh) (o := .cells #[.slice bm l0_0.length bn] 24 (0, 0)) z12) : bh ≠ bu))
                have ej := aM ((by rw [hg]; exact aC (aw (g := bh) (o := .cells #[.slice bm l0_0.length bn] 24 (0, 0)) z12) : bu ≠ bh))
                have ei := aM ((by rw [hg]; exact aA (aw (g := bj) (o := .cells #[.slice bK l1_0.length bL] 24 (0, 0)) z13) : bj ≠ bu))
                have eh := aM ((by rw [hg]; exact aC (aw (g := bj) (o := .cells #[.slice bK l1_0.length bL] 24 (0, 0)) z13) : bu ≠ bj))
                have eM := aM ((by rw [hg]; exact aA (aw (g := bo) (o := .cells #[.slice bQ bH.length bN] 29 (0, 0)) z14) : bo ≠ bu))
                have eL := aM ((by rw [hg]; exact aC (aw (g := bo) (o := .cells #[.slice bQ bH.length bN] 29 (0, 0)) z14) : bu ≠ bo))
                have eK := aM ((by rw [hg]; exact aA (aw (g := bM) (o := .cells #[.slice bS ct.length bR] 29 (0, 0)) z15) : bM ≠ bu))
                have eJ := aM ((by rw [hg]; exact aC (aw (g := bM) (o := .cells #[.slice bS ct.length bR] 29 (0, 0)) z15) : bu ≠ bM))
                have fB := aM ((by rw [hg]; exact aA (aw (g := bO) (o := .cells #[.slice bU cr.length bT] 29 (0, 0)) z16) : bO ≠ bu))
                have fA := aM ((by rw [hg]; exact aC (aw (g := bO) (o := .cells #[.slice bU cr.length bT] 29 (0, 0)) z16) : bu ≠ bO))
                have fz := aM ((by rw [hg]; exact aA (aw (g := bB) (o := .cells #[.slice bJ bE.length bI] 29 (0, 0)) z17) : bB ≠ bu))
                have gW := aM ((by rw [hg]; exact aC (aw (g := bB) (o := .cells #[.slice bJ bE.length bI] 29 (0, 0)) z17) : bu ≠ bB))
                clear a6
                clear aZ
                clear a5
                clear aY
                clear cq
                clear a7
                clear a9
                clear bb
                clear bg
                clear bi
                clear bd
                clear HB
                have a6 := ba
                have aZ := bc
                have a5 := bf
                have aY := bk
                have cq := bw
                have a7 := bx
                have a9 := bG
                have bb := bY
                have bg := bZ
                have bi := b3
                have bd := br
                have HB := bP
                have b9 := b4
                have gc := cH
                have gj := dc
                have cN := dY
                have dk := ej
                have cM := ei
                have dj := eh
                have cW := eM
                have di := eL
                have cV := eK
                have dh := eJ
                have cU := fB
                have dg := fA
                have cA := fz
                have cJ := gW
                clear ba bc bf bk bw bx bG bY bZ b3 br bP b4 cH dc dY ej ei eh eM eL eK eJ fB fA fz gW
                clear hb hbox hg
                refine hK.out _ _ ⟨(bC a7.out 0).trans rfl, (bC a9.out 0).trans rfl⟩ (fun hHeld => ?_)
                clear hK K
                refine norm_ (a' := ?_) ?_ ?_
                rotate_left
                ·show Act.put _ (some 15) _ = _
                 simp only [Act.put, sA, sB, sC, i64_w, i32_w]
                 rfl
                refine one_ (i := 3) (N := some 98) #[true, true, true, true, false, false, false, false, true, false, false] rfl rfl (one_of HT_.out z0) (by decide) (fun K hK => ?_)
                refine goes_ Try.func16 z0 rfl #[.agg #[.slice bK l1_0.length bL]] (by rfl) rfl rfl z21 ?_
                with_reducible refine (laws_toRope.calls kj106 _ _ l1_0 eA _ ?side1 ?side2 mu.out).mono ?_
                (case side1 => repeat (first | exact (aD ec.out HB.out) | (with_reducible refine aE ?_ _) | (with_reducible refine aG ?_ _) | (with_reducible refine aH ?_)))
                (case side2 => exact ed.out)
                rintro e w186 ⟨v263, rfl, ho0, hb⟩
                refine ⟨_, rfl, ?_⟩
                have ba := aM (ai z4 (ak ho0) hb)
                have bc := aM (ai z5 (ak ho0) hb)
                have bf := aM (ai z6 (ak ho0) hb)
                have bk := aM (ai z7 (ak ho0) hb)
                have bw := aM (ai z3 (ak ho0) hb)
                have bx := aM (aT (aj (aj (aj (aj (aj ho0 (al z4)) (al z5)) (al z6)) (al z7)) (al z3)) (az z32))
                have bG := aM (ae (g := bh) (o := .cells #[.slice bm l0_0.length bn] 24 (0, 0)) z12 hb)
                have bY := aM (ae (g := bj) (o := .cells #[.slice bK l1_0.length bL] 24 (0, 0)) z13 hb)
                have bZ := aM (ae (g := bo) (o := .cells #[.slice bQ bH.length bN] 29 (0, 0)) z14 hb)
                have b3 := aM (ae (g := bM) (o := .cells #[.slice bS ct.length bR] 29 (0, 0)) z15 hb)
                have br := aM (ae (g := bO) (o := .cells #[.slice bU cr.length bT] 29 (0, 0)) z16 hb)
                have bP := aM (ae (g := bB) (o := .cells #[.slice bJ bE.length bI] 29 (0, 0)) z17 hb)
                have b4 := aM (ae (g := bu) (o := .cells #[.slice none 0 0] 29 (0, 0)) z18 hb)
                have cH := aM (ay z32 hb)
                clear a6
                clear aZ
                clear a5
                clear aY
                clear cq
                clear a7
                clear a9
                clear bb
                clear bg
                clear bi
                clear bd
                clear b9
                clear HB
                have a6 := ba
                have aZ := bc
                have a5 := bf
                have aY := bk
                have cq := bw
                have ck := bx
                have a7 := bG
                have a9 := bY
                have bb := bZ
                have bg := b3
                have bi := br
                have bd := bP
                have b9 := b4
                have HB := cH
                clear ba bc bf bk bw bx bG bY bZ b3 br bP b4 cH
                (try clear hb)
                (try clear hb2)
                (try clear hk)
                (try clear hi)
                (try clear ho0)
                obtain ⟨eX, eO, eo187⟩ := Kd.R_slice cq.out
                (first | subst eo187 | (injection eo187 with f1_ f2_ f3_; have f4_ := f1_.symm; have f5_ := f3_.symm; clear f1_ f2_ f3_; subst f4_; subst f5_))
                obtain ⟨gn, f8, eo188⟩ := Kd.R_slice ck.out
                (first | subst eo188 | (injection eo188 with f1_ f2_ f3_; have f4_ := f1_.symm; have f5_ := f3_.symm; clear f1_ f2_ f3_; subst f4_; subst f5_))
                refine hK.out _ _ ⟨(bC a7.out 0).trans rfl, (bC a9.out 0).trans rfl⟩ (fun hHeld => ?_)
                clear hK K
                refine norm_ (a' := ?_) ?_ ?_
                rotate_left
                ·show Act.put _ (some 98) _ = _
                 simp only [Act.put, sA, sB, sC, i64_w, i32_w]
                 rfl
                refine one_ (i := 4) (N := some 99) #[true, true, true, true, true, false, false, false, true, false, false] rfl rfl (one_of HT_.out z0) (by decide) (fun K hK => ?_)
                refine goes_ Try.func35 z0 rfl #[.agg #[.slice eX eG.length eO], .agg #[.slice gn eA.length f8]] (by rfl) rfl rfl z21 ?_
                with_reducible refine (impl_JoinRopes.calls kj106 _ _ eG _ _ eA db jk _ ?side1 ?side2 ?side3 ?side4 lD.out).mono ?_
                (case side1 => repeat (first | exact (ah cq.out).2.2 | (with_reducible refine aE ?_ _) | (with_reducible refine aG ?_ _) | (with_reducible refine aH ?_)))
                (case side2 => exact (ah cq.out).2.1)
                (case side3 => repeat (first | exact (ah ck.out).2.2 | (with_reducible refine aE ?_ _) | (with_reducible refine aG ?_ _) | (with_reducible refine aH ?_)))
                (case side4 => exact (ah ck.out).2.1)
                rintro e w189 ⟨v266, rfl, ho0, hb⟩
                refine ⟨_, rfl, ?_⟩
                have ba := aM (ai z4 (ak ho0) hb)
                have bc := aM (ai z5 (ak ho0) hb)
                have bf := aM (ai z6 (ak ho0) hb)
                have bk := aM (ai z7 (ak ho0) hb)
                have bw := aM (ai z3 (ak ho0) hb)
                have bx := aM (ai (by (with_reducible repeat (first | apply ac | apply ab | apply aa)); exact ck.out) (ak ho0) hb)
                have bG := aM (aT (aj (aj (aj (aj (aj (aj ho0 (al z4)) (al z5)) (al z6)) (al z7)) (al z3)) (al (by (with_reducible repeat (first | apply ac | apply ab | apply aa)); exact ck.out))) (az z32))
                have bY := aM (ae (g := bh) (o := .cells #[.slice bm l0_0.length bn] 24 (0, 0)) z12 hb)
                have bZ := aM (ae (g := bj) (o := .cells #[.slice bK l1_0.length bL] 24 (0, 0)) z13 hb)
                have b3 := aM (ae (g := bo) (o := .cells #[.slice bQ bH.length bN] 29 (0, 0)) z14 hb)
                have br := aM (ae (g := bM) (o := .cells #[.slice bS ct.length bR] 29 (0, 0)) z15 hb)
                have bP := aM (ae (g := bO) (o := .cells #[.slice bU cr.length bT] 29 (0, 0)) z16 hb)
                have b4 := aM (ae (g := bB) (o := .cells #[.slice bJ bE.length bI] 29 (0, 0)) z17 hb)
                have cH := aM (ae (g := bu) (o := .cells #[.slice none 0 0] 29 (0, 0)) z18 hb)
                have dc := aM (ay z32 hb)
                clear a6
                clear aZ
                clear a5
                clear aY
                clear cq
                clear ck
                clear a7
                clear a9
                clear bb
                clear bg
                clear bi
                clear bd
                clear b9
                clear HB
                have a6 := ba
                have aZ := bc
                have a5 := bf
                have aY := bk
                have cq := bw
                have ck := bx
                have dA := bG
                have a7 := bY
                have a9 := bZ
                have bb := b3
                have bg := br
                have bi := bP
                have bd := b4
                have b9 := cH
                have HB := dc
                clear ba bc bf bk bw bx bG bY bZ b3 br bP b4 cH dc
                (try clear hb)
                (try clear hb2)
                (try clear hk)
                (try clear hi)
                (try clear ho0)
                refine hK.out _ _ ⟨(bC a7.out 0).trans rfl, (bC a9.out 0).trans rfl⟩ (fun hHeld => ?_)
                clear hK K
                refine norm_ (a' := ?_) ?_ ?_
                rotate_left
                ·show Act.put _ (some 99) _ = _
                 simp only [Act.put, sA, sB, sC, i64_w, i32_w]
                 rfl
                refine pA 5 94 ?_
                refine pA 6 100 ?_
                refine pA 7 101 ?_
                exact norm_ (by simp only [putAll, Act.put, sA, sB, sC] <;> rfl) (hCont (.slice eX eG.length eO, .slice gn eA.length f8, v266, bu) _ ⟨hHeld, (by (with_reducible repeat (first | apply ac | apply ab | apply aa)); exact ag cq.out (fun _ hk => ⟨hk.1.2, ⟨hk.2, ⟨hk.1.1.1.1.1.2, ⟨hk.1.1.1.1.2, ⟨hk.1.1.1.2, hk.1.1.2⟩⟩⟩⟩⟩)), (by (with_reducible repeat (first | apply ac | apply ab | apply aa)); exact ag ck.out (fun _ hk => ⟨hk.1.2, ⟨hk.2, ⟨hk.1.1.1.1.1.2, ⟨hk.1.1.1.1.2, ⟨hk.1.1.1.2, hk.1.1.2⟩⟩⟩⟩⟩)), (by (with_reducible repeat (first | apply ac | apply ab | apply aa)); exact ag dA.out (fun _ hk => ⟨hk.1.2, ⟨hk.2, ⟨hk.1.1.1.1.1.2, ⟨hk.1.1.1.1.2, ⟨hk.1.1.1.2, hk.1.1.2⟩⟩⟩⟩⟩)), (by (with_reducible repeat (first | apply ac | apply ab | apply aa)); exact ag a6.out (fun _ hk => ⟨hk.1.1.2, ⟨hk.1.2, ⟨hk.2, ⟨hk.1.1.1.1, ⟨hk.1.1.1.2.1, hk.1.1.1.2.2⟩⟩⟩⟩⟩)), (by (with_reducible repeat (first | apply ac | apply ab | apply aa)); exact ag aZ.out (fun _ hk => ⟨hk.1.1.2, ⟨hk.1.2, ⟨hk.2, ⟨hk.1.1.1.1, ⟨hk.1.1.1.2.1, hk.1.1.1.2.2⟩⟩⟩⟩⟩)), (by (with_reducible repeat (first | apply ac | apply ab | apply aa)); exact ag a5.out (fun _ hk => ⟨hk.1.1.2, ⟨hk.1.2, ⟨hk.2, ⟨hk.1.1.1.1, ⟨hk.1.1.1.2.1, hk.1.1.1.2.2⟩⟩⟩⟩⟩)), (by (with_reducible repeat (first | apply ac | apply ab | apply aa)); exact ag aY.out (fun _ hk => ⟨hk.1.1.2, ⟨hk.1.2, ⟨hk.2, ⟨hk.1.1.1.1, ⟨hk.1.1.1.2.1, hk.1.1.1.2.2⟩⟩⟩⟩⟩)), z12, z13, z14, z15, z16, z17, z18, gc.out, gj.out, cN.out, dk.out, cM.out, dj.out, cW.out, di.out, cV.out, dh.out, cU.out, dg.out, cA.out, cJ.out, z32⟩)
              ·skip
               refine box_step ?hg (N := 15) ?hd (cs := #[.slice none 0 0]) (t := 29) ?hr ?_; (case hd => rfl); (case hg => rfl); (case hr => first | (go_simp; done) | (go_simp; rfl))
               intro bu hg w184 hbox hb
               have ba := aM (af z4 hb)
               have bc := aM (af z5 hb)
               have bf := aM (af z6 hb)
               have bk := aM (af z7 hb)
               have bw := aM (ae (g := bh) (o := .cells #[.slice bm l0_0.length bn] 24 (0, 0)) z12 hb)
               have bx := aM (ae (g := bj) (o := .cells #[.slice bK l1_0.length bL] 24 (0, 0)) z13 hb)
               have bG := aM (ae (g := bo) (o := .cells #[.slice bQ bH.length bN] 29 (0, 0)) z14 hb)
               have bY := aM (ae (g := bM) (o := .cells #[.slice bS ct.length bR] 29 (0, 0)) z15 hb)
               have bZ := aM (ae (g := bO) (o := .cells #[.slice bU cr.length bT] 29 (0, 0)) z16 hb)
               have b3 := aM (ae (g := bB) (o := .cells #[.slice bJ bE.length bI] 29 (0, 0)) z17 hb)
               have br := aM (ay z30 hb)
               have bP := aM (hbox)
               have b4 := aM ((by rw [hg]; exact (az z30) : w.heap.size ≤ bu))
               have cH := aM ((by rw [hg]; exact (az z30) : w.heap.size ≤ bu))
               have dc := aM ((by rw [hg]; exact aA (aw (g := bh) (o := .cells #[.slice bm l0_0.length bn] 24 (0, 0)) z12) : bh ≠ bu))
               have dY := aM ((by rw [hg]; exact aC (aw (g := bh) (o := .cells #[.slice bm l0_0.length bn] 24 (0, 0)) z12) : bu ≠ bh))
               have ej := aM ((by rw [hg]; exact aA (aw (g := bj) (o := .cells #[.slice bK l1_0.length bL] 24 (0, 0)) z13) : bj ≠ bu))
               have ei := aM ((by rw [hg]; exact aC (aw (g := bj) (o := .cells #[.slice bK l1_0.length bL] 24 (0, 0)) z13) : bu ≠ bj))
               have eh := aM ((by rw [hg]; exact aA (aw (g := bo) (o := .cells #[.slice bQ bH.length bN] 29 (0, 0)) z14) : bo ≠ bu))
               have eM := aM ((by rw [hg]; exact aC (aw (g := bo) (o := .cells #[.slice bQ bH.length bN] 29 (0, 0)) z14) : bu ≠ bo))
               have eL := aM ((by rw [hg]; exact aA (aw (g := bM) (o := .cells #[.slice bS ct.length bR] 29 (0, 0)) z15) : bM ≠ bu))
               have eK := aM ((by rw [hg]; exact aC (aw (g := bM) (o := .cells #[.slice bS ct.length bR] 29 (0, 0)) z15) : bu ≠ bM))
               have eJ := aM ((by rw [hg]; exact aA (aw (g := bO) (o := .cells #[.slice bU cr.length bT] 29 (0, 0)) z16) : bO ≠ bu))
               have fB := aM ((by rw [hg]; exact aC (aw (g := bO) (o := .cells #[.slice bU cr.length bT] 29 (0, 0)) z16) : bu ≠ bO))
               have fA := aM ((by rw [hg]; exact aA (aw (g := bB) (o := .cells #[.slice bJ bE.length bI] 29 (0, 0)) z17) : bB ≠ bu))
               have fz := aM ((by rw [hg]; exact aC (aw (g := bB) (o := .cells #[.slice bJ bE.length bI] 29 (0, 0)) z17) : bu ≠ bB))
               clear a6
               clear aZ
               clear a5
               clear aY
               clear a7
               clear a9
               clear bb
               clear bg
               clear bi
               clear bd
               clear HB
               have a6 := ba
               have aZ := bc
               have a5 := bf
               have aY := bk
               have a7 := bw
               have a9 := bx
               have bb := bG
               have bg := bY
               have bi := bZ
               have bd := b3
               have HB := br
               have b9 := bP
               have gc := b4
               have gj := cH
               have cN := dc
               have dk := dY
               have cM := ej
               have dj := ei
               have cW := eh
               have di := eM
               have cV := eL
               have dh := eK
               have cU := eJ
               have dg := fB
               have cA := fA
               have cJ := fz
               clear ba bc bf bk bw bx bG bY bZ b3 br bP b4 cH dc dY ej ei eh eM eL eK eJ fB fA fz
               clear hb hbox hg
               refine hK.out _ _ ⟨(bC a7.out 0).trans rfl, (bC a9.out 0).trans rfl⟩ (fun hHeld => ?_)
               clear hK K
               refine norm_ (a' := ?_) ?_ ?_
               rotate_left
               ·show Act.put _ (some 15) _ = _
                simp only [Act.put, sA, sB, sC, i64_w, i32_w]
                rfl
               refine one_ (i := 1) (N := some 96) #[true, true, true, false, false, false, false, false, true, false, false] rfl rfl (one_of HT_.out z0) (by decide) (fun K hK => ?_)
               refine goes_ Try.func16 z0 rfl #[.agg #[.slice bm l0_0.length bn]] (by rfl) rfl rfl z21 ?_
               with_reducible refine (laws_toRope.calls kj106 _ _ l0_0 eG _ ?side1 ?side2 m9.out).mono ?_
               (case side1 => repeat (first | exact (aD du.out HB.out) | (with_reducible refine aE ?_ _) | (with_reducible refine aG ?_ _) | (with_reducible refine aH ?_)))
               (case side2 => exact dy.out)
               rintro e w185 ⟨v260, rfl, ho0, hb⟩
               refine ⟨_, rfl, ?_⟩
               have ba := aM (ai z4 (ak ho0) hb)
               have bc := aM (ai z5 (ak ho0) hb)
               have bf := aM (ai z6 (ak ho0) hb)
               have bk := aM (ai z7 (ak ho0) hb)
               have bw := aM (aT (aj (aj (aj (aj ho0 (al z4)) (al z5)) (al z6)) (al z7)) (az z32))
               have bx := aM (ae (g := bh) (o := .cells #[.slice bm l0_0.length bn] 24 (0, 0)) z12 hb)
               have bG := aM (ae (g := bj) (o := .cells #[.slice bK l1_0.length bL] 24 (0, 0)) z13 hb)
               have bY := aM (ae (g := bo) (o := .cells #[.slice bQ bH.length bN] 29 (0, 0)) z14 hb)
               have bZ := aM (ae (g := bM) (o := .cells #[.slice bS ct.length bR] 29 (0, 0)) z15 hb)
               have b3 := aM (ae (g := bO) (o := .cells #[.slice bU cr.length bT] 29 (0, 0)) z16 hb)
               have br := aM (ae (g := bB) (o := .cells #[.slice bJ bE.length bI] 29 (0, 0)) z17 hb)
               have bP := aM (ae (g := bu) (o := .cells #[.slice none 0 0] 29 (0, 0)) z18 hb)
               have b4 := aM (ay z32 hb)
               clear a6
               clear aZ
               clear a5
               clear aY
               clear a7
               clear a9
               clear bb
               clear bg
               clear bi
               clear bd
               clear b9
               clear HB
               have a6 := ba
               have aZ := bc
               have a5 := bf
               have aY := bk
               have cq := bw
               have a7 := bx
               have a9 := bG
               have bb := bY
               have bg := bZ
               have bi := b3
               have bd := br
               have b9 := bP
               have HB := b4
               clear ba bc bf bk bw bx bG bY bZ b3 br bP b4
               (try clear hb)
               (try clear hb2)
               (try clear hk)
               (try clear hi)
               (try clear ho0)
               refine hK.out _ _ ⟨(bC a7.out 0).trans rfl, (bC a9.out 0).trans rfl⟩ (fun hHeld => ?_)
               clear hK K
               refine norm_ (a' := ?_) ?_ ?_
               rotate_left
               ·show Act.put _ (some 96) _ = _
                simp only [Act.put, sA, sB, sC, i64_w, i32_w]
                rfl
               refine one_ (i := 3) (N := some 98) #[true, true, true, true, false, false, false, false, true, false, false] rfl rfl (one_of HT_.out z0) (by decide) (fun K hK => ?_)
               refine goes_ Try.func16 z0 rfl #[.agg #[.slice bK l1_0.length bL]] (by rfl) rfl rfl z21 ?_
               with_reducible refine (laws_toRope.calls kj106 _ _ l1_0 eA _ ?side1 ?side2 mu.out).mono ?_
               (case side1 => repeat (first | exact (aD ec.out HB.out) | (with_reducible refine aE ?_ _) | (with_reducible refine aG ?_ _) | (with_reducible refine aH ?_)))
               (case side2 => exact ed.out)
               rintro e w186 ⟨v263, rfl, ho0, hb⟩
               refine ⟨_, rfl, ?_⟩
               have ba := aM (ai z4 (ak ho0) hb)
               have bc := aM (ai z5 (ak ho0) hb)
               have bf := aM (ai z6 (ak ho0) hb)
               have bk := aM (ai z7 (ak ho0) hb)
               have bw := aM (ai z3 (ak ho0) hb)
               have bx := aM (aT (aj (aj (aj (aj (aj ho0 (al z4)) (al z5)) (al z6)) (al z7)) (al z3)) (az z32))
               have bG := aM (ae (g := bh) (o := .cells #[.slice bm l0_0.length bn] 24 (0, 0)) z12 hb)
               have bY := aM (ae (g := bj) (o := .cells #[.slice bK l1_0.length bL] 24 (0, 0)) z13 hb)
               have bZ := aM (ae (g := bo) (o := .cells #[.slice bQ bH.length bN] 29 (0, 0)) z14 hb)
               have b3 := aM (ae (g := bM) (o := .cells #[.slice bS ct.length bR] 29 (0, 0)) z15 hb)
               have br := aM (ae (g := bO) (o := .cells #[.slice bU cr.length bT] 29 (0, 0)) z16 hb)
               have bP := aM (ae (g := bB) (o := .cells #[.slice bJ bE.length bI] 29 (0, 0)) z17 hb)
               have b4 := aM (ae (g := bu) (o := .cells #[.slice none 0 0] 29 (0, 0)) z18 hb)
               have cH := aM (ay z32 hb)
               clear a6
               clear aZ
               clear a5
               clear aY
               clear cq
               clear a7
               clear a9
               clear bb
               clear bg
               clear bi
               clear bd
               clear b9
               clear HB
               have a6 := ba
               have aZ := bc
               have a5 := bf
               have aY := bk
               have cq := bw
               have ck := bx
               have a7 := bG
               have a9 := bY
               have bb := bZ
               have bg := b3
               have bi := br
               have bd := bP
               have b9 := b4
               have HB := cH
               clear ba bc bf bk bw bx bG bY bZ b3 br bP b4 cH
               (try clear hb)
               (try clear hb2)
               (try clear hk)
               (try clear hi)
               (try clear ho0)
               obtain ⟨eX, eO, eo187⟩ := Kd.R_slice cq.out
               (first | subst eo187 | (injection eo187 with f1_ f2_ f3_; have f4_ := f1_.symm; have f5_ := f3_.symm; clear f1_ f2_ f3_; subst f4_; subst f5_))
               obtain ⟨gn, f8, eo188⟩ := Kd.R_slice ck.out
               (first | subst eo188 | (injection eo188 with f1_ f2_ f3_; have f4_ := f1_.symm; have f5_ := f3_.symm; clear f1_ f2_ f3_; subst f4_; subst f5_))
               refine hK.out _ _ ⟨(bC a7.out 0).trans rfl, (bC a9.out 0).trans rfl⟩ (fun hHeld => ?_)
               clear hK K
               refine norm_ (a' := ?_) ?_ ?_
               rotate_left
               ·show Act.put _ (some 98) _ = _
                simp only [Act.put, sA, sB, sC, i64_w, i32_w]
                rfl
               refine one_ (i := 4) (N := some 99) #[true, true, true, true, true, false, false, false, true, false, false] rfl rfl (one_of HT_.out z0) (by decide) (fun K hK => ?_)
               refine goes_ Try.func35 z0 rfl #[.agg #[.slice eX eG.length eO], .agg #[.slice gn eA.length f8]] (by rfl) rfl rfl z21 ?_
               with_reducible refine (impl_JoinRopes.calls kj106 _ _ eG _ _ eA db jk _ ?side1 ?side2 ?side3 ?side4 lD.out).mono ?_
               (case side1 => repeat (first | exact (ah cq.out).2.2 | (with_reducible refine aE ?_ _) | (with_reducible refine aG ?_ _) | (with_reducible refine aH ?_)))
               (case side2 => exact (ah cq.out).2.1)
               (case side3 => repeat (first | exact (ah ck.out).2.2 | (with_reducible refine aE ?_ _) | (with_reducible refine aG ?_ _) | (with_reducible refine aH ?_)))
               (case side4 => exact (ah ck.out).2.1)
               rintro e w189 ⟨v266, rfl, ho0, hb⟩
               refine ⟨_, rfl, ?_⟩
               have ba := aM (ai z4 (ak ho0) hb)
               have bc := aM (ai z5 (ak ho0) hb)
               have bf := aM (ai z6 (ak ho0) hb)
               have bk := aM (ai z7 (ak ho0) hb)
               have bw := aM (ai z3 (ak ho0) hb)
               have bx := aM (ai (by (with_reducible repeat (first | apply ac | apply ab | apply aa)); exact ck.out) (ak ho0) hb)
               have bG := aM (aT (aj (aj (aj (aj (aj (aj ho0 (al z4)) (al z5)) (al z6)) (al z7)) (al z3)) (al (by (with_reducible repeat (first | apply ac | apply ab | apply aa)); exact ck.out))) (az z32))
               have bY := aM (ae (g := bh) (o := .cells #[.slice bm l0_0.length bn] 24 (0, 0)) z12 hb)
               have bZ := aM (ae (g := bj) (o := .cells #[.slice bK l1_0.length bL] 24 (0, 0)) z13 hb)
               have b3 := aM (ae (g := bo) (o := .cells #[.slice bQ bH.length bN] 29 (0, 0)) z14 hb)
               have br := aM (ae (g := bM) (o := .cells #[.slice bS ct.length bR] 29 (0, 0)) z15 hb)
               have bP := aM (ae (g := bO) (o := .cells #[.slice bU cr.length bT] 29 (0, 0)) z16 hb)
               have b4 := aM (ae (g := bB) (o := .cells #[.slice bJ bE.length bI] 29 (0, 0)) z17 hb)
               have cH := aM (ae (g := bu) (o := .cells #[.slice none 0 0] 29 (0, 0)) z18 hb)
               have dc := aM (ay z32 hb)
               clear a6
               clear aZ
               clear a5
               clear aY
               clear cq
               clear ck
               clear a7
               clear a9
               clear bb
               clear bg
               clear bi
               clear bd
               clear b9
               clear HB
               have a6 := ba
               have aZ := bc
               have a5 := bf
               have aY := bk
               have cq := bw
               have ck := bx
               have dA := bG
               have a7 := bY
               have a9 := bZ
               have bb := b3
               have bg := br
               have bi := bP
               have bd := b4
               have b9 := cH
               have HB := dc
               clear ba bc bf bk bw bx bG bY bZ b3 br bP b4 cH dc
               (try clear hb)
               (try clear hb2)
               (try clear hk)
               (try clear hi)
               (try clear ho0)
               refine hK.out _ _ ⟨(bC a7.out 0).trans rfl, (bC a9.out 0).trans rfl⟩ (fun hHeld => ?_)
               clear hK K
               refine norm_ (a' := ?_) ?_ ?_
               rotate_left
               ·show Act.put _ (some 99) _ = _
                simp only [Act.put, sA, sB, sC, i64_w, i32_w]
                rfl
               refine pA 5 94 ?_
               refine pA 6 100 ?_
               refine pA 7 101 ?_
               exact norm_ (by simp only [putAll, Act.put, sA, sB, sC] <;> rfl) (hCont (.slice eX eG.length eO, .slice gn eA.length f8, v266, bu) _ ⟨hHeld, (by (with_reducible repeat (first | apply ac | apply ab | apply aa)); exact ag cq.out (fun _ hk => ⟨hk.1.2, ⟨hk.2, ⟨hk.1.1.1.1.1.2, ⟨hk.1.1.1.1.2, ⟨hk.1.1.1.2, hk.1.1.2⟩⟩⟩⟩⟩)), (by (with_reducible repeat (first | apply ac | apply ab | apply aa)); exact ag ck.out (fun _ hk => ⟨hk.1.2, ⟨hk.2, ⟨hk.1.1.1.1.1.2, ⟨hk.1.1.1.1.2, ⟨hk.1.1.1.2, hk.1.1.2⟩⟩⟩⟩⟩)), (by (with_reducible repeat (first | apply ac | apply ab | apply aa)); exact ag dA.out (fun _ hk => ⟨hk.1.2, ⟨hk.2, ⟨hk.1.1.1.1.1.2, ⟨hk.1.1.1.1.2, ⟨hk.1.1.1.2, hk.1.1.2⟩⟩⟩⟩⟩)), (by (with_reducible repeat (first | apply ac | apply ab | apply aa)); exact ag a6.out (fun _ hk => ⟨hk.1.1.2, ⟨hk.1.2, ⟨hk.2, ⟨hk.1.1.1.1, ⟨hk.1.1.1.2.1, hk.1.1.1.2.2⟩⟩⟩⟩⟩)), (by (with_reducible repeat (first | apply ac | apply ab | apply aa)); exact ag aZ.out (fun _ hk => ⟨hk.1.1.2, ⟨hk.1.2, ⟨hk.2, ⟨hk.1.1.1.1, ⟨hk.1.1.1.2.1, hk.1.1.1.2.2⟩⟩⟩⟩⟩)), (by (with_reducible repeat (first | apply ac | apply ab | apply aa)); exact ag a5.out (fun _ hk => ⟨hk.1.1.2, ⟨hk.1.2, ⟨hk.2, ⟨hk.1.1.1.1, ⟨hk.1.1.1.2.1, hk.1.1.1.2.2⟩⟩⟩⟩⟩)), (by (with_reducible repeat (first | apply ac | apply ab | apply aa)); exact ag aY.out (fun _ hk => ⟨hk.1.1.2, ⟨hk.1.2, ⟨hk.2, ⟨hk.1.1.1.1, ⟨hk.1.1.1.2.1, hk.1.1.1.2.2⟩⟩⟩⟩⟩)), z12, z13, z14, z15, z16, z17, z18, gc.out, gj.out, cN.out, dk.out, cM.out, dj.out, cW.out, di.out, cV.out, dh.out, cU.out, dg.out, cA.out, cJ.out, z32⟩)
             rintro ⟨v260, v263, v266, bu⟩ w190 ⟨hS_, h0_, h1_, h2_, h3_, h4_, h5_, h6_, h7_, h8_, h9_, h10_, h11_, h12_, h13_, h14_, h15_, h16_, h17_, h18_, h19_, h20_, h21_, h22_, h23_, h24_, h25_, h26_, h27_, h28_⟩
             have ba : Aside0 (Kd.R k58 58 w190 w.heap.size (fun k_ => some k_ ≠ (v263 : Value).ownBlock ∧ some k_ ≠ (v266 : Value).ownBlock ∧ some k_ ≠ (.slice bQ bH.length bN : Value).ownBlock ∧ some k_ ≠ (.slice bS ct.length bR : Value).ownBlock ∧ some k_ ≠ (.slice bU cr.length bT : Value).ownBlock ∧ some k_ ≠ (.slice bJ bE.length bI : Value).ownBlock) v260 eG) := ⟨h0_⟩
             have bc : Aside0 (Kd.R k58 58 w190 w.heap.size (fun k_ => some k_ ≠ (v260 : Value).ownBlock ∧ some k_ ≠ (v266 : Value).ownBlock ∧ some k_ ≠ (.slice bQ bH.length bN : Value).ownBlock ∧ some k_ ≠ (.slice bS ct.length bR : Value).ownBlock ∧ some k_ ≠ (.slice bU cr.length bT : Value).ownBlock ∧ some k_ ≠ (.slice bJ bE.length bI : Value).ownBlock) v263 eA) := ⟨h1_⟩
             have bf : Aside0 (Kd.R k58 58 w190 w.heap.size (fun k_ => some k_ ≠ (v260 : Value).ownBlock ∧ some k_ ≠ (v263 : Value).ownBlock ∧ some k_ ≠ (.slice bQ bH.length bN : Value).ownBlock ∧ some k_ ≠ (.slice bS ct.length bR : Value).ownBlock ∧ some k_ ≠ (.slice bU cr.length bT : Value).ownBlock ∧ some k_ ≠ (.slice bJ bE.length bI : Value).ownBlock) v266 db) := ⟨h2_⟩
             have bk : Aside0 (Kd.R k58 58 w190 w.heap.size (fun k_ => some k_ ≠ (v260 : Value).ownBlock ∧ some k_ ≠ (v263 : Value).ownBlock ∧ some k_ ≠ (v266 : Value).ownBlock ∧ some k_ ≠ (.slice bS ct.length bR : Value).ownBlock ∧ some k_ ≠ (.slice bU cr.length bT : Value).ownBlock ∧ some k_ ≠ (.slice bJ bE.length bI : Value).ownBlock) (.slice bQ bH.length bN) bH) := ⟨h3_⟩
             have bw : Aside0 (Kd.R k58 58 w190 w.heap.size (fun k_ => some k_ ≠ (v260 : Value).ownBlock ∧ some k_ ≠ (v263 : Value).ownBlock ∧ some k_ ≠ (v266 : Value).ownBlock ∧ some k_ ≠ (.slice bQ bH.length bN : Value).ownBlock ∧ some k_ ≠ (.slice bU cr.length bT : Value).ownBlock ∧ some k_ ≠ (.slice bJ bE.length bI : Value).ownBlock) (.slice bS ct.length bR) ct) := ⟨h4_⟩
             have bx : Aside0 (Kd.R k58 58 w190 w.heap.size (fun k_ => some k_ ≠ (v260 : Value).ownBlock ∧ some k_ ≠ (v263 : Value).ownBlock ∧ some k_ ≠ (v266 : Value).ownBlock ∧ some k_ ≠ (.slice bQ bH.length bN : Value).ownBlock ∧ some k_ ≠ (.slice bS ct.length bR : Value).ownBlock ∧ some k_ ≠ (.slice bJ bE.length bI : Value).ownBlock) (.slice bU cr.length bT) cr) := ⟨h5_⟩
             have bG : Aside0 (Kd.R k58 58 w190 w.heap.size (fun k_ => some k_ ≠ (v260 : Value).ownBlock ∧ some k_ ≠ (v263 : Value).ownBlock ∧ some k_ ≠ (v266 : Value).ownBlock ∧ some k_ ≠ (.slice bQ bH.length bN : Value).ownBlock ∧ some k_ ≠ (.slice bS ct.length bR : Value).ownBlock ∧ some k_ ≠ (.slice bU cr.length bT : Value).ownBlock) (.slice bJ bE.length bI) dK) := ⟨h6_⟩
             have bY : Aside0 (w190.heap[bh]? = some (.cells #[.slice bm l0_0.length bn] 24 (0, 0))) := ⟨h7_⟩
             have bZ : Aside0 (w190.heap[bj]? = some (.cells #[.slice bK l1_0.length bL] 24 (0, 0))) := ⟨h8_⟩
             have b3 : Aside0 (w190.heap[bo]? = some (.cells #[.slice bQ bH.length bN] 29 (0, 0))) := ⟨h9_⟩
             have br : Aside0 (w190.heap[bM]? = some (.cells #[.slice bS ct.length bR] 29 (0, 0))) := ⟨h10_⟩
             have bP : Aside0 (w190.heap[bO]? = some (.cells #[.slice bU cr.length bT] 29 (0, 0))) := ⟨h11_⟩
             have b4 : Aside0 (w190.heap[bB]? = some (.cells #[.slice bJ bE.length bI] 29 (0, 0))) := ⟨h12_⟩
             have cH : Aside0 (w190.heap[bu]? = some (.cells #[.slice none 0 0] 29 (0, 0))) := ⟨h13_⟩
             have dc : Aside0 (w.heap.size ≤ bu) := ⟨h14_⟩
             have dY : Aside0 (w.heap.size ≤ bu) := ⟨h15_⟩
             have ej : Aside0 (bh ≠ bu) := ⟨h16_⟩
             have ei : Aside0 (bu ≠ bh) := ⟨h17_⟩
             have eh : Aside0 (bj ≠ bu) := ⟨h18_⟩
             have eM : Aside0 (bu ≠ bj) := ⟨h19_⟩
             have eL : Aside0 (bo ≠ bu) := ⟨h20_⟩
             have eK : Aside0 (bu ≠ bo) := ⟨h21_⟩
             have eJ : Aside0 (bM ≠ bu) := ⟨h22_⟩
             have fB : Aside0 (bu ≠ bM) := ⟨h23_⟩
             have fA : Aside0 (bO ≠ bu) := ⟨h24_⟩
             have fz : Aside0 (bu ≠ bO) := ⟨h25_⟩
             have gW : Aside0 (bB ≠ bu) := ⟨h26_⟩
             have jm : Aside0 (bu ≠ bB) := ⟨h27_⟩
             have kW : Aside0 (Below w.heap.size w w190) := ⟨h28_⟩
             clear a6
             clear aZ
             clear a5
             clear aY
             clear a7
             clear a9
             clear bb
             clear bg
             clear bi
             clear bd
             clear HB
             clear h0_ h1_ h2_ h3_ h4_ h5_ h6_ h7_ h8_ h9_ h10_ h11_ h12_ h13_ h14_ h15_ h16_ h17_ h18_ h19_ h20_ h21_ h22_ h23_ h24_ h25_ h26_ h27_ h28_
             have cq := ba
             have ck := bc
             have dA := bf
             have a6 := bk
             have aZ := bw
             have a5 := bx
             have aY := bG
             have a7 := bY
             have a9 := bZ
             have bb := b3
             have bg := br
             have bi := bP
             have bd := b4
             have b9 := cH
             have gc := dc
             have gj := dY
             have cN := ej
             have dk := ei
             have cM := eh
             have dj := eM
             have cW := eL
             have di := eK
             have cV := eJ
             have dh := fB
             have cU := fA
             have dg := fz
             have cA := gW
             have cJ := jm
             have HB := kW
             clear ba bc bf bk bw bx bG bY bZ b3 br bP b4 cH dc dY ej ei eh eM eL eK eJ fB fA fz gW jm kW
             have hHeld : w190.cell? ⟨bh, 0, none⟩ = some (.slice bm l0_0.length bn) ∧ w190.cell? ⟨bj, 0, none⟩ = some (.slice bK l1_0.length bL) := hS_
             obtain ⟨cQ, cI, eo191⟩ := Kd.R_slice dA.out
             (first | subst eo191 | (injection eo191 with f1_ f2_ f3_; have f4_ := f1_.symm; have f5_ := f3_.symm; clear f1_ f2_ f3_; subst f4_; subst f5_))
             refine norm_ (a' := ?_) ?_ ?_
             rotate_left
             ·simp only [putAll, Act.put, sA, sB, sC]
              rfl
             refine one_ (i := 9) (N := none) #[true, true, true, true, true, true, true, true, true, true, false] rfl rfl (one_of HT_.out z0) (by decide) (fun K hK => ?_)
             have hs192 : w190.cell? ⟨bu, 0, none⟩ = some (.slice none 0 0) := (bC b9.out 0).trans rfl
             have hfs192 := bF b9.out 0
             have hns192_0 := cN.out
             have hns192_1 := cM.out
             have hns192_2 := cW.out
             have hns192_3 := cV.out
             have hns192_4 := cU.out
             have hns192_5 := cA.out
             have hms192_0 := dk.out
             have hms192_1 := dj.out
             have hms192_2 := di.out
             have hms192_3 := dh.out
             have hms192_4 := dg.out
             have hms192_5 := cJ.out
             refine skip_ (w1 := ?_) (by rfl) rfl ?_ ?_
             rotate_left
             ·go_simp
              rfl
             refine hK.out _ _ ⟨((cell_far (p := ⟨bu, _, none⟩) cN.out _).trans (hHeld.1)), ((cell_far (p := ⟨bu, _, none⟩) cM.out _).trans (hHeld.2))⟩ (fun hHeld => ?_)
             clear hK K
             refine pA 10 16 ?_
             refine done_ (done_of HT_.out z0) ?_
             go_upto_region 32 with (fail)
             go_cut [110] (fun v110 wc => ∃ (kq : Nat) (x110_172 : Bool), v110 = .bool x110_172 ∧ Aside0 (laws_FnExactJoinRopes.j2 kq fy x110_172 dK = some r) ∧ Aside0 (kq ≤ kj106) ∧ Aside0 (Kd.R k58 58 wc w.heap.size (fun k_ => some k_ ≠ ((.slice bS ct.length bR) : Value).ownBlock ∧ some k_ ≠ ((.slice bU cr.length bT) : Value).ownBlock ∧ some k_ ≠ ((.slice bJ bE.length bI) : Value).ownBlock ∧ some k_ ≠ ((.slice cQ db.length cI) : Value).ownBlock) (.slice bQ bH.length bN) bH) ∧ Aside0 (Kd.R k58 58 wc w.heap.size (fun k_ => some k_ ≠ ((.slice bQ bH.length bN) : Value).ownBlock ∧ some k_ ≠ ((.slice bU cr.length bT) : Value).ownBlock ∧ some k_ ≠ ((.slice bJ bE.length bI) : Value).ownBlock ∧ some k_ ≠ ((.slice cQ db.length cI) : Value).ownBlock) (.slice bS ct.length bR) ct) ∧ Aside0 (Kd.R k58 58 wc w.heap.size (fun k_ => some k_ ≠ ((.slice bQ bH.length bN) : Value).ownBlock ∧ some k_ ≠ ((.slice bS ct.length bR) : Value).ownBlock ∧ some k_ ≠ ((.slice bJ bE.length bI) : Value).ownBlock ∧ some k_ ≠ ((.slice cQ db.length cI) : Value).ownBlock) (.slice bU cr.length bT) cr) ∧ Aside0 (Kd.R k58 58 wc w.heap.size (fun k_ => some k_ ≠ ((.slice bQ bH.length bN) : Value).ownBlock ∧ some k_ ≠ ((.slice bS ct.length bR) : Value).ownBlock ∧ some k_ ≠ ((.slice bU cr.length bT) : Value).ownBlock ∧ some k_ ≠ ((.slice cQ db.length cI) : Value).ownBlock) (.slice bJ bE.length bI) dK) ∧ Aside0 (Kd.R k58 58 wc w.heap.size (fun k_ => some k_ ≠ ((.slice bQ bH.length bN) : Value).ownBlock ∧ some k_ ≠ ((.slice bS ct.length bR) : Value).ownBlock ∧ some k_ ≠ ((.slice bU cr.length bT) : Value).ownBlock ∧ some k_ ≠ ((.slice bJ bE.length bI) : Value).ownBlock) (.slice cQ db.length cI) db) ∧ Aside0 (wc.heap[bh]? = some (.cells #[(.slice bm l0_0.length bn)] 24 (0, 0))) ∧ Aside0 (wc.heap[bj]? = some (.cells #[(.slice bK l1_0.length bL)] 24 (0, 0))) ∧ Aside0 (wc.heap[bo]? = some (.cells #[(.slice bQ bH.length bN)] 29 (0, 0))) ∧ Aside0 (wc.heap[bM]? = some (.cells #[(.slice bS ct.length bR)] 29 (0, 0))) ∧ Aside0 (wc.heap[bO]? = some (.cells #[(.slice bU cr.length bT)] 29 (0, 0))) ∧ Aside0 (wc.heap[bB]? = some (.cells #[(.slice bJ bE.length bI)] 29 (0, 0))) ∧ Aside0 (wc.heap[bu]? = some (.cells #[(.slice cQ db.length cI)] 29 (0, 0))) ∧ Aside0 (Below w.heap.size w wc))
             case first =>
              have H := lc.out
              clear lc
              replace H := oB H
              obtain ⟨l6, lS, H⟩ := H
              try dsimp only at H
              have m7 := aM lS
              clear lS
              by_cases k6 : l6 = true
              ·subst k6
               rw [if_pos rfl] at H
               have H' := aM H
               clear H
               have hnb195 := dk.out
               have hnc195 := cN.out
               have hnb196 := dj.out
               have hnc196 := cM.out
               have hnb197 := di.out
               have hnc197 := cW.out
               have hnb198 := dh.out
               have hnc198 := cV.out
               have hnb199 := dg.out
               have hnc199 := cU.out
               have hnb200 := cJ.out
               have hnc200 := cA.out
               have hcz201_0 : w190.cell? ⟨bu, 0, none⟩ = some (.slice none 0 0) := (bC b9.out 0).trans rfl
               have hfz201_0 := bF b9.out 0
               have hnb202 := cC.out
               have hnc202 := cw.out
               have hnb203 := cB.out
               have hnc203 := cu.out
               have hnb204 := dD.out
               have hnc204 := dN.out
               have hnb205 := dC.out
               have hnc205 := dM.out
               have hnb206 := cE.out
               have hnc206 := cT.out
               have hcz207_0 : w190.cell? ⟨bo, 0, none⟩ = some (.slice bQ bH.length bN) := (bC bb.out 0).trans rfl
               have hfz207_0 := bF bb.out 0
               go_wp2_with (first | ((with_reducible refine aJ (f := 18) rfl ?_); refine aQ (some 104) rfl rfl Try.func18 z0 rfl #[.agg #[.slice cQ db.length cI], .agg #[.slice bQ bH.length bN]] rfl z21 ?_; (with_reducible refine (laws_eqRope.calls kj106 _ _ db _ _ bH true _ ?side1 ?side2 ?side3 ?side4 m7.out).mono ?_); (case side1 => refine (ah (e := 58) (base := w.heap.size) (ok := fun k_ => (some k_ ≠ (v260 : Value).ownBlock ∧ (some k_ ≠ (v263 : Value).ownBlock ∧ (some k_ ≠ (.slice bQ bH.length bN : Value).ownBlock ∧ (some k_ ≠ (.slice bS ct.length bR : Value).ownBlock ∧ (some k_ ≠ (.slice bU cr.length bT : Value).ownBlock ∧ some k_ ≠ (.slice bJ bE.length bI : Value).ownBlock)))))) (n := db.length) (c := cI) ?_).2.2; exact (by (with_reducible repeat (first | apply ac | apply ab | apply aa)); exact (ag (am (p := ⟨bu, 0, none⟩) (ao dA.out b9.out (by decide)) (fun _ hk => hk.2) (.slice cQ db.length cI)) (fun _ h_ => h_.1)))); (case side2 => exact (ah dA.out).2.1); (case side3 => refine (ah (e := 58) (base := w.heap.size) (ok := fun k_ => (some k_ ≠ (v260 : Value).ownBlock ∧ (some k_ ≠ (v263 : Value).ownBlock ∧ (some k_ ≠ (.slice cQ db.length cI : Value).ownBlock ∧ (some k_ ≠ (.slice bS ct.length bR : Value).ownBlock ∧ (some k_ ≠ (.slice bU cr.length bT : Value).ownBlock ∧ some k_ ≠ (.slice bJ bE.length bI : Value).ownBlock)))))) (n := bH.length) (c := bN) ?_).2.2; exact (by (with_reducible repeat (first | apply ac | apply ab | apply aa)); exact (ag (am (p := ⟨bu, 0, none⟩) (ao a6.out b9.out (by decide)) (fun _ hk => hk.2) (.slice cQ db.length cI)) (fun _ h_ => h_.1)))); (case side4 => exact (ah a6.out).2.1); rintro e w208 ⟨rfl, hb⟩; refine ⟨_, rfl, ?_⟩; have ba := aM (af (by (with_reducible repeat (first | apply ac | apply ab | apply aa)); exact (ag (am (p := ⟨bu, 0, none⟩) (ao a6.out b9.out (by decide)) (fun _ hk => hk.2) (.slice cQ db.length cI)) (fun _ h_ => h_.1))) hb); have bc := aM (af (by (with_reducible repeat (first | apply ac | apply ab | apply aa)); exact (ag (am (p := ⟨bu, 0, none⟩) (ao aZ.out b9.out (by decide)) (fun _ hk => hk.2) (.slice cQ db.length cI)) (fun _ h_ => h_.1))) hb); have bf := aM (af (by (with_reducible repeat (first | apply ac | apply ab | apply aa)); exact (ag (am (p := ⟨bu, 0, none⟩) (ao a5.out b9.out (by decide)) (fun _ hk => hk.2) (.slice cQ db.length cI)) (fun _ h_ => h_.1))) hb); have bk := aM (af (by (with_reducible repeat (first | apply ac | apply ab | apply aa)); exact (ag (am (p := ⟨bu, 0, none⟩) (ao aY.out b9.out (by decide)) (fun _ hk => hk.2) (.slice cQ db.length cI)) (fun _ h_ => h_.1))) hb); have bw := aM (af (by (with_reducible repeat (first | apply ac | apply ab | apply aa)); exact (ag (am (p := ⟨bu, 0, none⟩) (ao cq.out b9.out (by decide)) (fun _ hk => hk.2) (.slice cQ db.length cI)) (fun _ h_ => h_.1))) hb); have bx := aM (af (by (with_reducible repeat (first | apply ac | apply ab | apply aa)); exact (ag (am (p := ⟨bu, 0, none⟩) (ao ck.out b9.out (by decide)) (fun _ hk => hk.2) (.slice cQ db.length cI)) (fun _ h_ => h_.1))) hb); have bG := aM (af (by (with_reducible repeat (first | apply ac | apply ab | apply aa)); exact (ag (am (p := ⟨bu, 0, none⟩) (ao dA.out b9.out (by decide)) (fun _ hk => hk.2) (.slice cQ db.length cI)) (fun _ h_ => h_.1))) hb); have bY := aM (ae (g := bh) (o := .cells #[.slice bm l0_0.length bn] 24 (0, 0)) (by (with_reducible repeat (first | refine aq ?_ _ | refine ap ?_ | refine ar ?_ _)); refine au ?_ cN.out _; (with_reducible repeat (first | refine aq ?_ _ | refine ap ?_ | refine ar ?_ _)); exact a7.out) hb); have bZ := aM (ae (g := bj) (o := .cells #[.slice bK l1_0.length bL] 24 (0, 0)) (by (with_reducible repeat (first | refine aq ?_ _ | refine ap ?_ | refine ar ?_ _)); refine au ?_ cM.out _; (with_reducible repeat (first | refine aq ?_ _ | refine ap ?_ | refine ar ?_ _)); exact a9.out) hb); have b3 := aM (ae (g := bo) (o := .cells #[.slice bQ bH.length bN] 29 (0, 0)) (by (with_reducible repeat (first | refine aq ?_ _ | refine ap ?_ | refine ar ?_ _)); refine au ?_ cW.out _; (with_reducible repeat (first | refine aq ?_ _ | refine ap ?_ | refine ar ?_ _)); exact bb.out) hb); have br := aM (ae (g := bM) (o := .cells #[.slice bS ct.length bR] 29 (0, 0)) (by (with_reducible repeat (first | refine aq ?_ _ | refine ap ?_ | refine ar ?_ _)); refine au ?_ cV.out _; (with_reducible repeat (first | refine aq ?_ _ | refine ap ?_ | refine ar ?_ _)); exact bg.out) hb); have bP := aM (ae (g := bO) (o := .cells #[.slice bU cr.length bT] 29 (0, 0)) (by (with_reducible repeat (first | refine aq ?_ _ | refine ap ?_ | refine ar ?_ _)); refine au ?_ cU.out _; (with_reducible repeat (first | refine aq ?_ _ | refine ap ?_ | refine ar ?_ _)); exact bi.out) hb); have b4 := aM (ae (g := bB) (o := .cells #[.slice bJ bE.length bI] 29 (0, 0)) (by (with_reducible repeat (first | refine aq ?_ _ | refine ap ?_ | refine ar ?_ _)); refine au ?_ cA.out _; (with_reducible repeat (first | refine aq ?_ _ | refine ap ?_ | refine ar ?_ _)); exact bd.out) hb); have cH := aM (ae (g := bu) (o := .cells #[.slice cQ db.length cI] 29 (0, 0)) (by (with_reducible repeat (first | refine aq ?_ _ | refine ap ?_ | refine ar ?_ _)); refine av (cs := #[.slice none 0 0]) ?_ 0 _ rfl; (with_reducible repeat (first | refine aq ?_ _ | refine ap ?_ | refine ar ?_ _)); exact b9.out) hb); have dc := aM (ay z32 hb); clear a6; clear aZ; clear a5; clear aY; clear cq; clear ck; clear dA; clear a7; clear a9; clear bb; clear bg; clear bi; clear bd; clear b9; clear HB; have a6 := ba; have aZ := bc; have a5 := bf; have aY := bk; have cq := bw; have ck := bx; have dA := bG; have a7 := bY; have a9 := bZ; have bb := b3; have bg := br; have bi := bP; have bd := b4; have b9 := cH; have HB := dc; clear ba bc bf bk bw bx bG bY bZ b3 br bP b4 cH dc; (try clear hb); (try clear hb2); (try clear hk); (try clear hi)))
               go_meet
               case rel => exact ⟨_, ((jk != gp)), z1, H', ⟨by have := lb.out; have := lH.out; first | omega | exact Nat.le_refl _⟩, ⟨by (try simp only [hl233000_106]); (try simp only [hl237000_106]); (with_reducible repeat (first | apply ac | apply ab | apply aa)); exact ag a6.out (fun _ hk => ⟨hk.2.2.2.1, ⟨hk.2.2.2.2.1, ⟨hk.2.2.2.2.2, hk.2.2.1⟩⟩⟩)⟩, ⟨by (try simp only [hl233000_106]); (try simp only [hl237000_106]); (with_reducible repeat (first | apply ac | apply ab | apply aa)); exact ag aZ.out (fun _ hk => ⟨hk.2.2.2.1, ⟨hk.2.2.2.2.1, ⟨hk.2.2.2.2.2, hk.2.2.1⟩⟩⟩)⟩, ⟨by (try simp only [hl233000_106]); (try simp only [hl237000_106]); (with_reducible repeat (first | apply ac | apply ab | apply aa)); exact ag a5.out (fun _ hk => ⟨hk.2.2.2.1, ⟨hk.2.2.2.2.1, ⟨hk.2.2.2.2.2, hk.2.2.1⟩⟩⟩)⟩, ⟨by (try simp only [hl233000_106]); (try simp only [hl237000_106]); (with_reducible repeat (first | apply ac | apply ab | apply aa)); exact ag aY.out (fun _ hk => ⟨hk.2.2.2.1, ⟨hk.2.2.2.2.1, ⟨hk.2.2.2.2.2, hk.2.2.1⟩⟩⟩)⟩, ⟨by (try simp only [hl233000_106]); (try simp only [hl237000_106]); (with_reducible repeat (first | apply ac | apply ab | apply aa)); exact ag dA.out (fun _ hk => ⟨hk.2.2.1, ⟨hk.2.2.2.1, ⟨hk.2.2.2.2.1, hk.2.2.2.2.2⟩⟩⟩)⟩, ⟨by (try simp only [hl233000_106]); (try simp only [hl237000_106]); (with_reducible repeat (first | refine aq ?_ _ | refine ap ?_ | refine ar ?_ _)); exact a7.out⟩, ⟨by (try simp only [hl233000_106]); (try simp only [hl237000_106]); (with_reducible repeat (first | refine aq ?_ _ | refine ap ?_ | refine ar ?_ _)); exact a9.out⟩, ⟨by (try simp only [hl233000_106]); (try simp only [hl237000_106]); (with_reducible repeat (first | refine aq ?_ _ | refine ap ?_ | refine ar ?_ _)); exact bb.out⟩, ⟨by (try simp only [hl233000_106]); (try simp only [hl237000_106]); (with_reducible repeat (first | refine aq ?_ _ | refine ap ?_ | refine ar ?_ _)); exact bg.out⟩, ⟨by (try simp only [hl233000_106]); (try simp only [hl237000_106]); (with_reducible repeat (first | refine aq ?_ _ | refine ap ?_ | refine ar ?_ _)); exact bi.out⟩, ⟨by (try simp only [hl233000_106]); (try simp only [hl237000_106]); (with_reducible repeat (first | refine aq ?_ _ | refine ap ?_ | refine ar ?_ _)); exact bd.out⟩, ⟨by (try simp only [hl233000_106]); (try simp only [hl237000_106]); (with_reducible repeat (first | refine aq ?_ _ | refine ap ?_ | refine ar ?_ _)); exact b9.out⟩, ⟨y16⟩⟩
              ·replace k6 := Bool.eq_false_iff.mpr k6
               subst k6
               rw [if_neg (show ¬ (false = true) by decide)] at H
               have H' := aM H
               clear H
               have hnb209 := dk.out
               have hnc209 := cN.out
               have hnb210 := dj.out
               have hnc210 := cM.out
               have hnb211 := di.out
               have hnc211 := cW.out
               have hnb212 := dh.out
               have hnc212 := cV.out
               have hnb213 := dg.out
               have hnc213 := cU.out
               have hnb214 := cJ.out
               have hnc214 := cA.out
               have hcz215_0 : w190.cell? ⟨bu, 0, none⟩ = some (.slice none 0 0) := (bC b9.out 0).trans rfl
               have hfz215_0 := bF b9.out 0
               have hnb216 := cC.out
               have hnc216 := cw.out
               have hnb217 := cB.out
               have hnc217 := cu.out
               have hnb218 := dD.out
               have hnc218 := dN.out
               have hnb219 := dC.out
               have hnc219 := dM.out
               have hnb220 := cE.out
               have hnc220 := cT.out
               have hcz221_0 : w190.cell? ⟨bo, 0, none⟩ = some (.slice bQ bH.length bN) := (bC bb.out 0).trans rfl
               have hfz221_0 := bF bb.out 0
               go_wp2_with (first | ((with_reducible refine aJ (f := 18) rfl ?_); refine aQ (some 104) rfl rfl Try.func18 z0 rfl #[.agg #[.slice cQ db.length cI], .agg #[.slice bQ bH.length bN]] rfl z21 ?_; (with_reducible refine (laws_eqRope.calls kj106 _ _ db _ _ bH false _ ?side1 ?side2 ?side3 ?side4 m7.out).mono ?_); (case side1 => refine (ah (e := 58) (base := w.heap.size) (ok := fun k_ => (some k_ ≠ (v260 : Value).ownBlock ∧ (some k_ ≠ (v263 : Value).ownBlock ∧ (some k_ ≠ (.slice bQ bH.length bN : Value).ownBlock ∧ (some k_ ≠ (.slice bS ct.length bR : Value).ownBlock ∧ (some k_ ≠ (.slice bU cr.length bT : Value).ownBlock ∧ some k_ ≠ (.slice bJ bE.length bI : Value).ownBlock)))))) (n := db.length) (c := cI) ?_).2.2; exact (by (with_reducible repeat (first | apply ac | apply ab | apply aa)); exact (ag (am (p := ⟨bu, 0, none⟩) (ao dA.out b9.out (by decide)) (fun _ hk => hk.2) (.slice cQ db.length cI)) (fun _ h_ => h_.1)))); (case side2 => exact (ah dA.out).2.1); (case side3 => refine (ah (e := 58) (base := w.heap.size) (ok := fun k_ => (some k_ ≠ (v260 : Value).ownBlock ∧ (some k_ ≠ (v263 : Value).ownBlock ∧ (some k_ ≠ (.slice cQ db.length cI : Value).ownBlock ∧ (some k_ ≠ (.slice bS ct.length bR : Value).ownBlock ∧ (some k_ ≠ (.slice bU cr.length bT : Value).ownBlock ∧ some k_ ≠ (.slice bJ bE.length bI : Value).ownBlock)))))) (n := bH.length) (c := bN) ?_).2.2; exact (by (with_reducible repeat (first | apply ac | apply ab | apply aa)); exact (ag (am (p := ⟨bu, 0, none⟩) (ao a6.out b9.out (by decide)) (fun _ hk => hk.2) (.slice cQ db.length cI)) (fun _ h_ => h_.1)))); (case side4 => exact (ah a6.out).2.1); rintro e w222 ⟨rfl, hb⟩; refine ⟨_, rfl, ?_⟩; have ba := aM (af (by (with_reducible repeat (first | apply ac | apply ab | apply aa)); exact (ag (am (p := ⟨bu, 0, none⟩) (ao a6.out b9.out (by decide)) (fun _ hk => hk.2) (.slice cQ db.length cI)) (fun _ h_ => h_.1))) hb); have bc := aM (af (by (with_reducible repeat (first | apply ac | apply ab | apply aa)); exact (ag (am (p := ⟨bu, 0, none⟩) (ao aZ.out b9.out (by decide)) (fun _ hk => hk.2) (.slice cQ db.length cI)) (fun _ h_ => h_.1))) hb); have bf := aM (af (by (with_reducible repeat (first | apply ac | apply ab | apply aa)); exact (ag (am (p := ⟨bu, 0, none⟩) (ao a5.out b9.out (by decide)) (fun _ hk => hk.2) (.slice cQ db.length cI)) (fun _ h_ => h_.1))) hb); have bk := aM (af (by (with_reducible repeat (first | apply ac | apply ab | apply aa)); exact (ag (am (p := ⟨bu, 0, none⟩) (ao aY.out b9.out (by decide)) (fun _ hk => hk.2) (.slice cQ db.length cI)) (fun _ h_ => h_.1))) hb); have bw := aM (af (by (with_reducible repeat (first | apply ac | apply ab | apply aa)); exact (ag (am (p := ⟨bu, 0, none⟩) (ao cq.out b9.out (by decide)) (fun _ hk => hk.2) (.slice cQ db.length cI)) (fun _ h_ => h_.1))) hb); have bx := aM (af (by (with_reducible repeat (first | apply ac | apply ab | apply aa)); exact (ag (am (p := ⟨bu, 0, none⟩) (ao ck.out b9.out (by decide)) (fun _ hk => hk.2) (.slice cQ db.length cI)) (fun _ h_ => h_.1))) hb); have bG := aM (af (by (with_reducible repeat (first | apply ac | apply ab | apply aa)); exact (ag (am (p := ⟨bu, 0, none⟩) (ao dA.out b9.out (by decide)) (fun _ hk => hk.2) (.slice cQ db.length cI)) (fun _ h_ => h_.1))) hb); have bY := aM (ae (g := bh) (o := .cells #[.slice bm l0_0.length bn] 24 (0, 0)) (by (with_reducible repeat (first | refine aq ?_ _ | refine ap ?_ | refine ar ?_ _)); refine au ?_ cN.out _; (with_reducible repeat (first | refine aq ?_ _ | refine ap ?_ | refine ar ?_ _)); exact a7.out) hb); have bZ := aM (ae (g := bj) (o := .cells #[.slice bK l1_0.length bL] 24 (0, 0)) (by (with_reducible repeat (first | refine aq ?_ _ | refine ap ?_ | refine ar ?_ _)); refine au ?_ cM.out _; (with_reducible repeat (first | refine aq ?_ _ | refine ap ?_ | refine ar ?_ _)); exact a9.out) hb); have b3 := aM (ae (g := bo) (o := .cells #[.slice bQ bH.length bN] 29 (0, 0)) (by (with_reducible repeat (first | refine aq ?_ _ | refine ap ?_ | refine ar ?_ _)); refine au ?_ cW.out _; (with_reducible repeat (first | refine aq ?_ _ | refine ap ?_ | refine ar ?_ _)); exact bb.out) hb); have br := aM (ae (g := bM) (o := .cells #[.slice bS ct.length bR] 29 (0, 0)) (by (with_reducible repeat (first | refine aq ?_ _ | refine ap ?_ | refine ar ?_ _)); refine au ?_ cV.out _; (with_reducible repeat (first | refine aq ?_ _ | refine ap ?_ | refine ar ?_ _)); exact bg.out) hb); have bP := aM (ae (g := bO) (o := .cells #[.slice bU cr.length bT] 29 (0, 0)) (by (with_reducible repeat (first | refine aq ?_ _ | refine ap ?_ | refine ar ?_ _)); refine au ?_ cU.out _; (with_reducible repeat (first | refine aq ?_ _ | refine ap ?_ | refine ar ?_ _)); exact bi.out) hb); have b4 := aM (ae (g := bB) (o := .cells #[.slice bJ bE.length bI] 29 (0, 0)) (by (with_reducible repeat (first | refine aq ?_ _ | refine ap ?_ | refine ar ?_ _)); refine au ?_ cA.out _; (with_reducible repeat (first | refine aq ?_ _ | refine ap ?_ | refine ar ?_ _)); exact bd.out) hb); have cH := aM (ae (g := bu) (o := .cells #[.slice cQ db.length cI] 29 (0, 0)) (by (with_reducible repeat (first | refine aq ?_ _ | refine ap ?_ | refine ar ?_ _)); refine av (cs := #[.slice none 0 0]) ?_ 0 _ rfl; (with_reducible repeat (first | refine aq ?_ _ | refine ap ?_ | refine ar ?_ _)); exact b9.out) hb); have dc := aM (ay z32 hb); clear a6; clear aZ; clear a5; clear aY; clear cq; clear ck; clear dA; clear a7; clear a9; clear bb; clear bg; clear bi; clear bd; clear b9; clear HB; have a6 := ba; have aZ := bc; have a5 := bf; have aY := bk; have cq := bw; have ck := bx; have dA := bG; have a7 := bY; have a9 := bZ; have bb := b3; have bg := br; have bi := bP; have bd := b4; have b9 := cH; have HB := dc; clear ba bc bf bk bw bx bG bY bZ b3 br bP b4 cH dc; (try clear hb); (try clear hb2); (try clear hk); (try clear hi)))
               go_meet
               case rel => exact ⟨_, (true), z1, H', ⟨by have := lb.out; have := lH.out; first | omega | exact Nat.le_refl _⟩, ⟨by (try simp only [hl233000_106]); (try simp only [hl237000_106]); (with_reducible repeat (first | apply ac | apply ab | apply aa)); exact ag a6.out (fun _ hk => ⟨hk.2.2.2.1, ⟨hk.2.2.2.2.1, ⟨hk.2.2.2.2.2, hk.2.2.1⟩⟩⟩)⟩, ⟨by (try simp only [hl233000_106]); (try simp only [hl237000_106]); (with_reducible repeat (first | apply ac | apply ab | apply aa)); exact ag aZ.out (fun _ hk => ⟨hk.2.2.2.1, ⟨hk.2.2.2.2.1, ⟨hk.2.2.2.2.2, hk.2.2.1⟩⟩⟩)⟩, ⟨by (try simp only [hl233000_106]); (try simp only [hl237000_106]); (with_reducible repeat (first | apply ac | apply ab | apply aa)); exact ag a5.out (fun _ hk => ⟨hk.2.2.2.1, ⟨hk.2.2.2.2.1, ⟨hk.2.2.2.2.2, hk.2.2.1⟩⟩⟩)⟩, ⟨by (try simp only [hl233000_106]); (try simp only [hl237000_106]); (with_reducible repeat (first | apply ac | apply ab | apply aa)); exact ag aY.out (fun _ hk => ⟨hk.2.2.2.1, ⟨hk.2.2.2.2.1, ⟨hk.2.2.2.2.2, hk.2.2.1⟩⟩⟩)⟩, ⟨by (try simp only [hl233000_106]); (try simp only [hl237000_106]); (with_reducible repeat (first | apply ac | apply ab | apply aa)); exact ag dA.out (fun _ hk => ⟨hk.2.2.1, ⟨hk.2.2.2.1, ⟨hk.2.2.2.2.1, hk.2.2.2.2.2⟩⟩⟩)⟩, ⟨by (try simp only [hl233000_106]); (try simp only [hl237000_106]); (with_reducible repeat (first | refine aq ?_ _ | refine ap ?_ | refine ar ?_ _)); exact a7.out⟩, ⟨by (try simp only [hl233000_106]); (try simp only [hl237000_106]); (with_reducible repeat (first | refine aq ?_ _ | refine ap ?_ | refine ar ?_ _)); exact a9.out⟩, ⟨by (try simp only [hl233000_106]); (try simp only [hl237000_106]); (with_reducible repeat (first | refine aq ?_ _ | refine ap ?_ | refine ar ?_ _)); exact bb.out⟩, ⟨by (try simp only [hl233000_106]); (try simp only [hl237000_106]); (with_reducible repeat (first | refine aq ?_ _ | refine ap ?_ | refine ar ?_ _)); exact bg.out⟩, ⟨by (try simp only [hl233000_106]); (try simp only [hl237000_106]); (with_reducible repeat (first | refine aq ?_ _ | refine ap ?_ | refine ar ?_ _)); exact bi.out⟩, ⟨by (try simp only [hl233000_106]); (try simp only [hl237000_106]); (with_reducible repeat (first | refine aq ?_ _ | refine ap ?_ | refine ar ?_ _)); exact bd.out⟩, ⟨by (try simp only [hl233000_106]); (try simp only [hl237000_106]); (with_reducible repeat (first | refine aq ?_ _ | refine ap ?_ | refine ar ?_ _)); exact b9.out⟩, ⟨y16⟩⟩
             case rest =>
              clear lc
              try clear c1
              try clear c2
              try clear p2
              try clear c3
              try clear ji
              try clear mm
              try clear c19
              try clear c20
              try clear c21
              try clear mL
              try clear ml
              try clear k6
              try clear c195
              try clear c196
              try clear c197
              try clear c198
              try clear c199
              try clear c200
              try clear c202
              try clear c203
              try clear c204
              try clear c205
              try clear c206
              try clear c209
              try clear c210
              try clear c211
              try clear c212
              try clear c213
              try clear c214
              try clear c216
              try clear c217
              try clear c218
              try clear c219
              try clear c220
              try clear hcz201_0
              try clear hcz207_0
              try clear hcz215_0
              try clear hcz221_0
              try clear hfz201_0
              try clear hfz207_0
              try clear hfz215_0
              try clear hfz221_0
              obtain ⟨kq, x110_172, rfl, HA, HJ172, a6, aZ, a5, aY, dz, a7, a9, bb, bg, bi, bd, b9, HB⟩ := hcut
              have hl242000_172 := (ah aY.out).1
              rw [hl242000_172] at aY
              (try simp only [hl242000_172])
              (try simp only [hl242000_172] at a7)
              (try simp only [hl242000_172] at a9)
              (try simp only [hl242000_172] at bb)
              (try simp only [hl242000_172] at bg)
              (try simp only [hl242000_172] at bi)
              (try simp only [hl242000_172] at bd)
              (try simp only [hl242000_172] at b9)
              (try simp only [hl242000_172] at a6)
              (try simp only [hl242000_172] at aZ)
              (try simp only [hl242000_172] at a5)
              (try simp only [hl242000_172] at dz)
              cases kq with
              | zero => exact absurd HA.out (by simp [laws_FnExactJoinRopes.j2])
              | succ kj172 =>
               have H := HA.out
               clear HA
               simp only [laws_FnExactJoinRopes.j2] at H
               by_cases lz : x110_172 = true
               ·subst lz
                rw [if_pos rfl] at H
                first | (cases H.trans (congrArg some HRT.out); done) | skip
                all_goals
                 obtain rfl := sI H
                 go_wp2
                 go_ret
                 exact ⟨y2, y16⟩
               ·replace lz := Bool.eq_false_iff.mpr lz
                subst lz
                rw [if_neg (show ¬ (false = true) by decide)] at H
                replace H := oB H
                obtain ⟨fw, lR, H⟩ := H
                try dsimp only at H
                have mt := aM lR
                clear lR
                by_cases kH : fw < 0
                ·rw [if_pos kH] at H
                 have c225b0 : decide (fw < 0) = true := dT kH
                 clear kH
                 first | (cases H.trans (congrArg some HRT.out); done) | skip
                 all_goals
                  obtain rfl := sI H
                  have hnb226 := dm.out
                  have hnc226 := cY.out
                  have hnb227 := dl.out
                  have hnc227 := cX.out
                  have hnb228 := cT.out
                  have hnc228 := cE.out
                  have hnb229 := da.out
                  have hnc229 := cL.out
                  have hnb230 := cZ.out
                  have hnc230 := cK.out
                  have hnb231 := cA.out
                  have hnc231 := cJ.out
                  have hcz232_0 : wc.cell? ⟨bB, 0, none⟩ = some (.slice bJ dK.length bI) := (bC bd.out 0).trans rfl
                  have hfz232_0 := bF bd.out 0
                  go_wp2_with (first | ((with_reducible refine aJ (f := 28) rfl ?_); refine aQ (some 113) rfl rfl Try.func28 z0 rfl #[.agg #[.slice bJ dK.length bI], .int .i64 1] rfl z21 ?_; (with_reducible refine (laws_heldRope.calls kj172 _ _ dK 1 fw _ ?side1 ?side2 mt.out).mono ?_); (case side1 => repeat (first | exact (ah aY.out).2.2 | (with_reducible refine aE ?_ _) | (with_reducible refine aG ?_ _) | (with_reducible refine aH ?_))); (case side2 => exact (ah aY.out).2.1); rintro e w233 ⟨rfl, hb⟩; refine ⟨_, rfl, ?_⟩; have ba := aM (af z4 hb); have bc := aM (af z5 hb); have bf := aM (af z6 hb); have bk := aM (af z7 hb); have bw := aM (af (by (with_reducible repeat (first | apply ac | apply ab | apply aa)); exact dz.out) hb); have bx := aM (ae (g := bh) (o := .cells #[.slice bm l0_0.length bn] 24 (0, 0)) z12 hb); have bG := aM (ae (g := bj) (o := .cells #[.slice bK l1_0.length bL] 24 (0, 0)) z13 hb); have bY := aM (ae (g := bo) (o := .cells #[.slice bQ bH.length bN] 29 (0, 0)) z14 hb); have bZ := aM (ae (g := bM) (o := .cells #[.slice bS ct.length bR] 29 (0, 0)) z15 hb); have b3 := aM (ae (g := bO) (o := .cells #[.slice bU cr.length bT] 29 (0, 0)) z16 hb); have br := aM (ae (g := bB) (o := .cells #[.slice bJ dK.length bI] 29 (0, 0)) z17 hb); have bP := aM (ae (g := bu) (o := .cells #[.slice cQ db.length cI] 29 (0, 0)) z18 hb); have b4 := aM (ay z32 hb); clear a6; clear aZ; clear a5; clear aY; clear dz; clear a7; clear a9; clear bb; clear bg; clear bi; clear bd; clear b9; clear HB; have a6 := ba; have aZ := bc; have a5 := bf; have aY := bk; have dz := bw; have a7 := bx; have a9 := bG; have bb := bY; have bg := bZ; have bi := b3; have bd := br; have b9 := bP; have HB := b4; clear ba bc bf bk bw bx bG bY bZ b3 br bP b4; (try clear hb); (try clear hb2); (try clear hk); (try clear hi)))
                  go_ret
                  exact ⟨y2, y16⟩
                ·rw [if_neg kH] at H
                 have c225b0 : decide (fw < 0) = false := dF kH
                 clear kH
                 by_cases jF : fw = fy
                 ·rw [if_pos jF] at H
                  have c234b0 : (fw == fy) = true := qT jF
                  have c234b1 : (fw != fy) = false := nF jF
                  clear jF
                  first | (cases H.trans (congrArg some HRT.out); done) | skip
                  all_goals
                   obtain rfl := sI H
                   have hnb235 := dm.out
                   have hnc235 := cY.out
                   have hnb236 := dl.out
                   have hnc236 := cX.out
                   have hnb237 := cT.out
                   have hnc237 := cE.out
                   have hnb238 := da.out
                   have hnc238 := cL.out
                   have hnb239 := cZ.out
                   have hnc239 := cK.out
                   have hnb240 := cA.out
                   have hnc240 := cJ.out
                   have hcz241_0 : wc.cell? ⟨bB, 0, none⟩ = some (.slice bJ dK.length bI) := (bC bd.out 0).trans rfl
                   have hfz241_0 := bF bd.out 0
                   go_wp2_with (first | ((with_reducible refine aJ (f := 28) rfl ?_); refine aQ (some 113) rfl rfl Try.func28 z0 rfl #[.agg #[.slice bJ dK.length bI], .int .i64 1] rfl z21 ?_; (with_reducible refine (laws_heldRope.calls kj172 _ _ dK 1 fw _ ?side1 ?side2 mt.out).mono ?_); (case side1 => repeat (first | exact (ah aY.out).2.2 | (with_reducible refine aE ?_ _) | (with_reducible refine aG ?_ _) | (with_reducible refine aH ?_))); (case side2 => exact (ah aY.out).2.1); rintro e w242 ⟨rfl, hb⟩; refine ⟨_, rfl, ?_⟩; have ba := aM (af z4 hb); have bc := aM (af z5 hb); have bf := aM (af z6 hb); have bk := aM (af z7 hb); have bw := aM (af (by (with_reducible repeat (first | apply ac | apply ab | apply aa)); exact dz.out) hb); have bx := aM (ae (g := bh) (o := .cells #[.slice bm l0_0.length bn] 24 (0, 0)) z12 hb); have bG := aM (ae (g := bj) (o := .cells #[.slice bK l1_0.length bL] 24 (0, 0)) z13 hb); have bY := aM (ae (g := bo) (o := .cells #[.slice bQ bH.length bN] 29 (0, 0)) z14 hb); have bZ := aM (ae (g := bM) (o := .cells #[.slice bS ct.length bR] 29 (0, 0)) z15 hb); have b3 := aM (ae (g := bO) (o := .cells #[.slice bU cr.length bT] 29 (0, 0)) z16 hb); have br := aM (ae (g := bB) (o := .cells #[.slice bJ dK.length bI] 29 (0, 0)) z17 hb); have bP := aM (ae (g := bu) (o := .cells #[.slice cQ db.length cI] 29 (0, 0)) z18 hb); have b4 := aM (ay z32 hb); clear a6; clear aZ; clear a5; clear aY; clear dz; clear a7; clear a9; clear bb; clear bg; clear bi; clear bd; clear b9; clear HB; have a6 := ba; have aZ := bc; have a5 := bf; have aY := bk; have dz := bw; have a7 := bx; have a9 := bG; have bb := bY; have bg := bZ; have bi := b3; have bd := br; have b9 := bP; have HB := b4; clear ba bc bf bk bw bx bG bY bZ b3 br bP b4; (try clear hb); (try clear hb2); (try clear hk); (try clear hi)))
                   go_ret
                   exact ⟨y2, y16⟩
                 ·rw [if_neg jF] at H
                  have c234b0 : (fw == fy) = false := qF jF
                  have c234b1 : (fw != fy) = true := nT jF
                  first | (cases H.trans (congrArg some HRT.out); done) | skip
                  all_goals
                   obtain rfl := sI H
                   have hnb243 := dm.out
                   have hnc243 := cY.out
                   have hnb244 := dl.out
                   have hnc244 := cX.out
                   have hnb245 := cT.out
                   have hnc245 := cE.out
                   have hnb246 := da.out
                   have hnc246 := cL.out
                   have hnb247 := cZ.out
                   have hnc247 := cK.out
                   have hnb248 := cA.out
                   have hnc248 := cJ.out
                   have hcz249_0 : wc.cell? ⟨bB, 0, none⟩ = some (.slice bJ dK.length bI) := (bC bd.out 0).trans rfl
                   have hfz249_0 := bF bd.out 0
                   go_wp2_with (first | ((with_reducible refine aJ (f := 28) rfl ?_); refine aQ (some 113) rfl rfl Try.func28 z0 rfl #[.agg #[.slice bJ dK.length bI], .int .i64 1] rfl z21 ?_; (with_reducible refine (laws_heldRope.calls kj172 _ _ dK 1 fw _ ?side1 ?side2 mt.out).mono ?_); (case side1 => repeat (first | exact (ah aY.out).2.2 | (with_reducible refine aE ?_ _) | (with_reducible refine aG ?_ _) | (with_reducible refine aH ?_))); (case side2 => exact (ah aY.out).2.1); rintro e w250 ⟨rfl, hb⟩; refine ⟨_, rfl, ?_⟩; have ba := aM (af z4 hb); have bc := aM (af z5 hb); have bf := aM (af z6 hb); have bk := aM (af z7 hb); have bw := aM (af (by (with_reducible repeat (first | apply ac | apply ab | apply aa)); exact dz.out) hb); have bx := aM (ae (g := bh) (o := .cells #[.slice bm l0_0.length bn] 24 (0, 0)) z12 hb); have bG := aM (ae (g := bj) (o := .cells #[.slice bK l1_0.length bL] 24 (0, 0)) z13 hb); have bY := aM (ae (g := bo) (o := .cells #[.slice bQ bH.length bN] 29 (0, 0)) z14 hb); have bZ := aM (ae (g := bM) (o := .cells #[.slice bS ct.length bR] 29 (0, 0)) z15 hb); have b3 := aM (ae (g := bO) (o := .cells #[.slice bU cr.length bT] 29 (0, 0)) z16 hb); have br := aM (ae (g := bB) (o := .cells #[.slice bJ dK.length bI] 29 (0, 0)) z17 hb); have bP := aM (ae (g := bu) (o := .cells #[.slice cQ db.length cI] 29 (0, 0)) z18 hb); have b4 := aM (ay z32 hb); clear a6; clear aZ; clear a5; clear aY; clear dz; clear a7; clear a9; clear bb; clear bg; clear bi; clear bd; clear b9; clear HB; have a6 := ba; have aZ := bc; have a5 := bf; have aY := bk; have dz := bw; have a7 := bx; have a9 := bG; have bb := bY; have bg := bZ; have bi := b3; have bd := br; have b9 := bP; have HB := b4; clear ba bc bf bk bw bx bG bY bZ b3 br bP b4; (try clear hb); (try clear hb2); (try clear hk); (try clear hi)))
                   go_ret
                   exact ⟨y2, y16⟩
            ·rw [if_neg jG] at H
             have c169b0 : (fx == fy) = false := qF jG
             have c169b1 : (fx != fy) = true := nT jG
             first | (cases H.trans (congrArg some HRT.out); done) | skip
             all_goals
              obtain rfl := sI H
              have hnb251 := dm.out
              have hnc251 := cY.out
              have hnb252 := dl.out
              have hnc252 := cX.out
              have hnb253 := cT.out
              have hnc253 := cE.out
              have hnb254 := da.out
              have hnc254 := cL.out
              have hnb255 := cZ.out
              have hnc255 := cK.out
              have hcz256_0 : wc.cell? ⟨bB, 0, none⟩ = some (.slice bJ bE.length bI) := (bC bd.out 0).trans rfl
              have hfz256_0 := bF bd.out 0
              go_wp2_with (first | ((with_reducible refine aJ (f := 27) rfl ?_); refine aQ (some 85) rfl rfl Try.func27 z0 rfl #[.agg #[.slice bJ bE.length bI], .int .i64 1] rfl z21 ?_; (with_reducible refine (laws_markRope.calls kj106 (fun k_ => some k_ = (.slice bJ bE.length bI : Value).ownBlock) (.slice bJ bE.length bI) bE 1 fy dK w _ ?side1 ?side2 mw.out).mono ?_); (case side1 => repeat (first | (with_reducible first | exact HB.out | apply bA | apply pD | apply bD | refine ax ?_ dt.out | refine ax ?_ dV.out | refine ax ?_ dH.out | refine ax ?_ fd.out | refine ax ?_ fc.out | refine ax ?_ jv.out) | exact HB.out)); (case side2 => exact Kd.R_tight rfl aY.out); rintro e w257 ⟨rfl, hy0, hb, hkp⟩; refine ⟨_, rfl, ?_⟩; have ba := aM (ag (ok' := fun k_ => some k_ ≠ (.slice bS ct.length bR : Value).ownBlock ∧ some k_ ≠ (.slice bU cr.length bT : Value).ownBlock ∧ some k_ ≠ (.slice bJ bE.length bI : Value).ownBlock) (Kd.R_keptB (a6.out) hkp (fun k_ hk_ hs_ => (hk_.2.2) hs_)) (fun k_ hk_ => ⟨hk_.1.1, hk_.1.2.1, hk_.1.2.2⟩)); have bc := aM (ag (ok' := fun k_ => some k_ ≠ (.slice bQ bH.length bN : Value).ownBlock ∧ some k_ ≠ (.slice bU cr.length bT : Value).ownBlock ∧ some k_ ≠ (.slice bJ bE.length bI : Value).ownBlock) (Kd.R_keptB (aZ.out) hkp (fun k_ hk_ hs_ => (hk_.2.2) hs_)) (fun k_ hk_ => ⟨hk_.1.1, hk_.1.2.1, hk_.1.2.2⟩)); have bf := aM (ag (ok' := fun k_ => some k_ ≠ (.slice bQ bH.length bN : Value).ownBlock ∧ some k_ ≠ (.slice bS ct.length bR : Value).ownBlock ∧ some k_ ≠ (.slice bJ bE.length bI : Value).ownBlock) (Kd.R_keptB (a5.out) hkp (fun k_ hk_ hs_ => (hk_.2.2) hs_)) (fun k_ hk_ => ⟨hk_.1.1, hk_.1.2.1, hk_.1.2.2⟩)); have bk := aM (Kd.R_reok rfl hy0 (fun k_ e_ => aY.out.1 k_ e_)); have bw := aM (blk_kept z12 hkp (fun hs_ => (fun e_ => (aI aY.out a7.out (by decide)) e_) hs_)); have bx := aM (blk_kept z13 hkp (fun hs_ => (fun e_ => (aI aY.out a9.out (by decide)) e_) hs_)); have bG := aM (blk_kept z14 hkp (fun hs_ => (fun e_ => (aI aY.out bb.out (by decide)) e_) hs_)); have bY := aM (blk_kept z15 hkp (fun hs_ => (fun e_ => (aI aY.out bg.out (by decide)) e_) hs_)); have bZ := aM (blk_kept z16 hkp (fun hs_ => (fun e_ => (aI aY.out bi.out (by decide)) e_) hs_)); have b3 := aM (blk_kept z17 hkp (fun hs_ => (fun e_ => (aI aY.out bd.out (by decide)) e_) hs_)); have br := aM (hb); clear a6; clear aZ; clear a5; clear aY; clear a7; clear a9; clear bb; clear bg; clear bi; clear bd; clear HB; have a6 := ba; have aZ := bc; have a5 := bf; have aY := bk; have a7 := bw; have a9 := bx; have bb := bG; have bg := bY; have bi := bZ; have bd := b3; have HB := br; clear ba bc bf bk bw bx bG bY bZ b3 br; (try clear hb); (try clear hkp); (try clear hy0); have hcz258_0 : w257.cell? ⟨bB, 0, none⟩ = some (.slice bJ bE.length bI) := (bC bd.out 0).trans rfl; have hfz258_0 := bF bd.out 0) | ((with_reducible refine aJ (f := 28) rfl ?_); refine aQ (some 88) rfl rfl Try.func28 z0 rfl #[.agg #[.slice bJ dK.length bI], .int .i64 1] rfl (by (try simp only [List.map_toArray, List.map_cons, List.map_nil]); first | done | (rw [show dK.length = bE.length from (ah aY.out).1.symm] <;> rfl) | rfl | (simp only [List.length_drop, List.length_take]; rfl)) ?_; (with_reducible refine (laws_heldRope.calls kj106 _ _ dK 1 fx _ ?side1 ?side2 mv.out).mono ?_); (case side1 => repeat (first | exact (ah aY.out).2.2 | (with_reducible refine aE ?_ _) | (with_reducible refine aG ?_ _) | (with_reducible refine aH ?_))); (case side2 => rw [show dK.length = bE.length from (ah aY.out).1.symm]; exact (ah aY.out).2.1); rintro e w259 ⟨rfl, hb⟩; refine ⟨_, rfl, ?_⟩; have ba := aM (af z4 hb); have bc := aM (af z5 hb); have bf := aM (af z6 hb); have bk := aM (af z7 hb); have bw := aM (ae (g := bh) (o := .cells #[.slice bm l0_0.length bn] 24 (0, 0)) z12 hb); have bx := aM (ae (g := bj) (o := .cells #[.slice bK l1_0.length bL] 24 (0, 0)) z13 hb); have bG := aM (ae (g := bo) (o := .cells #[.slice bQ bH.length bN] 29 (0, 0)) z14 hb); have bY := aM (ae (g := bM) (o := .cells #[.slice bS ct.length bR] 29 (0, 0)) z15 hb); have bZ := aM (ae (g := bO) (o := .cells #[.slice bU cr.length bT] 29 (0, 0)) z16 hb); have b3 := aM (ae (g := bB) (o := .cells #[.slice bJ bE.length bI] 29 (0, 0)) z17 hb); have br := aM (ay z30 hb); clear a6; clear aZ; clear a5; clear aY; clear a7; clear a9; clear bb; clear bg; clear bi; clear bd; clear HB; have a6 := ba; have aZ := bc; have a5 := bf; have aY := bk; have a7 := bw; have a9 := bx; have bb := bG; have bg := bY; have bi := bZ; have bd := b3; have HB := br; clear ba bc bf bk bw bx bG bY bZ b3 br; (try clear hb); (try clear hb2); (try clear hk); (try clear hi)))
              go_ret
              exact ⟨y2, y15⟩
       ·replace k8 := Bool.eq_false_iff.mpr k8
        subst k8
        rw [if_neg (show ¬ (false = true) by decide)] at H
        first | (cases H.trans (congrArg some HRT.out); done) | skip
        all_goals
         obtain rfl := sI H
         try go_wp2
         have ba := aM (aa a6.out)
         have bc := aM (aa aZ.out)
         have bf := aM (aa a5.out)
         have bk := aM (aa aY.out)
         have bw := aM (ap a7.out)
         have bx := aM (ap a9.out)
         have bG := aM (ap bb.out)
         have bY := aM (ap bg.out)
         have bZ := aM (ap bi.out)
         have b3 := aM (ap bd.out)
         have br := aM (bD HB.out)
         clear a6
         clear aZ
         clear a5
         clear aY
         clear a7
         clear a9
         clear bb
         clear bg
         clear bi
         clear bd
         clear HB
         have a6 := ba
         have aZ := bc
         have a5 := bf
         have aY := bk
         have a7 := bw
         have a9 := bx
         have bb := bG
         have bg := bY
         have bi := bZ
         have bd := b3
         have HB := br
         clear ba bc bf bk bw bx bG bY bZ b3 br
         refine start_ (n := 5) (S := fun w' => w'.cell? ⟨bM, 0, none⟩ = some (.slice bS ce.length bR) ∧ w'.cell? ⟨bh, 0, none⟩ = some (.slice bm l0_0.length bn)) (ds := []) #[false, false, false, false, false] z0 rfl rfl ⟨(bC bg.out 0).trans rfl, (bC a7.out 0).trans rfl⟩ (fun hHeld => ?_)
         generalize wc.drew = w260 at a6 aZ a5 aY a7 a9 bb bg bi bd HB hHeld ⊢
         refine tA 0 54 ?_ (hy := by rintro w' ⟨s0, s1⟩; go_simp; with_reducible rfl)
         refine tA 1 55 ?_ (hy := by rintro w' ⟨s0, s1⟩; go_simp; with_reducible rfl)
         refine one_ (i := 2) (N := some 56) #[true, true, true, false, false] rfl rfl z0 (by decide) (fun K hK => ?_)
         refine goes_ Try.func16 z0 rfl #[.agg #[.slice bm l0_0.length bn]] (by rfl) rfl rfl z21 ?_
         with_reducible refine (laws_toRope.calls kj24 _ _ l0_0 eB _ ?side1 ?side2 ny.out).mono ?_
         (case side1 => repeat (first | exact (aD du.out HB.out) | (with_reducible refine aE ?_ _) | (with_reducible refine aG ?_ _) | (with_reducible refine aH ?_)))
         (case side2 => exact dy.out)
         rintro e w261 ⟨v244, rfl, ho0, hb⟩
         refine ⟨_, rfl, ?_⟩
         have ba := aM (ai z4 (ak ho0) hb)
         have bc := aM (ai z5 (ak ho0) hb)
         have bf := aM (ai z6 (ak ho0) hb)
         have bk := aM (ai z7 (ak ho0) hb)
         have bw := aM (aT (aj (aj (aj (aj ho0 (al z4)) (al z5)) (al z6)) (al z7)) (az z30))
         have bx := aM (ae (g := bh) (o := .cells #[.slice bm l0_0.length bn] 24 (0, 0)) z12 hb)
         have bG := aM (ae (g := bj) (o := .cells #[.slice bK l1_0.length bL] 24 (0, 0)) z13 hb)
         have bY := aM (ae (g := bo) (o := .cells #[.slice bQ bH.length bN] 29 (0, 0)) z14 hb)
         have bZ := aM (ae (g := bM) (o := .cells #[.slice bS ce.length bR] 29 (0, 0)) z15 hb)
         have b3 := aM (ae (g := bO) (o := .cells #[.slice bU ch.length bT] 29 (0, 0)) z16 hb)
         have br := aM (ae (g := bB) (o := .cells #[.slice bJ bE.length bI] 29 (0, 0)) z17 hb)
         have bP := aM (ay z30 hb)
         clear a6
         clear aZ
         clear a5
         clear aY
         clear a7
         clear a9
         clear bb
         clear bg
         clear bi
         clear bd
         clear HB
         have a6 := ba
         have aZ := bc
         have a5 := bf
         have aY := bk
         have ca := bw
         have a7 := bx
         have a9 := bG
         have bb := bY
         have bg := bZ
         have bi := b3
         have bd := br
         have HB := bP
         clear ba bc bf bk bw bx bG bY bZ b3 br bP
         (try clear hb)
         (try clear hb2)
         (try clear hk)
         (try clear hi)
         (try clear ho0)
         obtain ⟨Ao262, co262, eo262⟩ := Kd.R_slice ca.out
         (first | subst eo262 | (injection eo262 with f1_ f2_ f3_; have f4_ := f1_.symm; have f5_ := f3_.symm; clear f1_ f2_ f3_; subst f4_; subst f5_))
         refine hK.out _ _ ⟨(bC bg.out 0).trans rfl, (bC a7.out 0).trans rfl⟩ (fun hHeld => ?_)
         clear hK K
         refine norm_ (a' := ?_) ?_ ?_
         rotate_left
         ·show Act.put _ (some 56) _ = _
          simp only [Act.put, sA, sB, sC, i64_w, i32_w]
          rfl
         refine one_ (i := 3) (N := some 57) #[true, true, true, true, false] rfl rfl z0 (by decide) (fun K hK => ?_)
         refine goes_ Try.func18 z0 rfl #[.agg #[.slice bS ce.length bR], .agg #[.slice Ao262 eB.length co262]] (by rfl) rfl rfl z21 ?_
         with_reducible refine (laws_eqRope.calls kj24 _ _ ce _ _ eB true _ ?side1 ?side2 ?side3 ?side4 kL.out).mono ?_
         (case side1 => repeat (first | exact (ah aZ.out).2.2 | (with_reducible refine aE ?_ _) | (with_reducible refine aG ?_ _) | (with_reducible refine aH ?_)))
         (case side2 => exact (ah aZ.out).2.1)
         (case side3 => repeat (first | exact (ah ca.out).2.2 | (with_reducible refine aE ?_ _) | (with_reducible refine aG ?_ _) | (with_reducible refine aH ?_)))
         (case side4 => exact (ah ca.out).2.1)
         rintro e w263 ⟨rfl, hb⟩
         refine ⟨_, rfl, ?_⟩
         have ba := aM (af z4 hb)
         have bc := aM (af z5 hb)
         have bf := aM (af z6 hb)
         have bk := aM (af z7 hb)
         have bw := aM (af (by (with_reducible repeat (first | apply ac | apply ab | apply aa)); exact ca.out) hb)
         have bx := aM (ae (g := bh) (o := .cells #[.slice bm l0_0.length bn] 24 (0, 0)) z12 hb)
         have bG := aM (ae (g := bj) (o := .cells #[.slice bK l1_0.length bL] 24 (0, 0)) z13 hb)
         have bY := aM (ae (g := bo) (o := .cells #[.slice bQ bH.length bN] 29 (0, 0)) z14 hb)
         have bZ := aM (ae (g := bM) (o := .cells #[.slice bS ce.length bR] 29 (0, 0)) z15 hb)
         have b3 := aM (ae (g := bO) (o := .cells #[.slice bU ch.length bT] 29 (0, 0)) z16 hb)
         have br := aM (ae (g := bB) (o := .cells #[.slice bJ bE.length bI] 29 (0, 0)) z17 hb)
         have bP := aM (ay z30 hb)
         clear a6
         clear aZ
         clear a5
         clear aY
         clear ca
         clear a7
         clear a9
         clear bb
         clear bg
         clear bi
         clear bd
         clear HB
         have a6 := ba
         have aZ := bc
         have a5 := bf
         have aY := bk
         have ca := bw
         have a7 := bx
         have a9 := bG
         have bb := bY
         have bg := bZ
         have bi := b3
         have bd := br
         have HB := bP
         clear ba bc bf bk bw bx bG bY bZ b3 br bP
         (try clear hb)
         (try clear hb2)
         (try clear hk)
         (try clear hi)
         refine hK.out _ _ ⟨(bC bg.out 0).trans rfl, (bC a7.out 0).trans rfl⟩ (fun hHeld => ?_)
         clear hK K
         refine norm_ (a' := ?_) ?_ ?_
         rotate_left
         ·show Act.put _ (some 57) _ = _
          simp only [Act.put, sA, sB, sC, i64_w, i32_w]
          rfl
         refine pA 4 58 ?_
         refine done_ z0 ?_
         try go_wp2
         have ba := aM (aa a6.out)
         have bc := aM (aa aZ.out)
         have bf := aM (aa a5.out)
         have bk := aM (aa aY.out)
         have bw := aM (aa ca.out)
         have bx := aM (ap a7.out)
         have bG := aM (ap a9.out)
         have bY := aM (ap bb.out)
         have bZ := aM (ap bg.out)
         have b3 := aM (ap bi.out)
         have br := aM (ap bd.out)
         have bP := aM (bD HB.out)
         clear a6
         clear aZ
         clear a5
         clear aY
         clear ca
         clear a7
         clear a9
         clear bb
         clear bg
         clear bi
         clear bd
         clear HB
         have a6 := ba
         have aZ := bc
         have a5 := bf
         have aY := bk
         have ca := bw
         have a7 := bx
         have a9 := bG
         have bb := bY
         have bg := bZ
         have bi := b3
         have bd := br
         have HB := bP
         clear ba bc bf bk bw bx bG bY bZ b3 br bP
         refine start_ (n := 5) (S := fun w' => w'.cell? ⟨bO, 0, none⟩ = some (.slice bU ch.length bT) ∧ w'.cell? ⟨bj, 0, none⟩ = some (.slice bK l1_0.length bL)) (ds := []) #[false, false, false, false, false] z0 rfl rfl ⟨(bC bi.out 0).trans rfl, (bC a9.out 0).trans rfl⟩ (fun hHeld => ?_)
         generalize w263.drew = w264 at a6 aZ a5 aY ca a7 a9 bb bg bi bd HB hHeld ⊢
         refine tA 0 59 ?_ (hy := by rintro w' ⟨s0, s1⟩; go_simp; with_reducible rfl)
         refine tA 1 60 ?_ (hy := by rintro w' ⟨s0, s1⟩; go_simp; with_reducible rfl)
         refine one_ (i := 2) (N := some 61) #[true, true, true, false, false] rfl rfl z0 (by decide) (fun K hK => ?_)
         refine goes_ Try.func16 z0 rfl #[.agg #[.slice bK l1_0.length bL]] (by rfl) rfl rfl z21 ?_
         with_reducible refine (laws_toRope.calls kj24 _ _ l1_0 e8 _ ?side1 ?side2 nh.out).mono ?_
         (case side1 => repeat (first | exact (aD ec.out HB.out) | (with_reducible refine aE ?_ _) | (with_reducible refine aG ?_ _) | (with_reducible refine aH ?_)))
         (case side2 => exact ed.out)
         rintro e w265 ⟨v248, rfl, ho0, hb⟩
         refine ⟨_, rfl, ?_⟩
         have ba := aM (ai z4 (ak ho0) hb)
         have bc := aM (ai z5 (ak ho0) hb)
         have bf := aM (ai z6 (ak ho0) hb)
         have bk := aM (ai z7 (ak ho0) hb)
         have bw := aM (ai (by (with_reducible repeat (first | apply ac | apply ab | apply aa)); exact ca.out) (ak ho0) hb)
         have bx := aM (aT (aj (aj (aj (aj (aj ho0 (al z4)) (al z5)) (al z6)) (al z7)) (al (by (with_reducible repeat (first | apply ac | apply ab | apply aa)); exact ca.out))) (az z30))
         have bG := aM (ae (g := bh) (o := .cells #[.slice bm l0_0.length bn] 24 (0, 0)) z12 hb)
         have bY := aM (ae (g := bj) (o := .cells #[.slice bK l1_0.length bL] 24 (0, 0)) z13 hb)
         have bZ := aM (ae (g := bo) (o := .cells #[.slice bQ bH.length bN] 29 (0, 0)) z14 hb)
         have b3 := aM (ae (g := bM) (o := .cells #[.slice bS ce.length bR] 29 (0, 0)) z15 hb)
         have br := aM (ae (g := bO) (o := .cells #[.slice bU ch.length bT] 29 (0, 0)) z16 hb)
         have bP := aM (ae (g := bB) (o := .cells #[.slice bJ bE.length bI] 29 (0, 0)) z17 hb)
         have b4 := aM (ay z30 hb)
         clear a6
         clear aZ
         clear a5
         clear aY
         clear ca
         clear a7
         clear a9
         clear bb
         clear bg
         clear bi
         clear bd
         clear HB
         have a6 := ba
         have aZ := bc
         have a5 := bf
         have aY := bk
         have ca := bw
         have dv := bx
         have a7 := bG
         have a9 := bY
         have bb := bZ
         have bg := b3
         have bi := br
         have bd := bP
         have HB := b4
         clear ba bc bf bk bw bx bG bY bZ b3 br bP b4
         (try clear hb)
         (try clear hb2)
         (try clear hk)
         (try clear hi)
         (try clear ho0)
         obtain ⟨Ao266, co266, eo266⟩ := Kd.R_slice dv.out
         (first | subst eo266 | (injection eo266 with f1_ f2_ f3_; have f4_ := f1_.symm; have f5_ := f3_.symm; clear f1_ f2_ f3_; subst f4_; subst f5_))
         refine hK.out _ _ ⟨(bC bi.out 0).trans rfl, (bC a9.out 0).trans rfl⟩ (fun hHeld => ?_)
         clear hK K
         refine norm_ (a' := ?_) ?_ ?_
         rotate_left
         ·show Act.put _ (some 61) _ = _
          simp only [Act.put, sA, sB, sC, i64_w, i32_w]
          rfl
         refine one_ (i := 3) (N := some 62) #[true, true, true, true, false] rfl rfl z0 (by decide) (fun K hK => ?_)
         refine goes_ Try.func18 z0 rfl #[.agg #[.slice bU ch.length bT], .agg #[.slice Ao266 e8.length co266]] (by rfl) rfl rfl z21 ?_
         with_reducible refine (laws_eqRope.calls kj24 _ _ ch _ _ e8 false _ ?side1 ?side2 ?side3 ?side4 ng.out).mono ?_
         (case side1 => repeat (first | exact (ah a5.out).2.2 | (with_reducible refine aE ?_ _) | (with_reducible refine aG ?_ _) | (with_reducible refine aH ?_)))
         (case side2 => exact (ah a5.out).2.1)
         (case side3 => repeat (first | exact (ah dv.out).2.2 | (with_reducible refine aE ?_ _) | (with_reducible refine aG ?_ _) | (with_reducible refine aH ?_)))
         (case side4 => exact (ah dv.out).2.1)
         rintro e w267 ⟨rfl, hb⟩
         refine ⟨_, rfl, ?_⟩
         have ba := aM (af z4 hb)
         have bc := aM (af z5 hb)
         have bf := aM (af z6 hb)
         have bk := aM (af z7 hb)
         have bw := aM (af (by (with_reducible repeat (first | apply ac | apply ab | apply aa)); exact ca.out) hb)
         have bx := aM (af (by (with_reducible repeat (first | apply ac | apply ab | apply aa)); exact dv.out) hb)
         have bG := aM (ae (g := bh) (o := .cells #[.slice bm l0_0.length bn] 24 (0, 0)) z12 hb)
         have bY := aM (ae (g := bj) (o := .cells #[.slice bK l1_0.length bL] 24 (0, 0)) z13 hb)
         have bZ := aM (ae (g := bo) (o := .cells #[.slice bQ bH.length bN] 29 (0, 0)) z14 hb)
         have b3 := aM (ae (g := bM) (o := .cells #[.slice bS ce.length bR] 29 (0, 0)) z15 hb)
         have br := aM (ae (g := bO) (o := .cells #[.slice bU ch.length bT] 29 (0, 0)) z16 hb)
         have bP := aM (ae (g := bB) (o := .cells #[.slice bJ bE.length bI] 29 (0, 0)) z17 hb)
         have b4 := aM (ay z30 hb)
         clear a6
         clear aZ
         clear a5
         clear aY
         clear ca
         clear dv
         clear a7
         clear a9
         clear bb
         clear bg
         clear bi
         clear bd
         clear HB
         have a6 := ba
         have aZ := bc
         have a5 := bf
         have aY := bk
         have ca := bw
         have dv := bx
         have a7 := bG
         have a9 := bY
         have bb := bZ
         have bg := b3
         have bi := br
         have bd := bP
         have HB := b4
         clear ba bc bf bk bw bx bG bY bZ b3 br bP b4
         (try clear hb)
         (try clear hb2)
         (try clear hk)
         (try clear hi)
         refine hK.out _ _ ⟨(bC bi.out 0).trans rfl, (bC a9.out 0).trans rfl⟩ (fun hHeld => ?_)
         clear hK K
         refine norm_ (a' := ?_) ?_ ?_
         rotate_left
         ·show Act.put _ (some 62) _ = _
          simp only [Act.put, sA, sB, sC, i64_w, i32_w]
          rfl
         refine pA 4 63 ?_
         refine done_ z0 ?_
         try go_wp2
         go_ret
         exact ⟨y2, y15⟩
      ·replace k9 := Bool.eq_false_iff.mpr k9
       subst k9
       rw [if_neg (show ¬ (false = true) by decide)] at H
       first | (cases H.trans (congrArg some HRT.out); done) | skip
       all_goals
        obtain rfl := sI H
        try go_wp2
        have ba := aM (aa a6.out)
        have bc := aM (aa aZ.out)
        have bf := aM (aa a5.out)
        have bk := aM (aa aY.out)
        have bw := aM (ap a7.out)
        have bx := aM (ap a9.out)
        have bG := aM (ap bb.out)
        have bY := aM (ap bg.out)
        have bZ := aM (ap bi.out)
        have b3 := aM (ap bd.out)
        have br := aM (bD HB.out)
        clear a6
        clear aZ
        clear a5
        clear aY
        clear a7
        clear a9
        clear bb
        clear bg
        clear bi
        clear bd
        clear HB
        have a6 := ba
        have aZ := bc
        have a5 := bf
        have aY := bk
        have a7 := bw
        have a9 := bx
        have bb := bG
        have bg := bY
        have bi := bZ
        have bd := b3
        have HB := br
        clear ba bc bf bk bw bx bG bY bZ b3 br
        refine start_ (n := 5) (S := fun w' => w'.cell? ⟨bM, 0, none⟩ = some (.slice bS ce.length bR) ∧ w'.cell? ⟨bh, 0, none⟩ = some (.slice bm l0_0.length bn)) (ds := []) #[false, false, false, false, false] z0 rfl rfl ⟨(bC bg.out 0).trans rfl, (bC a7.out 0).trans rfl⟩ (fun hHeld => ?_)
        generalize wc.drew = w268 at a6 aZ a5 aY a7 a9 bb bg bi bd HB hHeld ⊢
        refine tA 0 54 ?_ (hy := by rintro w' ⟨s0, s1⟩; go_simp; with_reducible rfl)
        refine tA 1 55 ?_ (hy := by rintro w' ⟨s0, s1⟩; go_simp; with_reducible rfl)
        refine one_ (i := 2) (N := some 56) #[true, true, true, false, false] rfl rfl z0 (by decide) (fun K hK => ?_)
        refine goes_ Try.func16 z0 rfl #[.agg #[.slice bm l0_0.length bn]] (by rfl) rfl rfl z21 ?_
        with_reducible refine (laws_toRope.calls kj24 _ _ l0_0 eB _ ?side1 ?side2 ny.out).mono ?_
        (case side1 => repeat (first | exact (aD du.out HB.out) | (with_reducible refine aE ?_ _) | (with_reducible refine aG ?_ _) | (with_reducible refine aH ?_)))
        (case side2 => exact dy.out)
        rintro e w269 ⟨v244, rfl, ho0, hb⟩
        refine ⟨_, rfl, ?_⟩
        have ba := aM (ai z4 (ak ho0) hb)
        have bc := aM (ai z5 (ak ho0) hb)
        have bf := aM (ai z6 (ak ho0) hb)
        have bk := aM (ai z7 (ak ho0) hb)
        have bw := aM (aT (aj (aj (aj (aj ho0 (al z4)) (al z5)) (al z6)) (al z7)) (az z30))
        have bx := aM (ae (g := bh) (o := .cells #[.slice bm l0_0.length bn] 24 (0, 0)) z12 hb)
        have bG := aM (ae (g := bj) (o := .cells #[.slice bK l1_0.length bL] 24 (0, 0)) z13 hb)
        have bY := aM (ae (g := bo) (o := .cells #[.slice bQ bH.length bN] 29 (0, 0)) z14 hb)
        have bZ := aM (ae (g := bM) (o := .cells #[.slice bS ce.length bR] 29 (0, 0)) z15 hb)
        have b3 := aM (ae (g := bO) (o := .cells #[.slice bU ch.length bT] 29 (0, 0)) z16 hb)
        have br := aM (ae (g := bB) (o := .cells #[.slice bJ bE.length bI] 29 (0, 0)) z17 hb)
        have bP := aM (ay z30 hb)
        clear a6
        clear aZ
        clear a5
        clear aY
        clear a7
        clear a9
        clear bb
        clear bg
        clear bi
        clear bd
        clear HB
        have a6 := ba
        have aZ := bc
        have a5 := bf
        have aY := bk
        have ca := bw
        have a7 := bx
        have a9 := bG
        have bb := bY
        have bg := bZ
        have bi := b3
        have bd := br
        have HB := bP
        clear ba bc bf bk bw bx bG bY bZ b3 br bP
        (try clear hb)
        (try clear hb2)
        (try clear hk)
        (try clear hi)
        (try clear ho0)
        obtain ⟨Ao270, co270, eo270⟩ := Kd.R_slice ca.out
        (first | subst eo270 | (injection eo270 with f1_ f2_ f3_; have f4_ := f1_.symm; have f5_ := f3_.symm; clear f1_ f2_ f3_; subst f4_; subst f5_))
        refine hK.out _ _ ⟨(bC bg.out 0).trans rfl, (bC a7.out 0).trans rfl⟩ (fun hHeld => ?_)
        clear hK K
        refine norm_ (a' := ?_) ?_ ?_
        rotate_left
        ·show Act.put _ (some 56) _ = _
         simp only [Act.put, sA, sB, sC, i64_w, i32_w]
         rfl
        refine one_ (i := 3) (N := some 57) #[true, true, true, true, false] rfl rfl z0 (by decide) (fun K hK => ?_)
        refine goes_ Try.func18 z0 rfl #[.agg #[.slice bS ce.length bR], .agg #[.slice Ao270 eB.length co270]] (by rfl) rfl rfl z21 ?_
        with_reducible refine (laws_eqRope.calls kj24 _ _ ce _ _ eB false _ ?side1 ?side2 ?side3 ?side4 kL.out).mono ?_
        (case side1 => repeat (first | exact (ah aZ.out).2.2 | (with_reducible refine aE ?_ _) | (with_reducible refine aG ?_ _) | (with_reducible refine aH ?_)))
        (case side2 => exact (ah aZ.out).2.1)
        (case side3 => repeat (first | exact (ah ca.out).2.2 | (with_reducible refine aE ?_ _) | (with_reducible refine aG ?_ _) | (with_reducible refine aH ?_)))
        (case side4 => exact (ah ca.out).2.1)
        rintro e w271 ⟨rfl, hb⟩
        refine ⟨_, rfl, ?_⟩
        have ba := aM (af z4 hb)
        have bc := aM (af z5 hb)
        have bf := aM (af z6 hb)
        have bk := aM (af z7 hb)
        have bw := aM (af (by (with_reducible repeat (first | apply ac | apply ab | apply aa)); exact ca.out) hb)
        have bx := aM (ae (g := bh) (o := .cells #[.slice bm l0_0.length bn] 24 (0, 0)) z12 hb)
        have bG := aM (ae (g := bj) (o := .cells #[.slice bK l1_0.length bL] 24 (0, 0)) z13 hb)
        have bY := aM (ae (g := bo) (o := .cells #[.slice bQ bH.length bN] 29 (0, 0)) z14 hb)
        have bZ := aM (ae (g := bM) (o := .cells #[.slice bS ce.length bR] 29 (0, 0)) z15 hb)
        have b3 := aM (ae (g := bO) (o := .cells #[.slice bU ch.length bT] 29 (0, 0)) z16 hb)
        have br := aM (ae (g := bB) (o := .cells #[.slice bJ bE.length bI] 29 (0, 0)) z17 hb)
        have bP := aM (ay z30 hb)
        clear a6
        clear aZ
        clear a5
        clear aY
        clear ca
        clear a7
        clear a9
        clear bb
        clear bg
        clear bi
        clear bd
        clear HB
        have a6 := ba
        have aZ := bc
        have a5 := bf
        have aY := bk
        have ca := bw
        have a7 := bx
        have a9 := bG
        have bb := bY
        have bg := bZ
        have bi := b3
        have bd := br
        have HB := bP
        clear ba bc bf bk bw bx bG bY bZ b3 br bP
        (try clear hb)
        (try clear hb2)
        (try clear hk)
        (try clear hi)
        refine hK.out _ _ ⟨(bC bg.out 0).trans rfl, (bC a7.out 0).trans rfl⟩ (fun hHeld => ?_)
        clear hK K
        refine norm_ (a' := ?_) ?_ ?_
        rotate_left
        ·show Act.put _ (some 57) _ = _
         simp only [Act.put, sA, sB, sC, i64_w, i32_w]
         rfl
        refine pA 4 58 ?_
        refine done_ z0 ?_
        try go_wp2
        go_ret
        exact ⟨y2, y15⟩

/-! ### What an argument's reading gives: a value of its kind -/
section
open Go.ChangeShapes Go.WideShapes Go.Deep
/-- A value of type t, as an argument's reading has it, is of kind d, and G if the argument's weights are within reach. -/
structure Opens (P : Program) (t : TypeId) {α : Type} (d : Kd α) (G : α → Prop) : Prop where
 out : ∀ {H : Type} {enc : TypeId × Value → H} {w : World} {base : Nat} {spare : Nat → Bool} {held : Bool} {fuel : Nat} {cs : List Value} {x : DataW H × List MemPlace},
  DataW.trod enc P w base spare held fuel t cs = some x → ∃ a, d.K w a cs ∧ ((x.1.weights P t).all (· ≤ reachBytes) = true → G a)
/-- The same for fields in line, from a cell on. -/
structure OpensL (P : Program) (fs : List Field) (off : Nat) {α : Type} (d : Kd α) (G : α → Prop) : Prop where
 out : ∀ {H : Type} {enc : TypeId × Value → H} {w : World} {base : Nat} {spare : Nat → Bool} {held : Bool} {n : Nat} {cs : List Value} {xs : List (DataW H × List MemPlace)},
  cs.length = off + d.sz → xs.length = fs.length → (∀ (i : Nat) (f : Field), fs[i]? = some f → DataW.trod enc P w base spare held n f.type ((cs.drop f.offset).take (P.cellsOf f.type)) = xs[i]?) →
  ∃ a, d.K w a (cs.drop off) ∧ ((DataW.weightsEach P (fs.map (·.type)) (xs.map (·.1))).all (· ≤ reachBytes) = true → G a)
theorem reach_eq : reachBytes = 140737488351232 := by first | rfl | decide
theorem opens_int {P : Program} {t : TypeId} {k : IntKind} (ht : P.underlying t = some (.int k)) : Opens P t (Kd.int k) (fun n => (Lit.int k n).wf = true) := by
 constructor
 intro H enc w base spare held fuel cs x h
 obtain ⟨n, rfl, rfl, hw⟩ := DataW.trod_int ht h
 exact ⟨n, rfl, fun _ => hw⟩
theorem opens_bool {P : Program} {t : TypeId} (ht : P.underlying t = some .bool) : Opens P t Kd.bool (fun _ => True) := by
 constructor
 intro H enc w base spare held fuel cs x h
 obtain ⟨n, rfl, _⟩ := DataW.trod_bool ht h
 exact ⟨n, rfl, fun _ => trivial⟩
theorem opens_string {P : Program} {t : TypeId} (ht : P.underlying t = some .string) : Opens P t Kd.string (fun s => s.size ≤ 140737488351232) := by
 constructor
 intro H enc w base spare held fuel cs x h
 obtain ⟨s, rfl, rfl, _⟩ := DataW.trod_string ht h
 refine ⟨s, rfl, fun hw => ?_⟩
 simp only [DataW.weights, List.all_cons, List.all_nil, Bool.and_true, decide_eq_true_eq, Array.length_toList] at hw
 rw [reach_eq] at hw
 exact hw
theorem weightsAll_mem {H : Type} {P : Program} {e : TypeId} : ∀ {ds : List (DataW H)} {d : DataW H}, d ∈ ds → (DataW.weightsAll P e ds).all (· ≤ reachBytes) = true → (d.weights P e).all (· ≤ reachBytes) = true
 | _ :: _, _, .head _, h => by
  simp only [DataW.weightsAll, List.all_append, Bool.and_eq_true] at h
  exact h.1
 | _ :: _, _, .tail _ hm, h => by
  simp only [DataW.weightsAll, List.all_append, Bool.and_eq_true] at h
  exact weightsAll_mem hm h.2
theorem opens_list {α : Type} (Q : Nat → α → Prop) (n : Nat) (h : ∀ i, i < n → ∃ a, Q i a) : ∃ l : List α, l.length = n ∧ ∀ i a, l[i]? = some a → Q i a := by
 induction n with
 | zero => exact ⟨[], rfl, fun i a hi => by simp at hi⟩
 | succ n ih =>
  obtain ⟨l, hl, hq⟩ := ih (fun i hi => h i (by omega))
  obtain ⟨a, ha⟩ := h n (by omega)
  refine ⟨l ++ [a], by simp [hl], fun i b hi => ?_⟩
  by_cases hin : i < n
  ·rw [List.getElem?_append_left (by omega)] at hi
   exact hq i b hi
  ·obtain ⟨hlt, _⟩ := List.getElem?_eq_some_iff.1 hi
   have e : i = l.length := by simp at hlt; omega
   subst e
   rw [List.getElem?_append_right (Nat.le_refl _)] at hi
   simp at hi
   subst hi
   rw [hl]
   exact ha
theorem opens_slice {P : Program} {t e : TypeId} {α : Type} {d : Kd α} {G : α → Prop} {B : Nat} (q : Nat) (ht : P.underlying t = some (.slice e)) (hc : P.cellsOf e = d.sz) (hB : P.bytesOf e = B) (he : Opens P e d G) :
  Opens P t (Kd.slice q d) (fun l => l.length ≤ maxLen ∧ l.length * B ≤ 140737488351232 ∧ ∀ x ∈ l, G x) := by
 constructor
 intro H enc w base spare held fuel cs x h
 rcases open_slice ht h with ⟨rfl, rfl⟩ | ⟨a, len, cap, m, n, D, Pl, rfl, hb, hl, hm, hmm, rfl, hi⟩
 ·exact ⟨[], ⟨none, 0, rfl, Nat.le_refl _, Kd.C_nil _ _⟩, fun _ => ⟨Nat.zero_le _, by simp, fun x hx => by simp at hx⟩⟩
 ·have hlm : len ≤ m := by rw [hmm]; split <;> omega
  obtain ⟨l, hll, hlq⟩ := opens_list (fun i a_ => ∃ cs', w.cells? base (a.add (i * P.cellsOf e)) (P.cellsOf e) = some cs' ∧ d.K w a_ cs' ∧ (((D i).weights P e).all (· ≤ reachBytes) = true → G a_)) len (fun i hil => by
   obtain ⟨cs', hc1, ht1⟩ := hi i (by omega)
   obtain ⟨a_, hk, hg⟩ := he.out ht1
   exact ⟨a_, cs', hc1, hk, hg⟩)
  refine ⟨l, ⟨some a, cap, by rw [hll], by omega, ⟨rfl, ?_, fun _ => ⟨a, rfl, fun j p hj => ?_⟩⟩⟩, fun hw => ?_⟩
  ·rw [hll]
   have hmx : maxLen ≤ 9223372036854775807 := by first | decide | (unfold maxLen; omega)
   omega
  ·obtain ⟨cs', hc1, hk, _⟩ := hlq j p hj
   obtain ⟨_, hcl, hat⟩ := World.cells?_some hc1
   refine ⟨cs', d.K_len hk, hk, fun i u hu => ?_⟩
   obtain ⟨hlt, _⟩ := List.getElem?_eq_some_iff.1 hu
   have := hat i (by omega)
   rw [← Go.Deep.add_add, ← hc, this, hu]
  ·simp only [DataW.weights, ht, List.all_cons, List.all_append, Bool.and_eq_true, decide_eq_true_eq, List.length_map, List.length_range] at hw
   obtain ⟨hw1, hw2, _⟩ := hw
   rw [reach_eq, hB] at hw1
   refine ⟨by omega, ?_, fun x hx => ?_⟩
   ·rw [hll]
    exact Nat.le_trans (Nat.mul_le_mul_right _ (by omega)) hw1
   ·obtain ⟨j, hj⟩ := List.getElem?_of_mem hx
    obtain ⟨cs', _, _, hg⟩ := hlq j x hj
    obtain ⟨hlt, _⟩ := List.getElem?_eq_some_iff.1 hj
    exact hg (weightsAll_mem (List.mem_map.2 ⟨j, List.mem_range.2 (by omega), rfl⟩) hw2)
theorem opensL_one {P : Program} {f : Field} {off : Nat} {α : Type} {d : Kd α} {G : α → Prop} (ho : f.offset = off) (hc : P.cellsOf f.type = d.sz) (h : Opens P f.type d G) : OpensL P [f] off d G := by
 constructor
 intro H enc w base spare held n cs xs hl hx hr
 match xs, hx with
 | [x], _ =>
  have h0 := hr 0 f rfl
  rw [ho, hc, List.take_of_length_le (by rw [List.length_drop]; omega)] at h0
  obtain ⟨a, hk, hg⟩ := h.out h0
  refine ⟨a, hk, fun hw => hg ?_⟩
  simpa [DataW.weightsEach] using hw
theorem opensL_cons {P : Program} {f : Field} {fs : List Field} {off : Nat} {α β : Type} {d : Kd α} {d' : Kd β} {G : α → Prop} {G' : β → Prop} (ho : f.offset = off) (hc : P.cellsOf f.type = d.sz) (h : Opens P f.type d G) (h' : OpensL P fs (off + d.sz) d' G') :
  OpensL P (f :: fs) off (Kd.pair d d') (fun p => G p.1 ∧ G' p.2) := by
 constructor
 intro H enc w base spare held n cs xs hl hx hr
 match xs, hx with
 | x :: xs, hx =>
  have hl' : cs.length = off + (d.sz + d'.sz) := hl
  have h0 := hr 0 f rfl
  rw [ho, hc] at h0
  obtain ⟨a, hk, hg⟩ := h.out h0
  obtain ⟨b, hk', hg'⟩ := h'.out (enc := enc) (w := w) (base := base) (spare := spare) (held := held) (n := n) (cs := cs) (xs := xs) (by omega) (by simpa using hx) (fun i g hi => by simpa using hr (i + 1) g (by simpa using hi))
  refine ⟨(a, b), ⟨_, _, ?_, hk, hk'⟩, fun hw => ?_⟩
  ·rw [← List.drop_drop, List.take_append_drop]
  ·simp only [List.map_cons, DataW.weightsEach, List.all_append, Bool.and_eq_true] at hw
   exact ⟨hg hw.1, hg' hw.2⟩
theorem opens_struct {P : Program} {t : TypeId} {fs : Array Field} {α : Type} {d : Kd α} {G : α → Prop} (ht : P.underlying t = some (.struct fs)) (hc : P.cellsOf t = d.sz) (h : OpensL P fs.toList 0 d G) : Opens P t d G := by
 constructor
 intro H enc w base spare held fuel cs x hx
 obtain ⟨xs, n, _, rfl, hl, hxl, hr⟩ := DataW.trod_struct ht hx
 obtain ⟨a, hk, hg⟩ := h.out (enc := enc) (w := w) (base := base) (spare := spare) (held := held) (n := n) (cs := cs) (xs := xs) (by omega) (by simpa using hxl) (fun i f hi => hr i f (by simpa using hi))
 refine ⟨a, hk, fun hw => hg ?_⟩
 simpa [DataW.weights, ht] using hw
theorem opens_iso {P : Program} {t : TypeId} {α β : Type} {d : Kd α} {G : α → Prop} {f : β → α} (g : α → β) (hf : ∀ a, f (g a) = a) (h : Opens P t d G) : Opens P t (Kd.iso d f) (fun b => G (f b)) := by
 constructor
 intro H enc w base spare held fuel cs x hx
 obtain ⟨a, hk, hg⟩ := h.out hx
 refine ⟨g a, ?_, fun hw => ?_⟩
 ·show d.K w (f (g a)) cs
  rw [hf]
  exact hk
 ·show G (f (g a))
  rw [hf]
  exact hg hw
theorem Opens.imp {P : Program} {t : TypeId} {α : Type} {d : Kd α} {G G' : α → Prop} (h : Opens P t d G) (hG : ∀ a, G a → G' a) : Opens P t d G' := by
 constructor
 intro H enc w base spare held fuel cs x hx
 obtain ⟨a, hk, hg⟩ := h.out hx
 exact ⟨a, hk, fun hw => hG a (hg hw)⟩
/-- The j-th argument, out of the row's own weights. -/
theorem sized_any {H : Type} {P : Program} {ts : List TypeId} {ds : List (DataW H)} (h : (DataW.weightsEach P ts ds).all (· ≤ reachBytes) = true) {j : Nat} {t : TypeId} {d : DataW H} (ht : ts[j]? = some t) (hd : ds[j]? = some d) : (d.weights P t).all (· ≤ reachBytes) = true :=
 List.all_eq_true.2 fun n hn => List.all_eq_true.1 h n (DataW.weights_mem_each ht hd n hn)
end
def G_T99 (x : S99) : Prop := ((Lit.int .i64 x.f0).wf = true) ∧ ((Lit.int .i64 x.f1).wf = true) ∧ (x.f2.size ≤ 140737488351232) ∧ ((Lit.int .i64 x.f3).wf = true) ∧ ((Lit.int .i64 x.f4).wf = true)
set_option maxRecDepth 100000 in
theorem opens_T99 : Opens Try.prog 99 k99 G_T99 := opens_iso (fun p => ⟨p.1, p.2.1, p.2.2.1, p.2.2.2.1, p.2.2.2.2⟩) (fun _ => rfl) (opens_struct Try.underlying99 z0 (opensL_cons rfl z0 (opens_int Try.underlying3) (opensL_cons rfl z0 (opens_int Try.underlying3) (opensL_cons rfl z0 (opens_string Try.underlying9) (opensL_cons rfl z0 (opens_int Try.underlying3) (opensL_one rfl z0 (opens_int Try.underlying3)))))))
def G_T24 (x : S24) : Prop := (x.f0.length ≤ maxLen ∧ x.f0.length * 48 ≤ 140737488351232 ∧ ∀ x2_ ∈ x.f0, G_T99 x2_)
set_option maxRecDepth 100000 in
theorem opens_T24 : Opens Try.prog 24 k24 G_T24 := opens_iso (fun p => ⟨p⟩) (fun _ => rfl) (opens_struct Try.underlying24 z0 (opensL_one rfl z0 (opens_slice 99 Try.underlying22 z0 z0 opens_T99)))

/-- THE ONE PURE STATEMENT of laws_FnExactJoinRopes: yours. -/
def laws_FnExactJoinRopes.Pure : Prop := ∀ (l0_0 : List (S99)) (l1_0 : List (S99)), (l0_0.length ≤ maxLen ∧ l0_0.length * 48 ≤ 140737488351232 ∧ ∀ x2_ ∈ l0_0, G_T99 x2_) → (l1_0.length ≤ maxLen ∧ l1_0.length * 48 ≤ 140737488351232 ∧ ∀ x2_ ∈ l1_0, G_T99 x2_) → ∃ k, laws_FnExactJoinRopes.f k l0_0 l1_0 = some true
theorem laws_FnExactJoinRopes.walk (P : laws_FnExactJoinRopes.Pure) (bm : Option Addr) (bn : Nat) (l0_0 : List (S99)) (bK : Option Addr) (bL : Nat) (l1_0 : List (S99)) (w : World) (hr0_0 : Kd.C k99 w bm l0_0.length l0_0) (hc0_0 : l0_0.length ≤ bn) (hG0_0 : l0_0.length ≤ maxLen ∧ l0_0.length * 48 ≤ 140737488351232 ∧ ∀ x2_ ∈ l0_0, G_T99 x2_) (hr1_0 : Kd.C k99 w bK l1_0.length l1_0) (hc1_0 : l1_0.length ≤ bL) (hG1_0 : l1_0.length ≤ maxLen ∧ l1_0.length * 48 ≤ 140737488351232 ∧ ∀ x2_ ∈ l1_0, G_T99 x2_) :
  Calls Try.prog 9 #[.agg #[.slice bm l0_0.length bn], .agg #[.slice bK l1_0.length bL]] w fun e w' => e = .returned (.bool true) ∧ Below w.heap.size w w' := by
 obtain ⟨k, h⟩ := P l0_0 l1_0 hG0_0 hG1_0
 refine (laws_FnExactJoinRopes.calls k _ _ l0_0 _ _ l1_0 true ⟨rfl⟩ w hr0_0 hc0_0 hr1_0 hc1_0 h).mono ?_
 rintro e w' ⟨rfl, hd⟩
 exact ⟨rfl, hd⟩

end Go.Proofs.Ytmkenlejdaphnaa.AFnExactJoinRopes
