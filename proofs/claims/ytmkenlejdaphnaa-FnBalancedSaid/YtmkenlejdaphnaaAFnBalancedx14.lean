-- this session's own text: written by wip/tools/ownprint.py over the kit's print
import Derived.Test.YtmkenlejdaphnaaAFnBalancedx0
import Derived.Test.YtmkenlejdaphnaaAFnBalancedx2
import Derived.Test.YtmkenlejdaphnaaAFnBalancedx5
import Derived.Test.YtmkenlejdaphnaaAFnBalancedx6
import Derived.Test.YtmkenlejdaphnaaAFnBalancedx8
import Derived.Test.YtmkenlejdaphnaaAFnBalancedx13
namespace Go.Proofs.Ytmkenlejdaphnaa.AFnBalanced
open Go.RowKit Go.Proofs.YtmkenlejdaphnaaW.PrintWords Go.Proofs.YtmkenlejdaphnaaW.PrintLast Go.Proofs.YtmkenlejdaphnaaW.PrintMore
attribute [local go_sem] max2_int min2_int max_two min_two max_three min_three max_four min_four   -- for this text's walks alone
set_option linter.unusedVariables false
set_option linter.unusedSimpArgs false

/-! ### spec_DrawGoodRope: function 74 -/
def spec_DrawGoodRope.f (k : Nat) (l0 : List Int) : Option ((List (S58))) := (spec_l1Cur_rope.f k l0 0 0).bind fun my => (some my.1)
theorem spec_DrawGoodRope.mono : ∀ a0 k, LeO (spec_DrawGoodRope.f k a0) (spec_DrawGoodRope.f (k + 1) a0) := by
 intro a0 k
 unfold spec_DrawGoodRope.f
 repeat' first
   | (with_reducible exact spec_l1Cur_rope.mono _ _ _ _)
   | (with_reducible exact LeO.refl _)
   | (with_reducible exact LeO.none _)
   | (with_reducible refine LeO.ite ?_ ?_)
   | (with_reducible refine LeO.bind ?_ (fun _ => ?_))
set_option maxHeartbeats 8000000 in
set_option maxRecDepth 100000 in
theorem spec_DrawGoodRope.calls (k : Nat) (A0 : Option Addr) (c0 : Nat) (l0 : List Int) (r : List (S58)) (w : World) (hr0 : Kd.C (Kd.int .u8) w A0 l0.length l0) (hc0 : l0.length ≤ c0) (h : spec_DrawGoodRope.f k l0 = some r) :
  Calls Try.prog 74 #[.slice A0 l0.length c0] w fun e w' => ∃ v0_ : Value, e = .returned (.agg #[v0_]) ∧ Kd.R k58 58 w' w.heap.size (fun _ => True) v0_ r ∧ Below w.heap.size w w' := by
 have hu29 := Try.underlying29
 have hu95 := Try.underlying95
 have cN := aM hr0
 have dy := aM hc0
 clear hr0 hc0
 have HB := aM (Below.refl w.heap.size w)
 have H : ((spec_l1Cur_rope.f k l0 0 0).bind fun my => (some my.1)) = some r := h
 clear h
 obtain ⟨⟨oA, t373, t374⟩, A2, H⟩ := oA_ H
 try dsimp only at H
 obtain rfl := sI H
 go_enter Try.func74, Try.ntmps74
 go_wp2_with (first | ((with_reducible refine aK (N := 2) rfl ?_); refine aN ?hg (N := 2) ?hd (cs := #[.slice none 0 0]) (t := 29) ?hr ?_; (case hd => rfl); (case hg => rfl); (case hr => first | (go_simp; done) | (go_simp; rfl)); intro ez hg w3 hbox hb; have ep := aM (hbox); have GW368 := aM ((by rw [hg]; exact (aA z16) : w.heap.size ≤ ez)); have iJ := aM ((by rw [hg]; exact (aA z16) : w.heap.size ≤ ez)); replace HB := aM (az z16 hb); clear hb hbox hg) | ((with_reducible refine aK (N := 6) rfl ?_); refine aN ?hg (N := 6) ?hd (cs := #[.slice A0 l0.length c0, .int .i64 0, .int .u64 0]) (t := 95) ?hr ?_; (case hd => rfl); (case hg => rfl); (case hr => first | (go_simp; done) | (go_simp; rfl)); intro iC hg w4 hbox hb; have oc := aM (hbox); have GW369 := aM ((by rw [hg]; exact (aA (by repeat (first | (with_reducible first | exact HB.out | apply bA | apply pD | apply bD | refine ay ?_ iJ.out) | exact HB.out))) : w.heap.size ≤ iC)); have GE369 := aM ((by rw [hg]; exact (aA (by repeat (first | (with_reducible first | exact HB.out | apply bA | apply pD | apply bD | refine ay ?_ iJ.out) | exact HB.out))) : w.heap.size ≤ iC)); replace HB := aM (az (by repeat (first | (with_reducible first | exact HB.out | apply bA | apply pD | apply bD | refine ay ?_ iJ.out) | exact HB.out)) hb); have iF := aM ((by rw [hg]; exact aC (ax (g := ez) (o := .cells #[.slice none 0 0] 29 (0, 0)) (kB_ ep.out)) : ez ≠ iC)); have NB369_368 := aM ((by rw [hg]; exact aD (ax (g := ez) (o := .cells #[.slice none 0 0] 29 (0, 0)) (kB_ ep.out)) : iC ≠ ez)); replace ep := aM (af (g := ez) (o := .cells #[.slice none 0 0] 29 (0, 0)) (kB_ ep.out) hb); clear hb hbox hg) | ((with_reducible refine aJ (f := 73) rfl ?_); refine aQ (some 8) rfl rfl Try.func73 z0 rfl #[.pointer (some ⟨iC, 0, none⟩)] rfl z17 ?_; (with_reducible refine (spec_l1Cur_rope.calls k iC l0 0 0 oA t373 t374 w _ ?side1 ?side2 A2.out).mono ?_); (case side1 => exact ⟨_, _, by (with_reducible repeat (first | refine ar ?_ _ | refine aq ?_ | refine au ?_ _)); exact oc.out, GE369.out, cN.out⟩); (case side2 => repeat (first | (with_reducible first | exact HB.out | apply bA | apply pD | apply bD | refine ay ?_ (IsS95.ge HI369.out) | refine ay ?_ iJ.out) | exact HB.out)); rintro e w5 ⟨v371, rfl, ho0, hi, hb, hk⟩; refine ⟨_, rfl, ?_⟩; replace ep := aM (KeepBut.blk hk (g' := ez) (o := .cells #[.slice none 0 0] 29 (0, 0)) (kB_ ep.out) iF.out (by simp)); have nY := aM (aV ho0 (aA (by repeat (first | (with_reducible first | exact HB.out | apply bA | apply pD | apply bD | refine ay ?_ (IsS95.ge HI369.out) | refine ay ?_ iJ.out) | exact HB.out)))); replace HB := aM (hb); have HI369 := aM (hi); (try clear hb); (try clear hk); (try clear hi); (try clear ho0); (try clear oc); obtain ⟨qP, qN, eo6⟩ := Kd.R_slice nY.out; subst eo6; have hnb7 := iF.out; have hnc7 := NB369_368.out; obtain ⟨fV, gP⟩ := cc1 ep.out))
 refine aT (results_cell_row rfl _ _ ez 29 #[.slice qP oA.length qN] (0, 0) _ rfl (by (with_reducible repeat (first | refine ar ?_ _ | refine aq ?_ | refine au ?_ _)); refine aw (cs := #[.slice none 0 0]) ?_ 0 _ rfl; (with_reducible repeat (first | refine ar ?_ _ | refine aq ?_ | refine au ?_ _)); exact ep.out) Try.underlying29 rfl z0) rfl ?_
 exact ⟨_, y4, by (with_reducible repeat (first | apply ae | apply ac | apply aa)); exact ah (am (p := ⟨ez, 0, none⟩) (ap nY.out ep.out (by decide)) (fun _ hk => hk.2) (.slice qP oA.length qN)) (fun _ hk => trivial), by repeat (first | (with_reducible first | exact HB.out | apply bA | apply pD | apply bD | refine ay ?_ (IsS95.ge HI369.out) | refine ay ?_ iJ.out) | exact HB.out)⟩

/-! ### spec_DrawRebalance: function 43 -/
def spec_DrawRebalance.f (k : Nat) (l0 : List Int) : Option ((List (S58))) := (spec_DrawGoodRope.f k l0).bind fun jQ => (some jQ)
theorem spec_DrawRebalance.mono : ∀ a0 k, LeO (spec_DrawRebalance.f k a0) (spec_DrawRebalance.f (k + 1) a0) := by
 intro a0 k
 unfold spec_DrawRebalance.f
 repeat' first
   | (with_reducible exact spec_DrawGoodRope.mono _ _)
   | (with_reducible exact LeO.refl _)
   | (with_reducible exact LeO.none _)
   | (with_reducible refine LeO.ite ?_ ?_)
   | (with_reducible refine LeO.bind ?_ (fun _ => ?_))
set_option maxHeartbeats 8000000 in
set_option maxRecDepth 100000 in
theorem spec_DrawRebalance.calls (k : Nat) (A0 : Option Addr) (c0 : Nat) (l0 : List Int) (r : List (S58)) (w : World) (hr0 : Kd.C (Kd.int .u8) w A0 l0.length l0) (hc0 : l0.length ≤ c0) (h : spec_DrawRebalance.f k l0 = some r) :
  Calls Try.prog 43 #[.slice A0 l0.length c0] w fun e w' => ∃ v0_ : Value, e = .returned (.agg #[v0_]) ∧ Kd.R k58 58 w' w.heap.size (fun _ => True) v0_ r ∧ Below w.heap.size w w' := by
 have hu29 := Try.underlying29
 have cN := aM hr0
 have dy := aM hc0
 clear hr0 hc0
 have HB := aM (Below.refl w.heap.size w)
 have H : ((spec_DrawGoodRope.f k l0).bind fun jQ => (some jQ)) = some r := h
 clear h
 obtain ⟨jQ, A2, H⟩ := oA_ H
 try dsimp only at H
 obtain rfl := sI H
 go_enter Try.func43, Try.ntmps43
 go_wp2_with (first | ((with_reducible refine aK (N := 2) rfl ?_); refine aN ?hg (N := 2) ?hd (cs := #[.slice none 0 0]) (t := 29) ?hr ?_; (case hd => rfl); (case hg => rfl); (case hr => first | (go_simp; done) | (go_simp; rfl)); intro iB hg w3 hbox hb; have ik := aM (hbox); have GW375 := aM ((by rw [hg]; exact (aA z16) : w.heap.size ≤ iB)); have mJ := aM ((by rw [hg]; exact (aA z16) : w.heap.size ≤ iB)); replace HB := aM (az z16 hb); clear hb hbox hg) | ((with_reducible refine aJ (f := 74) rfl ?_); refine aQ (some 4) rfl rfl Try.func74 z0 rfl #[.slice A0 l0.length c0] rfl z17 ?_; (with_reducible refine (spec_DrawGoodRope.calls k _ _ l0 jQ _ ?side1 ?side2 A2.out).mono ?_); (case side1 => exact y37); (case side2 => exact dy.out); rintro e w4 ⟨v377, rfl, ho0, hb⟩; refine ⟨_, rfl, ?_⟩; have nX := aM (aV ho0 (aA (by repeat (first | (with_reducible first | exact HB.out | apply bA | apply pD | apply bD | refine ay ?_ mJ.out) | exact HB.out)))); replace ik := aM (af (g := iB) (o := .cells #[.slice none 0 0] 29 (0, 0)) (kB_ ik.out) hb); replace HB := aM (az (by repeat (first | (with_reducible first | exact HB.out | apply bA | apply pD | apply bD | refine ay ?_ mJ.out) | exact HB.out)) hb); (try clear hb); (try clear ho0); obtain ⟨od, nG, eo5⟩ := Kd.R_slice nX.out; subst eo5; obtain ⟨j5, mr⟩ := cc1 ik.out))
 refine aT (results_cell_row rfl _ _ iB 29 #[.slice od jQ.length nG] (0, 0) _ rfl (by (with_reducible repeat (first | refine ar ?_ _ | refine aq ?_ | refine au ?_ _)); refine aw (cs := #[.slice none 0 0]) ?_ 0 _ rfl; (with_reducible repeat (first | refine ar ?_ _ | refine aq ?_ | refine au ?_ _)); exact ik.out) Try.underlying29 rfl z0) rfl ?_
 exact ⟨_, y4, by (with_reducible repeat (first | apply ae | apply ac | apply aa)); exact ah (am (p := ⟨iB, 0, none⟩) (ap nX.out ik.out (by decide)) (fun _ hk => hk.2) (.slice od jQ.length nG)) (fun _ hk => trivial), by repeat (first | (with_reducible first | exact HB.out | apply bA | apply pD | apply bD | refine ay ?_ mJ.out) | exact HB.out)⟩

/-! ### laws_sameTexts: function 44 -/
def laws_sameTexts.l0 : Nat → List ByteArray → List ByteArray → Int → Int → Option (Bool)
 | 0, _, _, _, _ => none
 | k + 1, x0, x1, x12, x13 => if x13 < x12 then (if 0 ≤ x13 then (if x13 < (x0.length : Int) then (if x13 < (x1.length : Int) then (if (rdOf ByteArray.empty x0 x13).toList = (rdOf ByteArray.empty x1 x13).toList then (laws_sameTexts.l0 k x0 x1 x12 (wrap64 (x13 + 1))) else (some false)) else (none)) else (none)) else (none)) else (some true)
def laws_sameTexts.f (k : Nat) (l0 : List ByteArray) (l1 : List ByteArray) : Option (Bool) := if (l0.length : Int) = (l1.length : Int) then (laws_sameTexts.l0 k l0 l1 (l0.length : Int) 0) else (some false)
theorem laws_sameTexts.mono_l : ∀ k, (∀ y0 y1 y2 y3, LeO (laws_sameTexts.l0 k y0 y1 y2 y3) (laws_sameTexts.l0 (k + 1) y0 y1 y2 y3))
 | 0 => fun _ _ _ _ r h => by simp [laws_sameTexts.l0] at h
 | k + 1 => by
  have ih0 := laws_sameTexts.mono_l k
  ·intro y0 y1 y2 y3
   unfold laws_sameTexts.l0
   repeat' first
   | (with_reducible exact ih0 _ _ _ _)
   | (with_reducible exact LeO.refl _)
   | (with_reducible exact LeO.none _)
   | (with_reducible refine LeO.ite ?_ ?_)
   | (with_reducible refine LeO.bind ?_ (fun _ => ?_))
theorem laws_sameTexts.mono : ∀ a0 a1 k, LeO (laws_sameTexts.f k a0 a1) (laws_sameTexts.f (k + 1) a0 a1) := by
 intro a0 a1 k
 have ih0 := laws_sameTexts.mono_l k
 unfold laws_sameTexts.f
 repeat' first
   | (with_reducible exact ih0 _ _ _ _)
   | (with_reducible exact LeO.refl _)
   | (with_reducible exact LeO.none _)
   | (with_reducible refine LeO.ite ?_ ?_)
   | (with_reducible refine LeO.bind ?_ (fun _ => ?_))
set_option maxHeartbeats 8000000 in
set_option maxRecDepth 100000 in
theorem laws_sameTexts.calls (k : Nat) (A0 : Option Addr) (c0 : Nat) (l0 : List ByteArray) (A1 : Option Addr) (c1 : Nat) (l1 : List ByteArray) (r : Bool) (w : World) (hr0 : Kd.C Kd.string w A0 l0.length l0) (hc0 : l0.length ≤ c0) (hr1 : Kd.C Kd.string w A1 l1.length l1) (hc1 : l1.length ≤ c1) (h : laws_sameTexts.f k l0 l1 = some r) :
  Calls Try.prog 44 #[.slice A0 l0.length c0, .slice A1 l1.length c1] w fun e w' => e = .returned (.bool r) ∧ Drawn0 w w' := by
 have cN := aM hr0
 have dy := aM hc0
 clear hr0 hc0
 have lP := aM hr1
 have dN := aM hc1
 clear hr1 hc1
 have H : (if (l0.length : Int) = (l1.length : Int) then (laws_sameTexts.l0 k l0 l1 (l0.length : Int) 0) else (some false)) = some r := h
 clear h
 by_cases c3 : (l0.length : Int) = (l1.length : Int)
 ·rw [if_pos c3] at H
  have c3b0 : ((l0.length : Int) == (l1.length : Int)) = true := qT c3
  have c3b1 : ((l0.length : Int) != (l1.length : Int)) = false := nF c3
  have c3b2 : (l0.length == l1.length) = true := by first | simpa using c3 | (simp at c3 ⊢; omega)
  clear c3
  have H' := aM H
  clear H
  go_enter Try.func44, Try.ntmps44
  go_wp2
  repeat (go_quiet (fail); try go_wp2)
  go_loopg [13] k (fun kq v13 w' => ∃ (x13_1 : Int), v13 = .int .i64 x13_1 ∧ Aside0 (laws_sameTexts.l0 kq l0 l1 (l0.length : Int) x13_1 = some r) ∧ Aside0 (kq ≤ k) ∧ Drawn0 w w')
  case atStart => exact ⟨(0), z1, H', ⟨Nat.le_refl _⟩, y3⟩
  case round =>
   clear H'
   try clear c1
   try clear c3
   try clear c3b0
   try clear c3b1
   try clear c3b2
   obtain ⟨x13_1, rfl, HA, HK1, ⟨m1, rfl⟩⟩ := hrel
   cases gk with
   | zero => exact absurd HA.out (by simp [laws_sameTexts.l0])
   | succ k1 =>
    have H := HA.out
    clear HA
    simp only [laws_sameTexts.l0] at H
    by_cases c4 : x13_1 < (l0.length : Int)
    ·rw [if_pos c4] at H
     have c4b0 : decide (x13_1 < (l0.length : Int)) = true := dT c4
     clear c4
     by_cases c5 : 0 ≤ x13_1
     ·rw [if_pos c5] at H
      have c5b0 : decide (0 ≤ x13_1) = true := dT c5
      clear c5
      by_cases c6 : x13_1 < (l0.length : Int)
      ·rw [if_pos c6] at H
       have c6b0 : decide (x13_1 < (l0.length : Int)) = true := dT c6
       clear c6
       by_cases c7 : x13_1 < (l1.length : Int)
       ·rw [if_pos c7] at H
        have c7b0 : decide (x13_1 < (l1.length : Int)) = true := dT c7
        clear c7
        by_cases c8 : (rdOf ByteArray.empty l0 x13_1).toList = (rdOf ByteArray.empty l1 x13_1).toList
        ·rw [if_pos c8] at H
         have c8b0 : ((rdOf ByteArray.empty l0 x13_1).toList == (rdOf ByteArray.empty l1 x13_1).toList) = true := qT c8
         have c8b1 : ((rdOf ByteArray.empty l0 x13_1).toList != (rdOf ByteArray.empty l1 x13_1).toList) = false := nF c8
         clear c8
         have H' := aM H
         clear H
         have p379 : 0 ≤ (x13_1 : Int) := oD z2
         have q379 : x13_1 < (l0.length : Int) := oD z2
         obtain ⟨ad379, e379, hx379_0⟩ := Kd.at_string cN.out x13_1 p379 q379
         cases e379
         replace p379 := eq_true p379
         replace q379 := eq_true q379
         have p380 : 0 ≤ (x13_1 : Int) := oD z2
         have q380 : x13_1 < (l1.length : Int) := oD z2
         obtain ⟨ad380, e380, hx380_0⟩ := Kd.at_string lP.out x13_1 p380 q380
         cases e380
         replace p380 := eq_true p380
         replace q380 := eq_true q380
         go_wp2
         all_goals (try (exfalso; rename_i h_; rw [c8b0] at h_; cases h_; done))
         repeat (go_quiet (fail); try go_wp2)
         all_goals (try (exfalso; rename_i h_; rw [c8b0] at h_; cases h_; done))
         go_roundg k1
         case measure => have := HK1.out; omega
         case rel => exact ⟨(wrap64 (x13_1 + 1)), z1, H', ⟨y0⟩, y3⟩
        ·rw [if_neg c8] at H
         have c8b0 : ((rdOf ByteArray.empty l0 x13_1).toList == (rdOf ByteArray.empty l1 x13_1).toList) = false := qF c8
         have c8b1 : ((rdOf ByteArray.empty l0 x13_1).toList != (rdOf ByteArray.empty l1 x13_1).toList) = true := nT c8
         obtain rfl := sI H
         have p379 : 0 ≤ (x13_1 : Int) := oD z2
         have q379 : x13_1 < (l0.length : Int) := oD z2
         obtain ⟨ad379, e379, hx379_0⟩ := Kd.at_string cN.out x13_1 p379 q379
         cases e379
         replace p379 := eq_true p379
         replace q379 := eq_true q379
         have p380 : 0 ≤ (x13_1 : Int) := oD z2
         have q380 : x13_1 < (l1.length : Int) := oD z2
         obtain ⟨ad380, e380, hx380_0⟩ := Kd.at_string lP.out x13_1 p380 q380
         cases e380
         replace p380 := eq_true p380
         replace q380 := eq_true q380
         go_wp2
         all_goals (try (exfalso; rename_i h_; rw [c8b0] at h_; cases h_; done))
         repeat (go_quiet (fail); try go_wp2)
         all_goals (try (exfalso; rename_i h_; rw [c8b0] at h_; cases h_; done))
         go_ret
         exact ⟨y1, y3⟩
       ·rw [if_neg c7] at H
        exact absurd H (by simp)
      ·rw [if_neg c6] at H
       exact absurd H (by simp)
     ·rw [if_neg c5] at H
      exact absurd H (by simp)
    ·rw [if_neg c4] at H
     have c4b0 : decide (x13_1 < (l0.length : Int)) = false := dF c4
     clear c4
     obtain rfl := sI H
     go_wp2
     repeat (go_quiet (fail); try go_wp2)
     go_ret
     exact ⟨y1, y3⟩
 ·rw [if_neg c3] at H
  have c3b0 : ((l0.length : Int) == (l1.length : Int)) = false := qF c3
  have c3b1 : ((l0.length : Int) != (l1.length : Int)) = true := nT c3
  have c3b2 : (l0.length == l1.length) = false := by first | simpa using c3 | (simp at c3 ⊢; omega)
  obtain rfl := sI H
  go_enter Try.func44, Try.ntmps44
  go_wp2
  repeat (go_quiet (fail); try go_wp2)
  go_ret
  exact ⟨y1, y3⟩

/-! ### laws_FnBalanced: function 13 -/
def laws_FnBalanced.j0 : Nat → Bool → Bool → List (S58) → List (S58) → Option (Bool)
 | 0, _, _, _, _ => none
 | k + 1, x5, x55, x385000, x390000 => if x55 = true then (some false) else (if x5 = true then ((impl_PiecesOf.f k x385000).bind fun nM => ((impl_PiecesOf.f k x390000).bind fun nL => ((impl_IsBalanced.f k x390000).bind fun nK => (if nM.2 = true then (if nL.2 = true then (if nK.2 = true then (if nK.1 = true then ((laws_sameTexts.f k nM.1 nL.1).bind fun oy => (if oy = true then ((impl_GoodRope.f k x390000).bind fun ox => (some ox)) else (some false))) else (some false)) else (some false)) else (some false)) else (some false))))) else (some ((x390000.length : Int) == 0)))
def laws_FnBalanced.f (k : Nat) (l0 : List Int) : Option (Bool) := if (l0.length : Int) > 1048576 then (some true) else ((spec_DrawRebalance.f k l0).bind fun bQ => ((impl_Rebalance.f k bQ).bind fun dI => ((spec_Rebalance.f k bQ).bind fun mw => ((impl_IsBalanced.f k bQ).bind fun jB => ((spec_IsBalanced.f k bQ).bind fun jA => (if (dI.2 != mw.2) = true then (laws_FnBalanced.j0 k dI.2 true bQ dI.1) else (if (jB.2 != jA.2) = true then (laws_FnBalanced.j0 k dI.2 true bQ dI.1) else (laws_FnBalanced.j0 k dI.2 (jB.1 != jA.1) bQ dI.1))))))))
theorem laws_FnBalanced.mono_l : ∀ k, (∀ y0 y1 y2 y3, LeO (laws_FnBalanced.j0 k y0 y1 y2 y3) (laws_FnBalanced.j0 (k + 1) y0 y1 y2 y3))
 | 0 => fun _ _ _ _ r h => by simp [laws_FnBalanced.j0] at h
 | k + 1 => by
  have ih0 := laws_FnBalanced.mono_l k
  ·intro y0 y1 y2 y3
   unfold laws_FnBalanced.j0
   repeat' first
   | (with_reducible exact ih0 _ _ _ _)
   | (with_reducible exact impl_GoodRope.mono _ _)
   | (with_reducible exact impl_IsBalanced.mono _ _)
   | (with_reducible exact impl_PiecesOf.mono _ _)
   | (with_reducible exact impl_Rebalance.mono _ _)
   | (with_reducible exact laws_sameTexts.mono _ _ _)
   | (with_reducible exact spec_DrawRebalance.mono _ _)
   | (with_reducible exact spec_IsBalanced.mono _ _)
   | (with_reducible exact spec_Rebalance.mono _ _)
   | (with_reducible exact LeO.refl _)
   | (with_reducible exact LeO.none _)
   | (with_reducible refine LeO.ite ?_ ?_)
   | (with_reducible refine LeO.bind ?_ (fun _ => ?_))
theorem laws_FnBalanced.mono : ∀ a0 k, LeO (laws_FnBalanced.f k a0) (laws_FnBalanced.f (k + 1) a0) := by
 intro a0 k
 have ih0 := laws_FnBalanced.mono_l k
 unfold laws_FnBalanced.f
 repeat' first
   | (with_reducible exact ih0 _ _ _ _)
   | (with_reducible exact impl_GoodRope.mono _ _)
   | (with_reducible exact impl_IsBalanced.mono _ _)
   | (with_reducible exact impl_PiecesOf.mono _ _)
   | (with_reducible exact impl_Rebalance.mono _ _)
   | (with_reducible exact laws_sameTexts.mono _ _ _)
   | (with_reducible exact spec_DrawRebalance.mono _ _)
   | (with_reducible exact spec_IsBalanced.mono _ _)
   | (with_reducible exact spec_Rebalance.mono _ _)
   | (with_reducible exact LeO.refl _)
   | (with_reducible exact LeO.none _)
   | (with_reducible refine LeO.ite ?_ ?_)
   | (with_reducible refine LeO.bind ?_ (fun _ => ?_))
set_option maxHeartbeats 8000000 in
set_option maxRecDepth 100000 in
theorem laws_FnBalanced.calls (k : Nat) (A0 : Option Addr) (c0 : Nat) (l0 : List Int) (r : Bool) (HRT : Aside0 (r = true)) (w : World) (hr0 : Kd.C (Kd.int .u8) w A0 l0.length l0) (hc0 : l0.length ≤ c0) (h : laws_FnBalanced.f k l0 = some r) :
  Calls Try.prog 13 #[.slice A0 l0.length c0] w fun e w' => e = .returned (.bool r) ∧ Below w.heap.size w w' := by
 have hu29 := Try.underlying29
 have cN := aM hr0
 have dy := aM hc0
 clear hr0 hc0
 have HB := aM (Below.refl w.heap.size w)
 have H : (if (l0.length : Int) > 1048576 then (some true) else ((spec_DrawRebalance.f k l0).bind fun bQ => ((impl_Rebalance.f k bQ).bind fun dI => ((spec_Rebalance.f k bQ).bind fun mw => ((impl_IsBalanced.f k bQ).bind fun jB => ((spec_IsBalanced.f k bQ).bind fun jA => (if (dI.2 != mw.2) = true then (laws_FnBalanced.j0 k dI.2 true bQ dI.1) else (if (jB.2 != jA.2) = true then (laws_FnBalanced.j0 k dI.2 true bQ dI.1) else (laws_FnBalanced.j0 k dI.2 (jB.1 != jA.1) bQ dI.1))))))))) = some r := h
 clear h
 by_cases c2 : (l0.length : Int) > 1048576
 ·rw [if_pos c2] at H
  have c2b0 : decide (1048576 < (l0.length : Int)) = true := dT c2
  have c2b1 : decide (1048576 < l0.length) = true := dT (by omega)
  clear c2
  first | (cases H.trans (congrArg some HRT.out); done) | skip
  all_goals
   obtain rfl := sI H
   go_enter Try.func13, Try.ntmps13
   go_wp2
   go_ret
   exact ⟨y4, y5⟩
 ·rw [if_neg c2] at H
  have c2b0 : decide (1048576 < (l0.length : Int)) = false := dF c2
  have c2b1 : decide (1048576 < l0.length) = false := dF (by omega)
  clear c2
  obtain ⟨bQ, A3, H⟩ := oA_ H
  try dsimp only at H
  obtain ⟨⟨bX, gC⟩, A4, H⟩ := oA_ H
  try dsimp only at H
  obtain ⟨⟨cY, iO⟩, A5, H⟩ := oA_ H
  try dsimp only at H
  obtain ⟨⟨pj, iN⟩, A6, H⟩ := oA_ H
  try dsimp only at H
  obtain ⟨⟨ph, iM⟩, A7, H⟩ := oA_ H
  try dsimp only at H
  have qH := aM H
  clear H
  go_enter Try.func13, Try.ntmps13
  go_upto_region 8 with (first | ((with_reducible refine aJ (f := 43) rfl ?_); refine aQ (some 22) rfl rfl Try.func43 z0 rfl #[.slice A0 l0.length c0] rfl z17 ?_; (with_reducible refine (spec_DrawRebalance.calls k _ _ l0 bQ _ ?side1 ?side2 A3.out).mono ?_); (case side1 => exact y29); (case side2 => exact dy.out); rintro e w9 ⟨v382, rfl, ho0, hb⟩; refine ⟨_, rfl, ?_⟩; have cp := aM (aV ho0 (aA z16)); replace HB := aM (az z16 hb); (try clear hb); (try clear ho0)) | ((with_reducible refine aK (N := 3) rfl ?_); refine aN ?hg (N := 3) ?hd (cs := #[.slice none 0 0]) (t := 29) ?hr ?_; (case hd => rfl); (case hg => rfl); (case hr => first | (go_simp; done) | (go_simp; rfl)); intro bY hg w10 hbox hb; replace cp := aM (ag (kR_ cp.out) hb); have bK := aM (hbox); have GW384 := aM ((by rw [hg]; exact (aA z16) : w.heap.size ≤ bY)); have e9 := aM ((by rw [hg]; exact (aA z16) : w.heap.size ≤ bY)); replace HB := aM (az z16 hb); clear hb hbox hg; obtain ⟨co, ce, eo11⟩ := Kd.R_slice cp.out; subst eo11; obtain ⟨fz, fv⟩ := cc1 bK.out) | ((with_reducible refine aJ (f := 37) rfl ?_); refine aQ (some 25) rfl rfl Try.func37 z0 rfl #[.agg #[.slice co bQ.length ce]] rfl z17 ?_; (with_reducible refine (impl_Rebalance.calls k _ _ bQ bX gC _ ?side1 ?side2 A4.out).mono ?_); (case side1 => refine (ai (e := 58) (base := w.heap.size) (ok := fun k_ => True) (n := bQ.length) (c := ce) ?_).2.2; exact (by (with_reducible repeat (first | apply ae | apply ac | apply aa)); exact (ah (am (p := ⟨bY, 0, none⟩) (ap cp.out bK.out (by decide)) (fun _ hk => hk.2) (.slice co bQ.length ce)) (fun _ h_ => h_.1)))); (case side2 => exact (ai cp.out).2.1); rintro e w13 ⟨v386, rfl, ho0, hb⟩; refine ⟨_, rfl, ?_⟩; have de := aM (aV (ak ho0 (Kd.R_lt (by (with_reducible repeat (first | apply ae | apply ac | apply aa)); exact (ah (am (p := ⟨bY, 0, none⟩) (ap cp.out bK.out (by decide)) (fun _ hk => hk.2) (.slice co bQ.length ce)) (fun _ h_ => h_.1))))) (aA (by repeat (first | (with_reducible first | exact HB.out | apply bA | apply pD | apply bD | refine ay ?_ e9.out) | exact HB.out)))); replace cp := aM (aj (by (with_reducible repeat (first | apply ae | apply ac | apply aa)); exact (ah (am (p := ⟨bY, 0, none⟩) (ap cp.out bK.out (by decide)) (fun _ hk => hk.2) (.slice co bQ.length ce)) (fun _ h_ => h_.1))) (al ho0) hb); replace bK := aM (af (g := bY) (o := .cells #[.slice co bQ.length ce] 29 (0, 0)) (by (with_reducible repeat (first | refine ar ?_ _ | refine aq ?_ | refine au ?_ _)); refine aw (cs := #[.slice none 0 0]) ?_ 0 _ rfl; (with_reducible repeat (first | refine ar ?_ _ | refine aq ?_ | refine au ?_ _)); exact bK.out) hb); replace HB := aM (az (by repeat (first | (with_reducible first | exact HB.out | apply bA | apply pD | apply bD | refine ay ?_ e9.out) | exact HB.out)) hb); (try clear hb); (try clear ho0)) | ((with_reducible refine aK (N := 4) rfl ?_); refine aN ?hg (N := 4) ?hd (cs := #[.slice none 0 0]) (t := 29) ?hr ?_; (case hd => rfl); (case hg => rfl); (case hr => first | (go_simp; done) | (go_simp; rfl)); intro bW hg w14 hbox hb; replace cp := aM (ag (kR_ cp.out) hb); replace de := aM (ag (kR_ de.out) hb); have bI := aM (hbox); have GW389 := aM ((by rw [hg]; exact (aA (by repeat (first | (with_reducible first | exact HB.out | apply bA | apply pD | apply bD | refine ay ?_ e9.out) | exact HB.out))) : w.heap.size ≤ bW)); have jK := aM ((by rw [hg]; exact (aA (by repeat (first | (with_reducible first | exact HB.out | apply bA | apply pD | apply bD | refine ay ?_ e9.out) | exact HB.out))) : w.heap.size ≤ bW)); replace HB := aM (az (by repeat (first | (with_reducible first | exact HB.out | apply bA | apply pD | apply bD | refine ay ?_ e9.out) | exact HB.out)) hb); have cU := aM ((by rw [hg]; exact aC (ax (g := bY) (o := .cells #[.slice co bQ.length ce] 29 (0, 0)) z13) : bY ≠ bW)); have dc := aM ((by rw [hg]; exact aD (ax (g := bY) (o := .cells #[.slice co bQ.length ce] 29 (0, 0)) z13) : bW ≠ bY)); replace bK := aM (bK_ bK.out hb); clear hb hbox hg; obtain ⟨b7, b6, eo15⟩ := Kd.R_slice de.out; subst eo15; have hnb16 := dc.out; have hnc16 := cU.out; obtain ⟨hcz17_0, hfz17_0⟩ := cc1 bI.out; obtain ⟨gB, gw⟩ := cc1 bK.out) | ((with_reducible refine aJ (f := 36) rfl ?_); refine aQ (some 30) rfl rfl Try.func36 z0 rfl #[.agg #[.slice co bQ.length ce]] rfl z17 ?_; (with_reducible refine (spec_Rebalance.calls k _ _ bQ cY iO _ ?side1 ?side2 A5.out).mono ?_); (case side1 => refine (ai (e := 58) (base := w.heap.size) (ok := fun k_ => (True ∧ some k_ ≠ (.slice b7 bX.length b6 : Value).ownBlock)) (n := bQ.length) (c := ce) ?_).2.2; exact (by (with_reducible repeat (first | apply ae | apply ac | apply aa)); exact (ah (am (p := ⟨bW, 0, none⟩) (ap cp.out bI.out (by decide)) (fun _ hk => hk.2) (.slice b7 bX.length b6)) (fun _ h_ => h_.1)))); (case side2 => exact (ai cp.out).2.1); rintro e w19 ⟨v391, rfl, ho0, hb⟩; refine ⟨_, rfl, ?_⟩; have d8 := aM (aV (ak (ak ho0 (Kd.R_lt (by (with_reducible repeat (first | apply ae | apply ac | apply aa)); exact (ah (am (p := ⟨bW, 0, none⟩) (ap cp.out bI.out (by decide)) (fun _ hk => hk.2) (.slice b7 bX.length b6)) (fun _ h_ => h_.1))))) (Kd.R_lt (by (with_reducible repeat (first | apply ae | apply ac | apply aa)); exact (ah (am (p := ⟨bW, 0, none⟩) (ap de.out bI.out (by decide)) (fun _ hk => hk.2) (.slice b7 bX.length b6)) (fun _ h_ => h_.1))))) (aA (by repeat (first | (with_reducible first | exact HB.out | apply bA | apply pD | apply bD | refine ay ?_ e9.out | refine ay ?_ jK.out) | exact HB.out)))); replace cp := aM (aj (by (with_reducible repeat (first | apply ae | apply ac | apply aa)); exact (ah (am (p := ⟨bW, 0, none⟩) (ap cp.out bI.out (by decide)) (fun _ hk => hk.2) (.slice b7 bX.length b6)) (fun _ h_ => h_.1))) (al ho0) hb); replace de := aM (aj (by (with_reducible repeat (first | apply ae | apply ac | apply aa)); exact (ah (am (p := ⟨bW, 0, none⟩) (ap de.out bI.out (by decide)) (fun _ hk => hk.2) (.slice b7 bX.length b6)) (fun _ h_ => h_.1))) (al ho0) hb); replace bK := aM (af (g := bY) (o := .cells #[.slice co bQ.length ce] 29 (0, 0)) (by (with_reducible repeat (first | refine ar ?_ _ | refine aq ?_ | refine au ?_ _)); refine av ?_ cU.out _; (with_reducible repeat (first | refine ar ?_ _ | refine aq ?_ | refine au ?_ _)); exact bK.out) hb); replace bI := aM (af (g := bW) (o := .cells #[.slice b7 bX.length b6] 29 (0, 0)) (by (with_reducible repeat (first | refine ar ?_ _ | refine aq ?_ | refine au ?_ _)); refine aw (cs := #[.slice none 0 0]) ?_ 0 _ rfl; (with_reducible repeat (first | refine ar ?_ _ | refine aq ?_ | refine au ?_ _)); exact bI.out) hb); replace HB := aM (az (by repeat (first | (with_reducible first | exact HB.out | apply bA | apply pD | apply bD | refine ay ?_ e9.out | refine ay ?_ jK.out) | exact HB.out)) hb); (try clear hb); (try clear ho0)) | ((with_reducible refine aK (N := 6) rfl ?_); refine aN ?hg (N := 6) ?hd (cs := #[.slice none 0 0]) (t := 29) ?hr ?_; (case hd => rfl); (case hg => rfl); (case hr => first | (go_simp; done) | (go_simp; rfl)); intro ct hg w20 hbox hb; replace cp := aM (ag (kR_ cp.out) hb); replace de := aM (ag (kR_ de.out) hb); replace d8 := aM (ag (kR_ d8.out) hb); have bT := aM (hbox); have GW394 := aM ((by rw [hg]; exact (aA (by repeat (first | (with_reducible first | exact HB.out | apply bA | apply pD | apply bD | refine ay ?_ e9.out | refine ay ?_ jK.out) | exact HB.out))) : w.heap.size ≤ ct)); have GE394 := aM ((by rw [hg]; exact (aA (by repeat (first | (with_reducible first | exact HB.out | apply bA | apply pD | apply bD | refine ay ?_ e9.out | refine ay ?_ jK.out) | exact HB.out))) : w.heap.size ≤ ct)); replace HB := aM (az (by repeat (first | (with_reducible first | exact HB.out | apply bA | apply pD | apply bD | refine ay ?_ e9.out | refine ay ?_ jK.out) | exact HB.out)) hb); have dd := aM ((by rw [hg]; exact aC (ax (g := bY) (o := .cells #[.slice co bQ.length ce] 29 (0, 0)) z13) : bY ≠ ct)); have dq := aM ((by rw [hg]; exact aD (ax (g := bY) (o := .cells #[.slice co bQ.length ce] 29 (0, 0)) z13) : ct ≠ bY)); replace bK := aM (bK_ bK.out hb); have cT := aM ((by rw [hg]; exact aC (ax (g := bW) (o := .cells #[.slice b7 bX.length b6] 29 (0, 0)) z14) : bW ≠ ct)); have db := aM ((by rw [hg]; exact aD (ax (g := bW) (o := .cells #[.slice b7 bX.length b6] 29 (0, 0)) z14) : ct ≠ bW)); replace bI := aM (bK_ bI.out hb); clear hb hbox hg; obtain ⟨cX, cW, eo21⟩ := Kd.R_slice d8.out; subst eo21; have hnb22 := dq.out; have hnc22 := dd.out; have hnb23 := db.out; have hnc23 := cT.out; obtain ⟨fw, fq⟩ := cc1 bT.out; obtain ⟨k6, kt⟩ := cc1 bK.out) | ((with_reducible refine aJ (f := 22) rfl ?_); refine aQ (some 35) rfl rfl Try.func22 z0 rfl #[.agg #[.slice co bQ.length ce]] rfl z17 ?_; (with_reducible refine (impl_IsBalanced.calls k _ _ bQ pj iN _ ?side1 ?side2 A6.out).mono ?_); (case side1 => refine (ai (e := 58) (base := w.heap.size) (ok := fun k_ => ((True ∧ some k_ ≠ (.slice b7 bX.length b6 : Value).ownBlock) ∧ some k_ ≠ (.slice cX cY.length cW : Value).ownBlock)) (n := bQ.length) (c := ce) ?_).2.2; exact (by (with_reducible repeat (first | apply ae | apply ac | apply aa)); exact (ah (am (p := ⟨ct, 0, none⟩) (ap cp.out bT.out (by decide)) (fun _ hk => hk.2) (.slice cX cY.length cW)) (fun _ h_ => h_.1)))); (case side2 => exact (ai cp.out).2.1); rintro e w26 ⟨rfl, hb⟩; refine ⟨_, rfl, ?_⟩; replace cp := aM (ag (by (with_reducible repeat (first | apply ae | apply ac | apply aa)); exact (ah (am (p := ⟨ct, 0, none⟩) (ap cp.out bT.out (by decide)) (fun _ hk => hk.2) (.slice cX cY.length cW)) (fun _ h_ => h_.1))) hb); replace de := aM (ag (by (with_reducible repeat (first | apply ae | apply ac | apply aa)); exact (ah (am (p := ⟨ct, 0, none⟩) (ap de.out bT.out (by decide)) (fun _ hk => hk.2) (.slice cX cY.length cW)) (fun _ h_ => h_.1))) hb); replace d8 := aM (ag (by (with_reducible repeat (first | apply ae | apply ac | apply aa)); exact (ah (am (p := ⟨ct, 0, none⟩) (ap d8.out bT.out (by decide)) (fun _ hk => hk.2) (.slice cX cY.length cW)) (fun _ h_ => h_.1))) hb); replace bK := aM (af (g := bY) (o := .cells #[.slice co bQ.length ce] 29 (0, 0)) (by (with_reducible repeat (first | refine ar ?_ _ | refine aq ?_ | refine au ?_ _)); refine av ?_ dd.out _; (with_reducible repeat (first | refine ar ?_ _ | refine aq ?_ | refine au ?_ _)); exact bK.out) hb); replace bI := aM (af (g := bW) (o := .cells #[.slice b7 bX.length b6] 29 (0, 0)) (by (with_reducible repeat (first | refine ar ?_ _ | refine aq ?_ | refine au ?_ _)); refine av ?_ cT.out _; (with_reducible repeat (first | refine ar ?_ _ | refine aq ?_ | refine au ?_ _)); exact bI.out) hb); replace bT := aM (af (g := ct) (o := .cells #[.slice cX cY.length cW] 29 (0, 0)) (by (with_reducible repeat (first | refine ar ?_ _ | refine aq ?_ | refine au ?_ _)); refine aw (cs := #[.slice none 0 0]) ?_ 0 _ rfl; (with_reducible repeat (first | refine ar ?_ _ | refine aq ?_ | refine au ?_ _)); exact bT.out) hb); replace HB := aM (az z27 hb); (try clear hb); obtain ⟨gz, gu⟩ := cc1 bK.out) | ((with_reducible refine aJ (f := 21) rfl ?_); refine aQ (some 40) rfl rfl Try.func21 z0 rfl #[.agg #[.slice co bQ.length ce]] rfl z17 ?_; (with_reducible refine (spec_IsBalanced.calls k _ _ bQ ph iM _ ?side1 ?side2 A7.out).mono ?_); (case side1 => repeat (first | exact (ai cp.out).2.2 | (with_reducible refine aG ?_ _) | (with_reducible refine aH ?_ _) | (with_reducible refine aI ?_))); (case side2 => exact (ai cp.out).2.1); rintro e w28 ⟨rfl, hb⟩; refine ⟨_, rfl, ?_⟩; replace cp := aM (ag (kR_ cp.out) hb); replace de := aM (ag (kR_ de.out) hb); replace d8 := aM (ag (kR_ d8.out) hb); replace bK := aM (bK_ bK.out hb); replace bI := aM (bK_ bI.out hb); replace bT := aM (bK_ bT.out hb); replace HB := aM (az z27 hb); (try clear hb)))
  (try simp only [Act.put, sA, sB, sC])
  go_cut [55] (fun v55 wc => ∃ (kq : Nat) (x55_7 : Bool), v55 = .bool x55_7 ∧ Aside0 (laws_FnBalanced.j0 kq gC x55_7 bQ bX = some r) ∧ Aside0 (kq ≤ k) ∧ Aside0 (Kd.R k58 58 wc w.heap.size (fun k_ => some k_ ≠ ((.slice b7 bX.length b6) : Value).ownBlock ∧ some k_ ≠ ((.slice cX cY.length cW) : Value).ownBlock) (.slice co bQ.length ce) bQ) ∧ Aside0 (Kd.R k58 58 wc w.heap.size (fun k_ => some k_ ≠ ((.slice co bQ.length ce) : Value).ownBlock ∧ some k_ ≠ ((.slice cX cY.length cW) : Value).ownBlock) (.slice b7 bX.length b6) bX) ∧ Aside0 (Kd.R k58 58 wc w.heap.size (fun k_ => some k_ ≠ ((.slice co bQ.length ce) : Value).ownBlock ∧ some k_ ≠ ((.slice b7 bX.length b6) : Value).ownBlock) (.slice cX cY.length cW) cY) ∧ Aside0 (wc.heap[bY]? = some (.cells #[(.slice co bQ.length ce)] 29 (0, 0))) ∧ Aside0 (wc.heap[bW]? = some (.cells #[(.slice b7 bX.length b6)] 29 (0, 0))) ∧ Aside0 (wc.heap[ct]? = some (.cells #[(.slice cX cY.length cW)] 29 (0, 0))) ∧ Aside0 (Below w.heap.size w wc))
  case first =>
   have H := qH.out
   clear qH
   by_cases eA : (gC != iO) = true
   ·rw [if_pos eA] at H
    have c29b0 : (gC != iO) = true := eA
    (try (have c29b1 : decide (gC = iO) = false := by simpa using eA))
    (try (have c29b2 : (gC == iO) = false := by simpa using eA))
    (try (have c29b3 : ¬ (gC = iO) := by simpa using eA))
    clear eA
    (first | rw [c29b0] | (simp only [i64_w, i32_w]; rw [c29b0]) | skip)
    have H' := aM H
    clear H
    go_wp2
    go_meet
    case rel => exact ⟨_, (true), z1, H', ⟨by first | omega | exact Nat.le_refl _⟩, ⟨kM_ cp.out (fun _ hk => ⟨hk.1.2, hk.2⟩)⟩, ⟨kM_ de.out (fun _ hk => ⟨hk.1.2, hk.2⟩)⟩, ⟨kM_ d8.out (fun _ hk => ⟨hk.1.2, hk.2⟩)⟩, ⟨kB_ bK.out⟩, ⟨kB_ bI.out⟩, ⟨kB_ bT.out⟩, ⟨y16⟩⟩
   ·rw [if_neg eA] at H
    have c29b0 : (gC != iO) = false := by simpa using eA
    (try (have c29b1 : decide (gC = iO) = true := by simpa using eA))
    (try (have c29b2 : (gC == iO) = true := by simpa using eA))
    clear eA
    (first | rw [c29b0] | (simp only [i64_w, i32_w]; rw [c29b0]) | skip)
    by_cases jq : (iN != iM) = true
    ·rw [if_pos jq] at H
     have c30b0 : (iN != iM) = true := jq
     (try (have c30b1 : decide (iN = iM) = false := by simpa using jq))
     (try (have c30b2 : (iN == iM) = false := by simpa using jq))
     (try (have c30b3 : ¬ (iN = iM) := by simpa using jq))
     clear jq
     have H' := aM H
     clear H
     go_wp2
     go_meet
     case rel => exact ⟨_, (true), z1, H', ⟨by first | omega | exact Nat.le_refl _⟩, ⟨kM_ cp.out (fun _ hk => ⟨hk.1.2, hk.2⟩)⟩, ⟨kM_ de.out (fun _ hk => ⟨hk.1.2, hk.2⟩)⟩, ⟨kM_ d8.out (fun _ hk => ⟨hk.1.2, hk.2⟩)⟩, ⟨kB_ bK.out⟩, ⟨kB_ bI.out⟩, ⟨kB_ bT.out⟩, ⟨y16⟩⟩
    ·rw [if_neg jq] at H
     have c30b0 : (iN != iM) = false := by simpa using jq
     (try (have c30b1 : decide (iN = iM) = true := by simpa using jq))
     (try (have c30b2 : (iN == iM) = true := by simpa using jq))
     clear jq
     have H' := aM H
     clear H
     go_wp2
     go_meet
     case rel => exact ⟨_, ((pj != ph)), z1, H', ⟨by first | omega | exact Nat.le_refl _⟩, ⟨kM_ cp.out (fun _ hk => ⟨hk.1.2, hk.2⟩)⟩, ⟨kM_ de.out (fun _ hk => ⟨hk.1.2, hk.2⟩)⟩, ⟨kM_ d8.out (fun _ hk => ⟨hk.1.2, hk.2⟩)⟩, ⟨kB_ bK.out⟩, ⟨kB_ bI.out⟩, ⟨kB_ bT.out⟩, ⟨y16⟩⟩
  case rest =>
   clear qH
   try clear c2
   try clear c2b0
   try clear c2b1
   try clear fz
   try clear hcz17_0
   try clear gB
   try clear fw
   try clear k6
   try clear gz
   try clear fv
   try clear hfz17_0
   try clear gw
   try clear fq
   try clear kt
   try clear gu
   obtain ⟨kq, x55_7, rfl, HA, HJ7, bm, bf, bG, bK, bI, bT, HB⟩ := hcut
   cases kq with
   | zero => exact absurd HA.out (by simp [laws_FnBalanced.j0])
   | succ kj7 =>
    have H := HA.out
    clear HA
    simp only [laws_FnBalanced.j0] at H
    by_cases j6 : x55_7 = true
    ·subst j6
     rw [if_pos rfl] at H
     first | (cases H.trans (congrArg some HRT.out); done) | skip
     all_goals
      obtain rfl := sI H
      go_wp2
      go_ret
      exact ⟨y4, y16⟩
    ·replace j6 := Bool.eq_false_iff.mpr j6
     subst j6
     rw [if_neg nF_] at H
     by_cases qB : gC = true
     ·subst qB
      rw [if_pos rfl] at H
      obtain ⟨⟨jt, t402⟩, pe, H⟩ := oA_ H
      try dsimp only at H
      obtain ⟨⟨js, pg⟩, pd, H⟩ := oA_ H
      try dsimp only at H
      obtain ⟨⟨mY, oz⟩, pb, H⟩ := oA_ H
      try dsimp only at H
      by_cases nl : t402 = true
      ·subst nl
       rw [if_pos rfl] at H
       by_cases nk : pg = true
       ·subst nk
        rw [if_pos rfl] at H
        by_cases nj : oz = true
        ·subst nj
         rw [if_pos rfl] at H
         by_cases ni : mY = true
         ·subst ni
          rw [if_pos rfl] at H
          obtain ⟨oy, il, H⟩ := oA_ H
          try dsimp only at H
          by_cases lT : oy = true
          ·subst lT
           rw [if_pos rfl] at H
           obtain ⟨ox, A42, H⟩ := oA_ H
           try dsimp only at H
           first | (cases H.trans (congrArg some HRT.out); done) | skip
           all_goals
            obtain rfl := sI H
            have hnb43 := cU.out
            have hnc43 := dc.out
            have hnb44 := dd.out
            have hnc44 := dq.out
            obtain ⟨hcz45_0, hfz45_0⟩ := cc1 bK.out
            go_wp2_with (first | ((with_reducible refine aJ (f := 30) rfl ?_); refine aQ (some 64) rfl rfl Try.func30 z0 rfl #[.agg #[.slice co bQ.length ce]] rfl z17 ?_; (with_reducible refine (impl_PiecesOf.calls kj7 _ _ bQ jt true _ ?side1 ?side2 pe.out).mono ?_); (case side1 => exact y33); (case side2 => exact (ai bm.out).2.1); rintro e w46 ⟨v400, rfl, ho0, hb⟩; refine ⟨_, rfl, ?_⟩; replace bm := aM (ag z6 hb); replace bf := aM (ag z7 hb); replace bG := aM (ag z8 hb); have ci := aM (aV ho0 (aA z27)); replace bK := aM (bK_ bK.out hb); replace bI := aM (bK_ bI.out hb); replace bT := aM (bK_ bT.out hb); replace HB := aM (az z27 hb); (try clear hb); (try clear ho0); have hnb47 := cT.out; have hnc47 := db.out; obtain ⟨hcz48_0, hfz48_0⟩ := cc1 bI.out) | ((with_reducible refine aJ (f := 30) rfl ?_); refine aQ (some 69) rfl rfl Try.func30 z0 rfl #[.agg #[.slice b7 bX.length b6]] rfl z17 ?_; (with_reducible refine (impl_PiecesOf.calls kj7 _ _ bX js true _ ?side1 ?side2 pd.out).mono ?_); (case side1 => exact y34); (case side2 => exact y28); rintro e w49 ⟨v404, rfl, ho0, hb⟩; refine ⟨_, rfl, ?_⟩; replace bm := aM (ag z6 hb); replace bf := aM (ag z7 hb); replace bG := aM (ag z8 hb); have cx := aM (aV (ak ho0 (Kd.R_lt z4)) (aA z27)); replace ci := aM (aj z4 (al ho0) hb); replace bK := aM (bK_ bK.out hb); replace bI := aM (bK_ bI.out hb); replace bT := aM (bK_ bT.out hb); replace HB := aM (az z27 hb); (try clear hb); (try clear ho0); obtain ⟨hcz50_0, hfz50_0⟩ := cc1 bI.out) | ((with_reducible refine aJ (f := 22) rfl ?_); refine aQ (some 74) rfl rfl Try.func22 z0 rfl #[.agg #[.slice b7 bX.length b6]] rfl z17 ?_; (with_reducible refine (impl_IsBalanced.calls kj7 _ _ bX true true _ ?side1 ?side2 pb.out).mono ?_); (case side1 => exact y34); (case side2 => exact y28); rintro e w51 ⟨rfl, hb⟩; refine ⟨_, rfl, ?_⟩; replace bm := aM (ag z6 hb); replace bf := aM (ag z7 hb); replace bG := aM (ag z8 hb); replace ci := aM (ag z4 hb); replace cx := aM (ag (kR_ cx.out) hb); replace bK := aM (bK_ bK.out hb); replace bI := aM (bK_ bI.out hb); replace bT := aM (bK_ bT.out hb); replace HB := aM (az z27 hb); (try clear hb); obtain ⟨Ao52, co52, eo52⟩ := Kd.R_slice ci.out; subst eo52; obtain ⟨Ao53, co53, eo53⟩ := Kd.R_slice cx.out; subst eo53) | (go_at_call 44; (with_reducible refine (laws_sameTexts.calls kj7 _ _ jt _ _ js true _ ?side1 ?side2 ?side3 ?side4 il.out).mono ?_); (case side1 => exact y35); (case side2 => exact (ai ci.out).2.1); (case side3 => exact y36); (case side4 => exact (ai cx.out).2.1); rintro e w' ⟨rfl, ⟨nd, rfl⟩⟩; obtain ⟨hcz54_0, hfz54_0⟩ := cc1 bI.out) | (go_at_call 17; (with_reducible refine (impl_GoodRope.calls kj7 _ _ bX ox _ ?side1 ?side2 A42.out).mono ?_); (case side1 => exact y34); (case side2 => exact y28); rintro e w55 ⟨rfl, hb⟩; replace bm := aM (ag z6 hb); replace bf := aM (ag z7 hb); replace bG := aM (ag z8 hb); replace ci := aM (ag z4 hb); replace cx := aM (ag (kR_ cx.out) hb); replace bK := aM (bK_ bK.out hb); replace bI := aM (bK_ bI.out hb); replace bT := aM (bK_ bT.out hb); replace HB := aM (az z27 hb); (try clear hb)))
            go_ret
            exact ⟨y4, y16⟩
          ·replace lT := Bool.eq_false_iff.mpr lT
           subst lT
           rw [if_neg nF_] at H
           first | (cases H.trans (congrArg some HRT.out); done) | skip
           all_goals
            obtain rfl := sI H
            have hnb56 := cU.out
            have hnc56 := dc.out
            have hnb57 := dd.out
            have hnc57 := dq.out
            obtain ⟨hcz58_0, hfz58_0⟩ := cc1 bK.out
            go_wp2_with (first | ((with_reducible refine aJ (f := 30) rfl ?_); refine aQ (some 64) rfl rfl Try.func30 z0 rfl #[.agg #[.slice co bQ.length ce]] rfl z17 ?_; (with_reducible refine (impl_PiecesOf.calls kj7 _ _ bQ jt true _ ?side1 ?side2 pe.out).mono ?_); (case side1 => exact y33); (case side2 => exact (ai bm.out).2.1); rintro e w59 ⟨v400, rfl, ho0, hb⟩; refine ⟨_, rfl, ?_⟩; replace bm := aM (ag z6 hb); replace bf := aM (ag z7 hb); replace bG := aM (ag z8 hb); have ci := aM (aV ho0 (aA z27)); replace bK := aM (bK_ bK.out hb); replace bI := aM (bK_ bI.out hb); replace bT := aM (bK_ bT.out hb); replace HB := aM (az z27 hb); (try clear hb); (try clear ho0); have hnb60 := cT.out; have hnc60 := db.out; obtain ⟨hcz61_0, hfz61_0⟩ := cc1 bI.out) | ((with_reducible refine aJ (f := 30) rfl ?_); refine aQ (some 69) rfl rfl Try.func30 z0 rfl #[.agg #[.slice b7 bX.length b6]] rfl z17 ?_; (with_reducible refine (impl_PiecesOf.calls kj7 _ _ bX js true _ ?side1 ?side2 pd.out).mono ?_); (case side1 => exact y34); (case side2 => exact y28); rintro e w62 ⟨v404, rfl, ho0, hb⟩; refine ⟨_, rfl, ?_⟩; replace bm := aM (ag z6 hb); replace bf := aM (ag z7 hb); replace bG := aM (ag z8 hb); have cx := aM (aV (ak ho0 (Kd.R_lt z4)) (aA z27)); replace ci := aM (aj z4 (al ho0) hb); replace bK := aM (bK_ bK.out hb); replace bI := aM (bK_ bI.out hb); replace bT := aM (bK_ bT.out hb); replace HB := aM (az z27 hb); (try clear hb); (try clear ho0); obtain ⟨hcz63_0, hfz63_0⟩ := cc1 bI.out) | ((with_reducible refine aJ (f := 22) rfl ?_); refine aQ (some 74) rfl rfl Try.func22 z0 rfl #[.agg #[.slice b7 bX.length b6]] rfl z17 ?_; (with_reducible refine (impl_IsBalanced.calls kj7 _ _ bX true true _ ?side1 ?side2 pb.out).mono ?_); (case side1 => exact y34); (case side2 => exact y28); rintro e w64 ⟨rfl, hb⟩; refine ⟨_, rfl, ?_⟩; replace bm := aM (ag z6 hb); replace bf := aM (ag z7 hb); replace bG := aM (ag z8 hb); replace ci := aM (ag z4 hb); replace cx := aM (ag (kR_ cx.out) hb); replace bK := aM (bK_ bK.out hb); replace bI := aM (bK_ bI.out hb); replace bT := aM (bK_ bT.out hb); replace HB := aM (az z27 hb); (try clear hb); obtain ⟨Ao65, co65, eo65⟩ := Kd.R_slice ci.out; subst eo65; obtain ⟨qb, pT, eo66⟩ := Kd.R_slice cx.out; subst eo66) | (go_at_call 44; (with_reducible refine (laws_sameTexts.calls kj7 _ _ jt _ _ js false _ ?side1 ?side2 ?side3 ?side4 il.out).mono ?_); (case side1 => exact y35); (case side2 => exact (ai ci.out).2.1); (case side3 => exact y36); (case side4 => exact (ai cx.out).2.1); rintro e w' ⟨rfl, ⟨nd, rfl⟩⟩))
            go_ret
            exact ⟨y4, y16⟩
         ·replace ni := Bool.eq_false_iff.mpr ni
          subst ni
          rw [if_neg nF_] at H
          first | (cases H.trans (congrArg some HRT.out); done) | skip
          all_goals
           obtain rfl := sI H
           have hnb67 := cU.out
           have hnc67 := dc.out
           have hnb68 := dd.out
           have hnc68 := dq.out
           obtain ⟨hcz69_0, hfz69_0⟩ := cc1 bK.out
           go_wp2_with (first | ((with_reducible refine aJ (f := 30) rfl ?_); refine aQ (some 64) rfl rfl Try.func30 z0 rfl #[.agg #[.slice co bQ.length ce]] rfl z17 ?_; (with_reducible refine (impl_PiecesOf.calls kj7 _ _ bQ jt true _ ?side1 ?side2 pe.out).mono ?_); (case side1 => exact y33); (case side2 => exact (ai bm.out).2.1); rintro e w70 ⟨v400, rfl, ho0, hb⟩; refine ⟨_, rfl, ?_⟩; replace bm := aM (ag z6 hb); replace bf := aM (ag z7 hb); replace bG := aM (ag z8 hb); have ci := aM (aV ho0 (aA z27)); replace bK := aM (bK_ bK.out hb); replace bI := aM (bK_ bI.out hb); replace bT := aM (bK_ bT.out hb); replace HB := aM (az z27 hb); (try clear hb); (try clear ho0); have hnb71 := cT.out; have hnc71 := db.out; obtain ⟨hcz72_0, hfz72_0⟩ := cc1 bI.out) | ((with_reducible refine aJ (f := 30) rfl ?_); refine aQ (some 69) rfl rfl Try.func30 z0 rfl #[.agg #[.slice b7 bX.length b6]] rfl z17 ?_; (with_reducible refine (impl_PiecesOf.calls kj7 _ _ bX js true _ ?side1 ?side2 pd.out).mono ?_); (case side1 => exact y34); (case side2 => exact y28); rintro e w73 ⟨v404, rfl, ho0, hb⟩; refine ⟨_, rfl, ?_⟩; replace bm := aM (ag z6 hb); replace bf := aM (ag z7 hb); replace bG := aM (ag z8 hb); have cx := aM (aV (ak ho0 (Kd.R_lt z4)) (aA z27)); replace ci := aM (aj z4 (al ho0) hb); replace bK := aM (bK_ bK.out hb); replace bI := aM (bK_ bI.out hb); replace bT := aM (bK_ bT.out hb); replace HB := aM (az z27 hb); (try clear hb); (try clear ho0); obtain ⟨hcz74_0, hfz74_0⟩ := cc1 bI.out) | ((with_reducible refine aJ (f := 22) rfl ?_); refine aQ (some 74) rfl rfl Try.func22 z0 rfl #[.agg #[.slice b7 bX.length b6]] rfl z17 ?_; (with_reducible refine (impl_IsBalanced.calls kj7 _ _ bX false true _ ?side1 ?side2 pb.out).mono ?_); (case side1 => exact y34); (case side2 => exact y28); rintro e w75 ⟨rfl, hb⟩; refine ⟨_, rfl, ?_⟩; replace bm := aM (ag z6 hb); replace bf := aM (ag z7 hb); replace bG := aM (ag z8 hb); replace ci := aM (ag z4 hb); replace cx := aM (ag (kR_ cx.out) hb); replace bK := aM (bK_ bK.out hb); replace bI := aM (bK_ bI.out hb); replace bT := aM (bK_ bT.out hb); replace HB := aM (az z27 hb); (try clear hb)))
           go_ret
           exact ⟨y4, y16⟩
        ·replace nj := Bool.eq_false_iff.mpr nj
         subst nj
         rw [if_neg nF_] at H
         first | (cases H.trans (congrArg some HRT.out); done) | skip
         all_goals
          obtain rfl := sI H
          have hnb76 := cU.out
          have hnc76 := dc.out
          have hnb77 := dd.out
          have hnc77 := dq.out
          obtain ⟨hcz78_0, hfz78_0⟩ := cc1 bK.out
          go_wp2_with (first | ((with_reducible refine aJ (f := 30) rfl ?_); refine aQ (some 64) rfl rfl Try.func30 z0 rfl #[.agg #[.slice co bQ.length ce]] rfl z17 ?_; (with_reducible refine (impl_PiecesOf.calls kj7 _ _ bQ jt true _ ?side1 ?side2 pe.out).mono ?_); (case side1 => exact y33); (case side2 => exact (ai bm.out).2.1); rintro e w79 ⟨v400, rfl, ho0, hb⟩; refine ⟨_, rfl, ?_⟩; replace bm := aM (ag z6 hb); replace bf := aM (ag z7 hb); replace bG := aM (ag z8 hb); have ci := aM (aV ho0 (aA z27)); replace bK := aM (bK_ bK.out hb); replace bI := aM (bK_ bI.out hb); replace bT := aM (bK_ bT.out hb); replace HB := aM (az z27 hb); (try clear hb); (try clear ho0); have hnb80 := cT.out; have hnc80 := db.out; obtain ⟨hcz81_0, hfz81_0⟩ := cc1 bI.out) | ((with_reducible refine aJ (f := 30) rfl ?_); refine aQ (some 69) rfl rfl Try.func30 z0 rfl #[.agg #[.slice b7 bX.length b6]] rfl z17 ?_; (with_reducible refine (impl_PiecesOf.calls kj7 _ _ bX js true _ ?side1 ?side2 pd.out).mono ?_); (case side1 => exact y34); (case side2 => exact y28); rintro e w82 ⟨v404, rfl, ho0, hb⟩; refine ⟨_, rfl, ?_⟩; replace bm := aM (ag z6 hb); replace bf := aM (ag z7 hb); replace bG := aM (ag z8 hb); have cx := aM (aV (ak ho0 (Kd.R_lt z4)) (aA z27)); replace ci := aM (aj z4 (al ho0) hb); replace bK := aM (bK_ bK.out hb); replace bI := aM (bK_ bI.out hb); replace bT := aM (bK_ bT.out hb); replace HB := aM (az z27 hb); (try clear hb); (try clear ho0); obtain ⟨hcz83_0, hfz83_0⟩ := cc1 bI.out) | ((with_reducible refine aJ (f := 22) rfl ?_); refine aQ (some 74) rfl rfl Try.func22 z0 rfl #[.agg #[.slice b7 bX.length b6]] rfl z17 ?_; (with_reducible refine (impl_IsBalanced.calls kj7 _ _ bX mY false _ ?side1 ?side2 pb.out).mono ?_); (case side1 => exact y34); (case side2 => exact y28); rintro e w84 ⟨rfl, hb⟩; refine ⟨_, rfl, ?_⟩; replace bm := aM (ag z6 hb); replace bf := aM (ag z7 hb); replace bG := aM (ag z8 hb); replace ci := aM (ag z4 hb); replace cx := aM (ag (kR_ cx.out) hb); replace bK := aM (bK_ bK.out hb); replace bI := aM (bK_ bI.out hb); replace bT := aM (bK_ bT.out hb); replace HB := aM (az z27 hb); (try clear hb)))
          go_ret
          exact ⟨y4, y16⟩
       ·replace nk := Bool.eq_false_iff.mpr nk
        subst nk
        rw [if_neg nF_] at H
        first | (cases H.trans (congrArg some HRT.out); done) | skip
        all_goals
         obtain rfl := sI H
         have hnb85 := cU.out
         have hnc85 := dc.out
         have hnb86 := dd.out
         have hnc86 := dq.out
         obtain ⟨hcz87_0, hfz87_0⟩ := cc1 bK.out
         go_wp2_with (first | ((with_reducible refine aJ (f := 30) rfl ?_); refine aQ (some 64) rfl rfl Try.func30 z0 rfl #[.agg #[.slice co bQ.length ce]] rfl z17 ?_; (with_reducible refine (impl_PiecesOf.calls kj7 _ _ bQ jt true _ ?side1 ?side2 pe.out).mono ?_); (case side1 => exact y33); (case side2 => exact (ai bm.out).2.1); rintro e w88 ⟨v400, rfl, ho0, hb⟩; refine ⟨_, rfl, ?_⟩; replace bm := aM (ag z6 hb); replace bf := aM (ag z7 hb); replace bG := aM (ag z8 hb); have ci := aM (aV ho0 (aA z27)); replace bK := aM (bK_ bK.out hb); replace bI := aM (bK_ bI.out hb); replace bT := aM (bK_ bT.out hb); replace HB := aM (az z27 hb); (try clear hb); (try clear ho0); have hnb89 := cT.out; have hnc89 := db.out; obtain ⟨hcz90_0, hfz90_0⟩ := cc1 bI.out) | ((with_reducible refine aJ (f := 30) rfl ?_); refine aQ (some 69) rfl rfl Try.func30 z0 rfl #[.agg #[.slice b7 bX.length b6]] rfl z17 ?_; (with_reducible refine (impl_PiecesOf.calls kj7 _ _ bX js false _ ?side1 ?side2 pd.out).mono ?_); (case side1 => exact y34); (case side2 => exact y28); rintro e w91 ⟨v404, rfl, ho0, hb⟩; refine ⟨_, rfl, ?_⟩; replace bm := aM (ag z6 hb); replace bf := aM (ag z7 hb); replace bG := aM (ag z8 hb); have cx := aM (aV (ak ho0 (Kd.R_lt z4)) (aA z27)); replace ci := aM (aj z4 (al ho0) hb); replace bK := aM (bK_ bK.out hb); replace bI := aM (bK_ bI.out hb); replace bT := aM (bK_ bT.out hb); replace HB := aM (az z27 hb); (try clear hb); (try clear ho0); obtain ⟨hcz92_0, hfz92_0⟩ := cc1 bI.out) | ((with_reducible refine aJ (f := 22) rfl ?_); refine aQ (some 74) rfl rfl Try.func22 z0 rfl #[.agg #[.slice b7 bX.length b6]] rfl z17 ?_; (with_reducible refine (impl_IsBalanced.calls kj7 _ _ bX mY oz _ ?side1 ?side2 pb.out).mono ?_); (case side1 => exact y34); (case side2 => exact y28); rintro e w93 ⟨rfl, hb⟩; refine ⟨_, rfl, ?_⟩; replace bm := aM (ag z6 hb); replace bf := aM (ag z7 hb); replace bG := aM (ag z8 hb); replace ci := aM (ag z4 hb); replace cx := aM (ag (kR_ cx.out) hb); replace bK := aM (bK_ bK.out hb); replace bI := aM (bK_ bI.out hb); replace bT := aM (bK_ bT.out hb); replace HB := aM (az z27 hb); (try clear hb)))
         go_ret
         exact ⟨y4, y16⟩
      ·replace nl := Bool.eq_false_iff.mpr nl
       subst nl
       rw [if_neg nF_] at H
       first | (cases H.trans (congrArg some HRT.out); done) | skip
       all_goals
        obtain rfl := sI H
        have hnb94 := cU.out
        have hnc94 := dc.out
        have hnb95 := dd.out
        have hnc95 := dq.out
        obtain ⟨hcz96_0, hfz96_0⟩ := cc1 bK.out
        go_wp2_with (first | ((with_reducible refine aJ (f := 30) rfl ?_); refine aQ (some 64) rfl rfl Try.func30 z0 rfl #[.agg #[.slice co bQ.length ce]] rfl z17 ?_; (with_reducible refine (impl_PiecesOf.calls kj7 _ _ bQ jt false _ ?side1 ?side2 pe.out).mono ?_); (case side1 => exact y33); (case side2 => exact (ai bm.out).2.1); rintro e w97 ⟨v400, rfl, ho0, hb⟩; refine ⟨_, rfl, ?_⟩; replace bm := aM (ag z6 hb); replace bf := aM (ag z7 hb); replace bG := aM (ag z8 hb); have ci := aM (aV ho0 (aA z27)); replace bK := aM (bK_ bK.out hb); replace bI := aM (bK_ bI.out hb); replace bT := aM (bK_ bT.out hb); replace HB := aM (az z27 hb); (try clear hb); (try clear ho0); have hnb98 := cT.out; have hnc98 := db.out; obtain ⟨hcz99_0, hfz99_0⟩ := cc1 bI.out) | ((with_reducible refine aJ (f := 30) rfl ?_); refine aQ (some 69) rfl rfl Try.func30 z0 rfl #[.agg #[.slice b7 bX.length b6]] rfl z17 ?_; (with_reducible refine (impl_PiecesOf.calls kj7 _ _ bX js pg _ ?side1 ?side2 pd.out).mono ?_); (case side1 => exact y34); (case side2 => exact y28); rintro e w100 ⟨v404, rfl, ho0, hb⟩; refine ⟨_, rfl, ?_⟩; replace bm := aM (ag z6 hb); replace bf := aM (ag z7 hb); replace bG := aM (ag z8 hb); have cx := aM (aV (ak ho0 (Kd.R_lt z4)) (aA z27)); replace ci := aM (aj z4 (al ho0) hb); replace bK := aM (bK_ bK.out hb); replace bI := aM (bK_ bI.out hb); replace bT := aM (bK_ bT.out hb); replace HB := aM (az z27 hb); (try clear hb); (try clear ho0); obtain ⟨hcz101_0, hfz101_0⟩ := cc1 bI.out) | ((with_reducible refine aJ (f := 22) rfl ?_); refine aQ (some 74) rfl rfl Try.func22 z0 rfl #[.agg #[.slice b7 bX.length b6]] rfl z17 ?_; (with_reducible refine (impl_IsBalanced.calls kj7 _ _ bX mY oz _ ?side1 ?side2 pb.out).mono ?_); (case side1 => exact y34); (case side2 => exact y28); rintro e w102 ⟨rfl, hb⟩; refine ⟨_, rfl, ?_⟩; replace bm := aM (ag z6 hb); replace bf := aM (ag z7 hb); replace bG := aM (ag z8 hb); replace ci := aM (ag z4 hb); replace cx := aM (ag (kR_ cx.out) hb); replace bK := aM (bK_ bK.out hb); replace bI := aM (bK_ bI.out hb); replace bT := aM (bK_ bT.out hb); replace HB := aM (az z27 hb); (try clear hb)))
        go_ret
        exact ⟨y4, y16⟩
     ·replace qB := Bool.eq_false_iff.mpr qB
      subst qB
      rw [if_neg nF_] at H
      first | (cases H.trans (congrArg some HRT.out); done) | skip
      all_goals
       obtain rfl := sI H
       have hnb103 := dc.out
       have hnc103 := cU.out
       have hnb104 := cT.out
       have hnc104 := db.out
       obtain ⟨hcz105_0, hfz105_0⟩ := cc1 bI.out
       go_wp2
       go_ret
       exact ⟨y4, y16⟩

/-- THE ONE PURE STATEMENT of laws_FnBalanced: yours. -/
def laws_FnBalanced.Pure : Prop := ∀ (l0 : List Int), l0.length ≤ maxLen → l0.length * 1 ≤ 140737488351232 → (∀ x ∈ l0, (Lit.int .u8 x).wf = true) → ∃ k, laws_FnBalanced.f k l0 = some true
theorem laws_FnBalanced.walk (P : laws_FnBalanced.Pure) (a0 : Option Addr) (len0 cap0 : Nat) (z0 : List Int) (w : World) (w0 : (a0 = none ∧ len0 = 0 ∧ cap0 = 0 ∧ z0 = []) ∨ ∃ x, a0 = some x ∧ len0 ≤ cap0 ∧ cap0 ≤ maxLen ∧ z0.length = cap0 ∧ (∀ i, i < z0.length → w.cell? (x.add i) = some (.int .u8 (z0.getD i 0))) ∧ ∀ n ∈ z0, (Lit.int .u8 n).wf = true) (y0 : len0 * 1 ≤ 140737488351232) :
  Calls Try.prog 13 #[.slice a0 len0 cap0] w fun e w' => e = .returned (.bool true) ∧ Below w.heap.size w w' := by
 obtain ⟨l0, rfl, hr0, hm0, hw0, hc0⟩ := ReadsInt.ofRowC w0
 obtain ⟨k, h⟩ := P l0 hm0 y0 hw0
 refine (laws_FnBalanced.calls k _ _ l0 true ⟨rfl⟩ w (Kd.C_of_reads (d := (0 : Int)) (h1 := fun _ => rfl) hr0) hc0 h).mono ?_
 rintro e w' ⟨rfl, hd⟩
 exact ⟨rfl, hd⟩

end Go.Proofs.Ytmkenlejdaphnaa.AFnBalanced
