-- this session's own text: written by wip/tools/ownprint.py over the kit's print
import Derived.Test.YtmkenlejdaphnaaAFnRopesx0
import Derived.Test.YtmkenlejdaphnaaAFnRopesx2
namespace Go.Proofs.Ytmkenlejdaphnaa.AFnRopes
open Go.RowKit Go.Proofs.YtmkenlejdaphnaaW.PrintWords Go.Proofs.YtmkenlejdaphnaaW.PrintLast Go.Proofs.YtmkenlejdaphnaaW.PrintMore
attribute [local go_sem] max2_int min2_int max_two min_two max_three min_three max_four min_four   -- for this text's walks alone
set_option linter.unusedVariables false
set_option linter.unusedSimpArgs false

/-! ### spec_GoodRope: function 15 -/
def spec_GoodRope.f (k : Nat) (l0_0 : List (S58)) : Option (Bool) := if (l0_0.length : Int) = 0 then (some true) else (if (l0_0.length : Int) ≤ 200 then ((spec_l12First.f k l0_0 (wrap64 ((l0_0.length : Int) - 1))).bind fun iT => (if iT = 0 then (if 0 ≤ (wrap64 ((l0_0.length : Int) - 1)) then (if (wrap64 ((l0_0.length : Int) - 1)) < (l0_0.length : Int) then (some (decide (((rd_T58 l0_0 (wrap64 ((l0_0.length : Int) - 1))).f3) ≤ 300))) else (none)) else (none)) else (some false))) else (some false))
theorem spec_GoodRope.mono : ∀ a0 k, LeO (spec_GoodRope.f k a0) (spec_GoodRope.f (k + 1) a0) := by
 intro a0 k
 unfold spec_GoodRope.f
 repeat' first
   | (with_reducible exact spec_l12First.mono _ _ _)
   | (with_reducible exact LeO.refl _)
   | (with_reducible exact LeO.none _)
   | (with_reducible refine LeO.ite ?_ ?_)
   | (with_reducible refine LeO.bind ?_ (fun _ => ?_))
set_option maxHeartbeats 8000000 in
set_option maxRecDepth 100000 in
theorem spec_GoodRope.calls (k : Nat) (ce : Option Addr) (ci : Nat) (l0_0 : List (S58)) (r : Bool) (w : World) (hr0_0 : Kd.C k58 w ce l0_0.length l0_0) (hc0_0 : l0_0.length ≤ ci) (h : spec_GoodRope.f k l0_0 = some r) :
  Calls Try.prog 15 #[.agg #[.slice ce l0_0.length ci]] w fun e w' => e = .returned (.bool r) ∧ Below w.heap.size w w' := by
 have hu29 := Try.underlying29
 have o3 := aM hr0_0
 have qk := aM hc0_0
 clear hr0_0 hc0_0
 have HB := aM (Below.refl w.heap.size w)
 have H : (if (l0_0.length : Int) = 0 then (some true) else (if (l0_0.length : Int) ≤ 200 then ((spec_l12First.f k l0_0 (wrap64 ((l0_0.length : Int) - 1))).bind fun iT => (if iT = 0 then (if 0 ≤ (wrap64 ((l0_0.length : Int) - 1)) then (if (wrap64 ((l0_0.length : Int) - 1)) < (l0_0.length : Int) then (some (decide (((rd_T58 l0_0 (wrap64 ((l0_0.length : Int) - 1))).f3) ≤ 300))) else (none)) else (none)) else (some false))) else (some false))) = some r := h
 clear h
 by_cases c2 : (l0_0.length : Int) = 0
 ·rw [if_pos c2] at H
  have c2b0 : ((l0_0.length : Int) == 0) = true := qT c2
  have c2b1 : ((l0_0.length : Int) != 0) = false := nF c2
  clear c2
  obtain rfl := sI H
  go_enter Try.func15, Try.ntmps15
  go_wp2_with (first | ((with_reducible refine aN (N := 1) rfl ?_); refine aQ ?hg (N := 1) ?hd (cs := #[.slice ce l0_0.length ci]) (t := 29) ?hr ?_; (case hd => rfl); (case hg => rfl); (case hr => first | (go_simp; done) | (go_simp; rfl)); intro eU hg w3 hbox hb; have eP := aM (hbox); have o6 := aM ((by rw [hg]; exact (aC z20) : w.heap.size ≤ eU)); have g7 := aM ((by rw [hg]; exact (aC z20) : w.heap.size ≤ eU)); replace HB := aM (aA z20 hb); clear hb hbox hg; obtain ⟨hcz4_0, hfz4_0⟩ := cc1 eP.out))
  go_ret
  exact ⟨y4, by repeat (first | (with_reducible first | exact HB.out | apply bA | apply pD | apply bD | refine az ?_ g7.out) | exact HB.out)⟩
 ·rw [if_neg c2] at H
  have c2b0 : ((l0_0.length : Int) == 0) = false := qF c2
  have c2b1 : ((l0_0.length : Int) != 0) = true := nT c2
  have c2b2 : ¬ (l0_0 = []) := fun h_ => c2 (by rw [h_]; rfl)
  by_cases c5 : (l0_0.length : Int) ≤ 200
  ·rw [if_pos c5] at H
   have c5b0 : decide ((l0_0.length : Int) ≤ 200) = true := dT c5
   have c5b1 : decide (l0_0.length ≤ 200) = true := dT (by omega)
   clear c5
   obtain ⟨iT, A6, H⟩ := oA_ H
   try dsimp only at H
   by_cases c7 : iT = 0
   ·rw [if_pos c7] at H
    have c7b0 : (iT == 0) = true := qT c7
    have c7b1 : (iT != 0) = false := nF c7
    clear c7
    obtain ⟨nY, ox⟩ : ∃ j_ : Int, (wrap64 ((l0_0.length : Int) - 1)) = j_ := ⟨_, rfl⟩
    replace H : (if 0 ≤ (nY) then (if (nY) < (l0_0.length : Int) then (some (decide (((rd_T58 l0_0 (nY)).f3) ≤ 300))) else (none)) else (none)) = some r := by first | (rw [ox] at H; exact H) | (simp only [ox] at H ⊢; exact H)
    (try rw [ox] at A6)
    have hji8w : (IntKind.i64.wrap ((l0_0.length : Int) - 1)) = nY := (i64_w _).trans ox
    by_cases c9 : 0 ≤ (nY)
    ·rw [if_pos c9] at H
     have c9b0 : decide (0 ≤ (nY)) = true := dT c9
     clear c9
     by_cases eH : (nY) < (l0_0.length : Int)
     ·rw [if_pos eH] at H
      have c10b0 : decide ((nY) < (l0_0.length : Int)) = true := dT eH
      clear eH
      obtain rfl := sI H
      go_enter Try.func15, Try.ntmps15
      go_wp2_with (first | ((with_reducible refine aN (N := 1) rfl ?_); refine aQ ?hg (N := 1) ?hd (cs := #[.slice ce l0_0.length ci]) (t := 29) ?hr ?_; (case hd => rfl); (case hg => rfl); (case hr => first | (go_simp; done) | (go_simp; rfl)); intro eU hg w11 hbox hb; have eP := aM (hbox); have o6 := aM ((by rw [hg]; exact (aC z20) : w.heap.size ≤ eU)); have g7 := aM ((by rw [hg]; exact (aC z20) : w.heap.size ≤ eU)); replace HB := aM (aA z20 hb); clear hb hbox hg; obtain ⟨fN, fM⟩ := cc1 eP.out) | (go_at_call 46; (with_reducible refine (spec_l12First.calls k _ _ l0_0 nY iT _ ?side1 ?side2 A6.out).mono ?_); (case side1 => exact y43); (case side2 => exact qk.out); rintro e w13 ⟨rfl, hb⟩; replace eP := aM (af (g := eU) (o := .cells #[.slice ce l0_0.length ci] 29 (0, 0)) (kB_ eP.out) hb); replace HB := aM (aA (by repeat (first | (with_reducible first | exact HB.out | apply bA | apply pD | apply bD | refine az ?_ g7.out) | exact HB.out)) hb); (try clear hb); obtain ⟨hcz14_0, hfz14_0⟩ := cc1 eP.out; have p119 : 0 ≤ ((nY) : Int) := oD z3; have q119 : (nY) < (l0_0.length : Int) := oD z3; obtain ⟨ad119, e119, hx119_0, hx119_1, hx119_2, hx119_3, hx119_4⟩ := at_T58 o3.out (nY) p119 q119; cases e119; replace hx119_0 := (HB.out.cell (World.block_lt_of_cell? w _ hx119_0)).trans hx119_0; replace hx119_1 := (HB.out.cell (World.block_lt_of_cell? w _ hx119_1)).trans hx119_1; replace hx119_2 := (HB.out.cell (World.block_lt_of_cell? w _ hx119_2)).trans hx119_2; replace hx119_3 := (HB.out.cell (World.block_lt_of_cell? w _ hx119_3)).trans hx119_3; replace hx119_4 := (HB.out.cell (World.block_lt_of_cell? w _ hx119_4)).trans hx119_4; replace p119 := eq_true p119; replace q119 := eq_true q119))
      go_ret
      exact ⟨by first | rfl | (simp [errW_none, errW_some] <;> rfl) | (simp only [← ox]; first | rfl | (simp [errW_none, errW_some] <;> rfl)) | (simp [*, errW_none, errW_some] <;> rfl), by repeat (first | (with_reducible first | exact HB.out | apply bA | apply pD | apply bD | refine az ?_ g7.out) | exact HB.out)⟩
     ·rw [if_neg eH] at H
      exact absurd H (by simp)
    ·rw [if_neg c9] at H
     exact absurd H (by simp)
   ·rw [if_neg c7] at H
    have c7b0 : (iT == 0) = false := qF c7
    have c7b1 : (iT != 0) = true := nT c7
    obtain rfl := sI H
    go_enter Try.func15, Try.ntmps15
    go_wp2_with (first | ((with_reducible refine aN (N := 1) rfl ?_); refine aQ ?hg (N := 1) ?hd (cs := #[.slice ce l0_0.length ci]) (t := 29) ?hr ?_; (case hd => rfl); (case hg => rfl); (case hr => first | (go_simp; done) | (go_simp; rfl)); intro eU hg w15 hbox hb; have eP := aM (hbox); have o6 := aM ((by rw [hg]; exact (aC z20) : w.heap.size ≤ eU)); have g7 := aM ((by rw [hg]; exact (aC z20) : w.heap.size ≤ eU)); replace HB := aM (aA z20 hb); clear hb hbox hg; obtain ⟨hcz16_0, hfz16_0⟩ := cc1 eP.out) | (go_at_call 46; (with_reducible refine (spec_l12First.calls k _ _ l0_0 (wrap64 ((l0_0.length : Int) - 1)) iT _ ?side1 ?side2 A6.out).mono ?_); (case side1 => exact y43); (case side2 => exact qk.out); rintro e w17 ⟨rfl, hb⟩; replace eP := aM (af (g := eU) (o := .cells #[.slice ce l0_0.length ci] 29 (0, 0)) (kB_ eP.out) hb); replace HB := aM (aA (by repeat (first | (with_reducible first | exact HB.out | apply bA | apply pD | apply bD | refine az ?_ g7.out) | exact HB.out)) hb); (try clear hb)))
    go_ret
    exact ⟨y4, by repeat (first | (with_reducible first | exact HB.out | apply bA | apply pD | apply bD | refine az ?_ g7.out) | exact HB.out)⟩
  ·rw [if_neg c5] at H
   have c5b0 : decide ((l0_0.length : Int) ≤ 200) = false := dF c5
   have c5b1 : decide (l0_0.length ≤ 200) = false := dF (by omega)
   clear c5
   obtain rfl := sI H
   go_enter Try.func15, Try.ntmps15
   go_wp2_with (first | ((with_reducible refine aN (N := 1) rfl ?_); refine aQ ?hg (N := 1) ?hd (cs := #[.slice ce l0_0.length ci]) (t := 29) ?hr ?_; (case hd => rfl); (case hg => rfl); (case hr => first | (go_simp; done) | (go_simp; rfl)); intro eU hg w18 hbox hb; have eP := aM (hbox); have o6 := aM ((by rw [hg]; exact (aC z20) : w.heap.size ≤ eU)); have g7 := aM ((by rw [hg]; exact (aC z20) : w.heap.size ≤ eU)); replace HB := aM (aA z20 hb); clear hb hbox hg; obtain ⟨iI, iG⟩ := cc1 eP.out))
   go_ret
   exact ⟨y4, by repeat (first | (with_reducible first | exact HB.out | apply bA | apply pD | apply bD | refine az ?_ g7.out) | exact HB.out)⟩

/-! ### impl_isName: function 81 -/
def impl_isName.f (a0 : Int) : Option (Bool) := if a0 ≥ 65 then (some (decide (a0 ≤ 70))) else (some false)
set_option maxHeartbeats 8000000 in
set_option maxRecDepth 100000 in
theorem impl_isName.calls (a0 : Int) (r : Bool) (w : World) (h : impl_isName.f a0 = some r) :
  Calls Try.prog 81 #[.int .u8 a0] w fun e w' => e = .returned (.bool r) ∧ Drawn0 w w' := by
 have H : (if a0 ≥ 65 then (some (decide (a0 ≤ 70))) else (some false)) = some r := h
 clear h
 by_cases c2 : a0 ≥ 65
 ·rw [if_pos c2] at H
  have c2b0 : decide (65 ≤ a0) = true := dT c2
  clear c2
  obtain rfl := sI H
  go_enter Try.func81, Try.ntmps81
  go_wp2
  go_ret
  exact ⟨y1, y3⟩
 ·rw [if_neg c2] at H
  have c2b0 : decide (65 ≤ a0) = false := dF c2
  clear c2
  obtain rfl := sI H
  go_enter Try.func81, Try.ntmps81
  go_wp2
  go_ret
  exact ⟨y1, y3⟩

/-! ### impl_isPlain: function 82 -/
def impl_isPlain.f (a0 : Int) : Option (Bool) := if a0 ≥ 97 then (if a0 ≤ 122 then (some true) else (if a0 ≥ 48 then (if a0 ≤ 57 then (some true) else (if a0 = 32 then (some true) else (if a0 = 46 then (some true) else (some (a0 == 44))))) else (if a0 = 32 then (some true) else (if a0 = 46 then (some true) else (some (a0 == 44)))))) else (if a0 ≥ 48 then (if a0 ≤ 57 then (some true) else (if a0 = 32 then (some true) else (if a0 = 46 then (some true) else (some (a0 == 44))))) else (if a0 = 32 then (some true) else (if a0 = 46 then (some true) else (some (a0 == 44)))))
set_option maxHeartbeats 8000000 in
set_option maxRecDepth 100000 in
theorem impl_isPlain.calls (a0 : Int) (r : Bool) (w : World) (h : impl_isPlain.f a0 = some r) :
  Calls Try.prog 82 #[.int .u8 a0] w fun e w' => e = .returned (.bool r) ∧ Drawn0 w w' := by
 have H : (if a0 ≥ 97 then (if a0 ≤ 122 then (some true) else (if a0 ≥ 48 then (if a0 ≤ 57 then (some true) else (if a0 = 32 then (some true) else (if a0 = 46 then (some true) else (some (a0 == 44))))) else (if a0 = 32 then (some true) else (if a0 = 46 then (some true) else (some (a0 == 44)))))) else (if a0 ≥ 48 then (if a0 ≤ 57 then (some true) else (if a0 = 32 then (some true) else (if a0 = 46 then (some true) else (some (a0 == 44))))) else (if a0 = 32 then (some true) else (if a0 = 46 then (some true) else (some (a0 == 44)))))) = some r := h
 clear h
 by_cases c2 : a0 ≥ 97
 ·rw [if_pos c2] at H
  have c2b0 : decide (97 ≤ a0) = true := dT c2
  clear c2
  by_cases c3 : a0 ≤ 122
  ·rw [if_pos c3] at H
   have c3b0 : decide (a0 ≤ 122) = true := dT c3
   clear c3
   obtain rfl := sI H
   go_enter Try.func82, Try.ntmps82
   go_wp2
   go_ret
   exact ⟨y1, y3⟩
  ·rw [if_neg c3] at H
   have c3b0 : decide (a0 ≤ 122) = false := dF c3
   clear c3
   by_cases c4 : a0 ≥ 48
   ·rw [if_pos c4] at H
    have c4b0 : decide (48 ≤ a0) = true := dT c4
    clear c4
    by_cases c5 : a0 ≤ 57
    ·rw [if_pos c5] at H
     have c5b0 : decide (a0 ≤ 57) = true := dT c5
     clear c5
     obtain rfl := sI H
     go_enter Try.func82, Try.ntmps82
     go_wp2
     go_ret
     exact ⟨y1, y3⟩
    ·rw [if_neg c5] at H
     have c5b0 : decide (a0 ≤ 57) = false := dF c5
     clear c5
     by_cases c6 : a0 = 32
     ·rw [if_pos c6] at H
      have c6b0 : (a0 == 32) = true := qT c6
      have c6b1 : (a0 != 32) = false := nF c6
      clear c6
      obtain rfl := sI H
      go_enter Try.func82, Try.ntmps82
      go_wp2
      go_ret
      exact ⟨y1, y3⟩
     ·rw [if_neg c6] at H
      have c6b0 : (a0 == 32) = false := qF c6
      have c6b1 : (a0 != 32) = true := nT c6
      by_cases c7 : a0 = 46
      ·rw [if_pos c7] at H
       have c7b0 : (a0 == 46) = true := qT c7
       have c7b1 : (a0 != 46) = false := nF c7
       clear c7
       obtain rfl := sI H
       go_enter Try.func82, Try.ntmps82
       go_wp2
       go_ret
       exact ⟨y1, y3⟩
      ·rw [if_neg c7] at H
       have c7b0 : (a0 == 46) = false := qF c7
       have c7b1 : (a0 != 46) = true := nT c7
       obtain rfl := sI H
       go_enter Try.func82, Try.ntmps82
       go_wp2
       go_ret
       exact ⟨y1, y3⟩
   ·rw [if_neg c4] at H
    have c4b0 : decide (48 ≤ a0) = false := dF c4
    clear c4
    by_cases c8 : a0 = 32
    ·rw [if_pos c8] at H
     have c8b0 : (a0 == 32) = true := qT c8
     have c8b1 : (a0 != 32) = false := nF c8
     clear c8
     obtain rfl := sI H
     go_enter Try.func82, Try.ntmps82
     go_wp2
     go_ret
     exact ⟨y1, y3⟩
    ·rw [if_neg c8] at H
     have c8b0 : (a0 == 32) = false := qF c8
     have c8b1 : (a0 != 32) = true := nT c8
     by_cases c9 : a0 = 46
     ·rw [if_pos c9] at H
      have c9b0 : (a0 == 46) = true := qT c9
      have c9b1 : (a0 != 46) = false := nF c9
      clear c9
      obtain rfl := sI H
      go_enter Try.func82, Try.ntmps82
      go_wp2
      go_ret
      exact ⟨y1, y3⟩
     ·rw [if_neg c9] at H
      have c9b0 : (a0 == 46) = false := qF c9
      have c9b1 : (a0 != 46) = true := nT c9
      obtain rfl := sI H
      go_enter Try.func82, Try.ntmps82
      go_wp2
      go_ret
      exact ⟨y1, y3⟩
 ·rw [if_neg c2] at H
  have c2b0 : decide (97 ≤ a0) = false := dF c2
  clear c2
  by_cases eH : a0 ≥ 48
  ·rw [if_pos eH] at H
   have c10b0 : decide (48 ≤ a0) = true := dT eH
   clear eH
   by_cases e9 : a0 ≤ 57
   ·rw [if_pos e9] at H
    have c11b0 : decide (a0 ≤ 57) = true := dT e9
    clear e9
    obtain rfl := sI H
    go_enter Try.func82, Try.ntmps82
    go_wp2
    go_ret
    exact ⟨y1, y3⟩
   ·rw [if_neg e9] at H
    have c11b0 : decide (a0 ≤ 57) = false := dF e9
    clear e9
    by_cases eZ : a0 = 32
    ·rw [if_pos eZ] at H
     have c12b0 : (a0 == 32) = true := qT eZ
     have c12b1 : (a0 != 32) = false := nF eZ
     clear eZ
     obtain rfl := sI H
     go_enter Try.func82, Try.ntmps82
     go_wp2
     go_ret
     exact ⟨y1, y3⟩
    ·rw [if_neg eZ] at H
     have c12b0 : (a0 == 32) = false := qF eZ
     have c12b1 : (a0 != 32) = true := nT eZ
     by_cases fj : a0 = 46
     ·rw [if_pos fj] at H
      have c13b0 : (a0 == 46) = true := qT fj
      have c13b1 : (a0 != 46) = false := nF fj
      clear fj
      obtain rfl := sI H
      go_enter Try.func82, Try.ntmps82
      go_wp2
      go_ret
      exact ⟨y1, y3⟩
     ·rw [if_neg fj] at H
      have c13b0 : (a0 == 46) = false := qF fj
      have c13b1 : (a0 != 46) = true := nT fj
      obtain rfl := sI H
      go_enter Try.func82, Try.ntmps82
      go_wp2
      go_ret
      exact ⟨y1, y3⟩
  ·rw [if_neg eH] at H
   have c10b0 : decide (48 ≤ a0) = false := dF eH
   clear eH
   by_cases f5 : a0 = 32
   ·rw [if_pos f5] at H
    have c14b0 : (a0 == 32) = true := qT f5
    have c14b1 : (a0 != 32) = false := nF f5
    clear f5
    obtain rfl := sI H
    go_enter Try.func82, Try.ntmps82
    go_wp2
    go_ret
    exact ⟨y1, y3⟩
   ·rw [if_neg f5] at H
    have c14b0 : (a0 == 32) = false := qF f5
    have c14b1 : (a0 != 32) = true := nT f5
    by_cases fe : a0 = 46
    ·rw [if_pos fe] at H
     have c15b0 : (a0 == 46) = true := qT fe
     have c15b1 : (a0 != 46) = false := nF fe
     clear fe
     obtain rfl := sI H
     go_enter Try.func82, Try.ntmps82
     go_wp2
     go_ret
     exact ⟨y1, y3⟩
    ·rw [if_neg fe] at H
     have c15b0 : (a0 == 46) = false := qF fe
     have c15b1 : (a0 != 46) = true := nT fe
     obtain rfl := sI H
     go_enter Try.func82, Try.ntmps82
     go_wp2
     go_ret
     exact ⟨y1, y3⟩

/-! ### impl_GoodText: function 59 -/
def impl_GoodText.l0 : Nat → ByteArray → Int → Int → Option (Bool)
 | 0, _, _, _ => none
 | k + 1, x0, x5, x6 => if x6 < x5 then (if 0 ≤ x6 then (if x6 < (x0.size : Int) then ((impl_isName.f (bt x0 x6)).bind fun qX => (if qX = true then (impl_GoodText.l0 k x0 x5 (wrap64 (x6 + 1))) else ((impl_isPlain.f (bt x0 x6)).bind fun qW => (if qW = true then (impl_GoodText.l0 k x0 x5 (wrap64 (x6 + 1))) else (if (bt x0 x6) = 47 then (impl_GoodText.l0 k x0 x5 (wrap64 (x6 + 1))) else (some false)))))) else (none)) else (none)) else (some (decide ((x0.size : Int) ≤ 300)))
def impl_GoodText.f (k : Nat) (a0 : ByteArray) : Option (Bool) := impl_GoodText.l0 k a0 (a0.size : Int) 0
theorem impl_GoodText.mono_l : ∀ k, (∀ y0 y1 y2, LeO (impl_GoodText.l0 k y0 y1 y2) (impl_GoodText.l0 (k + 1) y0 y1 y2))
 | 0 => fun _ _ _ r h => by simp [impl_GoodText.l0] at h
 | k + 1 => by
  have ih0 := impl_GoodText.mono_l k
  ·intro y0 y1 y2
   unfold impl_GoodText.l0
   repeat' first
   | (with_reducible exact ih0 _ _ _)
   | (with_reducible exact LeO.refl _)
   | (with_reducible exact LeO.none _)
   | (with_reducible refine LeO.ite ?_ ?_)
   | (with_reducible refine LeO.bind ?_ (fun _ => ?_))
theorem impl_GoodText.mono : ∀ a0 k, LeO (impl_GoodText.f k a0) (impl_GoodText.f (k + 1) a0) := by
 intro a0 k
 have ih0 := impl_GoodText.mono_l k
 unfold impl_GoodText.f
 repeat' first
   | (with_reducible exact ih0 _ _ _)
   | (with_reducible exact LeO.refl _)
   | (with_reducible exact LeO.none _)
   | (with_reducible refine LeO.ite ?_ ?_)
   | (with_reducible refine LeO.bind ?_ (fun _ => ?_))
set_option maxHeartbeats 8000000 in
set_option maxRecDepth 100000 in
theorem impl_GoodText.calls (k : Nat) (a0 : ByteArray) (r : Bool) (w : World) (h : impl_GoodText.f k a0 = some r) :
  Calls Try.prog 59 #[.string a0] w fun e w' => e = .returned (.bool r) ∧ Drawn0 w w' := by
 have H : (impl_GoodText.l0 k a0 (a0.size : Int) 0) = some r := h
 clear h
 have H' := aM H
 clear H
 go_enter Try.func59, Try.ntmps59
 go_wp2
 go_loopg [6] k (fun kq v6 w' => ∃ (x6_1 : Int), v6 = .int .i64 x6_1 ∧ Aside0 (impl_GoodText.l0 kq a0 (a0.size : Int) x6_1 = some r) ∧ Aside0 (kq ≤ k) ∧ Drawn0 w w')
 case atStart => exact ⟨(0), z2, H', ⟨Nat.le_refl _⟩, y3⟩
 case round =>
  clear H'
  obtain ⟨x6_1, rfl, HA, HK1, ⟨m1, rfl⟩⟩ := hrel
  cases gk with
  | zero => exact absurd HA.out (by simp [impl_GoodText.l0])
  | succ k1 =>
   have H := HA.out
   clear HA
   simp only [impl_GoodText.l0] at H
   by_cases c2 : x6_1 < (a0.size : Int)
   ·rw [if_pos c2] at H
    have c2b0 : decide (x6_1 < (a0.size : Int)) = true := dT c2
    clear c2
    by_cases c3 : 0 ≤ x6_1
    ·rw [if_pos c3] at H
     have c3b0 : decide (0 ≤ x6_1) = true := dT c3
     clear c3
     by_cases c4 : x6_1 < (a0.size : Int)
     ·rw [if_pos c4] at H
      have c4b0 : decide (x6_1 < (a0.size : Int)) = true := dT c4
      clear c4
      obtain ⟨qX, A6, H⟩ := oA_ H
      try dsimp only at H
      by_cases c7 : qX = true
      ·subst c7
       rw [if_pos rfl] at H
       have H' := aM H
       clear H
       have p5 : 0 ≤ (x6_1 : Int) := oD z3
       have q5 : x6_1 < (a0.size : Int) := oD z3
       have hx5 := bt_at a0 x6_1
       replace p5 := eq_true p5
       replace q5 := eq_true q5
       go_wp2_with (first | ((with_reducible refine aK (f := 81) rfl ?_); refine aT (some 12) rfl rfl Try.func81 z1 rfl #[.int .u8 (bt a0 x6_1)] rfl z21 ?_; (with_reducible refine (impl_isName.calls (bt a0 x6_1) true _ A6.out).mono ?_); rintro e w' ⟨rfl, ⟨nd, rfl⟩⟩; refine ⟨_, rfl, ?_⟩))
       go_roundg k1
       case measure => have := HK1.out; omega
       case rel => exact ⟨(wrap64 (x6_1 + 1)), z2, H', ⟨y0⟩, y3⟩
      ·replace c7 := Bool.eq_false_iff.mpr c7
       subst c7
       rw [if_neg nF_] at H
       obtain ⟨qW, A9, H⟩ := oA_ H
       try dsimp only at H
       by_cases eH : qW = true
       ·subst eH
        rw [if_pos rfl] at H
        have H' := aM H
        clear H
        have p5 : 0 ≤ (x6_1 : Int) := oD z3
        have q5 : x6_1 < (a0.size : Int) := oD z3
        have hx5 := bt_at a0 x6_1
        replace p5 := eq_true p5
        replace q5 := eq_true q5
        go_wp2_with (first | ((with_reducible refine aK (f := 81) rfl ?_); refine aT (some 12) rfl rfl Try.func81 z1 rfl #[.int .u8 (bt a0 x6_1)] rfl z21 ?_; (with_reducible refine (impl_isName.calls (bt a0 x6_1) false _ A6.out).mono ?_); rintro e w' ⟨rfl, ⟨nd, rfl⟩⟩; refine ⟨_, rfl, ?_⟩; have p8 : 0 ≤ (x6_1 : Int) := oD z3; have q8 : x6_1 < (a0.size : Int) := oD z3; have hx8 := bt_at a0 x6_1; replace p8 := eq_true p8; replace q8 := eq_true q8) | (go_at_call 82; (with_reducible refine (impl_isPlain.calls (bt a0 x6_1) true _ A9.out).mono ?_); rintro e w' ⟨rfl, ⟨nd, rfl⟩⟩))
        go_roundg k1
        case measure => have := HK1.out; omega
        case rel => exact ⟨(wrap64 (x6_1 + 1)), z2, H', ⟨y0⟩, y3⟩
       ·replace eH := Bool.eq_false_iff.mpr eH
        subst eH
        rw [if_neg nF_] at H
        by_cases eZ : (bt a0 x6_1) = 47
        ·rw [if_pos eZ] at H
         have c12b0 : ((bt a0 x6_1) == 47) = true := qT eZ
         have c12b1 : ((bt a0 x6_1) != 47) = false := nF eZ
         clear eZ
         have H' := aM H
         clear H
         have p5 : 0 ≤ (x6_1 : Int) := oD z3
         have q5 : x6_1 < (a0.size : Int) := oD z3
         have hx5 := bt_at a0 x6_1
         replace p5 := eq_true p5
         replace q5 := eq_true q5
         go_wp2_with (first | ((with_reducible refine aK (f := 81) rfl ?_); refine aT (some 12) rfl rfl Try.func81 z1 rfl #[.int .u8 (bt a0 x6_1)] rfl z21 ?_; (with_reducible refine (impl_isName.calls (bt a0 x6_1) false _ A6.out).mono ?_); rintro e w' ⟨rfl, ⟨nd, rfl⟩⟩; refine ⟨_, rfl, ?_⟩; have p8 : 0 ≤ (x6_1 : Int) := oD z3; have q8 : x6_1 < (a0.size : Int) := oD z3; have hx8 := bt_at a0 x6_1; replace p8 := eq_true p8; replace q8 := eq_true q8) | (go_at_call 82; (with_reducible refine (impl_isPlain.calls (bt a0 x6_1) false _ A9.out).mono ?_); rintro e w' ⟨rfl, ⟨nd, rfl⟩⟩; have p11 : 0 ≤ (x6_1 : Int) := oD z3; have q11 : x6_1 < (a0.size : Int) := oD z3; have hx11 := bt_at a0 x6_1; replace p11 := eq_true p11; replace q11 := eq_true q11))
         go_roundg k1
         case measure => have := HK1.out; omega
         case rel => exact ⟨(wrap64 (x6_1 + 1)), z2, H', ⟨y0⟩, y3⟩
        ·rw [if_neg eZ] at H
         have c12b0 : ((bt a0 x6_1) == 47) = false := qF eZ
         have c12b1 : ((bt a0 x6_1) != 47) = true := nT eZ
         obtain rfl := sI H
         have p5 : 0 ≤ (x6_1 : Int) := oD z3
         have q5 : x6_1 < (a0.size : Int) := oD z3
         have hx5 := bt_at a0 x6_1
         replace p5 := eq_true p5
         replace q5 := eq_true q5
         go_wp2_with (first | ((with_reducible refine aK (f := 81) rfl ?_); refine aT (some 12) rfl rfl Try.func81 z1 rfl #[.int .u8 (bt a0 x6_1)] rfl z21 ?_; (with_reducible refine (impl_isName.calls (bt a0 x6_1) false _ A6.out).mono ?_); rintro e w' ⟨rfl, ⟨nd, rfl⟩⟩; refine ⟨_, rfl, ?_⟩; have p8 : 0 ≤ (x6_1 : Int) := oD z3; have q8 : x6_1 < (a0.size : Int) := oD z3; have hx8 := bt_at a0 x6_1; replace p8 := eq_true p8; replace q8 := eq_true q8) | (go_at_call 82; (with_reducible refine (impl_isPlain.calls (bt a0 x6_1) false _ A9.out).mono ?_); rintro e w' ⟨rfl, ⟨nd, rfl⟩⟩; have p11 : 0 ≤ (x6_1 : Int) := oD z3; have q11 : x6_1 < (a0.size : Int) := oD z3; have hx11 := bt_at a0 x6_1; replace p11 := eq_true p11; replace q11 := eq_true q11))
         go_ret
         exact ⟨y1, y3⟩
     ·rw [if_neg c4] at H
      exact absurd H (by simp)
    ·rw [if_neg c3] at H
     exact absurd H (by simp)
   ·rw [if_neg c2] at H
    have c2b0 : decide (x6_1 < (a0.size : Int)) = false := dF c2
    clear c2
    obtain rfl := sI H
    go_wp2
    go_ret
    exact ⟨y1, y3⟩

/-! ### rope_Limb.txt, by hand -/
/-- A rope as a tree. -/
inductive Limb where
 | nil : Limb
 | node (l r : Limb) (s : ByteArray) (n d : Int) : Limb
def Limb.size : Limb → Int
 | .nil => 0
 | .node _ _ _ n _ => n
def Limb.deep : Limb → Int
 | .nil => 0
 | .node _ _ _ _ d => d
/-- The tree lies in w at A; every block of it is ok. -/
def LmAt (w : World) (ok : Nat → Prop) : Limb → Option Addr → Prop
 | .nil, A => A = none
 | .node l r s n d, A => ∃ b L R, A = some ⟨b, 0, none⟩ ∧ ok b ∧ w.heap[b]? = some (.cells #[.pointer L, .pointer R, .string s, .int .i64 n, .int .i64 d] 74 (0, 0)) ∧ LmAt w ok l L ∧ LmAt w ok r R
theorem LmAt.mono {w : World} {ok ok' : Nat → Prop} (hok : ∀ k, ok k → ok' k) : ∀ {t : Limb} {A : Option Addr}, LmAt w ok t A → LmAt w ok' t A
 | .nil, _, h => h
 | .node _ _ _ _ _, _, ⟨b, L, R, e, ho, hb, hl, hr⟩ => ⟨b, L, R, e, hok b ho, hb, hl.mono hok, hr.mono hok⟩
theorem LmAt.move {w w1 : World} {ok : Nat → Prop} (hm : ∀ k, ok k → w1.heap[k]? = w.heap[k]?) : ∀ {t : Limb} {A : Option Addr}, LmAt w ok t A → LmAt w1 ok t A
 | .nil, _, h => h
 | .node _ _ _ _ _, _, ⟨b, L, R, e, ho, hb, hl, hr⟩ => ⟨b, L, R, e, ho, (hm b ho).trans hb, hl.move hm, hr.move hm⟩
theorem LmAt.bound {w : World} {ok : Nat → Prop} : ∀ {t : Limb} {A : Option Addr}, LmAt w ok t A → LmAt w (fun k => ok k ∧ k < w.heap.size ∧ ∃ cells, w.heap[k]? = some (.cells cells 74 (0, 0))) t A
 | .nil, _, h => h
 | .node _ _ _ _ _, _, ⟨b, L, R, e, ho, hb, hl, hr⟩ => ⟨b, L, R, e, ⟨ho, ay hb, _, hb⟩, hb, hl.bound, hr.bound⟩
theorem LmAt.below {w w1 : World} {ok : Nat → Prop} {t : Limb} {A : Option Addr} (h : LmAt w ok t A) (hb : Below w.heap.size w w1) : LmAt w1 ok t A :=
 (h.bound.move (fun k hk => hb.block k hk.2.1)).mono (fun _ hk => hk.1)
theorem LmAt.kept {w w1 : World} {ok S : Nat → Prop} {t : Limb} {A : Option Addr} (h : LmAt w ok t A) (hk : Kept w w1 S) (hS : ∀ k, S k → ∀ cells, w.heap[k]? ≠ some (.cells cells 74 (0, 0))) : LmAt w1 ok t A :=
 (h.bound.move (fun k hk' => hk.2 k hk'.2.1 (fun hs => by obtain ⟨_, _, c, hc⟩ := hk'; exact hS k hs c hc))).mono (fun _ hk => hk.1)
theorem LmAt.alloc {w : World} {ok : Nat → Prop} {t : Limb} {A : Option Addr} (h : LmAt w ok t A) (o : Obj) : LmAt (w.alloc o) ok t A := h.below (bA (Below.refl _ _) o)
theorem LmAt.drew {w : World} {ok : Nat → Prop} {t : Limb} {A : Option Addr} (h : LmAt w ok t A) : LmAt w.drew ok t A := h.below (below_drew (Below.refl _ _))
theorem LmAt.drewN {w : World} {ok : Nat → Prop} {t : Limb} {A : Option Addr} (h : LmAt w ok t A) (n : Nat) : LmAt (w.drewN n) ok t A := h.below (pD (Below.refl _ _) n)
/-- A store into a block of another type. -/
theorem LmAt.set {w : World} {ok : Nat → Prop} {t : Limb} {A : Option Addr} (h : LmAt w ok t A) {g e : Nat} {cells : Array Value} (hb : w.heap[g]? = some (.cells cells e (0, 0))) (he : 74 ≠ e) (j : Nat) (u : Value) : LmAt (w.setCell ⟨g, j, none⟩ u) ok t A :=
 (h.bound.move (w1 := w.setCell ⟨g, j, none⟩ u) (fun k hk => Below.heap_setCell w ⟨g, j, none⟩ u k (fun e1 => by
  obtain ⟨_, _, c, hc⟩ := hk
  subst e1
  rw [hc] at hb
  injection hb with hb
  injection hb with _ hb
  exact he hb))).mono (fun _ hk => hk.1)
/-- A row of another type has been written. -/
theorem LmAt.grown {w w1 : World} {ok : Nat → Prop} {t : Limb} {A : Option Addr} (h : LmAt w ok t A) {v : Value} (hg : w.grownBy w1 v.ownBlock) {e : Nat} (hty : ∀ k, v.ownBlock = some k → ∃ cells, w.heap[k]? = some (.cells cells e (0, 0))) (he : 74 ≠ e) : LmAt w1 ok t A :=
 (h.bound.move (fun k hk => hg.block k hk.2.1 (fun e1 => by
  obtain ⟨_, _, c, hc⟩ := hk
  obtain ⟨c', hc'⟩ := hty k e1.symm
  rw [hc] at hc'
  injection hc' with hc'
  injection hc' with _ hc'
  exact he hc'))).mono (fun _ hk => hk.1)
theorem LmAt.nil_iff {w : World} {ok : Nat → Prop} {t : Limb} (h : LmAt w ok t none) : t = .nil := by
 cases t with
 | nil => rfl
 | node l r s n d => obtain ⟨b, L, R, e, _⟩ := h; cases e
/-- Pointers to trees, as elements of a row. -/
def kLm : Kd Limb where
 sz := 1
 E := [74]
 K := fun w x cs => ∃ A, cs = [.pointer A] ∧ LmAt w (fun _ => True) x A
 M := fun w base ok x cs => ∃ A, cs = [.pointer A] ∧ LmAt w (fun k => ok k ∧ base ≤ k) x A
 K_len := by rintro w x cs ⟨A, rfl, _⟩; rfl
 K_one := by rintro w x cs ⟨A, rfl, _⟩ u hu; rw [List.mem_singleton.1 hu]; rfl
 K_below := by rintro w w1 x cs hb ⟨A, rfl, h⟩; exact ⟨A, rfl, h.below hb⟩
 K_of_M := by rintro w base ok x cs ⟨A, rfl, h⟩; exact ⟨A, rfl, h.mono (fun _ _ => trivial)⟩
 M_mono := by rintro w base ok ok' x cs hok ⟨A, rfl, h⟩; exact ⟨A, rfl, h.mono (fun k hk => ⟨hok k hk.1, hk.2⟩)⟩
 M_bound := by rintro w base ok x cs ⟨A, rfl, h⟩; exact ⟨A, rfl, h.bound.mono (fun k hk => ⟨⟨hk.1.1, hk.1.2, hk.2.1, _, List.mem_singleton.2 rfl, hk.2.2⟩, hk.1.2⟩)⟩
 M_move := by rintro w w1 base ok x cs hm ⟨A, rfl, h⟩; exact ⟨A, rfl, h.move (fun k hk => hm k hk.1)⟩
 M_lower := by rintro w base base' ok x cs hb ⟨A, rfl, h⟩; exact ⟨A, rfl, h.mono (fun k hk => ⟨hk.1, Nat.le_trans hb hk.2⟩)⟩
def Limb.isNil : Limb → Bool
 | .nil => true
 | .node _ _ _ _ _ => false
def cnt : Limb → Nat
 | .nil => 0
 | .node l r _ _ _ => if l.isNil = true then 1 else cnt l + cnt r + 1
/-- How a row that is appended to goes on. -/
def RowTo (w w' : World) (v v' : Value) : Prop := Kept w w' (fun k => some k = v.ownBlock) ∧ (v'.ownBlock = v.ownBlock ∨ ∃ b, v'.ownBlock = some b ∧ w.heap.size ≤ b)
theorem RowTo.refl (w : World) (v : Value) : RowTo w w v v := ⟨Kept.refl _ _, .inl rfl⟩
theorem RowTo.trans {w w1 w2 : World} {v v1 v2 : Value} (h : RowTo w w1 v v1) (k : RowTo w1 w2 v1 v2) : RowTo w w2 v v2 := by
 obtain ⟨h1, h2⟩ := h
 obtain ⟨k1, k2⟩ := k
 refine ⟨h1.then_ k1 (fun b hb => ?_), ?_⟩
 ·rcases h2 with h2 | ⟨b', h2, hle⟩
  ·exact .inl (hb.trans h2)
  ·rw [h2] at hb; injection hb with hb; exact .inr (by omega)
 ·rcases k2 with k2 | ⟨b', k2, hle⟩
  ·rw [k2]; exact h2
  ·exact .inr ⟨b', k2, Nat.le_trans h1.1 hle⟩
theorem RowTo.drewN {w w' : World} {v v' : Value} (h : RowTo w w' v v') (n : Nat) : RowTo w (w'.drewN n) v v' := ⟨h.1.drewN n, h.2⟩
theorem RowTo.drew {w w' : World} {v v' : Value} (h : RowTo w w' v v') : RowTo w w'.drew v v' := ⟨h.1.drew, h.2⟩
theorem LmAt.rowTo {α : Type} {d : Kd α} {e base : Nat} {ok ok' : Nat → Prop} {w w' : World} {v v' : Value} {xs : List α} {t : Limb} {A : Option Addr} (h : LmAt w ok t A) (hr : d.R e w base ok' v xs) (he : 74 ≠ e) (hk : RowTo w w' v v') : LmAt w' ok t A :=
 h.kept hk.1 (fun k hs cells hc => by
  obtain ⟨inner, ho⟩ := Kd.R_own hr
  obtain ⟨c', hc'⟩ := own_typed ho k hs.symm
  rw [hc] at hc'
  injection hc' with hc'
  injection hc' with _ hc'
  exact he hc')
theorem RowTo.below {w0 w w' : World} {α : Type} {d : Kd α} {e : Nat} {ok : Nat → Prop} {v v' : Value} {xs : List α} (hb : Below w0.heap.size w0 w) (hr : d.R e w w0.heap.size ok v xs) (hw' : Below w0.heap.size w0 w') : Below w0.heap.size w0 w' := hw'

/-! ### impl_fork: function 69, by hand -/
def fk : Limb → Limb → Limb
 | .nil, b => b
 | .node l r s n d, .nil => .node l r s n d
 | .node l r s n d, .node l' r' s' n' d' => .node (.node l r s n d) (.node l' r' s' n' d') ⟨#[]⟩ (wrap64 (n + n')) (wrap64 (1 + max d d'))
theorem lm_cells {w : World} {ok : Nat → Prop} {l r : Limb} {s : ByteArray} {n d : Int} {A : Option Addr} (h : LmAt w ok (.node l r s n d) A) : ∃ b L R, A = some ⟨b, 0, none⟩ ∧ ok b ∧ w.heap[b]? = some (.cells #[.pointer L, .pointer R, .string s, .int .i64 n, .int .i64 d] 74 (0, 0)) ∧ LmAt w ok l L ∧ LmAt w ok r R := h
set_option maxHeartbeats 2000000 in
theorem fork_any (a b : Limb) (A B : Option Addr) (ok : Nat → Prop) (w : World) (ha : LmAt w ok a A) (hb : LmAt w ok b B) (hok : ∀ k, w.heap.size ≤ k → ok k) :
  Calls Try.prog 69 #[.pointer A, .pointer B] w fun e w' => ∃ C, e = .returned (.pointer C) ∧ LmAt w' ok (fk a b) C ∧ Below w.heap.size w w' := by
 cases a with
 | nil =>
  obtain rfl : A = none := ha
  have HB := aM hb
  clear hb
  go_enter Try.func69, Try.ntmps69
  go_wp2
  go_ret
  exact ⟨B, rfl, by show LmAt _ ok b B; exact HB.out, Below.refl _ _⟩
 | node l r s n d =>
  have HA := aM ha
  obtain ⟨p, L, R, rfl, hp, hc, hl, hr⟩ := ha
  cases b with
  | nil =>
   obtain rfl : B = none := hb
   clear hl hr hp hc
   go_enter Try.func69, Try.ntmps69
   go_wp2
   go_ret
   exact ⟨_, rfl, HA.out, Below.refl _ _⟩
  | node l' r' s' n' d' =>
   have HB := aM hb
   obtain ⟨p', L', R', rfl, hp', hc', hl', hr'⟩ := hb
   have c3 : w.cell? ⟨p, 3, none⟩ = some (.int .i64 n) := (bC hc 3).trans rfl
   have c4 : w.cell? ⟨p, 4, none⟩ = some (.int .i64 d) := (bC hc 4).trans rfl
   have c3' : w.cell? ⟨p', 3, none⟩ = some (.int .i64 n') := (bC hc' 3).trans rfl
   have c4' : w.cell? ⟨p', 4, none⟩ = some (.int .i64 d') := (bC hc' 4).trans rfl
   clear hl hr hp hc hl' hr' hp' hc'
   go_enter Try.func69, Try.ntmps69
   go_wp2
   go_region
   go_wp2
   all_goals
    go_ret
    refine ⟨_, rfl, ⟨w.heap.size, some ⟨p, 0, none⟩, some ⟨p', 0, none⟩, rfl, hok _ (Nat.le_refl _), ?_, ?_, ?_⟩, ?_⟩
    rotate_left
    ·exact (HA.out.alloc _).drew
    ·exact (HB.out.alloc _).drew
    ·exact below_drew (bA (Below.refl _ _) _)
    first | rw [Int.max_eq_left (by omega)] | rw [Int.max_eq_right (by omega)]
    exact blk_new _ _

/-! ### impl_leaf: function 78, by hand -/
def lf (s : ByteArray) : Limb := if s.toList = [] then .nil else .node .nil .nil s (s.size : Int) 0
set_option maxHeartbeats 1000000 in
theorem leaf_any (s : ByteArray) (w : World) :
  Calls Try.prog 78 #[.string s] w fun e w' => ∃ A, e = .returned (.pointer A) ∧ LmAt w' (fun k => w.heap.size ≤ k) (lf s) A ∧ Below w.heap.size w w' := by
 by_cases h : s.toList = []
 ·have e1 : s.toList.isEmpty = true := by simp [h]
  have e2 : (!s.toList.isEmpty) = false := by simp [h]
  have HL : Aside0 (lf s = .nil) := ⟨if_pos h⟩
  clear h
  go_enter Try.func78, Try.ntmps78
  go_wp2
  go_ret
  exact ⟨none, rfl, by rw [HL.out]; rfl, Below.refl _ _⟩
 ·have e1 : s.toList.isEmpty = false := by simp [h]
  have e2 : (!s.toList.isEmpty) = true := by simp [h]
  have HL : Aside0 (lf s = .node .nil .nil s (s.size : Int) 0) := ⟨if_neg h⟩
  clear h
  go_enter Try.func78, Try.ntmps78
  go_wp2
  go_ret
  exact ⟨_, rfl, by rw [HL.out]; exact ⟨_, none, none, rfl, Nat.le_refl _, blk_new _ _, rfl, rfl⟩, (Below.refl _ _).alloc (Nat.le_refl _) _⟩

end Go.Proofs.Ytmkenlejdaphnaa.AFnRopes
