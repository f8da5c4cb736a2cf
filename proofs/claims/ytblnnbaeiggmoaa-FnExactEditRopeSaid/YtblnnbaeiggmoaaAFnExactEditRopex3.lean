-- this session's own text: written by wip/tools/ownprint.py over the kit's print
import Derived.Test.YtblnnbaeiggmoaaAFnExactEditRopex0
import Derived.Test.YtblnnbaeiggmoaaAFnExactEditRopex1
import Derived.Test.YtblnnbaeiggmoaaAFnExactEditRopex2
namespace Go.Proofs.Ytblnnbaeiggmoaa.AFnExactEditRope
open Go.RowKit Go.Proofs.YtblnnbaeiggmoaaW.PrintWords Go.Proofs.YtblnnbaeiggmoaaW.PrintLast Go.Proofs.YtblnnbaeiggmoaaW.PrintMore
attribute [local go_sem] max2_int min2_int max_two min_two max_three min_three max_four min_four   -- for this text's walks alone
set_option linter.unusedVariables false
set_option linter.unusedSimpArgs false

/-! ### spec_GoodRope: function 24 -/
def spec_GoodRope.f (k : Nat) (l0_0 : List (S101)) : Option (Bool) := if (l0_0.length : Int) = 0 then (some true) else (if (l0_0.length : Int) ≤ 200 then ((spec_l12First.f k l0_0 (wrap64 ((l0_0.length : Int) - 1))).bind fun gw => (if gw = 0 then (if 0 ≤ (wrap64 ((l0_0.length : Int) - 1)) then (if (wrap64 ((l0_0.length : Int) - 1)) < (l0_0.length : Int) then (some (decide (((rd_T101 l0_0 (wrap64 ((l0_0.length : Int) - 1))).f3) ≤ 300))) else (none)) else (none)) else (some false))) else (some false))
theorem spec_GoodRope.mono : ∀ a0 k, LeO (spec_GoodRope.f k a0) (spec_GoodRope.f (k + 1) a0) := by
 intro a0 k
 unfold spec_GoodRope.f
 repeat' first
   | (with_reducible exact spec_l12First.mono _ _ _)
   | (with_reducible exact LeO.refl _)
   | (with_reducible exact LeO.none _)
   | (with_reducible refine LeO.ite ?_ ?_)
   | (with_reducible refine LeO.bind ?_ (fun _ => ?_))
   | exact spec_l12First.mono _ _ _
   | exact LeO.none _
   | refine LeO.ite ?_ ?_
   | refine LeO.bind ?_ (fun _ => ?_)
set_option maxHeartbeats 8000000 in
set_option maxRecDepth 100000 in
theorem spec_GoodRope.calls (k : Nat) (bj : Option Addr) (bk : Nat) (l0_0 : List (S101)) (r : Bool) (w : World) (hr0_0 : Kd.C k101 w bj l0_0.length l0_0) (hc0_0 : l0_0.length ≤ bk) (h : spec_GoodRope.f k l0_0 = some r) :
  Calls Try.prog 24 #[.agg #[.slice bj l0_0.length bk]] w fun e w' => e = .returned (.bool r) ∧ Below w.heap.size w w' := by
 have hu30 := Try.underlying30
 have cI := aM hr0_0
 have cM := aM hc0_0
 clear hr0_0 hc0_0
 have HB := aM (Below.refl w.heap.size w)
 have H : (if (l0_0.length : Int) = 0 then (some true) else (if (l0_0.length : Int) ≤ 200 then ((spec_l12First.f k l0_0 (wrap64 ((l0_0.length : Int) - 1))).bind fun gw => (if gw = 0 then (if 0 ≤ (wrap64 ((l0_0.length : Int) - 1)) then (if (wrap64 ((l0_0.length : Int) - 1)) < (l0_0.length : Int) then (some (decide (((rd_T101 l0_0 (wrap64 ((l0_0.length : Int) - 1))).f3) ≤ 300))) else (none)) else (none)) else (some false))) else (some false))) = some r := h
 clear h
 by_cases c2 : (l0_0.length : Int) = 0
 ·rw [if_pos c2] at H
  have c2b0 : ((l0_0.length : Int) == 0) = true := qT c2
  have c2b1 : ((l0_0.length : Int) != 0) = false := nF c2
  clear c2
  obtain rfl := sI H
  go_enter Try.func24, Try.ntmps24
  go_wp2_with (first | ((with_reducible refine aJ (N := 1) rfl ?_); refine aK ?hg (N := 1) ?hd (cs := #[.slice bj l0_0.length bk]) (t := 30) ?hr ?_; (case hd => rfl); (case hg => rfl); (case hr => first | (go_simp; done) | (go_simp; rfl)); intro df hg w3 hbox hb; have a6 := aM (ay z11 hb); have ba := aM (hbox); have bb := aM ((by rw [hg]; exact (az z11) : w.heap.size ≤ df)); have bf := aM ((by rw [hg]; exact (az z11) : w.heap.size ≤ df)); clear HB; have HB := a6; have de := ba; have lQ := bb; have fJ := bf; clear a6 ba bb bf; clear hb hbox hg; have hcz4_0 : w3.cell? ⟨df, 0, none⟩ = some (.slice bj l0_0.length bk) := (bC de.out 0).trans rfl; have hfz4_0 := bF de.out 0))
  go_ret
  exact ⟨y3, by repeat (first | (with_reducible first | exact HB.out | apply bA | apply pD | apply bD | refine ax ?_ fJ.out) | exact HB.out)⟩
 ·rw [if_neg c2] at H
  have c2b0 : ((l0_0.length : Int) == 0) = false := qF c2
  have c2b1 : ((l0_0.length : Int) != 0) = true := nT c2
  have c2b2 : ¬ (l0_0 = []) := fun h_ => c2 (by rw [h_]; rfl)
  by_cases c5 : (l0_0.length : Int) ≤ 200
  ·rw [if_pos c5] at H
   have c5b0 : decide ((l0_0.length : Int) ≤ 200) = true := dT c5
   have c5b1 : decide (l0_0.length ≤ 200) = true := dT (by omega)
   clear c5
   replace H := oB H
   obtain ⟨gw, fU, H⟩ := H
   try dsimp only at H
   have A6 := aM fU
   clear fU
   by_cases c7 : gw = 0
   ·rw [if_pos c7] at H
    have c7b0 : (gw == 0) = true := qT c7
    have c7b1 : (gw != 0) = false := nF c7
    clear c7
    obtain ⟨k5, lz⟩ : ∃ j_ : Int, (wrap64 ((l0_0.length : Int) - 1)) = j_ := ⟨_, rfl⟩
    replace H : (if 0 ≤ (k5) then (if (k5) < (l0_0.length : Int) then (some (decide (((rd_T101 l0_0 (k5)).f3) ≤ 300))) else (none)) else (none)) = some r := by first | (rw [lz] at H; exact H) | (simp only [lz] at H ⊢; exact H)
    (try rw [lz] at A6)
    have hji8w : (IntKind.i64.wrap ((l0_0.length : Int) - 1)) = k5 := (i64_w _).trans lz
    by_cases c9 : 0 ≤ (k5)
    ·rw [if_pos c9] at H
     have c9b0 : decide (0 ≤ (k5)) = true := dT c9
     clear c9
     by_cases cL : (k5) < (l0_0.length : Int)
     ·rw [if_pos cL] at H
      have c10b0 : decide ((k5) < (l0_0.length : Int)) = true := dT cL
      clear cL
      obtain rfl := sI H
      go_enter Try.func24, Try.ntmps24
      go_wp2_with (first | ((with_reducible refine aJ (N := 1) rfl ?_); refine aK ?hg (N := 1) ?hd (cs := #[.slice bj l0_0.length bk]) (t := 30) ?hr ?_; (case hd => rfl); (case hg => rfl); (case hr => first | (go_simp; done) | (go_simp; rfl)); intro df hg w11 hbox hb; have a6 := aM (ay z11 hb); have ba := aM (hbox); have bb := aM ((by rw [hg]; exact (az z11) : w.heap.size ≤ df)); have bf := aM ((by rw [hg]; exact (az z11) : w.heap.size ≤ df)); clear HB; have HB := a6; have de := ba; have lQ := bb; have fJ := bf; clear a6 ba bb bf; clear hb hbox hg; have i7 : w11.cell? ⟨df, 0, none⟩ = some (.slice bj l0_0.length bk) := (bC de.out 0).trans rfl; have iG := bF de.out 0) | (go_at_call 59; (with_reducible refine (spec_l12First.calls k _ _ l0_0 k5 gw _ ?side1 ?side2 A6.out).mono ?_); (case side1 => repeat (first | exact (aD cI.out HB.out) | (with_reducible refine aE ?_ _) | (with_reducible refine aG ?_ _) | (with_reducible refine aH ?_))); (case side2 => exact cM.out); rintro e w13 ⟨rfl, hb⟩; have a6 := aM (af (g := df) (o := .cells #[.slice bj l0_0.length bk] 30 (0, 0)) (by (with_reducible repeat (first | refine ar ?_ _ | refine aq ?_ | refine au ?_ _)); exact de.out) hb); have ba := aM (ay (by repeat (first | (with_reducible first | exact HB.out | apply bA | apply pD | apply bD | refine ax ?_ fJ.out) | exact HB.out)) hb); clear de; clear HB; have de := a6; have HB := ba; clear a6 ba; (try clear hb); (try clear hb2); (try clear hk); (try clear hi); have kI : w13.cell? ⟨df, 0, none⟩ = some (.slice bj l0_0.length bk) := (bC de.out 0).trans rfl; have kk := bF de.out 0; have p127 : 0 ≤ ((k5) : Int) := oD z2; have q127 : (k5) < (l0_0.length : Int) := oD z2; obtain ⟨ad127, e127, hx127_0, hx127_1, hx127_2, hx127_3, hx127_4⟩ := at_T101 cI.out (k5) p127 q127; cases e127; replace hx127_0 := (HB.out.cell (World.block_lt_of_cell? w _ hx127_0)).trans hx127_0; replace hx127_1 := (HB.out.cell (World.block_lt_of_cell? w _ hx127_1)).trans hx127_1; replace hx127_2 := (HB.out.cell (World.block_lt_of_cell? w _ hx127_2)).trans hx127_2; replace hx127_3 := (HB.out.cell (World.block_lt_of_cell? w _ hx127_3)).trans hx127_3; replace hx127_4 := (HB.out.cell (World.block_lt_of_cell? w _ hx127_4)).trans hx127_4; replace p127 := eq_true p127; replace q127 := eq_true q127))
      go_ret
      exact ⟨by first | rfl | (simp [errW_none, errW_some] <;> rfl) | (simp only [← lz]; first | rfl | (simp [errW_none, errW_some] <;> rfl)) | (simp [*, errW_none, errW_some] <;> rfl), by repeat (first | (with_reducible first | exact HB.out | apply bA | apply pD | apply bD | refine ax ?_ fJ.out) | exact HB.out)⟩
     ·rw [if_neg cL] at H
      exact absurd H (by simp)
    ·rw [if_neg c9] at H
     exact absurd H (by simp)
   ·rw [if_neg c7] at H
    have c7b0 : (gw == 0) = false := qF c7
    have c7b1 : (gw != 0) = true := nT c7
    obtain rfl := sI H
    go_enter Try.func24, Try.ntmps24
    go_wp2_with (first | ((with_reducible refine aJ (N := 1) rfl ?_); refine aK ?hg (N := 1) ?hd (cs := #[.slice bj l0_0.length bk]) (t := 30) ?hr ?_; (case hd => rfl); (case hg => rfl); (case hr => first | (go_simp; done) | (go_simp; rfl)); intro df hg w15 hbox hb; have a6 := aM (ay z11 hb); have ba := aM (hbox); have bb := aM ((by rw [hg]; exact (az z11) : w.heap.size ≤ df)); have bf := aM ((by rw [hg]; exact (az z11) : w.heap.size ≤ df)); clear HB; have HB := a6; have de := ba; have lQ := bb; have fJ := bf; clear a6 ba bb bf; clear hb hbox hg; have hcz16_0 : w15.cell? ⟨df, 0, none⟩ = some (.slice bj l0_0.length bk) := (bC de.out 0).trans rfl; have hfz16_0 := bF de.out 0) | (go_at_call 59; (with_reducible refine (spec_l12First.calls k _ _ l0_0 (wrap64 ((l0_0.length : Int) - 1)) gw _ ?side1 ?side2 A6.out).mono ?_); (case side1 => repeat (first | exact (aD cI.out HB.out) | (with_reducible refine aE ?_ _) | (with_reducible refine aG ?_ _) | (with_reducible refine aH ?_))); (case side2 => exact cM.out); rintro e w17 ⟨rfl, hb⟩; have a6 := aM (af (g := df) (o := .cells #[.slice bj l0_0.length bk] 30 (0, 0)) (by (with_reducible repeat (first | refine ar ?_ _ | refine aq ?_ | refine au ?_ _)); exact de.out) hb); have ba := aM (ay (by repeat (first | (with_reducible first | exact HB.out | apply bA | apply pD | apply bD | refine ax ?_ fJ.out) | exact HB.out)) hb); clear de; clear HB; have de := a6; have HB := ba; clear a6 ba; (try clear hb); (try clear hb2); (try clear hk); (try clear hi)))
    go_ret
    exact ⟨y3, by repeat (first | (with_reducible first | exact HB.out | apply bA | apply pD | apply bD | refine ax ?_ fJ.out) | exact HB.out)⟩
  ·rw [if_neg c5] at H
   have c5b0 : decide ((l0_0.length : Int) ≤ 200) = false := dF c5
   have c5b1 : decide (l0_0.length ≤ 200) = false := dF (by omega)
   clear c5
   obtain rfl := sI H
   go_enter Try.func24, Try.ntmps24
   go_wp2_with (first | ((with_reducible refine aJ (N := 1) rfl ?_); refine aK ?hg (N := 1) ?hd (cs := #[.slice bj l0_0.length bk]) (t := 30) ?hr ?_; (case hd => rfl); (case hg => rfl); (case hr => first | (go_simp; done) | (go_simp; rfl)); intro df hg w18 hbox hb; have a6 := aM (ay z11 hb); have ba := aM (hbox); have bb := aM ((by rw [hg]; exact (az z11) : w.heap.size ≤ df)); have bf := aM ((by rw [hg]; exact (az z11) : w.heap.size ≤ df)); clear HB; have HB := a6; have de := ba; have lQ := bb; have fJ := bf; clear a6 ba bb bf; clear hb hbox hg; have fy : w18.cell? ⟨df, 0, none⟩ = some (.slice bj l0_0.length bk) := (bC de.out 0).trans rfl; have fl := bF de.out 0))
   go_ret
   exact ⟨y3, by repeat (first | (with_reducible first | exact HB.out | apply bA | apply pD | apply bD | refine ax ?_ fJ.out) | exact HB.out)⟩

/-! ### spec_GoodText: function 78 -/
def spec_GoodText.f (k : Nat) (a0 : ByteArray) : Option (Bool) := (spec_l1Text.f k a0).bind fun lp => (if lp = true then (some (decide ((a0.size : Int) ≤ 300))) else (some false))
theorem spec_GoodText.mono : ∀ a0 k, LeO (spec_GoodText.f k a0) (spec_GoodText.f (k + 1) a0) := by
 intro a0 k
 unfold spec_GoodText.f
 repeat' first
   | (with_reducible exact spec_l1Text.mono _ _)
   | (with_reducible exact LeO.refl _)
   | (with_reducible exact LeO.none _)
   | (with_reducible refine LeO.ite ?_ ?_)
   | (with_reducible refine LeO.bind ?_ (fun _ => ?_))
   | exact spec_l1Text.mono _ _
   | exact LeO.none _
   | refine LeO.ite ?_ ?_
   | refine LeO.bind ?_ (fun _ => ?_)
set_option maxHeartbeats 8000000 in
set_option maxRecDepth 100000 in
theorem spec_GoodText.calls (k : Nat) (a0 : ByteArray) (r : Bool) (w : World) (h : spec_GoodText.f k a0 = some r) :
  Calls Try.prog 78 #[.string a0] w fun e w' => e = .returned (.bool r) ∧ Drawn0 w w' := by
 have H : ((spec_l1Text.f k a0).bind fun lp => (if lp = true then (some (decide ((a0.size : Int) ≤ 300))) else (some false))) = some r := h
 clear h
 replace H := oB H
 obtain ⟨lp, lW, H⟩ := H
 try dsimp only at H
 have A2 := aM lW
 clear lW
 by_cases c3 : lp = true
 ·subst c3
  rw [if_pos rfl] at H
  obtain rfl := sI H
  go_enter Try.func78, Try.ntmps78
  go_wp2_with (first | ((with_reducible refine aI (f := 77) rfl ?_); refine aN (some 4) rfl rfl Try.func77 z0 rfl #[.string a0] rfl z12 ?_; (with_reducible refine (spec_l1Text.calls k a0 true _ A2.out).mono ?_); rintro e w' ⟨rfl, ⟨nd, rfl⟩⟩; refine ⟨_, rfl, ?_⟩))
  go_ret
  exact ⟨y1, y2⟩
 ·replace c3 := Bool.eq_false_iff.mpr c3
  subst c3
  rw [if_neg (show ¬ (false = true) by decide)] at H
  obtain rfl := sI H
  go_enter Try.func78, Try.ntmps78
  go_wp2_with (first | ((with_reducible refine aI (f := 77) rfl ?_); refine aN (some 4) rfl rfl Try.func77 z0 rfl #[.string a0] rfl z12 ?_; (with_reducible refine (spec_l1Text.calls k a0 false _ A2.out).mono ?_); rintro e w' ⟨rfl, ⟨nd, rfl⟩⟩; refine ⟨_, rfl, ?_⟩))
  go_ret
  exact ⟨y1, y2⟩

/-! ### spec_l3Part: function 60 -/
def spec_l3Part.f (k : Nat) (a0_0 : Int) (a0_1 : ByteArray) (a0_2 : ByteArray) : Option (Bool) := if a0_0 = 0 then (if a0_1.toList = ([] : List UInt8) then (if a0_2.toList = ([] : List UInt8) then (some false) else ((spec_GoodText.f k a0_2).bind fun ln => (some ln))) else (if a0_2.toList = ([] : List UInt8) then ((spec_GoodText.f k a0_1).bind fun lm => (some lm)) else (some false))) else ((spec_l1In.f a0_0 1 300).bind fun ll => (if ll = true then (if a0_1.toList = ([] : List UInt8) then (some (a0_2.toList == ([] : List UInt8))) else (some false)) else (some false)))
theorem spec_l3Part.mono : ∀ a0 a1 a2 k, LeO (spec_l3Part.f k a0 a1 a2) (spec_l3Part.f (k + 1) a0 a1 a2) := by
 intro a0 a1 a2 k
 unfold spec_l3Part.f
 repeat' first
   | (with_reducible exact spec_GoodText.mono _ _)
   | (with_reducible exact LeO.refl _)
   | (with_reducible exact LeO.none _)
   | (with_reducible refine LeO.ite ?_ ?_)
   | (with_reducible refine LeO.bind ?_ (fun _ => ?_))
   | exact spec_GoodText.mono _ _
   | exact LeO.none _
   | refine LeO.ite ?_ ?_
   | refine LeO.bind ?_ (fun _ => ?_)
set_option maxHeartbeats 8000000 in
set_option maxRecDepth 100000 in
theorem spec_l3Part.calls (k : Nat) (a0_0 : Int) (a0_1 : ByteArray) (a0_2 : ByteArray) (r : Bool) (w : World) (h : spec_l3Part.f k a0_0 a0_1 a0_2 = some r) :
  Calls Try.prog 60 #[.agg #[.int .i64 a0_0, .string a0_1, .string a0_2]] w fun e w' => e = .returned (.bool r) ∧ Below w.heap.size w w' := by
 have hu59 := Try.underlying59
 have HB := aM (Below.refl w.heap.size w)
 have H : (if a0_0 = 0 then (if a0_1.toList = ([] : List UInt8) then (if a0_2.toList = ([] : List UInt8) then (some false) else ((spec_GoodText.f k a0_2).bind fun ln => (some ln))) else (if a0_2.toList = ([] : List UInt8) then ((spec_GoodText.f k a0_1).bind fun lm => (some lm)) else (some false))) else ((spec_l1In.f a0_0 1 300).bind fun ll => (if ll = true then (if a0_1.toList = ([] : List UInt8) then (some (a0_2.toList == ([] : List UInt8))) else (some false)) else (some false)))) = some r := h
 clear h
 by_cases c2 : a0_0 = 0
 ·rw [if_pos c2] at H
  have c2b0 : (a0_0 == 0) = true := qT c2
  have c2b1 : (a0_0 != 0) = false := nF c2
  clear c2
  by_cases c3 : a0_1.toList = ([] : List UInt8)
  ·rw [if_pos c3] at H
   have c3b0 : (a0_1.toList == ([] : List UInt8)) = true := qT c3
   have c3b1 : (a0_1.toList != ([] : List UInt8)) = false := nF c3
   clear c3
   by_cases c4 : a0_2.toList = ([] : List UInt8)
   ·rw [if_pos c4] at H
    have c4b0 : (a0_2.toList == ([] : List UInt8)) = true := qT c4
    have c4b1 : (a0_2.toList != ([] : List UInt8)) = false := nF c4
    clear c4
    obtain rfl := sI H
    go_enter Try.func60, Try.ntmps60
    go_wp2_with (first | ((with_reducible refine aJ (N := 1) rfl ?_); refine aK ?hg (N := 1) ?hd (cs := #[.int .i64 a0_0, .string a0_1, .string a0_2]) (t := 59) ?hr ?_; (case hd => rfl); (case hg => rfl); (case hr => first | (go_simp; done) | (go_simp; rfl)); intro b0 hg w5 hbox hb; have a6 := aM (ay z11 hb); have ba := aM (hbox); have bb := aM ((by rw [hg]; exact (az z11) : w.heap.size ≤ b0)); have bf := aM ((by rw [hg]; exact (az z11) : w.heap.size ≤ b0)); clear HB; have HB := a6; have bQ := ba; have g5 := bb; have g7 := bf; clear a6 ba bb bf; clear hb hbox hg; have dL : w5.cell? ⟨b0, 0, none⟩ = some (.int .i64 a0_0) := (bC bQ.out 0).trans rfl; have jP : w5.cell? ⟨b0, 1, none⟩ = some (.string a0_1) := (bC bQ.out 1).trans rfl; have jO : w5.cell? ⟨b0, 2, none⟩ = some (.string a0_2) := (bC bQ.out 2).trans rfl; have dK := bF bQ.out 0; have jN := bF bQ.out 1; have jM := bF bQ.out 2))
    all_goals (try (exfalso; rename_i h_; rw [c3b0] at h_; cases h_; done))
    all_goals (try (exfalso; rename_i h_; rw [c4b0] at h_; cases h_; done))
    go_ret
    exact ⟨y3, y13⟩
   ·rw [if_neg c4] at H
    have c4b0 : (a0_2.toList == ([] : List UInt8)) = false := qF c4
    have c4b1 : (a0_2.toList != ([] : List UInt8)) = true := nT c4
    replace H := oB H
    obtain ⟨ln, jI, H⟩ := H
    try dsimp only at H
    have A7 := aM jI
    clear jI
    obtain rfl := sI H
    go_enter Try.func60, Try.ntmps60
    go_wp2_with (first | ((with_reducible refine aJ (N := 1) rfl ?_); refine aK ?hg (N := 1) ?hd (cs := #[.int .i64 a0_0, .string a0_1, .string a0_2]) (t := 59) ?hr ?_; (case hd => rfl); (case hg => rfl); (case hr => first | (go_simp; done) | (go_simp; rfl)); intro b0 hg w8 hbox hb; have a6 := aM (ay z11 hb); have ba := aM (hbox); have bb := aM ((by rw [hg]; exact (az z11) : w.heap.size ≤ b0)); have bf := aM ((by rw [hg]; exact (az z11) : w.heap.size ≤ b0)); clear HB; have HB := a6; have bQ := ba; have g5 := bb; have g7 := bf; clear a6 ba bb bf; clear hb hbox hg; have dp : w8.cell? ⟨b0, 0, none⟩ = some (.int .i64 a0_0) := (bC bQ.out 0).trans rfl; have ec : w8.cell? ⟨b0, 1, none⟩ = some (.string a0_1) := (bC bQ.out 1).trans rfl; have eb : w8.cell? ⟨b0, 2, none⟩ = some (.string a0_2) := (bC bQ.out 2).trans rfl; have dn := bF bQ.out 0; have d5 := bF bQ.out 1; have dZ := bF bQ.out 2) | (go_at_call 78; (with_reducible refine (spec_GoodText.calls k a0_2 ln _ A7.out).mono ?_); rintro e w' ⟨rfl, ⟨nd, rfl⟩⟩))
    all_goals (try (exfalso; rename_i h_; rw [c3b0] at h_; cases h_; done))
    all_goals (try (exfalso; rename_i h_; rw [c4b0] at h_; cases h_; done))
    go_ret
    exact ⟨y3, y13⟩
  ·rw [if_neg c3] at H
   have c3b0 : (a0_1.toList == ([] : List UInt8)) = false := qF c3
   have c3b1 : (a0_1.toList != ([] : List UInt8)) = true := nT c3
   by_cases cL : a0_2.toList = ([] : List UInt8)
   ·rw [if_pos cL] at H
    have c10b0 : (a0_2.toList == ([] : List UInt8)) = true := qT cL
    have c10b1 : (a0_2.toList != ([] : List UInt8)) = false := nF cL
    clear cL
    replace H := oB H
    obtain ⟨lm, lZ, H⟩ := H
    try dsimp only at H
    have oH := aM lZ
    clear lZ
    obtain rfl := sI H
    go_enter Try.func60, Try.ntmps60
    go_wp2_with (first | ((with_reducible refine aJ (N := 1) rfl ?_); refine aK ?hg (N := 1) ?hd (cs := #[.int .i64 a0_0, .string a0_1, .string a0_2]) (t := 59) ?hr ?_; (case hd => rfl); (case hg => rfl); (case hr => first | (go_simp; done) | (go_simp; rfl)); intro b0 hg w12 hbox hb; have a6 := aM (ay z11 hb); have ba := aM (hbox); have bb := aM ((by rw [hg]; exact (az z11) : w.heap.size ≤ b0)); have bf := aM ((by rw [hg]; exact (az z11) : w.heap.size ≤ b0)); clear HB; have HB := a6; have bQ := ba; have g5 := bb; have g7 := bf; clear a6 ba bb bf; clear hb hbox hg; have kJ : w12.cell? ⟨b0, 0, none⟩ = some (.int .i64 a0_0) := (bC bQ.out 0).trans rfl; have hcz13_1 : w12.cell? ⟨b0, 1, none⟩ = some (.string a0_1) := (bC bQ.out 1).trans rfl; have hcz13_2 : w12.cell? ⟨b0, 2, none⟩ = some (.string a0_2) := (bC bQ.out 2).trans rfl; have km := bF bQ.out 0; have hfz13_1 := bF bQ.out 1; have hfz13_2 := bF bQ.out 2) | (go_at_call 78; (with_reducible refine (spec_GoodText.calls k a0_1 lm _ oH.out).mono ?_); rintro e w' ⟨rfl, ⟨nd, rfl⟩⟩))
    all_goals (try (exfalso; rename_i h_; rw [c3b0] at h_; cases h_; done))
    all_goals (try (exfalso; rename_i h_; rw [c10b0] at h_; cases h_; done))
    go_ret
    exact ⟨y3, y13⟩
   ·rw [if_neg cL] at H
    have c10b0 : (a0_2.toList == ([] : List UInt8)) = false := qF cL
    have c10b1 : (a0_2.toList != ([] : List UInt8)) = true := nT cL
    obtain rfl := sI H
    go_enter Try.func60, Try.ntmps60
    go_wp2_with (first | ((with_reducible refine aJ (N := 1) rfl ?_); refine aK ?hg (N := 1) ?hd (cs := #[.int .i64 a0_0, .string a0_1, .string a0_2]) (t := 59) ?hr ?_; (case hd => rfl); (case hg => rfl); (case hr => first | (go_simp; done) | (go_simp; rfl)); intro b0 hg w14 hbox hb; have a6 := aM (ay z11 hb); have ba := aM (hbox); have bb := aM ((by rw [hg]; exact (az z11) : w.heap.size ≤ b0)); have bf := aM ((by rw [hg]; exact (az z11) : w.heap.size ≤ b0)); clear HB; have HB := a6; have bQ := ba; have g5 := bb; have g7 := bf; clear a6 ba bb bf; clear hb hbox hg; have eN : w14.cell? ⟨b0, 0, none⟩ = some (.int .i64 a0_0) := (bC bQ.out 0).trans rfl; have fA : w14.cell? ⟨b0, 1, none⟩ = some (.string a0_1) := (bC bQ.out 1).trans rfl; have fz : w14.cell? ⟨b0, 2, none⟩ = some (.string a0_2) := (bC bQ.out 2).trans rfl; have eH := bF bQ.out 0; have fo := bF bQ.out 1; have fm := bF bQ.out 2))
    all_goals (try (exfalso; rename_i h_; rw [c3b0] at h_; cases h_; done))
    all_goals (try (exfalso; rename_i h_; rw [c10b0] at h_; cases h_; done))
    go_ret
    exact ⟨y3, y13⟩
 ·rw [if_neg c2] at H
  have c2b0 : (a0_0 == 0) = false := qF c2
  have c2b1 : (a0_0 != 0) = true := nT c2
  replace H := oB H
  obtain ⟨ll, lX, H⟩ := H
  try dsimp only at H
  have om := aM lX
  clear lX
  by_cases ei : ll = true
  ·subst ei
   rw [if_pos rfl] at H
   by_cases gF : a0_1.toList = ([] : List UInt8)
   ·rw [if_pos gF] at H
    have c18b0 : (a0_1.toList == ([] : List UInt8)) = true := qT gF
    have c18b1 : (a0_1.toList != ([] : List UInt8)) = false := nF gF
    clear gF
    obtain rfl := sI H
    go_enter Try.func60, Try.ntmps60
    go_wp2_with (first | ((with_reducible refine aJ (N := 1) rfl ?_); refine aK ?hg (N := 1) ?hd (cs := #[.int .i64 a0_0, .string a0_1, .string a0_2]) (t := 59) ?hr ?_; (case hd => rfl); (case hg => rfl); (case hr => first | (go_simp; done) | (go_simp; rfl)); intro b0 hg w19 hbox hb; have a6 := aM (ay z11 hb); have ba := aM (hbox); have bb := aM ((by rw [hg]; exact (az z11) : w.heap.size ≤ b0)); have bf := aM ((by rw [hg]; exact (az z11) : w.heap.size ≤ b0)); clear HB; have HB := a6; have bQ := ba; have g5 := bb; have g7 := bf; clear a6 ba bb bf; clear hb hbox hg; have fx : w19.cell? ⟨b0, 0, none⟩ = some (.int .i64 a0_0) := (bC bQ.out 0).trans rfl; have fw : w19.cell? ⟨b0, 1, none⟩ = some (.string a0_1) := (bC bQ.out 1).trans rfl; have fv : w19.cell? ⟨b0, 2, none⟩ = some (.string a0_2) := (bC bQ.out 2).trans rfl; have fj := bF bQ.out 0; have fi := bF bQ.out 1; have fh := bF bQ.out 2) | ((with_reducible refine aI (f := 49) rfl ?_); refine aN (some 9) rfl rfl Try.func49 z0 rfl #[.int .i64 a0_0, .int .i64 1, .int .i64 300] rfl z12 ?_; (with_reducible refine (spec_l1In.calls a0_0 1 300 true _ om.out).mono ?_); rintro e w' ⟨rfl, ⟨nd, rfl⟩⟩; refine ⟨_, rfl, ?_⟩))
    all_goals (try (exfalso; rename_i h_; rw [c18b0] at h_; cases h_; done))
    go_ret
    exact ⟨y3, y13⟩
   ·rw [if_neg gF] at H
    have c18b0 : (a0_1.toList == ([] : List UInt8)) = false := qF gF
    have c18b1 : (a0_1.toList != ([] : List UInt8)) = true := nT gF
    obtain rfl := sI H
    go_enter Try.func60, Try.ntmps60
    go_wp2_with (first | ((with_reducible refine aJ (N := 1) rfl ?_); refine aK ?hg (N := 1) ?hd (cs := #[.int .i64 a0_0, .string a0_1, .string a0_2]) (t := 59) ?hr ?_; (case hd => rfl); (case hg => rfl); (case hr => first | (go_simp; done) | (go_simp; rfl)); intro b0 hg w21 hbox hb; have a6 := aM (ay z11 hb); have ba := aM (hbox); have bb := aM ((by rw [hg]; exact (az z11) : w.heap.size ≤ b0)); have bf := aM ((by rw [hg]; exact (az z11) : w.heap.size ≤ b0)); clear HB; have HB := a6; have bQ := ba; have g5 := bb; have g7 := bf; clear a6 ba bb bf; clear hb hbox hg; have dy : w21.cell? ⟨b0, 0, none⟩ = some (.int .i64 a0_0) := (bC bQ.out 0).trans rfl; have fu : w21.cell? ⟨b0, 1, none⟩ = some (.string a0_1) := (bC bQ.out 1).trans rfl; have ft : w21.cell? ⟨b0, 2, none⟩ = some (.string a0_2) := (bC bQ.out 2).trans rfl; have dx := bF bQ.out 0; have fg := bF bQ.out 1; have ff := bF bQ.out 2) | ((with_reducible refine aI (f := 49) rfl ?_); refine aN (some 9) rfl rfl Try.func49 z0 rfl #[.int .i64 a0_0, .int .i64 1, .int .i64 300] rfl z12 ?_; (with_reducible refine (spec_l1In.calls a0_0 1 300 true _ om.out).mono ?_); rintro e w' ⟨rfl, ⟨nd, rfl⟩⟩; refine ⟨_, rfl, ?_⟩))
    all_goals (try (exfalso; rename_i h_; rw [c18b0] at h_; cases h_; done))
    go_ret
    exact ⟨y3, y13⟩
  ·replace ei := Bool.eq_false_iff.mpr ei
   subst ei
   rw [if_neg (show ¬ (false = true) by decide)] at H
   obtain rfl := sI H
   go_enter Try.func60, Try.ntmps60
   go_wp2_with (first | ((with_reducible refine aJ (N := 1) rfl ?_); refine aK ?hg (N := 1) ?hd (cs := #[.int .i64 a0_0, .string a0_1, .string a0_2]) (t := 59) ?hr ?_; (case hd => rfl); (case hg => rfl); (case hr => first | (go_simp; done) | (go_simp; rfl)); intro b0 hg w23 hbox hb; have a6 := aM (ay z11 hb); have ba := aM (hbox); have bb := aM ((by rw [hg]; exact (az z11) : w.heap.size ≤ b0)); have bf := aM ((by rw [hg]; exact (az z11) : w.heap.size ≤ b0)); clear HB; have HB := a6; have bQ := ba; have g5 := bb; have g7 := bf; clear a6 ba bb bf; clear hb hbox hg; have kA : w23.cell? ⟨b0, 0, none⟩ = some (.int .i64 a0_0) := (bC bQ.out 0).trans rfl; have kz : w23.cell? ⟨b0, 1, none⟩ = some (.string a0_1) := (bC bQ.out 1).trans rfl; have ky : w23.cell? ⟨b0, 2, none⟩ = some (.string a0_2) := (bC bQ.out 2).trans rfl; have kb := bF bQ.out 0; have ka := bF bQ.out 1; have j9 := bF bQ.out 2) | ((with_reducible refine aI (f := 49) rfl ?_); refine aN (some 9) rfl rfl Try.func49 z0 rfl #[.int .i64 a0_0, .int .i64 1, .int .i64 300] rfl z12 ?_; (with_reducible refine (spec_l1In.calls a0_0 1 300 false _ om.out).mono ?_); rintro e w' ⟨rfl, ⟨nd, rfl⟩⟩; refine ⟨_, rfl, ?_⟩))
   go_ret
   exact ⟨y3, y13⟩

/-! ### spec_l3Sizes: function 61 -/
def spec_l3Sizes.l0 : Nat → Int → Int → List (S59) → Int → Int → Option (Int × Int)
 | 0, _, _, _, _, _ => none
 | k + 1, x4, x5, x8, x9, x10 => if x10 < x9 then (if 0 ≤ x10 then (if x10 < (x8.length : Int) then (spec_l3Sizes.l0 k (wrap64 (x4 + (wrap64 (((rd_T59 x8 x10).f0) + (((rd_T59 x8 x10).f2).size : Int))))) (wrap64 (x5 + (wrap64 (((rd_T59 x8 x10).f0) + (((rd_T59 x8 x10).f1).size : Int))))) x8 x9 (wrap64 (x10 + 1))) else (none)) else (none)) else (some (x4, x5))
def spec_l3Sizes.f (k : Nat) (l0 : List (S59)) : Option (Int × Int) := spec_l3Sizes.l0 k 0 0 l0 (l0.length : Int) 0
theorem spec_l3Sizes.mono_l : ∀ k, (∀ y0 y1 y2 y3 y4, LeO (spec_l3Sizes.l0 k y0 y1 y2 y3 y4) (spec_l3Sizes.l0 (k + 1) y0 y1 y2 y3 y4))
 | 0 => fun _ _ _ _ _ r h => by simp [spec_l3Sizes.l0] at h
 | k + 1 => by
  have ih0 := spec_l3Sizes.mono_l k
  ·intro y0 y1 y2 y3 y4
   unfold spec_l3Sizes.l0
   repeat' first
   | (with_reducible exact ih0 _ _ _ _ _)
   | (with_reducible exact LeO.refl _)
   | (with_reducible exact LeO.none _)
   | (with_reducible refine LeO.ite ?_ ?_)
   | (with_reducible refine LeO.bind ?_ (fun _ => ?_))
   | exact ih0 _ _ _ _ _
   | exact LeO.none _
   | refine LeO.ite ?_ ?_
   | refine LeO.bind ?_ (fun _ => ?_)
theorem spec_l3Sizes.mono : ∀ a0 k, LeO (spec_l3Sizes.f k a0) (spec_l3Sizes.f (k + 1) a0) := by
 intro a0 k
 have ih0 := spec_l3Sizes.mono_l k
 unfold spec_l3Sizes.f
 repeat' first
   | (with_reducible exact ih0 _ _ _ _ _)
   | (with_reducible exact LeO.refl _)
   | (with_reducible exact LeO.none _)
   | (with_reducible refine LeO.ite ?_ ?_)
   | (with_reducible refine LeO.bind ?_ (fun _ => ?_))
   | exact ih0 _ _ _ _ _
   | exact LeO.none _
   | refine LeO.ite ?_ ?_
   | refine LeO.bind ?_ (fun _ => ?_)
set_option maxHeartbeats 8000000 in
set_option maxRecDepth 100000 in
theorem spec_l3Sizes.calls (k : Nat) (A0 : Option Addr) (c0 : Nat) (l0 : List (S59)) (r1 : Int) (r2 : Int) (w : World) (hr0 : Kd.C k59 w A0 l0.length l0) (hc0 : l0.length ≤ c0) (h : spec_l3Sizes.f k l0 = some (r1, r2)) :
  Calls Try.prog 61 #[.slice A0 l0.length c0] w fun e w' => e = .returned (.tuple #[.int .i64 r1, .int .i64 r2]) ∧ Below w.heap.size w w' := by
 have hu59 := Try.underlying59
 have bY := aM hr0
 have cQ := aM hc0
 clear hr0 hc0
 have HB := aM (Below.refl w.heap.size w)
 have H : (spec_l3Sizes.l0 k 0 0 l0 (l0.length : Int) 0) = some (r1, r2) := h
 clear h
 have H' := aM H
 clear H
 go_enter Try.func61, Try.ntmps61
 go_wp2
 go_loopg [4, 5, 10] k (fun kq v4 v5 v10 w' => ∃ (x4_1 : Int) (x5_1 : Int) (x10_1 : Int), v4 = .int .i64 x4_1 ∧ v5 = .int .i64 x5_1 ∧ v10 = .int .i64 x10_1 ∧ Aside0 (spec_l3Sizes.l0 kq x4_1 x5_1 l0 (l0.length : Int) x10_1 = some (r1, r2)) ∧ Aside0 (kq ≤ k) ∧ Aside0 (Below w.heap.size w w'))
 case atStart => exact ⟨(0), (0), (0), z1, z1, z1, H', ⟨Nat.le_refl _⟩, ⟨y4⟩⟩
 case round =>
  clear H'
  obtain ⟨x4_1, x5_1, x10_1, rfl, rfl, rfl, HA, HK1, HB⟩ := hrel
  cases gk with
  | zero => exact absurd HA.out (by simp [spec_l3Sizes.l0])
  | succ k1 =>
   have H := HA.out
   clear HA
   simp only [spec_l3Sizes.l0] at H
   by_cases c2 : x10_1 < (l0.length : Int)
   ·rw [if_pos c2] at H
    have c2b0 : decide (x10_1 < (l0.length : Int)) = true := dT c2
    clear c2
    by_cases c3 : 0 ≤ x10_1
    ·rw [if_pos c3] at H
     have c3b0 : decide (0 ≤ x10_1) = true := dT c3
     clear c3
     by_cases c4 : x10_1 < (l0.length : Int)
     ·rw [if_pos c4] at H
      have c4b0 : decide (x10_1 < (l0.length : Int)) = true := dT c4
      clear c4
      have H' := aM H
      clear H
      have p133 : 0 ≤ (x10_1 : Int) := oD z2
      have q133 : x10_1 < (l0.length : Int) := oD z2
      obtain ⟨ad133, e133, hx133_0, hx133_1, hx133_2⟩ := at_T59 bY.out x10_1 p133 q133
      cases e133
      replace hx133_0 := (HB.out.cell (World.block_lt_of_cell? w _ hx133_0)).trans hx133_0
      replace hx133_1 := (HB.out.cell (World.block_lt_of_cell? w _ hx133_1)).trans hx133_1
      replace hx133_2 := (HB.out.cell (World.block_lt_of_cell? w _ hx133_2)).trans hx133_2
      replace p133 := eq_true p133
      replace q133 := eq_true q133
      go_wp2_with (first | ((with_reducible refine aJ (N := 7) rfl ?_); refine aK ?hg (N := 7) ?hd (cs := #[.int .i64 0, .string (⟨#[]⟩ : ByteArray), .string (⟨#[]⟩ : ByteArray)]) (t := 59) ?hr ?_; (case hd => rfl); (case hg => rfl); (case hr => first | (go_simp; done) | (go_simp; rfl)); intro jp hg w5 hbox hb; have a6 := aM (ay z11 hb); have ba := aM (hbox); have bb := aM ((by rw [hg]; exact (az z11) : w.heap.size ≤ jp)); have bf := aM ((by rw [hg]; exact (az z11) : w.heap.size ≤ jp)); clear HB; have HB := a6; have hI := ba; have GW134 := bb; have GE134 := bf; clear a6 ba bb bf; clear hb hbox hg; have dL : w5.cell? ⟨jp, 0, none⟩ = some (.int .i64 0) := (bC hI.out 0).trans rfl; have jP : w5.cell? ⟨jp, 1, none⟩ = some (.string (⟨#[]⟩ : ByteArray)) := (bC hI.out 1).trans rfl; have jO : w5.cell? ⟨jp, 2, none⟩ = some (.string (⟨#[]⟩ : ByteArray)) := (bC hI.out 2).trans rfl; have dK := bF hI.out 0; have jN := bF hI.out 1; have jM := bF hI.out 2))
      go_roundg k1
      case measure => have := HK1.out; omega
      case rel => exact ⟨(wrap64 (x4_1 + (wrap64 (((rd_T59 l0 x10_1).f0) + (((rd_T59 l0 x10_1).f2).size : Int))))), (wrap64 (x5_1 + (wrap64 (((rd_T59 l0 x10_1).f0) + (((rd_T59 l0 x10_1).f1).size : Int))))), (wrap64 (x10_1 + 1)), z1, z1, z1, H', ⟨y0⟩, ⟨by repeat (first | (with_reducible first | exact HB.out | apply bA | apply pD | apply bD | refine ax ?_ GE134.out) | exact HB.out)⟩⟩
     ·rw [if_neg c4] at H
      exact absurd H (by simp)
    ·rw [if_neg c3] at H
     exact absurd H (by simp)
   ·rw [if_neg c2] at H
    have c2b0 : decide (x10_1 < (l0.length : Int)) = false := dF c2
    clear c2
    simp only [Option.some.injEq, Prod.mk.injEq] at H
    obtain ⟨rfl, rfl⟩ := H
    go_wp2
    go_ret2
    exact ⟨y3, y4⟩

/-! ### spec_GoodOp: function 25 -/
def spec_GoodOp.l0 : Nat → List (S59) → List (S59) → Int → Int → Option (Bool)
 | 0, _, _, _, _ => none
 | k + 1, x0, x10, x11, x12 => if x12 < x11 then (if 0 ≤ x12 then (if x12 < (x10.length : Int) then ((spec_l3Part.f k ((rd_T59 x10 x12).f0) ((rd_T59 x10 x12).f1) ((rd_T59 x10 x12).f2)).bind fun mV => (if mV = true then (spec_GoodOp.l0 k x0 x10 x11 (wrap64 (x12 + 1))) else (some false))) else (none)) else (none)) else ((spec_l3Sizes.f k x0).bind fun mo => (if mo.1 ≤ 300 then (some (decide (mo.2 ≤ 300))) else (some false)))
def spec_GoodOp.f (k : Nat) (l0 : List (S59)) : Option (Bool) := if (l0.length : Int) > 60 then (some false) else (spec_GoodOp.l0 k l0 l0 (l0.length : Int) 0)
theorem spec_GoodOp.mono_l : ∀ k, (∀ y0 y1 y2 y3, LeO (spec_GoodOp.l0 k y0 y1 y2 y3) (spec_GoodOp.l0 (k + 1) y0 y1 y2 y3))
 | 0 => fun _ _ _ _ r h => by simp [spec_GoodOp.l0] at h
 | k + 1 => by
  have ih0 := spec_GoodOp.mono_l k
  ·intro y0 y1 y2 y3
   unfold spec_GoodOp.l0
   repeat' first
   | (with_reducible exact ih0 _ _ _ _)
   | (with_reducible exact spec_l3Part.mono _ _ _ _)
   | (with_reducible exact spec_l3Sizes.mono _ _)
   | (with_reducible exact LeO.refl _)
   | (with_reducible exact LeO.none _)
   | (with_reducible refine LeO.ite ?_ ?_)
   | (with_reducible refine LeO.bind ?_ (fun _ => ?_))
   | exact ih0 _ _ _ _
   | exact spec_l3Part.mono _ _ _ _
   | exact spec_l3Sizes.mono _ _
   | exact LeO.none _
   | refine LeO.ite ?_ ?_
   | refine LeO.bind ?_ (fun _ => ?_)
theorem spec_GoodOp.mono : ∀ a0 k, LeO (spec_GoodOp.f k a0) (spec_GoodOp.f (k + 1) a0) := by
 intro a0 k
 have ih0 := spec_GoodOp.mono_l k
 unfold spec_GoodOp.f
 repeat' first
   | (with_reducible exact ih0 _ _ _ _)
   | (with_reducible exact spec_l3Part.mono _ _ _ _)
   | (with_reducible exact spec_l3Sizes.mono _ _)
   | (with_reducible exact LeO.refl _)
   | (with_reducible exact LeO.none _)
   | (with_reducible refine LeO.ite ?_ ?_)
   | (with_reducible refine LeO.bind ?_ (fun _ => ?_))
   | exact ih0 _ _ _ _
   | exact spec_l3Part.mono _ _ _ _
   | exact spec_l3Sizes.mono _ _
   | exact LeO.none _
   | refine LeO.ite ?_ ?_
   | refine LeO.bind ?_ (fun _ => ?_)
set_option maxHeartbeats 8000000 in
set_option maxRecDepth 100000 in
theorem spec_GoodOp.calls (k : Nat) (A0 : Option Addr) (c0 : Nat) (l0 : List (S59)) (r : Bool) (w : World) (hr0 : Kd.C k59 w A0 l0.length l0) (hc0 : l0.length ≤ c0) (h : spec_GoodOp.f k l0 = some r) :
  Calls Try.prog 25 #[.slice A0 l0.length c0] w fun e w' => e = .returned (.bool r) ∧ Below w.heap.size w w' := by
 have hu59 := Try.underlying59
 have bY := aM hr0
 have cQ := aM hc0
 clear hr0 hc0
 have HB := aM (Below.refl w.heap.size w)
 have H : (if (l0.length : Int) > 60 then (some false) else (spec_GoodOp.l0 k l0 l0 (l0.length : Int) 0)) = some r := h
 clear h
 by_cases c2 : (l0.length : Int) > 60
 ·rw [if_pos c2] at H
  have c2b0 : decide (60 < (l0.length : Int)) = true := dT c2
  have c2b1 : decide (60 < l0.length) = true := dT (by omega)
  clear c2
  obtain rfl := sI H
  go_enter Try.func25, Try.ntmps25
  go_wp2
  go_ret
  exact ⟨y3, y4⟩
 ·rw [if_neg c2] at H
  have c2b0 : decide (60 < (l0.length : Int)) = false := dF c2
  have c2b1 : decide (60 < l0.length) = false := dF (by omega)
  clear c2
  have H' := aM H
  clear H
  go_enter Try.func25, Try.ntmps25
  go_wp2
  go_loopg [12] k (fun kq v12 w' => ∃ (x12_1 : Int), v12 = .int .i64 x12_1 ∧ Aside0 (spec_GoodOp.l0 kq l0 l0 (l0.length : Int) x12_1 = some r) ∧ Aside0 (kq ≤ k) ∧ Aside0 (Below w.heap.size w w'))
  case atStart => exact ⟨(0), z1, H', ⟨Nat.le_refl _⟩, ⟨y4⟩⟩
  case round =>
   clear H'
   try clear c2
   try clear c2b0
   try clear c2b1
   try clear p2
   obtain ⟨x12_1, rfl, HA, HK1, HB⟩ := hrel
   cases gk with
   | zero => exact absurd HA.out (by simp [spec_GoodOp.l0])
   | succ k1 =>
    have H := HA.out
    clear HA
    simp only [spec_GoodOp.l0] at H
    by_cases c3 : x12_1 < (l0.length : Int)
    ·rw [if_pos c3] at H
     have c3b0 : decide (x12_1 < (l0.length : Int)) = true := dT c3
     clear c3
     by_cases c4 : 0 ≤ x12_1
     ·rw [if_pos c4] at H
      have c4b0 : decide (0 ≤ x12_1) = true := dT c4
      clear c4
      by_cases c5 : x12_1 < (l0.length : Int)
      ·rw [if_pos c5] at H
       have c5b0 : decide (x12_1 < (l0.length : Int)) = true := dT c5
       clear c5
       replace H := oB H
       obtain ⟨mV, fU, H⟩ := H
       try dsimp only at H
       have A6 := aM fU
       clear fU
       by_cases c7 : mV = true
       ·subst c7
        rw [if_pos rfl] at H
        have H' := aM H
        clear H
        have p135 : 0 ≤ (x12_1 : Int) := oD z2
        have q135 : x12_1 < (l0.length : Int) := oD z2
        obtain ⟨ad135, e135, hx135_0, hx135_1, hx135_2⟩ := at_T59 bY.out x12_1 p135 q135
        cases e135
        replace hx135_0 := (HB.out.cell (World.block_lt_of_cell? w _ hx135_0)).trans hx135_0
        replace hx135_1 := (HB.out.cell (World.block_lt_of_cell? w _ hx135_1)).trans hx135_1
        replace hx135_2 := (HB.out.cell (World.block_lt_of_cell? w _ hx135_2)).trans hx135_2
        replace p135 := eq_true p135
        replace q135 := eq_true q135
        go_wp2_with (first | ((with_reducible refine aJ (N := 4) rfl ?_); refine aK ?hg (N := 4) ?hd (cs := #[.int .i64 0, .string (⟨#[]⟩ : ByteArray), .string (⟨#[]⟩ : ByteArray)]) (t := 59) ?hr ?_; (case hd => rfl); (case hg => rfl); (case hr => first | (go_simp; done) | (go_simp; rfl)); intro dR hg w8 hbox hb; have a6 := aM (ay z11 hb); have ba := aM (hbox); have bb := aM ((by rw [hg]; exact (az z11) : w.heap.size ≤ dR)); have bf := aM ((by rw [hg]; exact (az z11) : w.heap.size ≤ dR)); clear HB; have HB := a6; have dd := ba; have GW136 := bb; have jE := bf; clear a6 ba bb bf; clear hb hbox hg; have dp : w8.cell? ⟨dR, 0, none⟩ = some (.int .i64 0) := (bC dd.out 0).trans rfl; have ec : w8.cell? ⟨dR, 1, none⟩ = some (.string (⟨#[]⟩ : ByteArray)) := (bC dd.out 1).trans rfl; have eb : w8.cell? ⟨dR, 2, none⟩ = some (.string (⟨#[]⟩ : ByteArray)) := (bC dd.out 2).trans rfl; have dn := bF dd.out 0; have d5 := bF dd.out 1; have dZ := bF dd.out 2) | ((with_reducible refine aI (f := 60) rfl ?_); refine aN (some 17) rfl rfl Try.func60 z0 rfl #[.agg #[.int .i64 ((rd_T59 l0 x12_1).f0), .string ((rd_T59 l0 x12_1).f1), .string ((rd_T59 l0 x12_1).f2)]] rfl z12 ?_; (with_reducible refine (spec_l3Part.calls k1 ((rd_T59 l0 x12_1).f0) ((rd_T59 l0 x12_1).f1) ((rd_T59 l0 x12_1).f2) true _ A6.out).mono ?_); rintro e w10 ⟨rfl, hb⟩; refine ⟨_, rfl, ?_⟩; have a6 := aM (af (g := dR) (o := .cells #[.int .i64 ((rd_T59 l0 x12_1).f0), .string ((rd_T59 l0 x12_1).f1), .string ((rd_T59 l0 x12_1).f2)] 59 (0, 0)) (by (with_reducible repeat (first | refine ar ?_ _ | refine aq ?_ | refine au ?_ _)); refine av (cs := #[.int .i64 ((rd_T59 l0 x12_1).f0), .string ((rd_T59 l0 x12_1).f1), .string (⟨#[]⟩ : ByteArray)]) ?_ 2 _ rfl; (with_reducible repeat (first | refine ar ?_ _ | refine aq ?_ | refine au ?_ _)); refine av (cs := #[.int .i64 ((rd_T59 l0 x12_1).f0), .string (⟨#[]⟩ : ByteArray), .string (⟨#[]⟩ : ByteArray)]) ?_ 1 _ rfl; (with_reducible repeat (first | refine ar ?_ _ | refine aq ?_ | refine au ?_ _)); refine av (cs := #[.int .i64 0, .string (⟨#[]⟩ : ByteArray), .string (⟨#[]⟩ : ByteArray)]) ?_ 0 _ rfl; (with_reducible repeat (first | refine ar ?_ _ | refine aq ?_ | refine au ?_ _)); exact dd.out) hb); have ba := aM (ay (by repeat (first | (with_reducible first | exact HB.out | apply bA | apply pD | apply bD | refine ax ?_ jE.out) | exact HB.out)) hb); clear dd; clear HB; have dd := a6; have HB := ba; clear a6 ba; (try clear hb); (try clear hb2); (try clear hk); (try clear hi)))
        go_roundg k1
        case measure => have := HK1.out; omega
        case rel => exact ⟨(wrap64 (x12_1 + 1)), z1, H', ⟨y0⟩, ⟨by repeat (first | (with_reducible first | exact HB.out | apply bA | apply pD | apply bD | refine ax ?_ jE.out) | exact HB.out)⟩⟩
       ·replace c7 := Bool.eq_false_iff.mpr c7
        subst c7
        rw [if_neg (show ¬ (false = true) by decide)] at H
        obtain rfl := sI H
        have p135 : 0 ≤ (x12_1 : Int) := oD z2
        have q135 : x12_1 < (l0.length : Int) := oD z2
        obtain ⟨ad135, e135, hx135_0, hx135_1, hx135_2⟩ := at_T59 bY.out x12_1 p135 q135
        cases e135
        replace hx135_0 := (HB.out.cell (World.block_lt_of_cell? w _ hx135_0)).trans hx135_0
        replace hx135_1 := (HB.out.cell (World.block_lt_of_cell? w _ hx135_1)).trans hx135_1
        replace hx135_2 := (HB.out.cell (World.block_lt_of_cell? w _ hx135_2)).trans hx135_2
        replace p135 := eq_true p135
        replace q135 := eq_true q135
        go_wp2_with (first | ((with_reducible refine aJ (N := 4) rfl ?_); refine aK ?hg (N := 4) ?hd (cs := #[.int .i64 0, .string (⟨#[]⟩ : ByteArray), .string (⟨#[]⟩ : ByteArray)]) (t := 59) ?hr ?_; (case hd => rfl); (case hg => rfl); (case hr => first | (go_simp; done) | (go_simp; rfl)); intro dR hg w11 hbox hb; have a6 := aM (ay z11 hb); have ba := aM (hbox); have bb := aM ((by rw [hg]; exact (az z11) : w.heap.size ≤ dR)); have bf := aM ((by rw [hg]; exact (az z11) : w.heap.size ≤ dR)); clear HB; have HB := a6; have dd := ba; have GW136 := bb; have jE := bf; clear a6 ba bb bf; clear hb hbox hg; have i7 : w11.cell? ⟨dR, 0, none⟩ = some (.int .i64 0) := (bC dd.out 0).trans rfl; have hcz12_1 : w11.cell? ⟨dR, 1, none⟩ = some (.string (⟨#[]⟩ : ByteArray)) := (bC dd.out 1).trans rfl; have hcz12_2 : w11.cell? ⟨dR, 2, none⟩ = some (.string (⟨#[]⟩ : ByteArray)) := (bC dd.out 2).trans rfl; have iG := bF dd.out 0; have hfz12_1 := bF dd.out 1; have hfz12_2 := bF dd.out 2) | ((with_reducible refine aI (f := 60) rfl ?_); refine aN (some 17) rfl rfl Try.func60 z0 rfl #[.agg #[.int .i64 ((rd_T59 l0 x12_1).f0), .string ((rd_T59 l0 x12_1).f1), .string ((rd_T59 l0 x12_1).f2)]] rfl z12 ?_; (with_reducible refine (spec_l3Part.calls k1 ((rd_T59 l0 x12_1).f0) ((rd_T59 l0 x12_1).f1) ((rd_T59 l0 x12_1).f2) false _ A6.out).mono ?_); rintro e w13 ⟨rfl, hb⟩; refine ⟨_, rfl, ?_⟩; have a6 := aM (af (g := dR) (o := .cells #[.int .i64 ((rd_T59 l0 x12_1).f0), .string ((rd_T59 l0 x12_1).f1), .string ((rd_T59 l0 x12_1).f2)] 59 (0, 0)) (by (with_reducible repeat (first | refine ar ?_ _ | refine aq ?_ | refine au ?_ _)); refine av (cs := #[.int .i64 ((rd_T59 l0 x12_1).f0), .string ((rd_T59 l0 x12_1).f1), .string (⟨#[]⟩ : ByteArray)]) ?_ 2 _ rfl; (with_reducible repeat (first | refine ar ?_ _ | refine aq ?_ | refine au ?_ _)); refine av (cs := #[.int .i64 ((rd_T59 l0 x12_1).f0), .string (⟨#[]⟩ : ByteArray), .string (⟨#[]⟩ : ByteArray)]) ?_ 1 _ rfl; (with_reducible repeat (first | refine ar ?_ _ | refine aq ?_ | refine au ?_ _)); refine av (cs := #[.int .i64 0, .string (⟨#[]⟩ : ByteArray), .string (⟨#[]⟩ : ByteArray)]) ?_ 0 _ rfl; (with_reducible repeat (first | refine ar ?_ _ | refine aq ?_ | refine au ?_ _)); exact dd.out) hb); have ba := aM (ay (by repeat (first | (with_reducible first | exact HB.out | apply bA | apply pD | apply bD | refine ax ?_ jE.out) | exact HB.out)) hb); clear dd; clear HB; have dd := a6; have HB := ba; clear a6 ba; (try clear hb); (try clear hb2); (try clear hk); (try clear hi)))
        go_ret
        exact ⟨y3, by repeat (first | (with_reducible first | exact HB.out | apply bA | apply pD | apply bD | refine ax ?_ jE.out) | exact HB.out)⟩
      ·rw [if_neg c5] at H
       exact absurd H (by simp)
     ·rw [if_neg c4] at H
      exact absurd H (by simp)
    ·rw [if_neg c3] at H
     have c3b0 : decide (x12_1 < (l0.length : Int)) = false := dF c3
     clear c3
     replace H := oB H
     obtain ⟨⟨lh, nE⟩, jJ, H⟩ := H
     try dsimp only at H
     have gN := aM jJ
     clear jJ
     by_cases ex : lh ≤ 300
     ·rw [if_pos ex] at H
      have c15b0 : decide (lh ≤ 300) = true := dT ex
      clear ex
      obtain rfl := sI H
      go_wp2_with (first | ((with_reducible refine aI (f := 61) rfl ?_); refine aN (some 22) rfl rfl Try.func61 z0 rfl #[.slice A0 l0.length c0] rfl z12 ?_; (with_reducible refine (spec_l3Sizes.calls k1 _ _ l0 lh nE _ ?side1 ?side2 gN.out).mono ?_); (case side1 => repeat (first | exact (aD bY.out HB.out) | (with_reducible refine aE ?_ _) | (with_reducible refine aG ?_ _) | (with_reducible refine aH ?_))); (case side2 => exact cQ.out); rintro e w16 ⟨rfl, hb⟩; refine ⟨_, rfl, ?_⟩; have a6 := aM (ay z11 hb); clear HB; have HB := a6; clear a6; (try clear hb); (try clear hb2); (try clear hk); (try clear hi)))
      go_ret
      exact ⟨y3, y4⟩
     ·rw [if_neg ex] at H
      have c15b0 : decide (lh ≤ 300) = false := dF ex
      clear ex
      obtain rfl := sI H
      go_wp2_with (first | ((with_reducible refine aI (f := 61) rfl ?_); refine aN (some 22) rfl rfl Try.func61 z0 rfl #[.slice A0 l0.length c0] rfl z12 ?_; (with_reducible refine (spec_l3Sizes.calls k1 _ _ l0 lh nE _ ?side1 ?side2 gN.out).mono ?_); (case side1 => repeat (first | exact (aD bY.out HB.out) | (with_reducible refine aE ?_ _) | (with_reducible refine aG ?_ _) | (with_reducible refine aH ?_))); (case side2 => exact cQ.out); rintro e w17 ⟨rfl, hb⟩; refine ⟨_, rfl, ?_⟩; have a6 := aM (ay z11 hb); clear HB; have HB := a6; clear a6; (try clear hb); (try clear hb2); (try clear hk); (try clear hi)))
      go_ret
      exact ⟨y3, y4⟩

end Go.Proofs.Ytblnnbaeiggmoaa.AFnExactEditRope
