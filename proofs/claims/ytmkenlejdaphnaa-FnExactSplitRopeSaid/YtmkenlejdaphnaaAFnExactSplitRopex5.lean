-- this session's own text: written by wip/tools/ownprint.py over the kit's print
import Derived.Test.YtmkenlejdaphnaaAFnExactSplitRopex0
import Derived.Test.YtmkenlejdaphnaaAFnExactSplitRopex3
import Derived.Test.YtmkenlejdaphnaaAFnExactSplitRopex4
namespace Go.Proofs.Ytmkenlejdaphnaa.AFnExactSplitRope
open Go.RowKit Go.Proofs.YtmkenlejdaphnaaW.PrintWords Go.Proofs.YtmkenlejdaphnaaW.PrintLast Go.Proofs.YtmkenlejdaphnaaW.PrintMore
attribute [local go_sem] max2_int min2_int max_two min_two max_three min_three max_four min_four   -- for this text's walks alone
set_option linter.unusedVariables false
set_option linter.unusedSimpArgs false

/-! ### spec_l12First: function 46 -/
mutual
def spec_l12First.j0 : Nat → List (S58) → Int → Bool → Int → Int → ByteArray → Int → Int → Option (Int)
 | 0, _, _, _, _, _, _, _, _ => none
 | k + 1, x0, x1, x19, x157000, x157001, x157002, x157003, x157004 => if x19 = true then ((spec_l1In.f (x157002.size : Int) 1 8).bind fun oN => (if oN = true then ((spec_l1Text.f k x157002).bind fun oM => (if oM = true then (if x157003 = (x157002.size : Int) then (if x157004 = 0 then (some x1) else (some (-1))) else (some (-1))) else (some (-1)))) else (some (-1)))) else (if x157002.toList = ([] : List UInt8) then (if x157001 = (wrap64 (x1 - 1)) then (spec_l12First.j1 k x0 x1 (decide (x1 < 2)) x157000 x157001 x157002 x157003 x157004) else (spec_l12First.j1 k x0 x1 true x157000 x157001 x157002 x157003 x157004)) else (spec_l12First.j1 k x0 x1 true x157000 x157001 x157002 x157003 x157004))
def spec_l12First.j1 : Nat → List (S58) → Int → Bool → Int → Int → ByteArray → Int → Int → Option (Int)
 | 0, _, _, _, _, _, _, _, _ => none
 | k + 1, x0, x1, x58, x157000, x157001, x157002, x157003, x157004 => if x58 = true then (some (-1)) else ((spec_l12First.f k x0 (wrap64 (x1 - 1))).bind fun jd => (if jd < 1 then (spec_l12First.j2 k x0 true x157000 x157001 x157002 x157003 x157004) else (spec_l12First.j2 k x0 (x157000 != (wrap64 (jd - 1))) x157000 x157001 x157002 x157003 x157004)))
def spec_l12First.j2 : Nat → List (S58) → Bool → Int → Int → ByteArray → Int → Int → Option (Int)
 | 0, _, _, _, _, _, _, _ => none
 | k + 1, x0, x71, x157000, x157001, x157002, x157003, x157004 => if x71 = true then (some (-1)) else (if 0 ≤ x157000 then (if x157000 < (x0.length : Int) then (if 0 ≤ x157001 then (if x157001 < (x0.length : Int) then (if ((rd_T58 x0 x157001).f4) > ((rd_T58 x0 x157000).f4) then (if x157003 = (wrap64 (((rd_T58 x0 x157000).f3) + ((rd_T58 x0 x157001).f3))) then (if x157004 = (wrap64 (((rd_T58 x0 x157001).f4) + 1)) then ((spec_l12First.f k x0 x157000).bind fun na => (some na)) else (some (-1))) else (some (-1))) else (if x157003 = (wrap64 (((rd_T58 x0 x157000).f3) + ((rd_T58 x0 x157001).f3))) then (if x157004 = (wrap64 (((rd_T58 x0 x157000).f4) + 1)) then ((spec_l12First.f k x0 x157000).bind fun m9 => (some m9)) else (some (-1))) else (some (-1)))) else (none)) else (none)) else (none)) else (none))
def spec_l12First.f : Nat → List (S58) → Int → Option (Int)
 | 0, _, _ => none
 | k + 1, l0, a1 => if 0 ≤ a1 then (if a1 < (l0.length : Int) then (if ((rd_T58 l0 a1).f0) = (-1) then (spec_l12First.j0 k l0 a1 (((rd_T58 l0 a1).f1) == (-1)) ((rd_T58 l0 a1).f0) ((rd_T58 l0 a1).f1) ((rd_T58 l0 a1).f2) ((rd_T58 l0 a1).f3) ((rd_T58 l0 a1).f4)) else (spec_l12First.j0 k l0 a1 false ((rd_T58 l0 a1).f0) ((rd_T58 l0 a1).f1) ((rd_T58 l0 a1).f2) ((rd_T58 l0 a1).f3) ((rd_T58 l0 a1).f4))) else (none)) else (none)
end
theorem spec_l12First.mono_l : ∀ k, (∀ y0 y1, LeO (spec_l12First.f k y0 y1) (spec_l12First.f (k + 1) y0 y1)) ∧ (∀ y0 y1 y2 y3 y4 y5 y6 y7, LeO (spec_l12First.j0 k y0 y1 y2 y3 y4 y5 y6 y7) (spec_l12First.j0 (k + 1) y0 y1 y2 y3 y4 y5 y6 y7)) ∧ (∀ y0 y1 y2 y3 y4 y5 y6 y7, LeO (spec_l12First.j1 k y0 y1 y2 y3 y4 y5 y6 y7) (spec_l12First.j1 (k + 1) y0 y1 y2 y3 y4 y5 y6 y7)) ∧ (∀ y0 y1 y2 y3 y4 y5 y6, LeO (spec_l12First.j2 k y0 y1 y2 y3 y4 y5 y6) (spec_l12First.j2 (k + 1) y0 y1 y2 y3 y4 y5 y6))
 | 0 => ⟨fun _ _ r h => by simp [spec_l12First.f] at h, fun _ _ _ _ _ _ _ _ r h => by simp [spec_l12First.j0] at h, fun _ _ _ _ _ _ _ _ r h => by simp [spec_l12First.j1] at h, fun _ _ _ _ _ _ _ r h => by simp [spec_l12First.j2] at h⟩
 | k + 1 => by
  obtain ⟨ih0, ih1, ih2, ih3⟩ := spec_l12First.mono_l k
  refine ⟨?_, ?_, ?_, ?_⟩
  ·intro y0 y1
   unfold spec_l12First.f
   repeat' first
   | (with_reducible exact ih0 _ _)
   | (with_reducible exact ih1 _ _ _ _ _ _ _ _)
   | (with_reducible exact ih2 _ _ _ _ _ _ _ _)
   | (with_reducible exact ih3 _ _ _ _ _ _ _)
   | (with_reducible exact spec_l1Text.mono _ _)
   | (with_reducible exact LeO.refl _)
   | (with_reducible exact LeO.none _)
   | (with_reducible refine LeO.ite ?_ ?_)
   | (with_reducible refine LeO.bind ?_ (fun _ => ?_))
   | exact ih0 _ _
   | exact ih1 _ _ _ _ _ _ _ _
   | exact ih2 _ _ _ _ _ _ _ _
   | exact ih3 _ _ _ _ _ _ _
   | exact spec_l1Text.mono _ _
   | exact LeO.none _
   | refine LeO.ite ?_ ?_
   | refine LeO.bind ?_ (fun _ => ?_)
  ·intro y0 y1 y2 y3 y4 y5 y6 y7
   unfold spec_l12First.j0
   repeat' first
   | (with_reducible exact ih0 _ _)
   | (with_reducible exact ih1 _ _ _ _ _ _ _ _)
   | (with_reducible exact ih2 _ _ _ _ _ _ _ _)
   | (with_reducible exact ih3 _ _ _ _ _ _ _)
   | (with_reducible exact spec_l1Text.mono _ _)
   | (with_reducible exact LeO.refl _)
   | (with_reducible exact LeO.none _)
   | (with_reducible refine LeO.ite ?_ ?_)
   | (with_reducible refine LeO.bind ?_ (fun _ => ?_))
   | exact ih0 _ _
   | exact ih1 _ _ _ _ _ _ _ _
   | exact ih2 _ _ _ _ _ _ _ _
   | exact ih3 _ _ _ _ _ _ _
   | exact spec_l1Text.mono _ _
   | exact LeO.none _
   | refine LeO.ite ?_ ?_
   | refine LeO.bind ?_ (fun _ => ?_)
  ·intro y0 y1 y2 y3 y4 y5 y6 y7
   unfold spec_l12First.j1
   repeat' first
   | (with_reducible exact ih0 _ _)
   | (with_reducible exact ih1 _ _ _ _ _ _ _ _)
   | (with_reducible exact ih2 _ _ _ _ _ _ _ _)
   | (with_reducible exact ih3 _ _ _ _ _ _ _)
   | (with_reducible exact spec_l1Text.mono _ _)
   | (with_reducible exact LeO.refl _)
   | (with_reducible exact LeO.none _)
   | (with_reducible refine LeO.ite ?_ ?_)
   | (with_reducible refine LeO.bind ?_ (fun _ => ?_))
   | exact ih0 _ _
   | exact ih1 _ _ _ _ _ _ _ _
   | exact ih2 _ _ _ _ _ _ _ _
   | exact ih3 _ _ _ _ _ _ _
   | exact spec_l1Text.mono _ _
   | exact LeO.none _
   | refine LeO.ite ?_ ?_
   | refine LeO.bind ?_ (fun _ => ?_)
  ·intro y0 y1 y2 y3 y4 y5 y6
   unfold spec_l12First.j2
   repeat' first
   | (with_reducible exact ih0 _ _)
   | (with_reducible exact ih1 _ _ _ _ _ _ _ _)
   | (with_reducible exact ih2 _ _ _ _ _ _ _ _)
   | (with_reducible exact ih3 _ _ _ _ _ _ _)
   | (with_reducible exact spec_l1Text.mono _ _)
   | (with_reducible exact LeO.refl _)
   | (with_reducible exact LeO.none _)
   | (with_reducible refine LeO.ite ?_ ?_)
   | (with_reducible refine LeO.bind ?_ (fun _ => ?_))
   | exact ih0 _ _
   | exact ih1 _ _ _ _ _ _ _ _
   | exact ih2 _ _ _ _ _ _ _ _
   | exact ih3 _ _ _ _ _ _ _
   | exact spec_l1Text.mono _ _
   | exact LeO.none _
   | refine LeO.ite ?_ ?_
   | refine LeO.bind ?_ (fun _ => ?_)
theorem spec_l12First.mono : ∀ a0 a1 k, LeO (spec_l12First.f k a0 a1) (spec_l12First.f (k + 1) a0 a1) := by
 intro a0 a1 k
 obtain ⟨ih0, ih1, ih2, ih3⟩ := spec_l12First.mono_l k
 exact ih0 a0 a1
set_option maxHeartbeats 8000000 in
set_option maxRecDepth 100000 in
theorem spec_l12First.calls (k : Nat) : ∀ (A0 : Option Addr) (c0 : Nat) (l0 : List (S58)) (a1 : Int) (r : Int) (w : World) (hr0 : Kd.C k58 w A0 l0.length l0) (hc0 : l0.length ≤ c0) (h : spec_l12First.f k l0 a1 = some r),
  Calls Try.prog 46 #[.slice A0 l0.length c0, .int .i64 a1] w fun e w' => e = .returned (.int .i64 r) ∧ Below w.heap.size w w' := by
 induction k using Nat.strongRecOn with
 | _ k ih =>
 intro A0 c0 l0 a1 r w hr0 hc0 h
 cases k with
 | zero => exact absurd h (by simp [spec_l12First.f])
 | succ k =>
 simp only [spec_l12First.f] at h
 have hu58 := Try.underlying58
 have dX := aM hr0
 have g6 := aM hc0
 clear hr0 hc0
 have HB := aM (Below.refl w.heap.size w)
 have H : (if 0 ≤ a1 then (if a1 < (l0.length : Int) then (if ((rd_T58 l0 a1).f0) = (-1) then (spec_l12First.j0 k l0 a1 (((rd_T58 l0 a1).f1) == (-1)) ((rd_T58 l0 a1).f0) ((rd_T58 l0 a1).f1) ((rd_T58 l0 a1).f2) ((rd_T58 l0 a1).f3) ((rd_T58 l0 a1).f4)) else (spec_l12First.j0 k l0 a1 false ((rd_T58 l0 a1).f0) ((rd_T58 l0 a1).f1) ((rd_T58 l0 a1).f2) ((rd_T58 l0 a1).f3) ((rd_T58 l0 a1).f4))) else (none)) else (none)) = some r := h
 clear h
 by_cases c3 : 0 ≤ a1
 ·rw [if_pos c3] at H
  have c3b0 : decide (0 ≤ a1) = true := dT c3
  clear c3
  by_cases c4 : a1 < (l0.length : Int)
  ·rw [if_pos c4] at H
   have c4b0 : decide (a1 < (l0.length : Int)) = true := dT c4
   clear c4
   have qk := aM H
   clear H
   have p155 : 0 ≤ (a1 : Int) := oD z3
   have q155 : a1 < (l0.length : Int) := oD z3
   obtain ⟨ad155, e155, hx155_0, hx155_1, hx155_2, hx155_3, hx155_4⟩ := at_T58 dX.out a1 p155 q155
   cases e155
   replace p155 := eq_true p155
   replace q155 := eq_true q155
   go_enter Try.func46, Try.ntmps46
   go_upto_region 2 with (first | ((with_reducible refine aK (N := 5) rfl ?_); (try (refine gate_guard (by rfl) ?_; dsimp only)); refine aN ?hg (N := 5) ?hd (cs := #[.int .i64 0, .int .i64 0, .string (⟨#[]⟩ : ByteArray), .int .i64 0, .int .i64 0]) (t := 58) ?hr ?_; (case hd => rfl); (case hg => rfl); (case hr => first | (go_simp; done) | (go_simp; rfl)); intro bo hg w6 hbox hb; have ba := aM (ay z23 hb); have bb := aM (hbox); have bf := aM ((by rw [hg]; exact (az z23) : w.heap.size ≤ bo)); have bk := aM ((by rw [hg]; exact (az z23) : w.heap.size ≤ bo)); clear HB; have HB := ba; have a9 := bb; have n9 := bf; have fv := bk; clear ba bb bf bk; clear hb hbox hg; have f7 : w6.cell? ⟨bo, 0, none⟩ = some (.int .i64 0) := (bC a9.out 0).trans rfl; have f6 : w6.cell? ⟨bo, 1, none⟩ = some (.int .i64 0) := (bC a9.out 1).trans rfl; have f5 : w6.cell? ⟨bo, 2, none⟩ = some (.string (⟨#[]⟩ : ByteArray)) := (bC a9.out 2).trans rfl; have fZ : w6.cell? ⟨bo, 3, none⟩ = some (.int .i64 0) := (bC a9.out 3).trans rfl; have fY : w6.cell? ⟨bo, 4, none⟩ = some (.int .i64 0) := (bC a9.out 4).trans rfl; have fW := bF a9.out 0; have fV := bF a9.out 1; have fU := bF a9.out 2; have fT := bF a9.out 3; have fS := bF a9.out 4))
   repeat (go_quiet (first | ((with_reducible refine aK (N := 5) rfl ?_); (try (refine gate_guard (by rfl) ?_; dsimp only)); refine aN ?hg (N := 5) ?hd (cs := #[.int .i64 0, .int .i64 0, .string (⟨#[]⟩ : ByteArray), .int .i64 0, .int .i64 0]) (t := 58) ?hr ?_; (case hd => rfl); (case hg => rfl); (case hr => first | (go_simp; done) | (go_simp; rfl)); intro bo hg w6 hbox hb; have ba := aM (ay z23 hb); have bb := aM (hbox); have bf := aM ((by rw [hg]; exact (az z23) : w.heap.size ≤ bo)); have bk := aM ((by rw [hg]; exact (az z23) : w.heap.size ≤ bo)); clear HB; have HB := ba; have a9 := bb; have n9 := bf; have fv := bk; clear ba bb bf bk; clear hb hbox hg; have f7 : w6.cell? ⟨bo, 0, none⟩ = some (.int .i64 0) := (bC a9.out 0).trans rfl; have f6 : w6.cell? ⟨bo, 1, none⟩ = some (.int .i64 0) := (bC a9.out 1).trans rfl; have f5 : w6.cell? ⟨bo, 2, none⟩ = some (.string (⟨#[]⟩ : ByteArray)) := (bC a9.out 2).trans rfl; have fZ : w6.cell? ⟨bo, 3, none⟩ = some (.int .i64 0) := (bC a9.out 3).trans rfl; have fY : w6.cell? ⟨bo, 4, none⟩ = some (.int .i64 0) := (bC a9.out 4).trans rfl; have fW := bF a9.out 0; have fV := bF a9.out 1; have fU := bF a9.out 2; have fT := bF a9.out 3; have fS := bF a9.out 4)); go_upto_region 2 with (first | ((with_reducible refine aK (N := 5) rfl ?_); (try (refine gate_guard (by rfl) ?_; dsimp only)); refine aN ?hg (N := 5) ?hd (cs := #[.int .i64 0, .int .i64 0, .string (⟨#[]⟩ : ByteArray), .int .i64 0, .int .i64 0]) (t := 58) ?hr ?_; (case hd => rfl); (case hg => rfl); (case hr => first | (go_simp; done) | (go_simp; rfl)); intro bo hg w6 hbox hb; have ba := aM (ay z23 hb); have bb := aM (hbox); have bf := aM ((by rw [hg]; exact (az z23) : w.heap.size ≤ bo)); have bk := aM ((by rw [hg]; exact (az z23) : w.heap.size ≤ bo)); clear HB; have HB := ba; have a9 := bb; have n9 := bf; have fv := bk; clear ba bb bf bk; clear hb hbox hg; have f7 : w6.cell? ⟨bo, 0, none⟩ = some (.int .i64 0) := (bC a9.out 0).trans rfl; have f6 : w6.cell? ⟨bo, 1, none⟩ = some (.int .i64 0) := (bC a9.out 1).trans rfl; have f5 : w6.cell? ⟨bo, 2, none⟩ = some (.string (⟨#[]⟩ : ByteArray)) := (bC a9.out 2).trans rfl; have fZ : w6.cell? ⟨bo, 3, none⟩ = some (.int .i64 0) := (bC a9.out 3).trans rfl; have fY : w6.cell? ⟨bo, 4, none⟩ = some (.int .i64 0) := (bC a9.out 4).trans rfl; have fW := bF a9.out 0; have fV := bF a9.out 1; have fU := bF a9.out 2; have fT := bF a9.out 3; have fS := bF a9.out 4)))
   (try simp only [Act.put, sA, sB, sC])
   go_cut [19] (fun v19 wc => ∃ (kq : Nat) (x19_4 : Bool), v19 = .bool x19_4 ∧ Aside0 (spec_l12First.j0 kq l0 a1 x19_4 ((rd_T58 l0 a1).f0) ((rd_T58 l0 a1).f1) ((rd_T58 l0 a1).f2) ((rd_T58 l0 a1).f3) ((rd_T58 l0 a1).f4) = some r) ∧ Aside0 (kq ≤ k) ∧ Aside0 (wc.heap[bo]? = some (.cells #[.int .i64 ((rd_T58 l0 a1).f0), .int .i64 ((rd_T58 l0 a1).f1), .string ((rd_T58 l0 a1).f2), .int .i64 ((rd_T58 l0 a1).f3), .int .i64 ((rd_T58 l0 a1).f4)] 58 (0, 0))) ∧ Aside0 (Below w.heap.size w wc))
   case first =>
    have H := qk.out
    clear qk
    by_cases c8 : ((rd_T58 l0 a1).f0) = (-1)
    ·rw [if_pos c8] at H
     have c8b0 : (((rd_T58 l0 a1).f0) == (-1)) = true := qT c8
     have c8b1 : (((rd_T58 l0 a1).f0) != (-1)) = false := nF c8
     clear c8
     (first | rw [c8b0] | (simp only [i64_w, i32_w]; rw [c8b0]) | skip)
     have H' := aM H
     clear H
     have fX : w6.cell? ⟨bo, 0, none⟩ = some (.int .i64 0) := (bC a9.out 0).trans rfl
     have j8 : w6.cell? ⟨bo, 1, none⟩ = some (.int .i64 0) := (bC a9.out 1).trans rfl
     have j7 : w6.cell? ⟨bo, 2, none⟩ = some (.string (⟨#[]⟩ : ByteArray)) := (bC a9.out 2).trans rfl
     have j6 : w6.cell? ⟨bo, 3, none⟩ = some (.int .i64 0) := (bC a9.out 3).trans rfl
     have j5 : w6.cell? ⟨bo, 4, none⟩ = some (.int .i64 0) := (bC a9.out 4).trans rfl
     have fR := bF a9.out 0
     have jy := bF a9.out 1
     have jx := bF a9.out 2
     have jw := bF a9.out 3
     have jv := bF a9.out 4
     go_wp2
     repeat (go_quiet (fail); try go_wp2)
     go_meet
     case rel => exact ⟨_, ((((rd_T58 l0 a1).f1) == (-1))), z2, H', ⟨by first | omega | exact Nat.le_refl _⟩, ⟨by (with_reducible repeat (first | refine aq ?_ _ | refine ap ?_ | refine ar ?_ _)); refine av (cs := #[.int .i64 ((rd_T58 l0 a1).f0), .int .i64 ((rd_T58 l0 a1).f1), .string ((rd_T58 l0 a1).f2), .int .i64 ((rd_T58 l0 a1).f3), .int .i64 0]) ?_ 4 _ rfl; (with_reducible repeat (first | refine aq ?_ _ | refine ap ?_ | refine ar ?_ _)); refine av (cs := #[.int .i64 ((rd_T58 l0 a1).f0), .int .i64 ((rd_T58 l0 a1).f1), .string ((rd_T58 l0 a1).f2), .int .i64 0, .int .i64 0]) ?_ 3 _ rfl; (with_reducible repeat (first | refine aq ?_ _ | refine ap ?_ | refine ar ?_ _)); refine av (cs := #[.int .i64 ((rd_T58 l0 a1).f0), .int .i64 ((rd_T58 l0 a1).f1), .string (⟨#[]⟩ : ByteArray), .int .i64 0, .int .i64 0]) ?_ 2 _ rfl; (with_reducible repeat (first | refine aq ?_ _ | refine ap ?_ | refine ar ?_ _)); refine av (cs := #[.int .i64 ((rd_T58 l0 a1).f0), .int .i64 0, .string (⟨#[]⟩ : ByteArray), .int .i64 0, .int .i64 0]) ?_ 1 _ rfl; (with_reducible repeat (first | refine aq ?_ _ | refine ap ?_ | refine ar ?_ _)); refine av (cs := #[.int .i64 0, .int .i64 0, .string (⟨#[]⟩ : ByteArray), .int .i64 0, .int .i64 0]) ?_ 0 _ rfl; (with_reducible repeat (first | refine aq ?_ _ | refine ap ?_ | refine ar ?_ _)); exact a9.out⟩, ⟨y12⟩⟩
    ·rw [if_neg c8] at H
     have c8b0 : (((rd_T58 l0 a1).f0) == (-1)) = false := qF c8
     have c8b1 : (((rd_T58 l0 a1).f0) != (-1)) = true := nT c8
     (first | rw [c8b0] | (simp only [i64_w, i32_w]; rw [c8b0]) | skip)
     have H' := aM H
     clear H
     have iO : w6.cell? ⟨bo, 0, none⟩ = some (.int .i64 0) := (bC a9.out 0).trans rfl
     have iN : w6.cell? ⟨bo, 1, none⟩ = some (.int .i64 0) := (bC a9.out 1).trans rfl
     have iM : w6.cell? ⟨bo, 2, none⟩ = some (.string (⟨#[]⟩ : ByteArray)) := (bC a9.out 2).trans rfl
     have iL : w6.cell? ⟨bo, 3, none⟩ = some (.int .i64 0) := (bC a9.out 3).trans rfl
     have iK : w6.cell? ⟨bo, 4, none⟩ = some (.int .i64 0) := (bC a9.out 4).trans rfl
     have iw := bF a9.out 0
     have iv := bF a9.out 1
     have iu := bF a9.out 2
     have ir := bF a9.out 3
     have iq := bF a9.out 4
     go_wp2
     repeat (go_quiet (fail); try go_wp2)
     go_meet
     case rel => exact ⟨_, (false), z2, H', ⟨by first | omega | exact Nat.le_refl _⟩, ⟨by (with_reducible repeat (first | refine aq ?_ _ | refine ap ?_ | refine ar ?_ _)); refine av (cs := #[.int .i64 ((rd_T58 l0 a1).f0), .int .i64 ((rd_T58 l0 a1).f1), .string ((rd_T58 l0 a1).f2), .int .i64 ((rd_T58 l0 a1).f3), .int .i64 0]) ?_ 4 _ rfl; (with_reducible repeat (first | refine aq ?_ _ | refine ap ?_ | refine ar ?_ _)); refine av (cs := #[.int .i64 ((rd_T58 l0 a1).f0), .int .i64 ((rd_T58 l0 a1).f1), .string ((rd_T58 l0 a1).f2), .int .i64 0, .int .i64 0]) ?_ 3 _ rfl; (with_reducible repeat (first | refine aq ?_ _ | refine ap ?_ | refine ar ?_ _)); refine av (cs := #[.int .i64 ((rd_T58 l0 a1).f0), .int .i64 ((rd_T58 l0 a1).f1), .string (⟨#[]⟩ : ByteArray), .int .i64 0, .int .i64 0]) ?_ 2 _ rfl; (with_reducible repeat (first | refine aq ?_ _ | refine ap ?_ | refine ar ?_ _)); refine av (cs := #[.int .i64 ((rd_T58 l0 a1).f0), .int .i64 0, .string (⟨#[]⟩ : ByteArray), .int .i64 0, .int .i64 0]) ?_ 1 _ rfl; (with_reducible repeat (first | refine aq ?_ _ | refine ap ?_ | refine ar ?_ _)); refine av (cs := #[.int .i64 0, .int .i64 0, .string (⟨#[]⟩ : ByteArray), .int .i64 0, .int .i64 0]) ?_ 0 _ rfl; (with_reducible repeat (first | refine aq ?_ _ | refine ap ?_ | refine ar ?_ _)); exact a9.out⟩, ⟨y12⟩⟩
   case rest =>
    clear qk
    try clear p1
    try clear q1
    try clear hx1
    try clear p2
    try clear c3
    try clear c3b0
    try clear c4
    try clear c4b0
    try clear c8
    try clear c8b0
    try clear c8b1
    try clear iO
    try clear iN
    try clear iM
    try clear iL
    try clear iK
    try clear f7
    try clear f6
    try clear f5
    try clear fZ
    try clear fY
    try clear fX
    try clear j8
    try clear j7
    try clear j6
    try clear j5
    try clear iw
    try clear iv
    try clear iu
    try clear ir
    try clear iq
    try clear fW
    try clear fV
    try clear fU
    try clear fT
    try clear fS
    try clear fR
    try clear jy
    try clear jx
    try clear jw
    try clear jv
    try clear hx155_0
    try clear hx155_1
    try clear hx155_2
    try clear hx155_3
    try clear hx155_4
    try clear p155
    try clear q155
    obtain ⟨kq, x19_4, rfl, HA, mB, a9, HB⟩ := hcut
    cases kq with
    | zero => exact absurd HA.out (by simp [spec_l12First.j0])
    | succ kj4 =>
     have H := HA.out
     clear HA
     simp only [spec_l12First.j0] at H
     by_cases fd : x19_4 = true
     ·subst fd
      rw [if_pos rfl] at H
      replace H := oB H
      obtain ⟨oN, qc, H⟩ := H
      try dsimp only at H
      have lR := aM qc
      clear qc
      by_cases gw : oN = true
      ·subst gw
       rw [if_pos rfl] at H
       replace H := oB H
       obtain ⟨oM, p3, H⟩ := H
       try dsimp only at H
       have mW := aM p3
       clear p3
       by_cases gv : oM = true
       ·subst gv
        rw [if_pos rfl] at H
        by_cases lp : ((rd_T58 l0 a1).f3) = (((rd_T58 l0 a1).f2).size : Int)
        ·rw [if_pos lp] at H
         have c16b0 : (((rd_T58 l0 a1).f3) == (((rd_T58 l0 a1).f2).size : Int)) = true := qT lp
         have c16b1 : (((rd_T58 l0 a1).f3) != (((rd_T58 l0 a1).f2).size : Int)) = false := nF lp
         clear lp
         by_cases i1 : ((rd_T58 l0 a1).f4) = 0
         ·rw [if_pos i1] at H
          have c17b0 : (((rd_T58 l0 a1).f4) == 0) = true := qT i1
          have c17b1 : (((rd_T58 l0 a1).f4) != 0) = false := nF i1
          clear i1
          obtain rfl := sI H
          have mu : wc.cell? ⟨bo, 0, none⟩ = some (.int .i64 ((rd_T58 l0 a1).f0)) := (bC a9.out 0).trans rfl
          have mt : wc.cell? ⟨bo, 1, none⟩ = some (.int .i64 ((rd_T58 l0 a1).f1)) := (bC a9.out 1).trans rfl
          have ms : wc.cell? ⟨bo, 2, none⟩ = some (.string ((rd_T58 l0 a1).f2)) := (bC a9.out 2).trans rfl
          have mr : wc.cell? ⟨bo, 3, none⟩ = some (.int .i64 ((rd_T58 l0 a1).f3)) := (bC a9.out 3).trans rfl
          have mq : wc.cell? ⟨bo, 4, none⟩ = some (.int .i64 ((rd_T58 l0 a1).f4)) := (bC a9.out 4).trans rfl
          have mb := bF a9.out 0
          have ma := bF a9.out 1
          have l9 := bF a9.out 2
          have l8 := bF a9.out 3
          have l7 := bF a9.out 4
          go_wp2_with (first | (go_at_call 50; (with_reducible refine (spec_l1In.calls (((rd_T58 l0 a1).f2).size : Int) 1 8 true _ lR.out).mono ?_); rintro e w' ⟨rfl, ⟨nd, rfl⟩⟩; (try first | exact ⟨rfl, _, World.drewN_drewN _ _ _⟩ | exact ⟨rfl, _, Eq.trans (World.drewN_drewN _ _ _) (congrArg (World.drewN _) (Nat.add_assoc _ _ _))⟩)) | (go_at_call 76; (with_reducible refine (spec_l1Text.calls kj4 ((rd_T58 l0 a1).f2) true _ mW.out).mono ?_); rintro e w' ⟨rfl, ⟨nd, rfl⟩⟩; (try first | exact ⟨rfl, _, World.drewN_drewN _ _ _⟩ | exact ⟨rfl, _, Eq.trans (World.drewN_drewN _ _ _) (congrArg (World.drewN _) (Nat.add_assoc _ _ _))⟩)))
          repeat (go_quiet (first | (go_at_call 50; (with_reducible refine (spec_l1In.calls (((rd_T58 l0 a1).f2).size : Int) 1 8 true _ lR.out).mono ?_); rintro e w' ⟨rfl, ⟨nd, rfl⟩⟩; (try first | exact ⟨rfl, _, World.drewN_drewN _ _ _⟩ | exact ⟨rfl, _, Eq.trans (World.drewN_drewN _ _ _) (congrArg (World.drewN _) (Nat.add_assoc _ _ _))⟩)) | (go_at_call 76; (with_reducible refine (spec_l1Text.calls kj4 ((rd_T58 l0 a1).f2) true _ mW.out).mono ?_); rintro e w' ⟨rfl, ⟨nd, rfl⟩⟩; (try first | exact ⟨rfl, _, World.drewN_drewN _ _ _⟩ | exact ⟨rfl, _, Eq.trans (World.drewN_drewN _ _ _) (congrArg (World.drewN _) (Nat.add_assoc _ _ _))⟩))); try go_wp2_with (first | (go_at_call 50; (with_reducible refine (spec_l1In.calls (((rd_T58 l0 a1).f2).size : Int) 1 8 true _ lR.out).mono ?_); rintro e w' ⟨rfl, ⟨nd, rfl⟩⟩; (try first | exact ⟨rfl, _, World.drewN_drewN _ _ _⟩ | exact ⟨rfl, _, Eq.trans (World.drewN_drewN _ _ _) (congrArg (World.drewN _) (Nat.add_assoc _ _ _))⟩)) | (go_at_call 76; (with_reducible refine (spec_l1Text.calls kj4 ((rd_T58 l0 a1).f2) true _ mW.out).mono ?_); rintro e w' ⟨rfl, ⟨nd, rfl⟩⟩; (try first | exact ⟨rfl, _, World.drewN_drewN _ _ _⟩ | exact ⟨rfl, _, Eq.trans (World.drewN_drewN _ _ _) (congrArg (World.drewN _) (Nat.add_assoc _ _ _))⟩))))
          go_ret
          exact ⟨y2, y12⟩
         ·rw [if_neg i1] at H
          have c17b0 : (((rd_T58 l0 a1).f4) == 0) = false := qF i1
          have c17b1 : (((rd_T58 l0 a1).f4) != 0) = true := nT i1
          obtain rfl := sI H
          have fD : wc.cell? ⟨bo, 0, none⟩ = some (.int .i64 ((rd_T58 l0 a1).f0)) := (bC a9.out 0).trans rfl
          have iJ : wc.cell? ⟨bo, 1, none⟩ = some (.int .i64 ((rd_T58 l0 a1).f1)) := (bC a9.out 1).trans rfl
          have iI : wc.cell? ⟨bo, 2, none⟩ = some (.string ((rd_T58 l0 a1).f2)) := (bC a9.out 2).trans rfl
          have iH : wc.cell? ⟨bo, 3, none⟩ = some (.int .i64 ((rd_T58 l0 a1).f3)) := (bC a9.out 3).trans rfl
          have iG : wc.cell? ⟨bo, 4, none⟩ = some (.int .i64 ((rd_T58 l0 a1).f4)) := (bC a9.out 4).trans rfl
          have fB := bF a9.out 0
          have ip := bF a9.out 1
          have im := bF a9.out 2
          have il := bF a9.out 3
          have ik := bF a9.out 4
          go_wp2_with (first | (go_at_call 50; (with_reducible refine (spec_l1In.calls (((rd_T58 l0 a1).f2).size : Int) 1 8 true _ lR.out).mono ?_); rintro e w' ⟨rfl, ⟨nd, rfl⟩⟩; (try first | exact ⟨rfl, _, World.drewN_drewN _ _ _⟩ | exact ⟨rfl, _, Eq.trans (World.drewN_drewN _ _ _) (congrArg (World.drewN _) (Nat.add_assoc _ _ _))⟩)) | (go_at_call 76; (with_reducible refine (spec_l1Text.calls kj4 ((rd_T58 l0 a1).f2) true _ mW.out).mono ?_); rintro e w' ⟨rfl, ⟨nd, rfl⟩⟩; (try first | exact ⟨rfl, _, World.drewN_drewN _ _ _⟩ | exact ⟨rfl, _, Eq.trans (World.drewN_drewN _ _ _) (congrArg (World.drewN _) (Nat.add_assoc _ _ _))⟩)))
          repeat (go_quiet (first | (go_at_call 50; (with_reducible refine (spec_l1In.calls (((rd_T58 l0 a1).f2).size : Int) 1 8 true _ lR.out).mono ?_); rintro e w' ⟨rfl, ⟨nd, rfl⟩⟩; (try first | exact ⟨rfl, _, World.drewN_drewN _ _ _⟩ | exact ⟨rfl, _, Eq.trans (World.drewN_drewN _ _ _) (congrArg (World.drewN _) (Nat.add_assoc _ _ _))⟩)) | (go_at_call 76; (with_reducible refine (spec_l1Text.calls kj4 ((rd_T58 l0 a1).f2) true _ mW.out).mono ?_); rintro e w' ⟨rfl, ⟨nd, rfl⟩⟩; (try first | exact ⟨rfl, _, World.drewN_drewN _ _ _⟩ | exact ⟨rfl, _, Eq.trans (World.drewN_drewN _ _ _) (congrArg (World.drewN _) (Nat.add_assoc _ _ _))⟩))); try go_wp2_with (first | (go_at_call 50; (with_reducible refine (spec_l1In.calls (((rd_T58 l0 a1).f2).size : Int) 1 8 true _ lR.out).mono ?_); rintro e w' ⟨rfl, ⟨nd, rfl⟩⟩; (try first | exact ⟨rfl, _, World.drewN_drewN _ _ _⟩ | exact ⟨rfl, _, Eq.trans (World.drewN_drewN _ _ _) (congrArg (World.drewN _) (Nat.add_assoc _ _ _))⟩)) | (go_at_call 76; (with_reducible refine (spec_l1Text.calls kj4 ((rd_T58 l0 a1).f2) true _ mW.out).mono ?_); rintro e w' ⟨rfl, ⟨nd, rfl⟩⟩; (try first | exact ⟨rfl, _, World.drewN_drewN _ _ _⟩ | exact ⟨rfl, _, Eq.trans (World.drewN_drewN _ _ _) (congrArg (World.drewN _) (Nat.add_assoc _ _ _))⟩))))
          go_ret
          exact ⟨y2, y12⟩
        ·rw [if_neg lp] at H
         have c16b0 : (((rd_T58 l0 a1).f3) == (((rd_T58 l0 a1).f2).size : Int)) = false := qF lp
         have c16b1 : (((rd_T58 l0 a1).f3) != (((rd_T58 l0 a1).f2).size : Int)) = true := nT lp
         obtain rfl := sI H
         have iF : wc.cell? ⟨bo, 0, none⟩ = some (.int .i64 ((rd_T58 l0 a1).f0)) := (bC a9.out 0).trans rfl
         have iE : wc.cell? ⟨bo, 1, none⟩ = some (.int .i64 ((rd_T58 l0 a1).f1)) := (bC a9.out 1).trans rfl
         have iD : wc.cell? ⟨bo, 2, none⟩ = some (.string ((rd_T58 l0 a1).f2)) := (bC a9.out 2).trans rfl
         have iC : wc.cell? ⟨bo, 3, none⟩ = some (.int .i64 ((rd_T58 l0 a1).f3)) := (bC a9.out 3).trans rfl
         have iB : wc.cell? ⟨bo, 4, none⟩ = some (.int .i64 ((rd_T58 l0 a1).f4)) := (bC a9.out 4).trans rfl
         have ij := bF a9.out 0
         have ii := bF a9.out 1
         have ig := bF a9.out 2
         have ie := bF a9.out 3
         have ic := bF a9.out 4
         go_wp2_with (first | (go_at_call 50; (with_reducible refine (spec_l1In.calls (((rd_T58 l0 a1).f2).size : Int) 1 8 true _ lR.out).mono ?_); rintro e w' ⟨rfl, ⟨nd, rfl⟩⟩; (try first | exact ⟨rfl, _, World.drewN_drewN _ _ _⟩ | exact ⟨rfl, _, Eq.trans (World.drewN_drewN _ _ _) (congrArg (World.drewN _) (Nat.add_assoc _ _ _))⟩)) | (go_at_call 76; (with_reducible refine (spec_l1Text.calls kj4 ((rd_T58 l0 a1).f2) true _ mW.out).mono ?_); rintro e w' ⟨rfl, ⟨nd, rfl⟩⟩; (try first | exact ⟨rfl, _, World.drewN_drewN _ _ _⟩ | exact ⟨rfl, _, Eq.trans (World.drewN_drewN _ _ _) (congrArg (World.drewN _) (Nat.add_assoc _ _ _))⟩)))
         repeat (go_quiet (first | (go_at_call 50; (with_reducible refine (spec_l1In.calls (((rd_T58 l0 a1).f2).size : Int) 1 8 true _ lR.out).mono ?_); rintro e w' ⟨rfl, ⟨nd, rfl⟩⟩; (try first | exact ⟨rfl, _, World.drewN_drewN _ _ _⟩ | exact ⟨rfl, _, Eq.trans (World.drewN_drewN _ _ _) (congrArg (World.drewN _) (Nat.add_assoc _ _ _))⟩)) | (go_at_call 76; (with_reducible refine (spec_l1Text.calls kj4 ((rd_T58 l0 a1).f2) true _ mW.out).mono ?_); rintro e w' ⟨rfl, ⟨nd, rfl⟩⟩; (try first | exact ⟨rfl, _, World.drewN_drewN _ _ _⟩ | exact ⟨rfl, _, Eq.trans (World.drewN_drewN _ _ _) (congrArg (World.drewN _) (Nat.add_assoc _ _ _))⟩))); try go_wp2_with (first | (go_at_call 50; (with_reducible refine (spec_l1In.calls (((rd_T58 l0 a1).f2).size : Int) 1 8 true _ lR.out).mono ?_); rintro e w' ⟨rfl, ⟨nd, rfl⟩⟩; (try first | exact ⟨rfl, _, World.drewN_drewN _ _ _⟩ | exact ⟨rfl, _, Eq.trans (World.drewN_drewN _ _ _) (congrArg (World.drewN _) (Nat.add_assoc _ _ _))⟩)) | (go_at_call 76; (with_reducible refine (spec_l1Text.calls kj4 ((rd_T58 l0 a1).f2) true _ mW.out).mono ?_); rintro e w' ⟨rfl, ⟨nd, rfl⟩⟩; (try first | exact ⟨rfl, _, World.drewN_drewN _ _ _⟩ | exact ⟨rfl, _, Eq.trans (World.drewN_drewN _ _ _) (congrArg (World.drewN _) (Nat.add_assoc _ _ _))⟩))))
         go_ret
         exact ⟨y2, y12⟩
       ·replace gv := Bool.eq_false_iff.mpr gv
        subst gv
        rw [if_neg (show ¬ (false = true) by decide)] at H
        obtain rfl := sI H
        have kE : wc.cell? ⟨bo, 0, none⟩ = some (.int .i64 ((rd_T58 l0 a1).f0)) := (bC a9.out 0).trans rfl
        have kD : wc.cell? ⟨bo, 1, none⟩ = some (.int .i64 ((rd_T58 l0 a1).f1)) := (bC a9.out 1).trans rfl
        have kC : wc.cell? ⟨bo, 2, none⟩ = some (.string ((rd_T58 l0 a1).f2)) := (bC a9.out 2).trans rfl
        have kB : wc.cell? ⟨bo, 3, none⟩ = some (.int .i64 ((rd_T58 l0 a1).f3)) := (bC a9.out 3).trans rfl
        have kA : wc.cell? ⟨bo, 4, none⟩ = some (.int .i64 ((rd_T58 l0 a1).f4)) := (bC a9.out 4).trans rfl
        have j4 := bF a9.out 0
        have j3 := bF a9.out 1
        have jZ := bF a9.out 2
        have jY := bF a9.out 3
        have jX := bF a9.out 4
        go_wp2_with (first | (go_at_call 50; (with_reducible refine (spec_l1In.calls (((rd_T58 l0 a1).f2).size : Int) 1 8 true _ lR.out).mono ?_); rintro e w' ⟨rfl, ⟨nd, rfl⟩⟩; (try first | exact ⟨rfl, _, World.drewN_drewN _ _ _⟩ | exact ⟨rfl, _, Eq.trans (World.drewN_drewN _ _ _) (congrArg (World.drewN _) (Nat.add_assoc _ _ _))⟩)) | (go_at_call 76; (with_reducible refine (spec_l1Text.calls kj4 ((rd_T58 l0 a1).f2) false _ mW.out).mono ?_); rintro e w' ⟨rfl, ⟨nd, rfl⟩⟩; (try first | exact ⟨rfl, _, World.drewN_drewN _ _ _⟩ | exact ⟨rfl, _, Eq.trans (World.drewN_drewN _ _ _) (congrArg (World.drewN _) (Nat.add_assoc _ _ _))⟩)))
        repeat (go_quiet (first | (go_at_call 50; (with_reducible refine (spec_l1In.calls (((rd_T58 l0 a1).f2).size : Int) 1 8 true _ lR.out).mono ?_); rintro e w' ⟨rfl, ⟨nd, rfl⟩⟩; (try first | exact ⟨rfl, _, World.drewN_drewN _ _ _⟩ | exact ⟨rfl, _, Eq.trans (World.drewN_drewN _ _ _) (congrArg (World.drewN _) (Nat.add_assoc _ _ _))⟩)) | (go_at_call 76; (with_reducible refine (spec_l1Text.calls kj4 ((rd_T58 l0 a1).f2) false _ mW.out).mono ?_); rintro e w' ⟨rfl, ⟨nd, rfl⟩⟩; (try first | exact ⟨rfl, _, World.drewN_drewN _ _ _⟩ | exact ⟨rfl, _, Eq.trans (World.drewN_drewN _ _ _) (congrArg (World.drewN _) (Nat.add_assoc _ _ _))⟩))); try go_wp2_with (first | (go_at_call 50; (with_reducible refine (spec_l1In.calls (((rd_T58 l0 a1).f2).size : Int) 1 8 true _ lR.out).mono ?_); rintro e w' ⟨rfl, ⟨nd, rfl⟩⟩; (try first | exact ⟨rfl, _, World.drewN_drewN _ _ _⟩ | exact ⟨rfl, _, Eq.trans (World.drewN_drewN _ _ _) (congrArg (World.drewN _) (Nat.add_assoc _ _ _))⟩)) | (go_at_call 76; (with_reducible refine (spec_l1Text.calls kj4 ((rd_T58 l0 a1).f2) false _ mW.out).mono ?_); rintro e w' ⟨rfl, ⟨nd, rfl⟩⟩; (try first | exact ⟨rfl, _, World.drewN_drewN _ _ _⟩ | exact ⟨rfl, _, Eq.trans (World.drewN_drewN _ _ _) (congrArg (World.drewN _) (Nat.add_assoc _ _ _))⟩))))
        go_ret
        exact ⟨y2, y12⟩
      ·replace gw := Bool.eq_false_iff.mpr gw
       subst gw
       rw [if_neg (show ¬ (false = true) by decide)] at H
       obtain rfl := sI H
       have kz : wc.cell? ⟨bo, 0, none⟩ = some (.int .i64 ((rd_T58 l0 a1).f0)) := (bC a9.out 0).trans rfl
       have ky : wc.cell? ⟨bo, 1, none⟩ = some (.int .i64 ((rd_T58 l0 a1).f1)) := (bC a9.out 1).trans rfl
       have kx : wc.cell? ⟨bo, 2, none⟩ = some (.string ((rd_T58 l0 a1).f2)) := (bC a9.out 2).trans rfl
       have kw : wc.cell? ⟨bo, 3, none⟩ = some (.int .i64 ((rd_T58 l0 a1).f3)) := (bC a9.out 3).trans rfl
       have kv : wc.cell? ⟨bo, 4, none⟩ = some (.int .i64 ((rd_T58 l0 a1).f4)) := (bC a9.out 4).trans rfl
       have jW := bF a9.out 0
       have jV := bF a9.out 1
       have jU := bF a9.out 2
       have jT := bF a9.out 3
       have jS := bF a9.out 4
       go_wp2_with (first | (go_at_call 50; (with_reducible refine (spec_l1In.calls (((rd_T58 l0 a1).f2).size : Int) 1 8 false _ lR.out).mono ?_); rintro e w' ⟨rfl, ⟨nd, rfl⟩⟩; (try first | exact ⟨rfl, _, World.drewN_drewN _ _ _⟩ | exact ⟨rfl, _, Eq.trans (World.drewN_drewN _ _ _) (congrArg (World.drewN _) (Nat.add_assoc _ _ _))⟩)))
       repeat (go_quiet (first | (go_at_call 50; (with_reducible refine (spec_l1In.calls (((rd_T58 l0 a1).f2).size : Int) 1 8 false _ lR.out).mono ?_); rintro e w' ⟨rfl, ⟨nd, rfl⟩⟩; (try first | exact ⟨rfl, _, World.drewN_drewN _ _ _⟩ | exact ⟨rfl, _, Eq.trans (World.drewN_drewN _ _ _) (congrArg (World.drewN _) (Nat.add_assoc _ _ _))⟩))); try go_wp2_with (first | (go_at_call 50; (with_reducible refine (spec_l1In.calls (((rd_T58 l0 a1).f2).size : Int) 1 8 false _ lR.out).mono ?_); rintro e w' ⟨rfl, ⟨nd, rfl⟩⟩; (try first | exact ⟨rfl, _, World.drewN_drewN _ _ _⟩ | exact ⟨rfl, _, Eq.trans (World.drewN_drewN _ _ _) (congrArg (World.drewN _) (Nat.add_assoc _ _ _))⟩))))
       go_ret
       exact ⟨y2, y12⟩
     ·replace fd := Bool.eq_false_iff.mpr fd
      subst fd
      rw [if_neg (show ¬ (false = true) by decide)] at H
      have o7 := aM H
      clear H
      go_upto_region 6 with (fail)
      repeat (go_quiet (fail); go_upto_region 6 with (fail))
      go_cut [58] (fun v58 wc => ∃ (kq : Nat) (x58_22 : Bool), v58 = .bool x58_22 ∧ Aside0 (spec_l12First.j1 kq l0 a1 x58_22 ((rd_T58 l0 a1).f0) ((rd_T58 l0 a1).f1) ((rd_T58 l0 a1).f2) ((rd_T58 l0 a1).f3) ((rd_T58 l0 a1).f4) = some r) ∧ Aside0 (kq ≤ kj4) ∧ Aside0 (wc.heap[bo]? = some (.cells #[.int .i64 ((rd_T58 l0 a1).f0), .int .i64 ((rd_T58 l0 a1).f1), .string ((rd_T58 l0 a1).f2), .int .i64 ((rd_T58 l0 a1).f3), .int .i64 ((rd_T58 l0 a1).f4)] 58 (0, 0))) ∧ Aside0 (Below w.heap.size w wc))
      case first =>
       have H := o7.out
       clear o7
       by_cases mU : ((rd_T58 l0 a1).f2).toList = ([] : List UInt8)
       ·rw [if_pos mU] at H
        have c24b0 : (((rd_T58 l0 a1).f2).toList == ([] : List UInt8)) = true := qT mU
        have c24b1 : (((rd_T58 l0 a1).f2).toList != ([] : List UInt8)) = false := nF mU
        clear mU
        (first | rw [c24b0] | (simp only [i64_w, i32_w]; rw [c24b0]) | skip)
        by_cases nJ : ((rd_T58 l0 a1).f1) = (wrap64 (a1 - 1))
        ·rw [if_pos nJ] at H
         have c25b0 : (((rd_T58 l0 a1).f1) == (wrap64 (a1 - 1))) = true := qT nJ
         have c25b1 : (((rd_T58 l0 a1).f1) != (wrap64 (a1 - 1))) = false := nF nJ
         clear nJ
         have H' := aM H
         clear H
         have kt : wc.cell? ⟨bo, 0, none⟩ = some (.int .i64 ((rd_T58 l0 a1).f0)) := (bC a9.out 0).trans rfl
         have ks : wc.cell? ⟨bo, 1, none⟩ = some (.int .i64 ((rd_T58 l0 a1).f1)) := (bC a9.out 1).trans rfl
         have kr : wc.cell? ⟨bo, 2, none⟩ = some (.string ((rd_T58 l0 a1).f2)) := (bC a9.out 2).trans rfl
         have kp : wc.cell? ⟨bo, 3, none⟩ = some (.int .i64 ((rd_T58 l0 a1).f3)) := (bC a9.out 3).trans rfl
         have ko : wc.cell? ⟨bo, 4, none⟩ = some (.int .i64 ((rd_T58 l0 a1).f4)) := (bC a9.out 4).trans rfl
         have jQ := bF a9.out 0
         have jP := bF a9.out 1
         have jO := bF a9.out 2
         have jN := bF a9.out 3
         have jM := bF a9.out 4
         go_wp2
         all_goals (try (exfalso; rename_i h_; rw [c24b0] at h_; cases h_; done))
         repeat (go_quiet (fail); try go_wp2)
         all_goals (try (exfalso; rename_i h_; rw [c24b0] at h_; cases h_; done))
         go_meet
         case rel => exact ⟨_, (decide (a1 < 2)), z2, H', ⟨by have := mB.out; first | omega | exact Nat.le_refl _⟩, ⟨y10⟩, ⟨y12⟩⟩
        ·rw [if_neg nJ] at H
         have c25b0 : (((rd_T58 l0 a1).f1) == (wrap64 (a1 - 1))) = false := qF nJ
         have c25b1 : (((rd_T58 l0 a1).f1) != (wrap64 (a1 - 1))) = true := nT nJ
         have H' := aM H
         clear H
         have kn : wc.cell? ⟨bo, 0, none⟩ = some (.int .i64 ((rd_T58 l0 a1).f0)) := (bC a9.out 0).trans rfl
         have km : wc.cell? ⟨bo, 1, none⟩ = some (.int .i64 ((rd_T58 l0 a1).f1)) := (bC a9.out 1).trans rfl
         have kk : wc.cell? ⟨bo, 2, none⟩ = some (.string ((rd_T58 l0 a1).f2)) := (bC a9.out 2).trans rfl
         have kj : wc.cell? ⟨bo, 3, none⟩ = some (.int .i64 ((rd_T58 l0 a1).f3)) := (bC a9.out 3).trans rfl
         have ki : wc.cell? ⟨bo, 4, none⟩ = some (.int .i64 ((rd_T58 l0 a1).f4)) := (bC a9.out 4).trans rfl
         have jL := bF a9.out 0
         have jK := bF a9.out 1
         have jJ := bF a9.out 2
         have jI := bF a9.out 3
         have jH := bF a9.out 4
         go_wp2
         all_goals (try (exfalso; rename_i h_; rw [c24b0] at h_; cases h_; done))
         repeat (go_quiet (fail); try go_wp2)
         all_goals (try (exfalso; rename_i h_; rw [c24b0] at h_; cases h_; done))
         go_meet
         case rel => exact ⟨_, (true), z2, H', ⟨by have := mB.out; first | omega | exact Nat.le_refl _⟩, ⟨y10⟩, ⟨y12⟩⟩
       ·rw [if_neg mU] at H
        have c24b0 : (((rd_T58 l0 a1).f2).toList == ([] : List UInt8)) = false := qF mU
        have c24b1 : (((rd_T58 l0 a1).f2).toList != ([] : List UInt8)) = true := nT mU
        (first | rw [c24b0] | (simp only [i64_w, i32_w]; rw [c24b0]) | skip)
        have H' := aM H
        clear H
        have fC : wc.cell? ⟨bo, 0, none⟩ = some (.int .i64 ((rd_T58 l0 a1).f0)) := (bC a9.out 0).trans rfl
        have mo : wc.cell? ⟨bo, 1, none⟩ = some (.int .i64 ((rd_T58 l0 a1).f1)) := (bC a9.out 1).trans rfl
        have mm : wc.cell? ⟨bo, 2, none⟩ = some (.string ((rd_T58 l0 a1).f2)) := (bC a9.out 2).trans rfl
        have ml : wc.cell? ⟨bo, 3, none⟩ = some (.int .i64 ((rd_T58 l0 a1).f3)) := (bC a9.out 3).trans rfl
        have mj : wc.cell? ⟨bo, 4, none⟩ = some (.int .i64 ((rd_T58 l0 a1).f4)) := (bC a9.out 4).trans rfl
        have fA := bF a9.out 0
        have l6 := bF a9.out 1
        have lZ := bF a9.out 2
        have lY := bF a9.out 3
        have lX := bF a9.out 4
        go_wp2
        all_goals (try (exfalso; rename_i h_; rw [c24b0] at h_; cases h_; done))
        repeat (go_quiet (fail); try go_wp2)
        all_goals (try (exfalso; rename_i h_; rw [c24b0] at h_; cases h_; done))
        go_meet
        case rel => exact ⟨_, (true), z2, H', ⟨by have := mB.out; first | omega | exact Nat.le_refl _⟩, ⟨y10⟩, ⟨y12⟩⟩
      case rest =>
       clear o7
       try clear c1
       try clear p1
       try clear q1
       try clear hx1
       try clear c2
       try clear p2
       try clear c3
       try clear c3b0
       try clear c4
       try clear c4b0
       try clear p6
       try clear c8
       try clear c8b0
       try clear c8b1
       try clear fd
       try clear gw
       try clear gv
       try clear p15
       try clear q15
       try clear hx15
       try clear lp
       try clear c16b0
       try clear c16b1
       try clear i1
       try clear c17b0
       try clear c17b1
       try clear mU
       try clear c24b0
       try clear c24b1
       try clear nJ
       try clear c25b0
       try clear c25b1
       try clear iO
       try clear iN
       try clear iM
       try clear iL
       try clear iK
       try clear mu
       try clear mt
       try clear ms
       try clear mr
       try clear mq
       try clear fD
       try clear iJ
       try clear iI
       try clear iH
       try clear iG
       try clear iF
       try clear iE
       try clear iD
       try clear iC
       try clear iB
       try clear kE
       try clear kD
       try clear kC
       try clear kB
       try clear kA
       try clear kz
       try clear ky
       try clear kx
       try clear kw
       try clear kv
       try clear kt
       try clear ks
       try clear kr
       try clear kp
       try clear ko
       try clear kn
       try clear km
       try clear kk
       try clear kj
       try clear ki
       try clear fC
       try clear mo
       try clear mm
       try clear ml
       try clear mj
       try clear f7
       try clear f6
       try clear f5
       try clear fZ
       try clear fY
       try clear fX
       try clear j8
       try clear j7
       try clear j6
       try clear j5
       try clear iw
       try clear iv
       try clear iu
       try clear ir
       try clear iq
       try clear mb
       try clear ma
       try clear l9
       try clear l8
       try clear l7
       try clear fB
       try clear ip
       try clear im
       try clear il
       try clear ik
       try clear ij
       try clear ii
       try clear ig
       try clear ie
       try clear ic
       try clear j4
       try clear j3
       try clear jZ
       try clear jY
       try clear jX
       try clear jW
       try clear jV
       try clear jU
       try clear jT
       try clear jS
       try clear jQ
       try clear jP
       try clear jO
       try clear jN
       try clear jM
       try clear jL
       try clear jK
       try clear jJ
       try clear jI
       try clear jH
       try clear fA
       try clear l6
       try clear lZ
       try clear lY
       try clear lX
       try clear fW
       try clear fV
       try clear fU
       try clear fT
       try clear fS
       try clear fR
       try clear jy
       try clear jx
       try clear jw
       try clear jv
       try clear hx155_0
       try clear hx155_1
       try clear hx155_2
       try clear hx155_3
       try clear hx155_4
       try clear p1
       try clear p155
       try clear p2
       try clear q1
       try clear q155
       obtain ⟨kq, x58_22, rfl, HA, i5, a9, HB⟩ := hcut
       cases kq with
       | zero => exact absurd HA.out (by simp [spec_l12First.j1])
       | succ kj22 =>
        have H := HA.out
        clear HA
        simp only [spec_l12First.j1] at H
        by_cases pl : x58_22 = true
        ·subst pl
         rw [if_pos rfl] at H
         obtain rfl := sI H
         go_wp2
         repeat (go_quiet (fail); try go_wp2)
         go_ret
         exact ⟨y2, y12⟩
        ·replace pl := Bool.eq_false_iff.mpr pl
         subst pl
         rw [if_neg (show ¬ (false = true) by decide)] at H
         replace H := oB H
         obtain ⟨jd, pT, H⟩ := H
         try dsimp only at H
         have iP := aM pT
         clear pT
         have o6 := aM H
         clear H
         go_upto_region 9 with (first | (go_at_call 46; (with_reducible refine (ih kj22 (by have := mB.out; have := i5.out; omega) _ _ l0 (wrap64 (a1 - 1)) jd _ ?side1 ?side2 iP.out).mono ?_); (case side1 => repeat (first | exact (aD dX.out HB.out) | (with_reducible refine aE ?_ _) | (with_reducible refine aG ?_ _) | (with_reducible refine aH ?_))); (case side2 => exact g6.out); rintro e w32 ⟨rfl, hb⟩; have ba := aM (ae (g := bo) (o := .cells #[.int .i64 ((rd_T58 l0 a1).f0), .int .i64 ((rd_T58 l0 a1).f1), .string ((rd_T58 l0 a1).f2), .int .i64 ((rd_T58 l0 a1).f3), .int .i64 ((rd_T58 l0 a1).f4)] 58 (0, 0)) (by (with_reducible repeat (first | refine aq ?_ _ | refine ap ?_ | refine ar ?_ _)); exact a9.out) hb); have bb := aM (ay (by repeat (first | (with_reducible first | exact HB.out | apply bA | apply pD | apply bD | refine ax ?_ fv.out) | exact HB.out)) hb); clear a9; clear HB; have a9 := ba; have HB := bb; clear ba bb; (try clear hb); (try clear hb2); (try clear hk); (try clear hi)))
         repeat (go_quiet (first | (go_at_call 46; (with_reducible refine (ih kj22 (by have := mB.out; have := i5.out; omega) _ _ l0 (wrap64 (a1 - 1)) jd _ ?side1 ?side2 iP.out).mono ?_); (case side1 => repeat (first | exact (aD dX.out HB.out) | (with_reducible refine aE ?_ _) | (with_reducible refine aG ?_ _) | (with_reducible refine aH ?_))); (case side2 => exact g6.out); rintro e w32 ⟨rfl, hb⟩; have ba := aM (ae (g := bo) (o := .cells #[.int .i64 ((rd_T58 l0 a1).f0), .int .i64 ((rd_T58 l0 a1).f1), .string ((rd_T58 l0 a1).f2), .int .i64 ((rd_T58 l0 a1).f3), .int .i64 ((rd_T58 l0 a1).f4)] 58 (0, 0)) (by (with_reducible repeat (first | refine aq ?_ _ | refine ap ?_ | refine ar ?_ _)); exact a9.out) hb); have bb := aM (ay (by repeat (first | (with_reducible first | exact HB.out | apply bA | apply pD | apply bD | refine ax ?_ fv.out) | exact HB.out)) hb); clear a9; clear HB; have a9 := ba; have HB := bb; clear ba bb; (try clear hb); (try clear hb2); (try clear hk); (try clear hi))); go_upto_region 9 with (first | (go_at_call 46; (with_reducible refine (ih kj22 (by have := mB.out; have := i5.out; omega) _ _ l0 (wrap64 (a1 - 1)) jd _ ?side1 ?side2 iP.out).mono ?_); (case side1 => repeat (first | exact (aD dX.out HB.out) | (with_reducible refine aE ?_ _) | (with_reducible refine aG ?_ _) | (with_reducible refine aH ?_))); (case side2 => exact g6.out); rintro e w32 ⟨rfl, hb⟩; have ba := aM (ae (g := bo) (o := .cells #[.int .i64 ((rd_T58 l0 a1).f0), .int .i64 ((rd_T58 l0 a1).f1), .string ((rd_T58 l0 a1).f2), .int .i64 ((rd_T58 l0 a1).f3), .int .i64 ((rd_T58 l0 a1).f4)] 58 (0, 0)) (by (with_reducible repeat (first | refine aq ?_ _ | refine ap ?_ | refine ar ?_ _)); exact a9.out) hb); have bb := aM (ay (by repeat (first | (with_reducible first | exact HB.out | apply bA | apply pD | apply bD | refine ax ?_ fv.out) | exact HB.out)) hb); clear a9; clear HB; have a9 := ba; have HB := bb; clear ba bb; (try clear hb); (try clear hb2); (try clear hk); (try clear hi))))
         (try simp only [Act.put, sA, sB, sC])
         go_cut [71] (fun v71 wc => ∃ (kq : Nat) (x71_30 : Bool), v71 = .bool x71_30 ∧ Aside0 (spec_l12First.j2 kq l0 x71_30 ((rd_T58 l0 a1).f0) ((rd_T58 l0 a1).f1) ((rd_T58 l0 a1).f2) ((rd_T58 l0 a1).f3) ((rd_T58 l0 a1).f4) = some r) ∧ Aside0 (kq ≤ kj22) ∧ Aside0 (wc.heap[bo]? = some (.cells #[.int .i64 ((rd_T58 l0 a1).f0), .int .i64 ((rd_T58 l0 a1).f1), .string ((rd_T58 l0 a1).f2), .int .i64 ((rd_T58 l0 a1).f3), .int .i64 ((rd_T58 l0 a1).f4)] 58 (0, 0))) ∧ Aside0 (Below w.heap.size w wc))
         case first =>
          have H := o6.out
          clear o6
          by_cases lL : jd < 1
          ·rw [if_pos lL] at H
           have c33b0 : decide (jd < 1) = true := dT lL
           clear lL
           (first | rw [c33b0] | (simp only [i64_w, i32_w]; rw [c33b0]) | skip)
           have H' := aM H
           clear H
           go_wp2
           repeat (go_quiet (fail); try go_wp2)
           go_meet
           case rel => exact ⟨_, (true), z2, H', ⟨by have := mB.out; have := i5.out; first | omega | exact Nat.le_refl _⟩, ⟨y10⟩, ⟨y12⟩⟩
          ·rw [if_neg lL] at H
           have c33b0 : decide (jd < 1) = false := dF lL
           clear lL
           (first | rw [c33b0] | (simp only [i64_w, i32_w]; rw [c33b0]) | skip)
           have H' := aM H
           clear H
           have mi : w32.cell? ⟨bo, 0, none⟩ = some (.int .i64 ((rd_T58 l0 a1).f0)) := (bC a9.out 0).trans rfl
           have mh : w32.cell? ⟨bo, 1, none⟩ = some (.int .i64 ((rd_T58 l0 a1).f1)) := (bC a9.out 1).trans rfl
           have mg : w32.cell? ⟨bo, 2, none⟩ = some (.string ((rd_T58 l0 a1).f2)) := (bC a9.out 2).trans rfl
           have mf : w32.cell? ⟨bo, 3, none⟩ = some (.int .i64 ((rd_T58 l0 a1).f3)) := (bC a9.out 3).trans rfl
           have me : w32.cell? ⟨bo, 4, none⟩ = some (.int .i64 ((rd_T58 l0 a1).f4)) := (bC a9.out 4).trans rfl
           have lW := bF a9.out 0
           have lV := bF a9.out 1
           have lU := bF a9.out 2
           have lT := bF a9.out 3
           have lS := bF a9.out 4
           go_wp2
           repeat (go_quiet (fail); try go_wp2)
           go_meet
           case rel => exact ⟨_, ((((rd_T58 l0 a1).f0) != (wrap64 (jd - 1)))), z2, H', ⟨by have := mB.out; have := i5.out; first | omega | exact Nat.le_refl _⟩, ⟨y10⟩, ⟨y12⟩⟩
         case rest =>
          clear o6
          try clear c1
          try clear p1
          try clear q1
          try clear hx1
          try clear c2
          try clear p2
          try clear c3
          try clear c3b0
          try clear c4
          try clear c4b0
          try clear p6
          try clear c8
          try clear c8b0
          try clear c8b1
          try clear fd
          try clear gw
          try clear gv
          try clear p15
          try clear q15
          try clear hx15
          try clear lp
          try clear c16b0
          try clear c16b1
          try clear i1
          try clear c17b0
          try clear c17b1
          try clear mU
          try clear c24b0
          try clear c24b1
          try clear nJ
          try clear c25b0
          try clear c25b1
          try clear pl
          try clear lL
          try clear c33b0
          try clear iO
          try clear iN
          try clear iM
          try clear iL
          try clear iK
          try clear mu
          try clear mt
          try clear ms
          try clear mr
          try clear mq
          try clear fD
          try clear iJ
          try clear iI
          try clear iH
          try clear iG
          try clear iF
          try clear iE
          try clear iD
          try clear iC
          try clear iB
          try clear kE
          try clear kD
          try clear kC
          try clear kB
          try clear kA
          try clear kz
          try clear ky
          try clear kx
          try clear kw
          try clear kv
          try clear kt
          try clear ks
          try clear kr
          try clear kp
          try clear ko
          try clear kn
          try clear km
          try clear kk
          try clear kj
          try clear ki
          try clear fC
          try clear mo
          try clear mm
          try clear ml
          try clear mj
          try clear mi
          try clear mh
          try clear mg
          try clear mf
          try clear me
          try clear f7
          try clear f6
          try clear f5
          try clear fZ
          try clear fY
          try clear fX
          try clear j8
          try clear j7
          try clear j6
          try clear j5
          try clear iw
          try clear iv
          try clear iu
          try clear ir
          try clear iq
          try clear mb
          try clear ma
          try clear l9
          try clear l8
          try clear l7
          try clear fB
          try clear ip
          try clear im
          try clear il
          try clear ik
          try clear ij
          try clear ii
          try clear ig
          try clear ie
          try clear ic
          try clear j4
          try clear j3
          try clear jZ
          try clear jY
          try clear jX
          try clear jW
          try clear jV
          try clear jU
          try clear jT
          try clear jS
          try clear jQ
          try clear jP
          try clear jO
          try clear jN
          try clear jM
          try clear jL
          try clear jK
          try clear jJ
          try clear jI
          try clear jH
          try clear fA
          try clear l6
          try clear lZ
          try clear lY
          try clear lX
          try clear lW
          try clear lV
          try clear lU
          try clear lT
          try clear lS
          try clear fW
          try clear fV
          try clear fU
          try clear fT
          try clear fS
          try clear fR
          try clear jy
          try clear jx
          try clear jw
          try clear jv
          try clear hx155_0
          try clear hx155_1
          try clear hx155_2
          try clear hx155_3
          try clear hx155_4
          try clear p1
          try clear p15
          try clear p155
          try clear p2
          try clear p6
          try clear q1
          try clear q15
          try clear q155
          obtain ⟨kq, x71_30, rfl, HA, mS, a9, HB⟩ := hcut
          cases kq with
          | zero => exact absurd HA.out (by simp [spec_l12First.j2])
          | succ kj30 =>
           have H := HA.out
           clear HA
           simp only [spec_l12First.j2] at H
           by_cases o3 : x71_30 = true
           ·subst o3
            rw [if_pos rfl] at H
            obtain rfl := sI H
            go_wp2
            repeat (go_quiet (fail); try go_wp2)
            go_ret
            exact ⟨y2, y12⟩
           ·replace o3 := Bool.eq_false_iff.mpr o3
            subst o3
            rw [if_neg (show ¬ (false = true) by decide)] at H
            by_cases qg : 0 ≤ ((rd_T58 l0 a1).f0)
            ·rw [if_pos qg] at H
             have c36b0 : decide (0 ≤ ((rd_T58 l0 a1).f0)) = true := dT qg
             clear qg
             by_cases qf : ((rd_T58 l0 a1).f0) < (l0.length : Int)
             ·rw [if_pos qf] at H
              have c37b0 : decide (((rd_T58 l0 a1).f0) < (l0.length : Int)) = true := dT qf
              clear qf
              by_cases o0 : 0 ≤ ((rd_T58 l0 a1).f1)
              ·rw [if_pos o0] at H
               have c38b0 : decide (0 ≤ ((rd_T58 l0 a1).f1)) = true := dT o0
               clear o0
               by_cases oZ : ((rd_T58 l0 a1).f1) < (l0.length : Int)
               ·rw [if_pos oZ] at H
                have c39b0 : decide (((rd_T58 l0 a1).f1) < (l0.length : Int)) = true := dT oZ
                clear oZ
                by_cases pk : ((rd_T58 l0 ((rd_T58 l0 a1).f1)).f4) > ((rd_T58 l0 ((rd_T58 l0 a1).f0)).f4)
                ·rw [if_pos pk] at H
                 have c40b0 : decide (((rd_T58 l0 ((rd_T58 l0 a1).f0)).f4) < ((rd_T58 l0 ((rd_T58 l0 a1).f1)).f4)) = true := dT pk
                 clear pk
                 by_cases nI : ((rd_T58 l0 a1).f3) = (wrap64 (((rd_T58 l0 ((rd_T58 l0 a1).f0)).f3) + ((rd_T58 l0 ((rd_T58 l0 a1).f1)).f3)))
                 ·rw [if_pos nI] at H
                  have c41b0 : (((rd_T58 l0 a1).f3) == (wrap64 (((rd_T58 l0 ((rd_T58 l0 a1).f0)).f3) + ((rd_T58 l0 ((rd_T58 l0 a1).f1)).f3)))) = true := qT nI
                  have c41b1 : (((rd_T58 l0 a1).f3) != (wrap64 (((rd_T58 l0 ((rd_T58 l0 a1).f0)).f3) + ((rd_T58 l0 ((rd_T58 l0 a1).f1)).f3)))) = false := nF nI
                  clear nI
                  by_cases lJ : ((rd_T58 l0 a1).f4) = (wrap64 (((rd_T58 l0 ((rd_T58 l0 a1).f1)).f4) + 1))
                  ·rw [if_pos lJ] at H
                   have c42b0 : (((rd_T58 l0 a1).f4) == (wrap64 (((rd_T58 l0 ((rd_T58 l0 a1).f1)).f4) + 1))) = true := qT lJ
                   have c42b1 : (((rd_T58 l0 a1).f4) != (wrap64 (((rd_T58 l0 ((rd_T58 l0 a1).f1)).f4) + 1))) = false := nF lJ
                   clear lJ
                   replace H := oB H
                   obtain ⟨na, pQ, H⟩ := H
                   try dsimp only at H
                   have qm := aM pQ
                   clear pQ
                   obtain rfl := sI H
                   have hcz44_0 : wc.cell? ⟨bo, 0, none⟩ = some (.int .i64 ((rd_T58 l0 a1).f0)) := (bC a9.out 0).trans rfl
                   have hcz44_1 : wc.cell? ⟨bo, 1, none⟩ = some (.int .i64 ((rd_T58 l0 a1).f1)) := (bC a9.out 1).trans rfl
                   have hcz44_2 : wc.cell? ⟨bo, 2, none⟩ = some (.string ((rd_T58 l0 a1).f2)) := (bC a9.out 2).trans rfl
                   have hcz44_3 : wc.cell? ⟨bo, 3, none⟩ = some (.int .i64 ((rd_T58 l0 a1).f3)) := (bC a9.out 3).trans rfl
                   have hcz44_4 : wc.cell? ⟨bo, 4, none⟩ = some (.int .i64 ((rd_T58 l0 a1).f4)) := (bC a9.out 4).trans rfl
                   have hfz44_0 := bF a9.out 0
                   have hfz44_1 := bF a9.out 1
                   have hfz44_2 := bF a9.out 2
                   have hfz44_3 := bF a9.out 3
                   have hfz44_4 := bF a9.out 4
                   have p160 : 0 ≤ (((rd_T58 l0 a1).f0) : Int) := oD z3
                   have q160 : ((rd_T58 l0 a1).f0) < (l0.length : Int) := oD z3
                   obtain ⟨ad160, e160, hx160_0, hx160_1, hx160_2, hx160_3, hx160_4⟩ := at_T58 dX.out ((rd_T58 l0 a1).f0) p160 q160
                   obtain rfl : ad155 = ad160 := (by injection e160)
                   replace hx160_0 := (HB.out.cell (World.block_lt_of_cell? w _ hx160_0)).trans hx160_0
                   replace hx160_1 := (HB.out.cell (World.block_lt_of_cell? w _ hx160_1)).trans hx160_1
                   replace hx160_2 := (HB.out.cell (World.block_lt_of_cell? w _ hx160_2)).trans hx160_2
                   replace hx160_3 := (HB.out.cell (World.block_lt_of_cell? w _ hx160_3)).trans hx160_3
                   replace hx160_4 := (HB.out.cell (World.block_lt_of_cell? w _ hx160_4)).trans hx160_4
                   replace p160 := eq_true p160
                   replace q160 := eq_true q160
                   have p161 : 0 ≤ (((rd_T58 l0 a1).f1) : Int) := oD z3
                   have q161 : ((rd_T58 l0 a1).f1) < (l0.length : Int) := oD z3
                   obtain ⟨ad161, e161, hx161_0, hx161_1, hx161_2, hx161_3, hx161_4⟩ := at_T58 dX.out ((rd_T58 l0 a1).f1) p161 q161
                   obtain rfl : ad155 = ad161 := (by injection e161)
                   replace hx161_0 := (HB.out.cell (World.block_lt_of_cell? w _ hx161_0)).trans hx161_0
                   replace hx161_1 := (HB.out.cell (World.block_lt_of_cell? w _ hx161_1)).trans hx161_1
                   replace hx161_2 := (HB.out.cell (World.block_lt_of_cell? w _ hx161_2)).trans hx161_2
                   replace hx161_3 := (HB.out.cell (World.block_lt_of_cell? w _ hx161_3)).trans hx161_3
                   replace hx161_4 := (HB.out.cell (World.block_lt_of_cell? w _ hx161_4)).trans hx161_4
                   replace p161 := eq_true p161
                   replace q161 := eq_true q161
                   have p162 : 0 ≤ (((rd_T58 l0 a1).f1) : Int) := oD z3
                   have q162 : ((rd_T58 l0 a1).f1) < (l0.length : Int) := oD z3
                   obtain ⟨ad162, e162, hx162_0, hx162_1, hx162_2, hx162_3, hx162_4⟩ := at_T58 dX.out ((rd_T58 l0 a1).f1) p162 q162
                   obtain rfl : ad155 = ad162 := (by injection e162)
                   replace hx162_0 := (HB.out.cell (World.block_lt_of_cell? w _ hx162_0)).trans hx162_0
                   replace hx162_1 := (HB.out.cell (World.block_lt_of_cell? w _ hx162_1)).trans hx162_1
                   replace hx162_2 := (HB.out.cell (World.block_lt_of_cell? w _ hx162_2)).trans hx162_2
                   replace hx162_3 := (HB.out.cell (World.block_lt_of_cell? w _ hx162_3)).trans hx162_3
                   replace hx162_4 := (HB.out.cell (World.block_lt_of_cell? w _ hx162_4)).trans hx162_4
                   replace p162 := eq_true p162
                   replace q162 := eq_true q162
                   have p163 : 0 ≤ (((rd_T58 l0 a1).f0) : Int) := oD z3
                   have q163 : ((rd_T58 l0 a1).f0) < (l0.length : Int) := oD z3
                   obtain ⟨ad163, e163, hx163_0, hx163_1, hx163_2, hx163_3, hx163_4⟩ := at_T58 dX.out ((rd_T58 l0 a1).f0) p163 q163
                   obtain rfl : ad155 = ad163 := (by injection e163)
                   replace hx163_0 := (HB.out.cell (World.block_lt_of_cell? w _ hx163_0)).trans hx163_0
                   replace hx163_1 := (HB.out.cell (World.block_lt_of_cell? w _ hx163_1)).trans hx163_1
                   replace hx163_2 := (HB.out.cell (World.block_lt_of_cell? w _ hx163_2)).trans hx163_2
                   replace hx163_3 := (HB.out.cell (World.block_lt_of_cell? w _ hx163_3)).trans hx163_3
                   replace hx163_4 := (HB.out.cell (World.block_lt_of_cell? w _ hx163_4)).trans hx163_4
                   replace p163 := eq_true p163
                   replace q163 := eq_true q163
                   have p164 : 0 ≤ (((rd_T58 l0 a1).f1) : Int) := oD z3
                   have q164 : ((rd_T58 l0 a1).f1) < (l0.length : Int) := oD z3
                   obtain ⟨ad164, e164, hx164_0, hx164_1, hx164_2, hx164_3, hx164_4⟩ := at_T58 dX.out ((rd_T58 l0 a1).f1) p164 q164
                   obtain rfl : ad155 = ad164 := (by injection e164)
                   replace hx164_0 := (HB.out.cell (World.block_lt_of_cell? w _ hx164_0)).trans hx164_0
                   replace hx164_1 := (HB.out.cell (World.block_lt_of_cell? w _ hx164_1)).trans hx164_1
                   replace hx164_2 := (HB.out.cell (World.block_lt_of_cell? w _ hx164_2)).trans hx164_2
                   replace hx164_3 := (HB.out.cell (World.block_lt_of_cell? w _ hx164_3)).trans hx164_3
                   replace hx164_4 := (HB.out.cell (World.block_lt_of_cell? w _ hx164_4)).trans hx164_4
                   replace p164 := eq_true p164
                   replace q164 := eq_true q164
                   go_wp2_with (first | (go_at_call 46; (with_reducible refine (ih kj30 (by have := mB.out; have := i5.out; have := mS.out; omega) _ _ l0 ((rd_T58 l0 a1).f0) na _ ?side1 ?side2 qm.out).mono ?_); (case side1 => repeat (first | exact (aD dX.out HB.out) | (with_reducible refine aE ?_ _) | (with_reducible refine aG ?_ _) | (with_reducible refine aH ?_))); (case side2 => exact g6.out); rintro e w45 ⟨rfl, hb⟩; have ba := aM (ae (g := bo) (o := .cells #[.int .i64 ((rd_T58 l0 a1).f0), .int .i64 ((rd_T58 l0 a1).f1), .string ((rd_T58 l0 a1).f2), .int .i64 ((rd_T58 l0 a1).f3), .int .i64 ((rd_T58 l0 a1).f4)] 58 (0, 0)) (by (with_reducible repeat (first | refine aq ?_ _ | refine ap ?_ | refine ar ?_ _)); exact a9.out) hb); have bb := aM (ay (by repeat (first | (with_reducible first | exact HB.out | apply bA | apply pD | apply bD | refine ax ?_ fv.out) | exact HB.out)) hb); clear a9; clear HB; have a9 := ba; have HB := bb; clear ba bb; (try clear hb); (try clear hb2); (try clear hk); (try clear hi)))
                   repeat (go_quiet (first | (go_at_call 46; (with_reducible refine (ih kj30 (by have := mB.out; have := i5.out; have := mS.out; omega) _ _ l0 ((rd_T58 l0 a1).f0) na _ ?side1 ?side2 qm.out).mono ?_); (case side1 => repeat (first | exact (aD dX.out HB.out) | (with_reducible refine aE ?_ _) | (with_reducible refine aG ?_ _) | (with_reducible refine aH ?_))); (case side2 => exact g6.out); rintro e w45 ⟨rfl, hb⟩; have ba := aM (ae (g := bo) (o := .cells #[.int .i64 ((rd_T58 l0 a1).f0), .int .i64 ((rd_T58 l0 a1).f1), .string ((rd_T58 l0 a1).f2), .int .i64 ((rd_T58 l0 a1).f3), .int .i64 ((rd_T58 l0 a1).f4)] 58 (0, 0)) (by (with_reducible repeat (first | refine aq ?_ _ | refine ap ?_ | refine ar ?_ _)); exact a9.out) hb); have bb := aM (ay (by repeat (first | (with_reducible first | exact HB.out | apply bA | apply pD | apply bD | refine ax ?_ fv.out) | exact HB.out)) hb); clear a9; clear HB; have a9 := ba; have HB := bb; clear ba bb; (try clear hb); (try clear hb2); (try clear hk); (try clear hi))); try go_wp2_with (first | (go_at_call 46; (with_reducible refine (ih kj30 (by have := mB.out; have := i5.out; have := mS.out; omega) _ _ l0 ((rd_T58 l0 a1).f0) na _ ?side1 ?side2 qm.out).mono ?_); (case side1 => repeat (first | exact (aD dX.out HB.out) | (with_reducible refine aE ?_ _) | (with_reducible refine aG ?_ _) | (with_reducible refine aH ?_))); (case side2 => exact g6.out); rintro e w45 ⟨rfl, hb⟩; have ba := aM (ae (g := bo) (o := .cells #[.int .i64 ((rd_T58 l0 a1).f0), .int .i64 ((rd_T58 l0 a1).f1), .string ((rd_T58 l0 a1).f2), .int .i64 ((rd_T58 l0 a1).f3), .int .i64 ((rd_T58 l0 a1).f4)] 58 (0, 0)) (by (with_reducible repeat (first | refine aq ?_ _ | refine ap ?_ | refine ar ?_ _)); exact a9.out) hb); have bb := aM (ay (by repeat (first | (with_reducible first | exact HB.out | apply bA | apply pD | apply bD | refine ax ?_ fv.out) | exact HB.out)) hb); clear a9; clear HB; have a9 := ba; have HB := bb; clear ba bb; (try clear hb); (try clear hb2); (try clear hk); (try clear hi))))
                   go_ret
                   exact ⟨y2, y12⟩
                  ·rw [if_neg lJ] at H
                   have c42b0 : (((rd_T58 l0 a1).f4) == (wrap64 (((rd_T58 l0 ((rd_T58 l0 a1).f1)).f4) + 1))) = false := qF lJ
                   have c42b1 : (((rd_T58 l0 a1).f4) != (wrap64 (((rd_T58 l0 ((rd_T58 l0 a1).f1)).f4) + 1))) = true := nT lJ
                   obtain rfl := sI H
                   have iz : wc.cell? ⟨bo, 0, none⟩ = some (.int .i64 ((rd_T58 l0 a1).f0)) := (bC a9.out 0).trans rfl
                   have hcz46_1 : wc.cell? ⟨bo, 1, none⟩ = some (.int .i64 ((rd_T58 l0 a1).f1)) := (bC a9.out 1).trans rfl
                   have hcz46_2 : wc.cell? ⟨bo, 2, none⟩ = some (.string ((rd_T58 l0 a1).f2)) := (bC a9.out 2).trans rfl
                   have hcz46_3 : wc.cell? ⟨bo, 3, none⟩ = some (.int .i64 ((rd_T58 l0 a1).f3)) := (bC a9.out 3).trans rfl
                   have hcz46_4 : wc.cell? ⟨bo, 4, none⟩ = some (.int .i64 ((rd_T58 l0 a1).f4)) := (bC a9.out 4).trans rfl
                   have ia := bF a9.out 0
                   have hfz46_1 := bF a9.out 1
                   have hfz46_2 := bF a9.out 2
                   have hfz46_3 := bF a9.out 3
                   have hfz46_4 := bF a9.out 4
                   have p160 : 0 ≤ (((rd_T58 l0 a1).f0) : Int) := oD z3
                   have q160 : ((rd_T58 l0 a1).f0) < (l0.length : Int) := oD z3
                   obtain ⟨ad160, e160, hx160_0, hx160_1, hx160_2, hx160_3, hx160_4⟩ := at_T58 dX.out ((rd_T58 l0 a1).f0) p160 q160
                   obtain rfl : ad155 = ad160 := (by injection e160)
                   replace hx160_0 := (HB.out.cell (World.block_lt_of_cell? w _ hx160_0)).trans hx160_0
                   replace hx160_1 := (HB.out.cell (World.block_lt_of_cell? w _ hx160_1)).trans hx160_1
                   replace hx160_2 := (HB.out.cell (World.block_lt_of_cell? w _ hx160_2)).trans hx160_2
                   replace hx160_3 := (HB.out.cell (World.block_lt_of_cell? w _ hx160_3)).trans hx160_3
                   replace hx160_4 := (HB.out.cell (World.block_lt_of_cell? w _ hx160_4)).trans hx160_4
                   replace p160 := eq_true p160
                   replace q160 := eq_true q160
                   have p161 : 0 ≤ (((rd_T58 l0 a1).f1) : Int) := oD z3
                   have q161 : ((rd_T58 l0 a1).f1) < (l0.length : Int) := oD z3
                   obtain ⟨ad161, e161, hx161_0, hx161_1, hx161_2, hx161_3, hx161_4⟩ := at_T58 dX.out ((rd_T58 l0 a1).f1) p161 q161
                   obtain rfl : ad155 = ad161 := (by injection e161)
                   replace hx161_0 := (HB.out.cell (World.block_lt_of_cell? w _ hx161_0)).trans hx161_0
                   replace hx161_1 := (HB.out.cell (World.block_lt_of_cell? w _ hx161_1)).trans hx161_1
                   replace hx161_2 := (HB.out.cell (World.block_lt_of_cell? w _ hx161_2)).trans hx161_2
                   replace hx161_3 := (HB.out.cell (World.block_lt_of_cell? w _ hx161_3)).trans hx161_3
                   replace hx161_4 := (HB.out.cell (World.block_lt_of_cell? w _ hx161_4)).trans hx161_4
                   replace p161 := eq_true p161
                   replace q161 := eq_true q161
                   have p162 : 0 ≤ (((rd_T58 l0 a1).f1) : Int) := oD z3
                   have q162 : ((rd_T58 l0 a1).f1) < (l0.length : Int) := oD z3
                   obtain ⟨ad162, e162, hx162_0, hx162_1, hx162_2, hx162_3, hx162_4⟩ := at_T58 dX.out ((rd_T58 l0 a1).f1) p162 q162
                   obtain rfl : ad155 = ad162 := (by injection e162)
                   replace hx162_0 := (HB.out.cell (World.block_lt_of_cell? w _ hx162_0)).trans hx162_0
                   replace hx162_1 := (HB.out.cell (World.block_lt_of_cell? w _ hx162_1)).trans hx162_1
                   replace hx162_2 := (HB.out.cell (World.block_lt_of_cell? w _ hx162_2)).trans hx162_2
                   replace hx162_3 := (HB.out.cell (World.block_lt_of_cell? w _ hx162_3)).trans hx162_3
                   replace hx162_4 := (HB.out.cell (World.block_lt_of_cell? w _ hx162_4)).trans hx162_4
                   replace p162 := eq_true p162
                   replace q162 := eq_true q162
                   have p163 : 0 ≤ (((rd_T58 l0 a1).f0) : Int) := oD z3
                   have q163 : ((rd_T58 l0 a1).f0) < (l0.length : Int) := oD z3
                   obtain ⟨ad163, e163, hx163_0, hx163_1, hx163_2, hx163_3, hx163_4⟩ := at_T58 dX.out ((rd_T58 l0 a1).f0) p163 q163
                   obtain rfl : ad155 = ad163 := (by injection e163)
                   replace hx163_0 := (HB.out.cell (World.block_lt_of_cell? w _ hx163_0)).trans hx163_0
                   replace hx163_1 := (HB.out.cell (World.block_lt_of_cell? w _ hx163_1)).trans hx163_1
                   replace hx163_2 := (HB.out.cell (World.block_lt_of_cell? w _ hx163_2)).trans hx163_2
                   replace hx163_3 := (HB.out.cell (World.block_lt_of_cell? w _ hx163_3)).trans hx163_3
                   replace hx163_4 := (HB.out.cell (World.block_lt_of_cell? w _ hx163_4)).trans hx163_4
                   replace p163 := eq_true p163
                   replace q163 := eq_true q163
                   have p164 : 0 ≤ (((rd_T58 l0 a1).f1) : Int) := oD z3
                   have q164 : ((rd_T58 l0 a1).f1) < (l0.length : Int) := oD z3
                   obtain ⟨ad164, e164, hx164_0, hx164_1, hx164_2, hx164_3, hx164_4⟩ := at_T58 dX.out ((rd_T58 l0 a1).f1) p164 q164
                   obtain rfl : ad155 = ad164 := (by injection e164)
                   replace hx164_0 := (HB.out.cell (World.block_lt_of_cell? w _ hx164_0)).trans hx164_0
                   replace hx164_1 := (HB.out.cell (World.block_lt_of_cell? w _ hx164_1)).trans hx164_1
                   replace hx164_2 := (HB.out.cell (World.block_lt_of_cell? w _ hx164_2)).trans hx164_2
                   replace hx164_3 := (HB.out.cell (World.block_lt_of_cell? w _ hx164_3)).trans hx164_3
                   replace hx164_4 := (HB.out.cell (World.block_lt_of_cell? w _ hx164_4)).trans hx164_4
                   replace p164 := eq_true p164
                   replace q164 := eq_true q164
                   go_wp2
                   repeat (go_quiet (fail); try go_wp2)
                   go_ret
                   exact ⟨y2, y12⟩
                 ·rw [if_neg nI] at H
                  have c41b0 : (((rd_T58 l0 a1).f3) == (wrap64 (((rd_T58 l0 ((rd_T58 l0 a1).f0)).f3) + ((rd_T58 l0 ((rd_T58 l0 a1).f1)).f3)))) = false := qF nI
                  have c41b1 : (((rd_T58 l0 a1).f3) != (wrap64 (((rd_T58 l0 ((rd_T58 l0 a1).f0)).f3) + ((rd_T58 l0 ((rd_T58 l0 a1).f1)).f3)))) = true := nT nI
                  obtain rfl := sI H
                  have hcz47_0 : wc.cell? ⟨bo, 0, none⟩ = some (.int .i64 ((rd_T58 l0 a1).f0)) := (bC a9.out 0).trans rfl
                  have hcz47_1 : wc.cell? ⟨bo, 1, none⟩ = some (.int .i64 ((rd_T58 l0 a1).f1)) := (bC a9.out 1).trans rfl
                  have hcz47_2 : wc.cell? ⟨bo, 2, none⟩ = some (.string ((rd_T58 l0 a1).f2)) := (bC a9.out 2).trans rfl
                  have hcz47_3 : wc.cell? ⟨bo, 3, none⟩ = some (.int .i64 ((rd_T58 l0 a1).f3)) := (bC a9.out 3).trans rfl
                  have hcz47_4 : wc.cell? ⟨bo, 4, none⟩ = some (.int .i64 ((rd_T58 l0 a1).f4)) := (bC a9.out 4).trans rfl
                  have hfz47_0 := bF a9.out 0
                  have hfz47_1 := bF a9.out 1
                  have hfz47_2 := bF a9.out 2
                  have hfz47_3 := bF a9.out 3
                  have hfz47_4 := bF a9.out 4
                  have p160 : 0 ≤ (((rd_T58 l0 a1).f0) : Int) := oD z3
                  have q160 : ((rd_T58 l0 a1).f0) < (l0.length : Int) := oD z3
                  obtain ⟨ad160, e160, hx160_0, hx160_1, hx160_2, hx160_3, hx160_4⟩ := at_T58 dX.out ((rd_T58 l0 a1).f0) p160 q160
                  obtain rfl : ad155 = ad160 := (by injection e160)
                  replace hx160_0 := (HB.out.cell (World.block_lt_of_cell? w _ hx160_0)).trans hx160_0
                  replace hx160_1 := (HB.out.cell (World.block_lt_of_cell? w _ hx160_1)).trans hx160_1
                  replace hx160_2 := (HB.out.cell (World.block_lt_of_cell? w _ hx160_2)).trans hx160_2
                  replace hx160_3 := (HB.out.cell (World.block_lt_of_cell? w _ hx160_3)).trans hx160_3
                  replace hx160_4 := (HB.out.cell (World.block_lt_of_cell? w _ hx160_4)).trans hx160_4
                  replace p160 := eq_true p160
                  replace q160 := eq_true q160
                  have p161 : 0 ≤ (((rd_T58 l0 a1).f1) : Int) := oD z3
                  have q161 : ((rd_T58 l0 a1).f1) < (l0.length : Int) := oD z3
                  obtain ⟨ad161, e161, hx161_0, hx161_1, hx161_2, hx161_3, hx161_4⟩ := at_T58 dX.out ((rd_T58 l0 a1).f1) p161 q161
                  obtain rfl : ad155 = ad161 := (by injection e161)
                  replace hx161_0 := (HB.out.cell (World.block_lt_of_cell? w _ hx161_0)).trans hx161_0
                  replace hx161_1 := (HB.out.cell (World.block_lt_of_cell? w _ hx161_1)).trans hx161_1
                  replace hx161_2 := (HB.out.cell (World.block_lt_of_cell? w _ hx161_2)).trans hx161_2
                  replace hx161_3 := (HB.out.cell (World.block_lt_of_cell? w _ hx161_3)).trans hx161_3
                  replace hx161_4 := (HB.out.cell (World.block_lt_of_cell? w _ hx161_4)).trans hx161_4
                  replace p161 := eq_true p161
                  replace q161 := eq_true q161
                  have p162 : 0 ≤ (((rd_T58 l0 a1).f1) : Int) := oD z3
                  have q162 : ((rd_T58 l0 a1).f1) < (l0.length : Int) := oD z3
                  obtain ⟨ad162, e162, hx162_0, hx162_1, hx162_2, hx162_3, hx162_4⟩ := at_T58 dX.out ((rd_T58 l0 a1).f1) p162 q162
                  obtain rfl : ad155 = ad162 := (by injection e162)
                  replace hx162_0 := (HB.out.cell (World.block_lt_of_cell? w _ hx162_0)).trans hx162_0
                  replace hx162_1 := (HB.out.cell (World.block_lt_of_cell? w _ hx162_1)).trans hx162_1
                  replace hx162_2 := (HB.out.cell (World.block_lt_of_cell? w _ hx162_2)).trans hx162_2
                  replace hx162_3 := (HB.out.cell (World.block_lt_of_cell? w _ hx162_3)).trans hx162_3
                  replace hx162_4 := (HB.out.cell (World.block_lt_of_cell? w _ hx162_4)).trans hx162_4
                  replace p162 := eq_true p162
                  replace q162 := eq_true q162
                  have p163 : 0 ≤ (((rd_T58 l0 a1).f0) : Int) := oD z3
                  have q163 : ((rd_T58 l0 a1).f0) < (l0.length : Int) := oD z3
                  obtain ⟨ad163, e163, hx163_0, hx163_1, hx163_2, hx163_3, hx163_4⟩ := at_T58 dX.out ((rd_T58 l0 a1).f0) p163 q163
                  obtain rfl : ad155 = ad163 := (by injection e163)
                  replace hx163_0 := (HB.out.cell (World.block_lt_of_cell? w _ hx163_0)).trans hx163_0
                  replace hx163_1 := (HB.out.cell (World.block_lt_of_cell? w _ hx163_1)).trans hx163_1
                  replace hx163_2 := (HB.out.cell (World.block_lt_of_cell? w _ hx163_2)).trans hx163_2
                  replace hx163_3 := (HB.out.cell (World.block_lt_of_cell? w _ hx163_3)).trans hx163_3
                  replace hx163_4 := (HB.out.cell (World.block_lt_of_cell? w _ hx163_4)).trans hx163_4
                  replace p163 := eq_true p163
                  replace q163 := eq_true q163
                  have p164 : 0 ≤ (((rd_T58 l0 a1).f1) : Int) := oD z3
                  have q164 : ((rd_T58 l0 a1).f1) < (l0.length : Int) := oD z3
                  obtain ⟨ad164, e164, hx164_0, hx164_1, hx164_2, hx164_3, hx164_4⟩ := at_T58 dX.out ((rd_T58 l0 a1).f1) p164 q164
                  obtain rfl : ad155 = ad164 := (by injection e164)
                  replace hx164_0 := (HB.out.cell (World.block_lt_of_cell? w _ hx164_0)).trans hx164_0
                  replace hx164_1 := (HB.out.cell (World.block_lt_of_cell? w _ hx164_1)).trans hx164_1
                  replace hx164_2 := (HB.out.cell (World.block_lt_of_cell? w _ hx164_2)).trans hx164_2
                  replace hx164_3 := (HB.out.cell (World.block_lt_of_cell? w _ hx164_3)).trans hx164_3
                  replace hx164_4 := (HB.out.cell (World.block_lt_of_cell? w _ hx164_4)).trans hx164_4
                  replace p164 := eq_true p164
                  replace q164 := eq_true q164
                  go_wp2
                  repeat (go_quiet (fail); try go_wp2)
                  go_ret
                  exact ⟨y2, y12⟩
                ·rw [if_neg pk] at H
                 have c40b0 : decide (((rd_T58 l0 ((rd_T58 l0 a1).f0)).f4) < ((rd_T58 l0 ((rd_T58 l0 a1).f1)).f4)) = false := dF pk
                 clear pk
                 by_cases nH : ((rd_T58 l0 a1).f3) = (wrap64 (((rd_T58 l0 ((rd_T58 l0 a1).f0)).f3) + ((rd_T58 l0 ((rd_T58 l0 a1).f1)).f3)))
                 ·rw [if_pos nH] at H
                  have c48b0 : (((rd_T58 l0 a1).f3) == (wrap64 (((rd_T58 l0 ((rd_T58 l0 a1).f0)).f3) + ((rd_T58 l0 ((rd_T58 l0 a1).f1)).f3)))) = true := qT nH
                  have c48b1 : (((rd_T58 l0 a1).f3) != (wrap64 (((rd_T58 l0 ((rd_T58 l0 a1).f0)).f3) + ((rd_T58 l0 ((rd_T58 l0 a1).f1)).f3)))) = false := nF nH
                  clear nH
                  by_cases nG : ((rd_T58 l0 a1).f4) = (wrap64 (((rd_T58 l0 ((rd_T58 l0 a1).f0)).f4) + 1))
                  ·rw [if_pos nG] at H
                   have c49b0 : (((rd_T58 l0 a1).f4) == (wrap64 (((rd_T58 l0 ((rd_T58 l0 a1).f0)).f4) + 1))) = true := qT nG
                   have c49b1 : (((rd_T58 l0 a1).f4) != (wrap64 (((rd_T58 l0 ((rd_T58 l0 a1).f0)).f4) + 1))) = false := nF nG
                   clear nG
                   replace H := oB H
                   obtain ⟨m9, pP, H⟩ := H
                   try dsimp only at H
                   have nQ := aM pP
                   clear pP
                   obtain rfl := sI H
                   have hcz51_0 : wc.cell? ⟨bo, 0, none⟩ = some (.int .i64 ((rd_T58 l0 a1).f0)) := (bC a9.out 0).trans rfl
                   have hcz51_1 : wc.cell? ⟨bo, 1, none⟩ = some (.int .i64 ((rd_T58 l0 a1).f1)) := (bC a9.out 1).trans rfl
                   have hcz51_2 : wc.cell? ⟨bo, 2, none⟩ = some (.string ((rd_T58 l0 a1).f2)) := (bC a9.out 2).trans rfl
                   have hcz51_3 : wc.cell? ⟨bo, 3, none⟩ = some (.int .i64 ((rd_T58 l0 a1).f3)) := (bC a9.out 3).trans rfl
                   have hcz51_4 : wc.cell? ⟨bo, 4, none⟩ = some (.int .i64 ((rd_T58 l0 a1).f4)) := (bC a9.out 4).trans rfl
                   have hfz51_0 := bF a9.out 0
                   have hfz51_1 := bF a9.out 1
                   have hfz51_2 := bF a9.out 2
                   have hfz51_3 := bF a9.out 3
                   have hfz51_4 := bF a9.out 4
                   have p160 : 0 ≤ (((rd_T58 l0 a1).f0) : Int) := oD z3
                   have q160 : ((rd_T58 l0 a1).f0) < (l0.length : Int) := oD z3
                   obtain ⟨ad160, e160, hx160_0, hx160_1, hx160_2, hx160_3, hx160_4⟩ := at_T58 dX.out ((rd_T58 l0 a1).f0) p160 q160
                   obtain rfl : ad155 = ad160 := (by injection e160)
                   replace hx160_0 := (HB.out.cell (World.block_lt_of_cell? w _ hx160_0)).trans hx160_0
                   replace hx160_1 := (HB.out.cell (World.block_lt_of_cell? w _ hx160_1)).trans hx160_1
                   replace hx160_2 := (HB.out.cell (World.block_lt_of_cell? w _ hx160_2)).trans hx160_2
                   replace hx160_3 := (HB.out.cell (World.block_lt_of_cell? w _ hx160_3)).trans hx160_3
                   replace hx160_4 := (HB.out.cell (World.block_lt_of_cell? w _ hx160_4)).trans hx160_4
                   replace p160 := eq_true p160
                   replace q160 := eq_true q160
                   have p161 : 0 ≤ (((rd_T58 l0 a1).f1) : Int) := oD z3
                   have q161 : ((rd_T58 l0 a1).f1) < (l0.length : Int) := oD z3
                   obtain ⟨ad161, e161, hx161_0, hx161_1, hx161_2, hx161_3, hx161_4⟩ := at_T58 dX.out ((rd_T58 l0 a1).f1) p161 q161
                   obtain rfl : ad155 = ad161 := (by injection e161)
                   replace hx161_0 := (HB.out.cell (World.block_lt_of_cell? w _ hx161_0)).trans hx161_0
                   replace hx161_1 := (HB.out.cell (World.block_lt_of_cell? w _ hx161_1)).trans hx161_1
                   replace hx161_2 := (HB.out.cell (World.block_lt_of_cell? w _ hx161_2)).trans hx161_2
                   replace hx161_3 := (HB.out.cell (World.block_lt_of_cell? w _ hx161_3)).trans hx161_3
                   replace hx161_4 := (HB.out.cell (World.block_lt_of_cell? w _ hx161_4)).trans hx161_4
                   replace p161 := eq_true p161
                   replace q161 := eq_true q161
                   have p166 : 0 ≤ (((rd_T58 l0 a1).f0) : Int) := oD z3
                   have q166 : ((rd_T58 l0 a1).f0) < (l0.length : Int) := oD z3
                   obtain ⟨ad166, e166, hx166_0, hx166_1, hx166_2, hx166_3, hx166_4⟩ := at_T58 dX.out ((rd_T58 l0 a1).f0) p166 q166
                   obtain rfl : ad155 = ad166 := (by injection e166)
                   replace hx166_0 := (HB.out.cell (World.block_lt_of_cell? w _ hx166_0)).trans hx166_0
                   replace hx166_1 := (HB.out.cell (World.block_lt_of_cell? w _ hx166_1)).trans hx166_1
                   replace hx166_2 := (HB.out.cell (World.block_lt_of_cell? w _ hx166_2)).trans hx166_2
                   replace hx166_3 := (HB.out.cell (World.block_lt_of_cell? w _ hx166_3)).trans hx166_3
                   replace hx166_4 := (HB.out.cell (World.block_lt_of_cell? w _ hx166_4)).trans hx166_4
                   replace p166 := eq_true p166
                   replace q166 := eq_true q166
                   have p167 : 0 ≤ (((rd_T58 l0 a1).f1) : Int) := oD z3
                   have q167 : ((rd_T58 l0 a1).f1) < (l0.length : Int) := oD z3
                   obtain ⟨ad167, e167, hx167_0, hx167_1, hx167_2, hx167_3, hx167_4⟩ := at_T58 dX.out ((rd_T58 l0 a1).f1) p167 q167
                   obtain rfl : ad155 = ad167 := (by injection e167)
                   replace hx167_0 := (HB.out.cell (World.block_lt_of_cell? w _ hx167_0)).trans hx167_0
                   replace hx167_1 := (HB.out.cell (World.block_lt_of_cell? w _ hx167_1)).trans hx167_1
                   replace hx167_2 := (HB.out.cell (World.block_lt_of_cell? w _ hx167_2)).trans hx167_2
                   replace hx167_3 := (HB.out.cell (World.block_lt_of_cell? w _ hx167_3)).trans hx167_3
                   replace hx167_4 := (HB.out.cell (World.block_lt_of_cell? w _ hx167_4)).trans hx167_4
                   replace p167 := eq_true p167
                   replace q167 := eq_true q167
                   go_wp2_with (first | (go_at_call 46; (with_reducible refine (ih kj30 (by have := mB.out; have := i5.out; have := mS.out; omega) _ _ l0 ((rd_T58 l0 a1).f0) m9 _ ?side1 ?side2 nQ.out).mono ?_); (case side1 => repeat (first | exact (aD dX.out HB.out) | (with_reducible refine aE ?_ _) | (with_reducible refine aG ?_ _) | (with_reducible refine aH ?_))); (case side2 => exact g6.out); rintro e w52 ⟨rfl, hb⟩; have ba := aM (ae (g := bo) (o := .cells #[.int .i64 ((rd_T58 l0 a1).f0), .int .i64 ((rd_T58 l0 a1).f1), .string ((rd_T58 l0 a1).f2), .int .i64 ((rd_T58 l0 a1).f3), .int .i64 ((rd_T58 l0 a1).f4)] 58 (0, 0)) (by (with_reducible repeat (first | refine aq ?_ _ | refine ap ?_ | refine ar ?_ _)); exact a9.out) hb); have bb := aM (ay (by repeat (first | (with_reducible first | exact HB.out | apply bA | apply pD | apply bD | refine ax ?_ fv.out) | exact HB.out)) hb); clear a9; clear HB; have a9 := ba; have HB := bb; clear ba bb; (try clear hb); (try clear hb2); (try clear hk); (try clear hi)))
                   repeat (go_quiet (first | (go_at_call 46; (with_reducible refine (ih kj30 (by have := mB.out; have := i5.out; have := mS.out; omega) _ _ l0 ((rd_T58 l0 a1).f0) m9 _ ?side1 ?side2 nQ.out).mono ?_); (case side1 => repeat (first | exact (aD dX.out HB.out) | (with_reducible refine aE ?_ _) | (with_reducible refine aG ?_ _) | (with_reducible refine aH ?_))); (case side2 => exact g6.out); rintro e w52 ⟨rfl, hb⟩; have ba := aM (ae (g := bo) (o := .cells #[.int .i64 ((rd_T58 l0 a1).f0), .int .i64 ((rd_T58 l0 a1).f1), .string ((rd_T58 l0 a1).f2), .int .i64 ((rd_T58 l0 a1).f3), .int .i64 ((rd_T58 l0 a1).f4)] 58 (0, 0)) (by (with_reducible repeat (first | refine aq ?_ _ | refine ap ?_ | refine ar ?_ _)); exact a9.out) hb); have bb := aM (ay (by repeat (first | (with_reducible first | exact HB.out | apply bA | apply pD | apply bD | refine ax ?_ fv.out) | exact HB.out)) hb); clear a9; clear HB; have a9 := ba; have HB := bb; clear ba bb; (try clear hb); (try clear hb2); (try clear hk); (try clear hi))); try go_wp2_with (first | (go_at_call 46; (with_reducible refine (ih kj30 (by have := mB.out; have := i5.out; have := mS.out; omega) _ _ l0 ((rd_T58 l0 a1).f0) m9 _ ?side1 ?side2 nQ.out).mono ?_); (case side1 => repeat (first | exact (aD dX.out HB.out) | (with_reducible refine aE ?_ _) | (with_reducible refine aG ?_ _) | (with_reducible refine aH ?_))); (case side2 => exact g6.out); rintro e w52 ⟨rfl, hb⟩; have ba := aM (ae (g := bo) (o := .cells #[.int .i64 ((rd_T58 l0 a1).f0), .int .i64 ((rd_T58 l0 a1).f1), .string ((rd_T58 l0 a1).f2), .int .i64 ((rd_T58 l0 a1).f3), .int .i64 ((rd_T58 l0 a1).f4)] 58 (0, 0)) (by (with_reducible repeat (first | refine aq ?_ _ | refine ap ?_ | refine ar ?_ _)); exact a9.out) hb); have bb := aM (ay (by repeat (first | (with_reducible first | exact HB.out | apply bA | apply pD | apply bD | refine ax ?_ fv.out) | exact HB.out)) hb); clear a9; clear HB; have a9 := ba; have HB := bb; clear ba bb; (try clear hb); (try clear hb2); (try clear hk); (try clear hi))))
                   go_ret
                   exact ⟨y2, y12⟩
                  ·rw [if_neg nG] at H
                   have c49b0 : (((rd_T58 l0 a1).f4) == (wrap64 (((rd_T58 l0 ((rd_T58 l0 a1).f0)).f4) + 1))) = false := qF nG
                   have c49b1 : (((rd_T58 l0 a1).f4) != (wrap64 (((rd_T58 l0 ((rd_T58 l0 a1).f0)).f4) + 1))) = true := nT nG
                   obtain rfl := sI H
                   have hcz53_0 : wc.cell? ⟨bo, 0, none⟩ = some (.int .i64 ((rd_T58 l0 a1).f0)) := (bC a9.out 0).trans rfl
                   have hcz53_1 : wc.cell? ⟨bo, 1, none⟩ = some (.int .i64 ((rd_T58 l0 a1).f1)) := (bC a9.out 1).trans rfl
                   have hcz53_2 : wc.cell? ⟨bo, 2, none⟩ = some (.string ((rd_T58 l0 a1).f2)) := (bC a9.out 2).trans rfl
                   have hcz53_3 : wc.cell? ⟨bo, 3, none⟩ = some (.int .i64 ((rd_T58 l0 a1).f3)) := (bC a9.out 3).trans rfl
                   have hcz53_4 : wc.cell? ⟨bo, 4, none⟩ = some (.int .i64 ((rd_T58 l0 a1).f4)) := (bC a9.out 4).trans rfl
                   have hfz53_0 := bF a9.out 0
                   have hfz53_1 := bF a9.out 1
                   have hfz53_2 := bF a9.out 2
                   have hfz53_3 := bF a9.out 3
                   have hfz53_4 := bF a9.out 4
                   have p160 : 0 ≤ (((rd_T58 l0 a1).f0) : Int) := oD z3
                   have q160 : ((rd_T58 l0 a1).f0) < (l0.length : Int) := oD z3
                   obtain ⟨ad160, e160, hx160_0, hx160_1, hx160_2, hx160_3, hx160_4⟩ := at_T58 dX.out ((rd_T58 l0 a1).f0) p160 q160
                   obtain rfl : ad155 = ad160 := (by injection e160)
                   replace hx160_0 := (HB.out.cell (World.block_lt_of_cell? w _ hx160_0)).trans hx160_0
                   replace hx160_1 := (HB.out.cell (World.block_lt_of_cell? w _ hx160_1)).trans hx160_1
                   replace hx160_2 := (HB.out.cell (World.block_lt_of_cell? w _ hx160_2)).trans hx160_2
                   replace hx160_3 := (HB.out.cell (World.block_lt_of_cell? w _ hx160_3)).trans hx160_3
                   replace hx160_4 := (HB.out.cell (World.block_lt_of_cell? w _ hx160_4)).trans hx160_4
                   replace p160 := eq_true p160
                   replace q160 := eq_true q160
                   have p161 : 0 ≤ (((rd_T58 l0 a1).f1) : Int) := oD z3
                   have q161 : ((rd_T58 l0 a1).f1) < (l0.length : Int) := oD z3
                   obtain ⟨ad161, e161, hx161_0, hx161_1, hx161_2, hx161_3, hx161_4⟩ := at_T58 dX.out ((rd_T58 l0 a1).f1) p161 q161
                   obtain rfl : ad155 = ad161 := (by injection e161)
                   replace hx161_0 := (HB.out.cell (World.block_lt_of_cell? w _ hx161_0)).trans hx161_0
                   replace hx161_1 := (HB.out.cell (World.block_lt_of_cell? w _ hx161_1)).trans hx161_1
                   replace hx161_2 := (HB.out.cell (World.block_lt_of_cell? w _ hx161_2)).trans hx161_2
                   replace hx161_3 := (HB.out.cell (World.block_lt_of_cell? w _ hx161_3)).trans hx161_3
                   replace hx161_4 := (HB.out.cell (World.block_lt_of_cell? w _ hx161_4)).trans hx161_4
                   replace p161 := eq_true p161
                   replace q161 := eq_true q161
                   have p166 : 0 ≤ (((rd_T58 l0 a1).f0) : Int) := oD z3
                   have q166 : ((rd_T58 l0 a1).f0) < (l0.length : Int) := oD z3
                   obtain ⟨ad166, e166, hx166_0, hx166_1, hx166_2, hx166_3, hx166_4⟩ := at_T58 dX.out ((rd_T58 l0 a1).f0) p166 q166
                   obtain rfl : ad155 = ad166 := (by injection e166)
                   replace hx166_0 := (HB.out.cell (World.block_lt_of_cell? w _ hx166_0)).trans hx166_0
                   replace hx166_1 := (HB.out.cell (World.block_lt_of_cell? w _ hx166_1)).trans hx166_1
                   replace hx166_2 := (HB.out.cell (World.block_lt_of_cell? w _ hx166_2)).trans hx166_2
                   replace hx166_3 := (HB.out.cell (World.block_lt_of_cell? w _ hx166_3)).trans hx166_3
                   replace hx166_4 := (HB.out.cell (World.block_lt_of_cell? w _ hx166_4)).trans hx166_4
                   replace p166 := eq_true p166
                   replace q166 := eq_true q166
                   have p167 : 0 ≤ (((rd_T58 l0 a1).f1) : Int) := oD z3
                   have q167 : ((rd_T58 l0 a1).f1) < (l0.length : Int) := oD z3
                   obtain ⟨ad167, e167, hx167_0, hx167_1, hx167_2, hx167_3, hx167_4⟩ := at_T58 dX.out ((rd_T58 l0 a1).f1) p167 q167
                   obtain rfl : ad155 = ad167 := (by injection e167)
                   replace hx167_0 := (HB.out.cell (World.block_lt_of_cell? w _ hx167_0)).trans hx167_0
                   replace hx167_1 := (HB.out.cell (World.block_lt_of_cell? w _ hx167_1)).trans hx167_1
                   replace hx167_2 := (HB.out.cell (World.block_lt_of_cell? w _ hx167_2)).trans hx167_2
                   replace hx167_3 := (HB.out.cell (World.block_lt_of_cell? w _ hx167_3)).trans hx167_3
                   replace hx167_4 := (HB.out.cell (World.block_lt_of_cell? w _ hx167_4)).trans hx167_4
                   replace p167 := eq_true p167
                   replace q167 := eq_true q167
                   go_wp2
                   repeat (go_quiet (fail); try go_wp2)
                   go_ret
                   exact ⟨y2, y12⟩
                 ·rw [if_neg nH] at H
                  have c48b0 : (((rd_T58 l0 a1).f3) == (wrap64 (((rd_T58 l0 ((rd_T58 l0 a1).f0)).f3) + ((rd_T58 l0 ((rd_T58 l0 a1).f1)).f3)))) = false := qF nH
                  have c48b1 : (((rd_T58 l0 a1).f3) != (wrap64 (((rd_T58 l0 ((rd_T58 l0 a1).f0)).f3) + ((rd_T58 l0 ((rd_T58 l0 a1).f1)).f3)))) = true := nT nH
                  obtain rfl := sI H
                  have hcz54_0 : wc.cell? ⟨bo, 0, none⟩ = some (.int .i64 ((rd_T58 l0 a1).f0)) := (bC a9.out 0).trans rfl
                  have hcz54_1 : wc.cell? ⟨bo, 1, none⟩ = some (.int .i64 ((rd_T58 l0 a1).f1)) := (bC a9.out 1).trans rfl
                  have hcz54_2 : wc.cell? ⟨bo, 2, none⟩ = some (.string ((rd_T58 l0 a1).f2)) := (bC a9.out 2).trans rfl
                  have hcz54_3 : wc.cell? ⟨bo, 3, none⟩ = some (.int .i64 ((rd_T58 l0 a1).f3)) := (bC a9.out 3).trans rfl
                  have hcz54_4 : wc.cell? ⟨bo, 4, none⟩ = some (.int .i64 ((rd_T58 l0 a1).f4)) := (bC a9.out 4).trans rfl
                  have hfz54_0 := bF a9.out 0
                  have hfz54_1 := bF a9.out 1
                  have hfz54_2 := bF a9.out 2
                  have hfz54_3 := bF a9.out 3
                  have hfz54_4 := bF a9.out 4
                  have p160 : 0 ≤ (((rd_T58 l0 a1).f0) : Int) := oD z3
                  have q160 : ((rd_T58 l0 a1).f0) < (l0.length : Int) := oD z3
                  obtain ⟨ad160, e160, hx160_0, hx160_1, hx160_2, hx160_3, hx160_4⟩ := at_T58 dX.out ((rd_T58 l0 a1).f0) p160 q160
                  obtain rfl : ad155 = ad160 := (by injection e160)
                  replace hx160_0 := (HB.out.cell (World.block_lt_of_cell? w _ hx160_0)).trans hx160_0
                  replace hx160_1 := (HB.out.cell (World.block_lt_of_cell? w _ hx160_1)).trans hx160_1
                  replace hx160_2 := (HB.out.cell (World.block_lt_of_cell? w _ hx160_2)).trans hx160_2
                  replace hx160_3 := (HB.out.cell (World.block_lt_of_cell? w _ hx160_3)).trans hx160_3
                  replace hx160_4 := (HB.out.cell (World.block_lt_of_cell? w _ hx160_4)).trans hx160_4
                  replace p160 := eq_true p160
                  replace q160 := eq_true q160
                  have p161 : 0 ≤ (((rd_T58 l0 a1).f1) : Int) := oD z3
                  have q161 : ((rd_T58 l0 a1).f1) < (l0.length : Int) := oD z3
                  obtain ⟨ad161, e161, hx161_0, hx161_1, hx161_2, hx161_3, hx161_4⟩ := at_T58 dX.out ((rd_T58 l0 a1).f1) p161 q161
                  obtain rfl : ad155 = ad161 := (by injection e161)
                  replace hx161_0 := (HB.out.cell (World.block_lt_of_cell? w _ hx161_0)).trans hx161_0
                  replace hx161_1 := (HB.out.cell (World.block_lt_of_cell? w _ hx161_1)).trans hx161_1
                  replace hx161_2 := (HB.out.cell (World.block_lt_of_cell? w _ hx161_2)).trans hx161_2
                  replace hx161_3 := (HB.out.cell (World.block_lt_of_cell? w _ hx161_3)).trans hx161_3
                  replace hx161_4 := (HB.out.cell (World.block_lt_of_cell? w _ hx161_4)).trans hx161_4
                  replace p161 := eq_true p161
                  replace q161 := eq_true q161
                  have p166 : 0 ≤ (((rd_T58 l0 a1).f0) : Int) := oD z3
                  have q166 : ((rd_T58 l0 a1).f0) < (l0.length : Int) := oD z3
                  obtain ⟨ad166, e166, hx166_0, hx166_1, hx166_2, hx166_3, hx166_4⟩ := at_T58 dX.out ((rd_T58 l0 a1).f0) p166 q166
                  obtain rfl : ad155 = ad166 := (by injection e166)
                  replace hx166_0 := (HB.out.cell (World.block_lt_of_cell? w _ hx166_0)).trans hx166_0
                  replace hx166_1 := (HB.out.cell (World.block_lt_of_cell? w _ hx166_1)).trans hx166_1
                  replace hx166_2 := (HB.out.cell (World.block_lt_of_cell? w _ hx166_2)).trans hx166_2
                  replace hx166_3 := (HB.out.cell (World.block_lt_of_cell? w _ hx166_3)).trans hx166_3
                  replace hx166_4 := (HB.out.cell (World.block_lt_of_cell? w _ hx166_4)).trans hx166_4
                  replace p166 := eq_true p166
                  replace q166 := eq_true q166
                  have p167 : 0 ≤ (((rd_T58 l0 a1).f1) : Int) := oD z3
                  have q167 : ((rd_T58 l0 a1).f1) < (l0.length : Int) := oD z3
                  obtain ⟨ad167, e167, hx167_0, hx167_1, hx167_2, hx167_3, hx167_4⟩ := at_T58 dX.out ((rd_T58 l0 a1).f1) p167 q167
                  obtain rfl : ad155 = ad167 := (by injection e167)
                  replace hx167_0 := (HB.out.cell (World.block_lt_of_cell? w _ hx167_0)).trans hx167_0
                  replace hx167_1 := (HB.out.cell (World.block_lt_of_cell? w _ hx167_1)).trans hx167_1
                  replace hx167_2 := (HB.out.cell (World.block_lt_of_cell? w _ hx167_2)).trans hx167_2
                  replace hx167_3 := (HB.out.cell (World.block_lt_of_cell? w _ hx167_3)).trans hx167_3
                  replace hx167_4 := (HB.out.cell (World.block_lt_of_cell? w _ hx167_4)).trans hx167_4
                  replace p167 := eq_true p167
                  replace q167 := eq_true q167
                  go_wp2
                  repeat (go_quiet (fail); try go_wp2)
                  go_ret
                  exact ⟨y2, y12⟩
               ·rw [if_neg oZ] at H
                exact absurd H (by simp)
              ·rw [if_neg o0] at H
               exact absurd H (by simp)
             ·rw [if_neg qf] at H
              exact absurd H (by simp)
            ·rw [if_neg qg] at H
             exact absurd H (by simp)
  ·rw [if_neg c4] at H
   exact absurd H (by simp)
 ·rw [if_neg c3] at H
  exact absurd H (by simp)

end Go.Proofs.Ytmkenlejdaphnaa.AFnExactSplitRope
