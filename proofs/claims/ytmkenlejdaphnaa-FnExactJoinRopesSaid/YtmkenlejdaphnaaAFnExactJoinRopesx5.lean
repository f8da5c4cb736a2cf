-- this session's own text: written by wip/tools/ownprint.py over the kit's print
import Derived.Test.YtmkenlejdaphnaaAFnExactJoinRopesx0
import Derived.Test.YtmkenlejdaphnaaAFnExactJoinRopesx3
import Derived.Test.YtmkenlejdaphnaaAFnExactJoinRopesx4
namespace Go.Proofs.Ytmkenlejdaphnaa.AFnExactJoinRopes
open Go.RowKit Go.Proofs.YtmkenlejdaphnaaW.PrintWords Go.Proofs.YtmkenlejdaphnaaW.PrintLast Go.Proofs.YtmkenlejdaphnaaW.PrintMore
attribute [local go_sem] max2_int min2_int max_two min_two max_three min_three max_four min_four   -- for this text's walks alone
set_option linter.unusedVariables false
set_option linter.unusedSimpArgs false

/-! ### spec_l12First: function 46 -/
mutual
def spec_l12First.j0 : Nat → List (S58) → Int → Bool → Int → Int → ByteArray → Int → Int → Option (Int)
 | 0, _, _, _, _, _, _, _, _ => none
 | k + 1, x0, x1, x19, x157000, x157001, x157002, x157003, x157004 => if x19 = true then ((spec_l1In.f (x157002.size : Int) 1 8).bind fun mf => (if mf = true then ((spec_l1Text.f k x157002).bind fun me => (if me = true then (if x157003 = (x157002.size : Int) then (if x157004 = 0 then (some x1) else (some (-1))) else (some (-1))) else (some (-1)))) else (some (-1)))) else (if x157002.toList = ([] : List UInt8) then (if x157001 = (wrap64 (x1 - 1)) then (spec_l12First.j1 k x0 x1 (decide (x1 < 2)) x157000 x157001 x157002 x157003 x157004) else (spec_l12First.j1 k x0 x1 true x157000 x157001 x157002 x157003 x157004)) else (spec_l12First.j1 k x0 x1 true x157000 x157001 x157002 x157003 x157004))
def spec_l12First.j1 : Nat → List (S58) → Int → Bool → Int → Int → ByteArray → Int → Int → Option (Int)
 | 0, _, _, _, _, _, _, _, _ => none
 | k + 1, x0, x1, x58, x157000, x157001, x157002, x157003, x157004 => if x58 = true then (some (-1)) else ((spec_l12First.f k x0 (wrap64 (x1 - 1))).bind fun g7 => (if g7 < 1 then (spec_l12First.j2 k x0 true x157000 x157001 x157002 x157003 x157004) else (spec_l12First.j2 k x0 (x157000 != (wrap64 (g7 - 1))) x157000 x157001 x157002 x157003 x157004)))
def spec_l12First.j2 : Nat → List (S58) → Bool → Int → Int → ByteArray → Int → Int → Option (Int)
 | 0, _, _, _, _, _, _, _ => none
 | k + 1, x0, x71, x157000, x157001, x157002, x157003, x157004 => if x71 = true then (some (-1)) else (if 0 ≤ x157000 then (if x157000 < (x0.length : Int) then (if 0 ≤ x157001 then (if x157001 < (x0.length : Int) then (if ((rd_T58 x0 x157001).f4) > ((rd_T58 x0 x157000).f4) then (if x157003 = (wrap64 (((rd_T58 x0 x157000).f3) + ((rd_T58 x0 x157001).f3))) then (if x157004 = (wrap64 (((rd_T58 x0 x157001).f4) + 1)) then ((spec_l12First.f k x0 x157000).bind fun kU => (some kU)) else (some (-1))) else (some (-1))) else (if x157003 = (wrap64 (((rd_T58 x0 x157000).f3) + ((rd_T58 x0 x157001).f3))) then (if x157004 = (wrap64 (((rd_T58 x0 x157000).f4) + 1)) then ((spec_l12First.f k x0 x157000).bind fun kT => (some kT)) else (some (-1))) else (some (-1)))) else (none)) else (none)) else (none)) else (none))
def spec_l12First.f : Nat → List (S58) → Int → Option (Int)
 | 0, _, _ => none
 | k + 1, l0, a1 => if 0 ≤ a1 then (if a1 < (l0.length : Int) then (if ((rd_T58 l0 a1).f0) = (-1) then (spec_l12First.j0 k l0 a1 (((rd_T58 l0 a1).f1) == (-1)) ((rd_T58 l0 a1).f0) ((rd_T58 l0 a1).f1) ((rd_T58 l0 a1).f2) ((rd_T58 l0 a1).f3) ((rd_T58 l0 a1).f4)) else (spec_l12First.j0 k l0 a1 false ((rd_T58 l0 a1).f0) ((rd_T58 l0 a1).f1) ((rd_T58 l0 a1).f2) ((rd_T58 l0 a1).f3) ((rd_T58 l0 a1).f4))) else (none)) else (none)
end
theorem spec_l12First.mono_l : ∀ k, (∀ y0 y1, LeO (spec_l12First.f k y0 y1) (spec_l12First.f (k + 1) y0 y1)) ∧ (∀ y0 y1 y2 y3 y4 y5 y6 y7, LeO (spec_l12First.j0 k y0 y1 y2 y3 y4 y5 y6 y7) (spec_l12First.j0 (k + 1) y0 y1 y2 y3 y4 y5 y6 y7)) ∧ (∀ y0 y1 y2 y3 y4 y5 y6 y7, LeO (spec_l12First.j1 k y0 y1 y2 y3 y4 y5 y6 y7) (spec_l12First.j1 (k + 1) y0 y1 y2 y3 y4 y5 y6 y7)) ∧ (∀ y0 y1 y2 y3 y4 y5 y6, LeO (spec_l12First.j2 k y0 y1 y2 y3 y4 y5 y6) (spec_l12First.j2 (k + 1) y0 y1 y2 y3 y4 y5 y6))
 | 0 => ⟨fun _ _ r h => by simp [spec_l12First.f] at h, fun _ _ _ _ _ _ _ _ r h => by simp [spec_l12First.j0] at h, fun _ _ _ _ _ _ _ _ r h => by simp [spec_l12First.j1] at h, fun _ _ _ _ _ _ _ r h => by simp [spec_l12First.j2] at h⟩
 | k + 1 => by
  obtain ⟨ih0, ih1, ih2, ih3⟩ := spec_l12First.mono_l k
  refine ⟨?_, ?_, ?_, ?_⟩
  ·intro y0 y1
   unfold spec_l12First.f
   repeat' first
   | (with_reducible exact ih0 _ _)
   | (with_reducible exact ih1 _ _ _ _ _ _ _ _)
   | (with_reducible exact ih2 _ _ _ _ _ _ _ _)
   | (with_reducible exact ih3 _ _ _ _ _ _ _)
   | (with_reducible exact spec_l1Text.mono _ _)
   | (with_reducible exact LeO.refl _)
   | (with_reducible exact LeO.none _)
   | (with_reducible refine LeO.ite ?_ ?_)
   | (with_reducible refine LeO.bind ?_ (fun _ => ?_))
   | exact ih0 _ _
   | exact ih1 _ _ _ _ _ _ _ _
   | exact ih2 _ _ _ _ _ _ _ _
   | exact ih3 _ _ _ _ _ _ _
   | exact spec_l1Text.mono _ _
   | exact LeO.none _
   | refine LeO.ite ?_ ?_
   | refine LeO.bind ?_ (fun _ => ?_)
  ·intro y0 y1 y2 y3 y4 y5 y6 y7
   unfold spec_l12First.j0
   repeat' first
   | (with_reducible exact ih0 _ _)
   | (with_reducible exact ih1 _ _ _ _ _ _ _ _)
   | (with_reducible exact ih2 _ _ _ _ _ _ _ _)
   | (with_reducible exact ih3 _ _ _ _ _ _ _)
   | (with_reducible exact spec_l1Text.mono _ _)
   | (with_reducible exact LeO.refl _)
   | (with_reducible exact LeO.none _)
   | (with_reducible refine LeO.ite ?_ ?_)
   | (with_reducible refine LeO.bind ?_ (fun _ => ?_))
   | exact ih0 _ _
   | exact ih1 _ _ _ _ _ _ _ _
   | exact ih2 _ _ _ _ _ _ _ _
   | exact ih3 _ _ _ _ _ _ _
   | exact spec_l1Text.mono _ _
   | exact LeO.none _
   | refine LeO.ite ?_ ?_
   | refine LeO.bind ?_ (fun _ => ?_)
  ·intro y0 y1 y2 y3 y4 y5 y6 y7
   unfold spec_l12First.j1
   repeat' first
   | (with_reducible exact ih0 _ _)
   | (with_reducible exact ih1 _ _ _ _ _ _ _ _)
   | (with_reducible exact ih2 _ _ _ _ _ _ _ _)
   | (with_reducible exact ih3 _ _ _ _ _ _ _)
   | (with_reducible exact spec_l1Text.mono _ _)
   | (with_reducible exact LeO.refl _)
   | (with_reducible exact LeO.none _)
   | (with_reducible refine LeO.ite ?_ ?_)
   | (with_reducible refine LeO.bind ?_ (fun _ => ?_))
   | exact ih0 _ _
   | exact ih1 _ _ _ _ _ _ _ _
   | exact ih2 _ _ _ _ _ _ _ _
   | exact ih3 _ _ _ _ _ _ _
   | exact spec_l1Text.mono _ _
   | exact LeO.none _
   | refine LeO.ite ?_ ?_
   | refine LeO.bind ?_ (fun _ => ?_)
  ·intro y0 y1 y2 y3 y4 y5 y6
   unfold spec_l12First.j2
   repeat' first
   | (with_reducible exact ih0 _ _)
   | (with_reducible exact ih1 _ _ _ _ _ _ _ _)
   | (with_reducible exact ih2 _ _ _ _ _ _ _ _)
   | (with_reducible exact ih3 _ _ _ _ _ _ _)
   | (with_reducible exact spec_l1Text.mono _ _)
   | (with_reducible exact LeO.refl _)
   | (with_reducible exact LeO.none _)
   | (with_reducible refine LeO.ite ?_ ?_)
   | (with_reducible refine LeO.bind ?_ (fun _ => ?_))
   | exact ih0 _ _
   | exact ih1 _ _ _ _ _ _ _ _
   | exact ih2 _ _ _ _ _ _ _ _
   | exact ih3 _ _ _ _ _ _ _
   | exact spec_l1Text.mono _ _
   | exact LeO.none _
   | refine LeO.ite ?_ ?_
   | refine LeO.bind ?_ (fun _ => ?_)
theorem spec_l12First.mono : ∀ a0 a1 k, LeO (spec_l12First.f k a0 a1) (spec_l12First.f (k + 1) a0 a1) := by
 intro a0 a1 k
 obtain ⟨ih0, ih1, ih2, ih3⟩ := spec_l12First.mono_l k
 exact ih0 a0 a1
set_option maxHeartbeats 8000000 in
set_option maxRecDepth 100000 in
theorem spec_l12First.calls (k : Nat) : ∀ (A0 : Option Addr) (c0 : Nat) (l0 : List (S58)) (a1 : Int) (r : Int) (w : World) (hr0 : Kd.C k58 w A0 l0.length l0) (hc0 : l0.length ≤ c0) (h : spec_l12First.f k l0 a1 = some r),
  Calls Try.prog 46 #[.slice A0 l0.length c0, .int .i64 a1] w fun e w' => e = .returned (.int .i64 r) ∧ Below w.heap.size w w' := by
 induction k using Nat.strongRecOn with
 | _ k ih =>
 intro A0 c0 l0 a1 r w hr0 hc0 h
 cases k with
 | zero => exact absurd h (by simp [spec_l12First.f])
 | succ k =>
 simp only [spec_l12First.f] at h
 have hu58 := Try.underlying58
 have dE := aM hr0
 have jr := aM hc0
 clear hr0 hc0
 have HB := aM (Below.refl w.heap.size w)
 have H : (if 0 ≤ a1 then (if a1 < (l0.length : Int) then (if ((rd_T58 l0 a1).f0) = (-1) then (spec_l12First.j0 k l0 a1 (((rd_T58 l0 a1).f1) == (-1)) ((rd_T58 l0 a1).f0) ((rd_T58 l0 a1).f1) ((rd_T58 l0 a1).f2) ((rd_T58 l0 a1).f3) ((rd_T58 l0 a1).f4)) else (spec_l12First.j0 k l0 a1 false ((rd_T58 l0 a1).f0) ((rd_T58 l0 a1).f1) ((rd_T58 l0 a1).f2) ((rd_T58 l0 a1).f3) ((rd_T58 l0 a1).f4))) else (none)) else (none)) = some r := h
 clear h
 by_cases c3 : 0 ≤ a1
 ·rw [if_pos c3] at H
  have c3b0 : decide (0 ≤ a1) = true := dT c3
  clear c3
  by_cases c4 : a1 < (l0.length : Int)
  ·rw [if_pos c4] at H
   have c4b0 : decide (a1 < (l0.length : Int)) = true := dT c4
   clear c4
   have nw := aM H
   clear H
   have p155 : 0 ≤ (a1 : Int) := oD z2
   have q155 : a1 < (l0.length : Int) := oD z2
   obtain ⟨ad155, e155, hx155_0, hx155_1, hx155_2, hx155_3, hx155_4⟩ := at_T58 dE.out a1 p155 q155
   cases e155
   replace p155 := eq_true p155
   replace q155 := eq_true q155
   go_enter Try.func46, Try.ntmps46
   go_upto_region 2 with (first | ((with_reducible refine aK (N := 5) rfl ?_); (try (refine gate_guard (by rfl) ?_; dsimp only)); refine aN ?hg (N := 5) ?hd (cs := #[.int .i64 0, .int .i64 0, .string (⟨#[]⟩ : ByteArray), .int .i64 0, .int .i64 0]) (t := 58) ?hr ?_; (case hd => rfl); (case hg => rfl); (case hr => first | (go_simp; done) | (go_simp; rfl)); intro bq hg w6 hbox hb; have ba := aM (ay z20 hb); have bc := aM (hbox); have bf := aM ((by rw [hg]; exact (az z20) : w.heap.size ≤ bq)); have bk := aM ((by rw [hg]; exact (az z20) : w.heap.size ≤ bq)); clear HB; have HB := ba; have a8 := bc; have lL := bf; have eS := bk; clear ba bc bf bk; clear hb hbox hg; have fv : w6.cell? ⟨bq, 0, none⟩ = some (.int .i64 0) := (bC a8.out 0).trans rfl; have fu : w6.cell? ⟨bq, 1, none⟩ = some (.int .i64 0) := (bC a8.out 1).trans rfl; have ft : w6.cell? ⟨bq, 2, none⟩ = some (.string (⟨#[]⟩ : ByteArray)) := (bC a8.out 2).trans rfl; have fq : w6.cell? ⟨bq, 3, none⟩ = some (.int .i64 0) := (bC a8.out 3).trans rfl; have fp : w6.cell? ⟨bq, 4, none⟩ = some (.int .i64 0) := (bC a8.out 4).trans rfl; have fm := bF a8.out 0; have fl := bF a8.out 1; have fj := bF a8.out 2; have fi := bF a8.out 3; have fh := bF a8.out 4))
   repeat (go_quiet (first | ((with_reducible refine aK (N := 5) rfl ?_); (try (refine gate_guard (by rfl) ?_; dsimp only)); refine aN ?hg (N := 5) ?hd (cs := #[.int .i64 0, .int .i64 0, .string (⟨#[]⟩ : ByteArray), .int .i64 0, .int .i64 0]) (t := 58) ?hr ?_; (case hd => rfl); (case hg => rfl); (case hr => first | (go_simp; done) | (go_simp; rfl)); intro bq hg w6 hbox hb; have ba := aM (ay z20 hb); have bc := aM (hbox); have bf := aM ((by rw [hg]; exact (az z20) : w.heap.size ≤ bq)); have bk := aM ((by rw [hg]; exact (az z20) : w.heap.size ≤ bq)); clear HB; have HB := ba; have a8 := bc; have lL := bf; have eS := bk; clear ba bc bf bk; clear hb hbox hg; have fv : w6.cell? ⟨bq, 0, none⟩ = some (.int .i64 0) := (bC a8.out 0).trans rfl; have fu : w6.cell? ⟨bq, 1, none⟩ = some (.int .i64 0) := (bC a8.out 1).trans rfl; have ft : w6.cell? ⟨bq, 2, none⟩ = some (.string (⟨#[]⟩ : ByteArray)) := (bC a8.out 2).trans rfl; have fq : w6.cell? ⟨bq, 3, none⟩ = some (.int .i64 0) := (bC a8.out 3).trans rfl; have fp : w6.cell? ⟨bq, 4, none⟩ = some (.int .i64 0) := (bC a8.out 4).trans rfl; have fm := bF a8.out 0; have fl := bF a8.out 1; have fj := bF a8.out 2; have fi := bF a8.out 3; have fh := bF a8.out 4)); go_upto_region 2 with (first | ((with_reducible refine aK (N := 5) rfl ?_); (try (refine gate_guard (by rfl) ?_; dsimp only)); refine aN ?hg (N := 5) ?hd (cs := #[.int .i64 0, .int .i64 0, .string (⟨#[]⟩ : ByteArray), .int .i64 0, .int .i64 0]) (t := 58) ?hr ?_; (case hd => rfl); (case hg => rfl); (case hr => first | (go_simp; done) | (go_simp; rfl)); intro bq hg w6 hbox hb; have ba := aM (ay z20 hb); have bc := aM (hbox); have bf := aM ((by rw [hg]; exact (az z20) : w.heap.size ≤ bq)); have bk := aM ((by rw [hg]; exact (az z20) : w.heap.size ≤ bq)); clear HB; have HB := ba; have a8 := bc; have lL := bf; have eS := bk; clear ba bc bf bk; clear hb hbox hg; have fv : w6.cell? ⟨bq, 0, none⟩ = some (.int .i64 0) := (bC a8.out 0).trans rfl; have fu : w6.cell? ⟨bq, 1, none⟩ = some (.int .i64 0) := (bC a8.out 1).trans rfl; have ft : w6.cell? ⟨bq, 2, none⟩ = some (.string (⟨#[]⟩ : ByteArray)) := (bC a8.out 2).trans rfl; have fq : w6.cell? ⟨bq, 3, none⟩ = some (.int .i64 0) := (bC a8.out 3).trans rfl; have fp : w6.cell? ⟨bq, 4, none⟩ = some (.int .i64 0) := (bC a8.out 4).trans rfl; have fm := bF a8.out 0; have fl := bF a8.out 1; have fj := bF a8.out 2; have fi := bF a8.out 3; have fh := bF a8.out 4)))
   (try simp only [Act.put, sA, sB, sC])
   go_cut [19] (fun v19 wc => ∃ (kq : Nat) (x19_4 : Bool), v19 = .bool x19_4 ∧ Aside0 (spec_l12First.j0 kq l0 a1 x19_4 ((rd_T58 l0 a1).f0) ((rd_T58 l0 a1).f1) ((rd_T58 l0 a1).f2) ((rd_T58 l0 a1).f3) ((rd_T58 l0 a1).f4) = some r) ∧ Aside0 (kq ≤ k) ∧ Aside0 (wc.heap[bq]? = some (.cells #[.int .i64 ((rd_T58 l0 a1).f0), .int .i64 ((rd_T58 l0 a1).f1), .string ((rd_T58 l0 a1).f2), .int .i64 ((rd_T58 l0 a1).f3), .int .i64 ((rd_T58 l0 a1).f4)] 58 (0, 0))) ∧ Aside0 (Below w.heap.size w wc))
   case first =>
    have H := nw.out
    clear nw
    by_cases c8 : ((rd_T58 l0 a1).f0) = (-1)
    ·rw [if_pos c8] at H
     have c8b0 : (((rd_T58 l0 a1).f0) == (-1)) = true := qT c8
     have c8b1 : (((rd_T58 l0 a1).f0) != (-1)) = false := nF c8
     clear c8
     (first | rw [c8b0] | (simp only [i64_w, i32_w]; rw [c8b0]) | skip)
     have H' := aM H
     clear H
     have fo : w6.cell? ⟨bq, 0, none⟩ = some (.int .i64 0) := (bC a8.out 0).trans rfl
     have iQ : w6.cell? ⟨bq, 1, none⟩ = some (.int .i64 0) := (bC a8.out 1).trans rfl
     have iP : w6.cell? ⟨bq, 2, none⟩ = some (.string (⟨#[]⟩ : ByteArray)) := (bC a8.out 2).trans rfl
     have iO : w6.cell? ⟨bq, 3, none⟩ = some (.int .i64 0) := (bC a8.out 3).trans rfl
     have iN : w6.cell? ⟨bq, 4, none⟩ = some (.int .i64 0) := (bC a8.out 4).trans rfl
     have fg := bF a8.out 0
     have ik := bF a8.out 1
     have ij := bF a8.out 2
     have ii := bF a8.out 3
     have ig := bF a8.out 4
     go_wp2
     repeat (go_quiet (fail); try go_wp2)
     go_meet
     case rel => exact ⟨_, ((((rd_T58 l0 a1).f1) == (-1))), z1, H', ⟨by first | omega | exact Nat.le_refl _⟩, ⟨by (with_reducible repeat (first | refine aq ?_ _ | refine ap ?_ | refine ar ?_ _)); refine av (cs := #[.int .i64 ((rd_T58 l0 a1).f0), .int .i64 ((rd_T58 l0 a1).f1), .string ((rd_T58 l0 a1).f2), .int .i64 ((rd_T58 l0 a1).f3), .int .i64 0]) ?_ 4 _ rfl; (with_reducible repeat (first | refine aq ?_ _ | refine ap ?_ | refine ar ?_ _)); refine av (cs := #[.int .i64 ((rd_T58 l0 a1).f0), .int .i64 ((rd_T58 l0 a1).f1), .string ((rd_T58 l0 a1).f2), .int .i64 0, .int .i64 0]) ?_ 3 _ rfl; (with_reducible repeat (first | refine aq ?_ _ | refine ap ?_ | refine ar ?_ _)); refine av (cs := #[.int .i64 ((rd_T58 l0 a1).f0), .int .i64 ((rd_T58 l0 a1).f1), .string (⟨#[]⟩ : ByteArray), .int .i64 0, .int .i64 0]) ?_ 2 _ rfl; (with_reducible repeat (first | refine aq ?_ _ | refine ap ?_ | refine ar ?_ _)); refine av (cs := #[.int .i64 ((rd_T58 l0 a1).f0), .int .i64 0, .string (⟨#[]⟩ : ByteArray), .int .i64 0, .int .i64 0]) ?_ 1 _ rfl; (with_reducible repeat (first | refine aq ?_ _ | refine ap ?_ | refine ar ?_ _)); refine av (cs := #[.int .i64 0, .int .i64 0, .string (⟨#[]⟩ : ByteArray), .int .i64 0, .int .i64 0]) ?_ 0 _ rfl; (with_reducible repeat (first | refine aq ?_ _ | refine ap ?_ | refine ar ?_ _)); exact a8.out⟩, ⟨y12⟩⟩
    ·rw [if_neg c8] at H
     have c8b0 : (((rd_T58 l0 a1).f0) == (-1)) = false := qF c8
     have c8b1 : (((rd_T58 l0 a1).f0) != (-1)) = true := nT c8
     (first | rw [c8b0] | (simp only [i64_w, i32_w]; rw [c8b0]) | skip)
     have H' := aM H
     clear H
     have gQ : w6.cell? ⟨bq, 0, none⟩ = some (.int .i64 0) := (bC a8.out 0).trans rfl
     have gP : w6.cell? ⟨bq, 1, none⟩ = some (.int .i64 0) := (bC a8.out 1).trans rfl
     have gO : w6.cell? ⟨bq, 2, none⟩ = some (.string (⟨#[]⟩ : ByteArray)) := (bC a8.out 2).trans rfl
     have gN : w6.cell? ⟨bq, 3, none⟩ = some (.int .i64 0) := (bC a8.out 3).trans rfl
     have gM : w6.cell? ⟨bq, 4, none⟩ = some (.int .i64 0) := (bC a8.out 4).trans rfl
     have gF := bF a8.out 0
     have gE := bF a8.out 1
     have gD := bF a8.out 2
     have gC := bF a8.out 3
     have gB := bF a8.out 4
     go_wp2
     repeat (go_quiet (fail); try go_wp2)
     go_meet
     case rel => exact ⟨_, (false), z1, H', ⟨by first | omega | exact Nat.le_refl _⟩, ⟨by (with_reducible repeat (first | refine aq ?_ _ | refine ap ?_ | refine ar ?_ _)); refine av (cs := #[.int .i64 ((rd_T58 l0 a1).f0), .int .i64 ((rd_T58 l0 a1).f1), .string ((rd_T58 l0 a1).f2), .int .i64 ((rd_T58 l0 a1).f3), .int .i64 0]) ?_ 4 _ rfl; (with_reducible repeat (first | refine aq ?_ _ | refine ap ?_ | refine ar ?_ _)); refine av (cs := #[.int .i64 ((rd_T58 l0 a1).f0), .int .i64 ((rd_T58 l0 a1).f1), .string ((rd_T58 l0 a1).f2), .int .i64 0, .int .i64 0]) ?_ 3 _ rfl; (with_reducible repeat (first | refine aq ?_ _ | refine ap ?_ | refine ar ?_ _)); refine av (cs := #[.int .i64 ((rd_T58 l0 a1).f0), .int .i64 ((rd_T58 l0 a1).f1), .string (⟨#[]⟩ : ByteArray), .int .i64 0, .int .i64 0]) ?_ 2 _ rfl; (with_reducible repeat (first | refine aq ?_ _ | refine ap ?_ | refine ar ?_ _)); refine av (cs := #[.int .i64 ((rd_T58 l0 a1).f0), .int .i64 0, .string (⟨#[]⟩ : ByteArray), .int .i64 0, .int .i64 0]) ?_ 1 _ rfl; (with_reducible repeat (first | refine aq ?_ _ | refine ap ?_ | refine ar ?_ _)); refine av (cs := #[.int .i64 0, .int .i64 0, .string (⟨#[]⟩ : ByteArray), .int .i64 0, .int .i64 0]) ?_ 0 _ rfl; (with_reducible repeat (first | refine aq ?_ _ | refine ap ?_ | refine ar ?_ _)); exact a8.out⟩, ⟨y12⟩⟩
   case rest =>
    clear nw
    try clear p1
    try clear q1
    try clear hx1
    try clear p2
    try clear c3
    try clear c3b0
    try clear c4
    try clear c4b0
    try clear c8
    try clear c8b0
    try clear c8b1
    try clear gQ
    try clear gP
    try clear gO
    try clear gN
    try clear gM
    try clear fv
    try clear fu
    try clear ft
    try clear fq
    try clear fp
    try clear fo
    try clear iQ
    try clear iP
    try clear iO
    try clear iN
    try clear gF
    try clear gE
    try clear gD
    try clear gC
    try clear gB
    try clear fm
    try clear fl
    try clear fj
    try clear fi
    try clear fh
    try clear fg
    try clear ik
    try clear ij
    try clear ii
    try clear ig
    try clear hx155_0
    try clear hx155_1
    try clear hx155_2
    try clear hx155_3
    try clear hx155_4
    try clear p155
    try clear q155
    obtain ⟨kq, x19_4, rfl, HA, kx, a8, HB⟩ := hcut
    cases kq with
    | zero => exact absurd HA.out (by simp [spec_l12First.j0])
    | succ kj4 =>
     have H := HA.out
     clear HA
     simp only [spec_l12First.j0] at H
     by_cases eI : x19_4 = true
     ·subst eI
      rw [if_pos rfl] at H
      replace H := oB H
      obtain ⟨mf, nc, H⟩ := H
      try dsimp only at H
      have jJ := aM nc
      clear nc
      by_cases gR : mf = true
      ·subst gR
       rw [if_pos rfl] at H
       replace H := oB H
       obtain ⟨me, na, H⟩ := H
       try dsimp only at H
       have kQ := aM na
       clear na
       by_cases fK : me = true
       ·subst fK
        rw [if_pos rfl] at H
        by_cases ji : ((rd_T58 l0 a1).f3) = (((rd_T58 l0 a1).f2).size : Int)
        ·rw [if_pos ji] at H
         have c16b0 : (((rd_T58 l0 a1).f3) == (((rd_T58 l0 a1).f2).size : Int)) = true := qT ji
         have c16b1 : (((rd_T58 l0 a1).f3) != (((rd_T58 l0 a1).f2).size : Int)) = false := nF ji
         clear ji
         by_cases jC : ((rd_T58 l0 a1).f4) = 0
         ·rw [if_pos jC] at H
          have c17b0 : (((rd_T58 l0 a1).f4) == 0) = true := qT jC
          have c17b1 : (((rd_T58 l0 a1).f4) != 0) = false := nF jC
          clear jC
          obtain rfl := sI H
          have ku : wc.cell? ⟨bq, 0, none⟩ = some (.int .i64 ((rd_T58 l0 a1).f0)) := (bC a8.out 0).trans rfl
          have kt : wc.cell? ⟨bq, 1, none⟩ = some (.int .i64 ((rd_T58 l0 a1).f1)) := (bC a8.out 1).trans rfl
          have ks : wc.cell? ⟨bq, 2, none⟩ = some (.string ((rd_T58 l0 a1).f2)) := (bC a8.out 2).trans rfl
          have kr : wc.cell? ⟨bq, 3, none⟩ = some (.int .i64 ((rd_T58 l0 a1).f3)) := (bC a8.out 3).trans rfl
          have kp : wc.cell? ⟨bq, 4, none⟩ = some (.int .i64 ((rd_T58 l0 a1).f4)) := (bC a8.out 4).trans rfl
          have j7 := bF a8.out 0
          have j6 := bF a8.out 1
          have j5 := bF a8.out 2
          have j4 := bF a8.out 3
          have j3 := bF a8.out 4
          go_wp2_with (first | (go_at_call 50; (with_reducible refine (spec_l1In.calls (((rd_T58 l0 a1).f2).size : Int) 1 8 true _ jJ.out).mono ?_); rintro e w' ⟨rfl, ⟨nd, rfl⟩⟩; (try first | exact ⟨rfl, _, World.drewN_drewN _ _ _⟩ | exact ⟨rfl, _, Eq.trans (World.drewN_drewN _ _ _) (congrArg (World.drewN _) (Nat.add_assoc _ _ _))⟩)) | (go_at_call 76; (with_reducible refine (spec_l1Text.calls kj4 ((rd_T58 l0 a1).f2) true _ kQ.out).mono ?_); rintro e w' ⟨rfl, ⟨nd, rfl⟩⟩; (try first | exact ⟨rfl, _, World.drewN_drewN _ _ _⟩ | exact ⟨rfl, _, Eq.trans (World.drewN_drewN _ _ _) (congrArg (World.drewN _) (Nat.add_assoc _ _ _))⟩)))
          repeat (go_quiet (first | (go_at_call 50; (with_reducible refine (spec_l1In.calls (((rd_T58 l0 a1).f2).size : Int) 1 8 true _ jJ.out).mono ?_); rintro e w' ⟨rfl, ⟨nd, rfl⟩⟩; (try first | exact ⟨rfl, _, World.drewN_drewN _ _ _⟩ | exact ⟨rfl, _, Eq.trans (World.drewN_drewN _ _ _) (congrArg (World.drewN _) (Nat.add_assoc _ _ _))⟩)) | (go_at_call 76; (with_reducible refine (spec_l1Text.calls kj4 ((rd_T58 l0 a1).f2) true _ kQ.out).mono ?_); rintro e w' ⟨rfl, ⟨nd, rfl⟩⟩; (try first | exact ⟨rfl, _, World.drewN_drewN _ _ _⟩ | exact ⟨rfl, _, Eq.trans (World.drewN_drewN _ _ _) (congrArg (World.drewN _) (Nat.add_assoc _ _ _))⟩))); try go_wp2_with (first | (go_at_call 50; (with_reducible refine (spec_l1In.calls (((rd_T58 l0 a1).f2).size : Int) 1 8 true _ jJ.out).mono ?_); rintro e w' ⟨rfl, ⟨nd, rfl⟩⟩; (try first | exact ⟨rfl, _, World.drewN_drewN _ _ _⟩ | exact ⟨rfl, _, Eq.trans (World.drewN_drewN _ _ _) (congrArg (World.drewN _) (Nat.add_assoc _ _ _))⟩)) | (go_at_call 76; (with_reducible refine (spec_l1Text.calls kj4 ((rd_T58 l0 a1).f2) true _ kQ.out).mono ?_); rintro e w' ⟨rfl, ⟨nd, rfl⟩⟩; (try first | exact ⟨rfl, _, World.drewN_drewN _ _ _⟩ | exact ⟨rfl, _, Eq.trans (World.drewN_drewN _ _ _) (congrArg (World.drewN _) (Nat.add_assoc _ _ _))⟩))))
          go_ret
          exact ⟨y2, y12⟩
         ·rw [if_neg jC] at H
          have c17b0 : (((rd_T58 l0 a1).f4) == 0) = false := qF jC
          have c17b1 : (((rd_T58 l0 a1).f4) != 0) = true := nT jC
          obtain rfl := sI H
          have je : wc.cell? ⟨bq, 0, none⟩ = some (.int .i64 ((rd_T58 l0 a1).f0)) := (bC a8.out 0).trans rfl
          have ko : wc.cell? ⟨bq, 1, none⟩ = some (.int .i64 ((rd_T58 l0 a1).f1)) := (bC a8.out 1).trans rfl
          have kn : wc.cell? ⟨bq, 2, none⟩ = some (.string ((rd_T58 l0 a1).f2)) := (bC a8.out 2).trans rfl
          have km : wc.cell? ⟨bq, 3, none⟩ = some (.int .i64 ((rd_T58 l0 a1).f3)) := (bC a8.out 3).trans rfl
          have kl : wc.cell? ⟨bq, 4, none⟩ = some (.int .i64 ((rd_T58 l0 a1).f4)) := (bC a8.out 4).trans rfl
          have iK := bF a8.out 0
          have jZ := bF a8.out 1
          have jY := bF a8.out 2
          have jX := bF a8.out 3
          have jW := bF a8.out 4
          go_wp2_with (first | (go_at_call 50; (with_reducible refine (spec_l1In.calls (((rd_T58 l0 a1).f2).size : Int) 1 8 true _ jJ.out).mono ?_); rintro e w' ⟨rfl, ⟨nd, rfl⟩⟩; (try first | exact ⟨rfl, _, World.drewN_drewN _ _ _⟩ | exact ⟨rfl, _, Eq.trans (World.drewN_drewN _ _ _) (congrArg (World.drewN _) (Nat.add_assoc _ _ _))⟩)) | (go_at_call 76; (with_reducible refine (spec_l1Text.calls kj4 ((rd_T58 l0 a1).f2) true _ kQ.out).mono ?_); rintro e w' ⟨rfl, ⟨nd, rfl⟩⟩; (try first | exact ⟨rfl, _, World.drewN_drewN _ _ _⟩ | exact ⟨rfl, _, Eq.trans (World.drewN_drewN _ _ _) (congrArg (World.drewN _) (Nat.add_assoc _ _ _))⟩)))
          repeat (go_quiet (first | (go_at_call 50; (with_reducible refine (spec_l1In.calls (((rd_T58 l0 a1).f2).size : Int) 1 8 true _ jJ.out).mono ?_); rintro e w' ⟨rfl, ⟨nd, rfl⟩⟩; (try first | exact ⟨rfl, _, World.drewN_drewN _ _ _⟩ | exact ⟨rfl, _, Eq.trans (World.drewN_drewN _ _ _) (congrArg (World.drewN _) (Nat.add_assoc _ _ _))⟩)) | (go_at_call 76; (with_reducible refine (spec_l1Text.calls kj4 ((rd_T58 l0 a1).f2) true _ kQ.out).mono ?_); rintro e w' ⟨rfl, ⟨nd, rfl⟩⟩; (try first | exact ⟨rfl, _, World.drewN_drewN _ _ _⟩ | exact ⟨rfl, _, Eq.trans (World.drewN_drewN _ _ _) (congrArg (World.drewN _) (Nat.add_assoc _ _ _))⟩))); try go_wp2_with (first | (go_at_call 50; (with_reducible refine (spec_l1In.calls (((rd_T58 l0 a1).f2).size : Int) 1 8 true _ jJ.out).mono ?_); rintro e w' ⟨rfl, ⟨nd, rfl⟩⟩; (try first | exact ⟨rfl, _, World.drewN_drewN _ _ _⟩ | exact ⟨rfl, _, Eq.trans (World.drewN_drewN _ _ _) (congrArg (World.drewN _) (Nat.add_assoc _ _ _))⟩)) | (go_at_call 76; (with_reducible refine (spec_l1Text.calls kj4 ((rd_T58 l0 a1).f2) true _ kQ.out).mono ?_); rintro e w' ⟨rfl, ⟨nd, rfl⟩⟩; (try first | exact ⟨rfl, _, World.drewN_drewN _ _ _⟩ | exact ⟨rfl, _, Eq.trans (World.drewN_drewN _ _ _) (congrArg (World.drewN _) (Nat.add_assoc _ _ _))⟩))))
          go_ret
          exact ⟨y2, y12⟩
        ·rw [if_neg ji] at H
         have c16b0 : (((rd_T58 l0 a1).f3) == (((rd_T58 l0 a1).f2).size : Int)) = false := qF ji
         have c16b1 : (((rd_T58 l0 a1).f3) != (((rd_T58 l0 a1).f2).size : Int)) = true := nT ji
         obtain rfl := sI H
         have gL : wc.cell? ⟨bq, 0, none⟩ = some (.int .i64 ((rd_T58 l0 a1).f0)) := (bC a8.out 0).trans rfl
         have gK : wc.cell? ⟨bq, 1, none⟩ = some (.int .i64 ((rd_T58 l0 a1).f1)) := (bC a8.out 1).trans rfl
         have gJ : wc.cell? ⟨bq, 2, none⟩ = some (.string ((rd_T58 l0 a1).f2)) := (bC a8.out 2).trans rfl
         have gI : wc.cell? ⟨bq, 3, none⟩ = some (.int .i64 ((rd_T58 l0 a1).f3)) := (bC a8.out 3).trans rfl
         have gH : wc.cell? ⟨bq, 4, none⟩ = some (.int .i64 ((rd_T58 l0 a1).f4)) := (bC a8.out 4).trans rfl
         have gA := bF a8.out 0
         have gz := bF a8.out 1
         have gy := bF a8.out 2
         have gx := bF a8.out 3
         have gw := bF a8.out 4
         go_wp2_with (first | (go_at_call 50; (with_reducible refine (spec_l1In.calls (((rd_T58 l0 a1).f2).size : Int) 1 8 true _ jJ.out).mono ?_); rintro e w' ⟨rfl, ⟨nd, rfl⟩⟩; (try first | exact ⟨rfl, _, World.drewN_drewN _ _ _⟩ | exact ⟨rfl, _, Eq.trans (World.drewN_drewN _ _ _) (congrArg (World.drewN _) (Nat.add_assoc _ _ _))⟩)) | (go_at_call 76; (with_reducible refine (spec_l1Text.calls kj4 ((rd_T58 l0 a1).f2) true _ kQ.out).mono ?_); rintro e w' ⟨rfl, ⟨nd, rfl⟩⟩; (try first | exact ⟨rfl, _, World.drewN_drewN _ _ _⟩ | exact ⟨rfl, _, Eq.trans (World.drewN_drewN _ _ _) (congrArg (World.drewN _) (Nat.add_assoc _ _ _))⟩)))
         repeat (go_quiet (first | (go_at_call 50; (with_reducible refine (spec_l1In.calls (((rd_T58 l0 a1).f2).size : Int) 1 8 true _ jJ.out).mono ?_); rintro e w' ⟨rfl, ⟨nd, rfl⟩⟩; (try first | exact ⟨rfl, _, World.drewN_drewN _ _ _⟩ | exact ⟨rfl, _, Eq.trans (World.drewN_drewN _ _ _) (congrArg (World.drewN _) (Nat.add_assoc _ _ _))⟩)) | (go_at_call 76; (with_reducible refine (spec_l1Text.calls kj4 ((rd_T58 l0 a1).f2) true _ kQ.out).mono ?_); rintro e w' ⟨rfl, ⟨nd, rfl⟩⟩; (try first | exact ⟨rfl, _, World.drewN_drewN _ _ _⟩ | exact ⟨rfl, _, Eq.trans (World.drewN_drewN _ _ _) (congrArg (World.drewN _) (Nat.add_assoc _ _ _))⟩))); try go_wp2_with (first | (go_at_call 50; (with_reducible refine (spec_l1In.calls (((rd_T58 l0 a1).f2).size : Int) 1 8 true _ jJ.out).mono ?_); rintro e w' ⟨rfl, ⟨nd, rfl⟩⟩; (try first | exact ⟨rfl, _, World.drewN_drewN _ _ _⟩ | exact ⟨rfl, _, Eq.trans (World.drewN_drewN _ _ _) (congrArg (World.drewN _) (Nat.add_assoc _ _ _))⟩)) | (go_at_call 76; (with_reducible refine (spec_l1Text.calls kj4 ((rd_T58 l0 a1).f2) true _ kQ.out).mono ?_); rintro e w' ⟨rfl, ⟨nd, rfl⟩⟩; (try first | exact ⟨rfl, _, World.drewN_drewN _ _ _⟩ | exact ⟨rfl, _, Eq.trans (World.drewN_drewN _ _ _) (congrArg (World.drewN _) (Nat.add_assoc _ _ _))⟩))))
         go_ret
         exact ⟨y2, y12⟩
       ·replace fK := Bool.eq_false_iff.mpr fK
        subst fK
        rw [if_neg (show ¬ (false = true) by decide)] at H
        obtain rfl := sI H
        have fD : wc.cell? ⟨bq, 0, none⟩ = some (.int .i64 ((rd_T58 l0 a1).f0)) := (bC a8.out 0).trans rfl
        have jd : wc.cell? ⟨bq, 1, none⟩ = some (.int .i64 ((rd_T58 l0 a1).f1)) := (bC a8.out 1).trans rfl
        have jc : wc.cell? ⟨bq, 2, none⟩ = some (.string ((rd_T58 l0 a1).f2)) := (bC a8.out 2).trans rfl
        have jb : wc.cell? ⟨bq, 3, none⟩ = some (.int .i64 ((rd_T58 l0 a1).f3)) := (bC a8.out 3).trans rfl
        have ja : wc.cell? ⟨bq, 4, none⟩ = some (.int .i64 ((rd_T58 l0 a1).f4)) := (bC a8.out 4).trans rfl
        have fC := bF a8.out 0
        have iJ := bF a8.out 1
        have iI := bF a8.out 2
        have iH := bF a8.out 3
        have iG := bF a8.out 4
        go_wp2_with (first | (go_at_call 50; (with_reducible refine (spec_l1In.calls (((rd_T58 l0 a1).f2).size : Int) 1 8 true _ jJ.out).mono ?_); rintro e w' ⟨rfl, ⟨nd, rfl⟩⟩; (try first | exact ⟨rfl, _, World.drewN_drewN _ _ _⟩ | exact ⟨rfl, _, Eq.trans (World.drewN_drewN _ _ _) (congrArg (World.drewN _) (Nat.add_assoc _ _ _))⟩)) | (go_at_call 76; (with_reducible refine (spec_l1Text.calls kj4 ((rd_T58 l0 a1).f2) false _ kQ.out).mono ?_); rintro e w' ⟨rfl, ⟨nd, rfl⟩⟩; (try first | exact ⟨rfl, _, World.drewN_drewN _ _ _⟩ | exact ⟨rfl, _, Eq.trans (World.drewN_drewN _ _ _) (congrArg (World.drewN _) (Nat.add_assoc _ _ _))⟩)))
        repeat (go_quiet (first | (go_at_call 50; (with_reducible refine (spec_l1In.calls (((rd_T58 l0 a1).f2).size : Int) 1 8 true _ jJ.out).mono ?_); rintro e w' ⟨rfl, ⟨nd, rfl⟩⟩; (try first | exact ⟨rfl, _, World.drewN_drewN _ _ _⟩ | exact ⟨rfl, _, Eq.trans (World.drewN_drewN _ _ _) (congrArg (World.drewN _) (Nat.add_assoc _ _ _))⟩)) | (go_at_call 76; (with_reducible refine (spec_l1Text.calls kj4 ((rd_T58 l0 a1).f2) false _ kQ.out).mono ?_); rintro e w' ⟨rfl, ⟨nd, rfl⟩⟩; (try first | exact ⟨rfl, _, World.drewN_drewN _ _ _⟩ | exact ⟨rfl, _, Eq.trans (World.drewN_drewN _ _ _) (congrArg (World.drewN _) (Nat.add_assoc _ _ _))⟩))); try go_wp2_with (first | (go_at_call 50; (with_reducible refine (spec_l1In.calls (((rd_T58 l0 a1).f2).size : Int) 1 8 true _ jJ.out).mono ?_); rintro e w' ⟨rfl, ⟨nd, rfl⟩⟩; (try first | exact ⟨rfl, _, World.drewN_drewN _ _ _⟩ | exact ⟨rfl, _, Eq.trans (World.drewN_drewN _ _ _) (congrArg (World.drewN _) (Nat.add_assoc _ _ _))⟩)) | (go_at_call 76; (with_reducible refine (spec_l1Text.calls kj4 ((rd_T58 l0 a1).f2) false _ kQ.out).mono ?_); rintro e w' ⟨rfl, ⟨nd, rfl⟩⟩; (try first | exact ⟨rfl, _, World.drewN_drewN _ _ _⟩ | exact ⟨rfl, _, Eq.trans (World.drewN_drewN _ _ _) (congrArg (World.drewN _) (Nat.add_assoc _ _ _))⟩))))
        go_ret
        exact ⟨y2, y12⟩
      ·replace gR := Bool.eq_false_iff.mpr gR
       subst gR
       rw [if_neg (show ¬ (false = true) by decide)] at H
       obtain rfl := sI H
       have i9 : wc.cell? ⟨bq, 0, none⟩ = some (.int .i64 ((rd_T58 l0 a1).f0)) := (bC a8.out 0).trans rfl
       have i7 : wc.cell? ⟨bq, 1, none⟩ = some (.int .i64 ((rd_T58 l0 a1).f1)) := (bC a8.out 1).trans rfl
       have i6 : wc.cell? ⟨bq, 2, none⟩ = some (.string ((rd_T58 l0 a1).f2)) := (bC a8.out 2).trans rfl
       have i5 : wc.cell? ⟨bq, 3, none⟩ = some (.int .i64 ((rd_T58 l0 a1).f3)) := (bC a8.out 3).trans rfl
       have i4 : wc.cell? ⟨bq, 4, none⟩ = some (.int .i64 ((rd_T58 l0 a1).f4)) := (bC a8.out 4).trans rfl
       have iF := bF a8.out 0
       have iE := bF a8.out 1
       have iD := bF a8.out 2
       have iC := bF a8.out 3
       have iB := bF a8.out 4
       go_wp2_with (first | (go_at_call 50; (with_reducible refine (spec_l1In.calls (((rd_T58 l0 a1).f2).size : Int) 1 8 false _ jJ.out).mono ?_); rintro e w' ⟨rfl, ⟨nd, rfl⟩⟩; (try first | exact ⟨rfl, _, World.drewN_drewN _ _ _⟩ | exact ⟨rfl, _, Eq.trans (World.drewN_drewN _ _ _) (congrArg (World.drewN _) (Nat.add_assoc _ _ _))⟩)))
       repeat (go_quiet (first | (go_at_call 50; (with_reducible refine (spec_l1In.calls (((rd_T58 l0 a1).f2).size : Int) 1 8 false _ jJ.out).mono ?_); rintro e w' ⟨rfl, ⟨nd, rfl⟩⟩; (try first | exact ⟨rfl, _, World.drewN_drewN _ _ _⟩ | exact ⟨rfl, _, Eq.trans (World.drewN_drewN _ _ _) (congrArg (World.drewN _) (Nat.add_assoc _ _ _))⟩))); try go_wp2_with (first | (go_at_call 50; (with_reducible refine (spec_l1In.calls (((rd_T58 l0 a1).f2).size : Int) 1 8 false _ jJ.out).mono ?_); rintro e w' ⟨rfl, ⟨nd, rfl⟩⟩; (try first | exact ⟨rfl, _, World.drewN_drewN _ _ _⟩ | exact ⟨rfl, _, Eq.trans (World.drewN_drewN _ _ _) (congrArg (World.drewN _) (Nat.add_assoc _ _ _))⟩))))
       go_ret
       exact ⟨y2, y12⟩
     ·replace eI := Bool.eq_false_iff.mpr eI
      subst eI
      rw [if_neg (show ¬ (false = true) by decide)] at H
      have ms := aM H
      clear H
      go_upto_region 6 with (fail)
      repeat (go_quiet (fail); go_upto_region 6 with (fail))
      go_cut [58] (fun v58 wc => ∃ (kq : Nat) (x58_22 : Bool), v58 = .bool x58_22 ∧ Aside0 (spec_l12First.j1 kq l0 a1 x58_22 ((rd_T58 l0 a1).f0) ((rd_T58 l0 a1).f1) ((rd_T58 l0 a1).f2) ((rd_T58 l0 a1).f3) ((rd_T58 l0 a1).f4) = some r) ∧ Aside0 (kq ≤ kj4) ∧ Aside0 (wc.heap[bq]? = some (.cells #[.int .i64 ((rd_T58 l0 a1).f0), .int .i64 ((rd_T58 l0 a1).f1), .string ((rd_T58 l0 a1).f2), .int .i64 ((rd_T58 l0 a1).f3), .int .i64 ((rd_T58 l0 a1).f4)] 58 (0, 0))) ∧ Aside0 (Below w.heap.size w wc))
      case first =>
       have H := ms.out
       clear ms
       by_cases ly : ((rd_T58 l0 a1).f2).toList = ([] : List UInt8)
       ·rw [if_pos ly] at H
        have c24b0 : (((rd_T58 l0 a1).f2).toList == ([] : List UInt8)) = true := qT ly
        have c24b1 : (((rd_T58 l0 a1).f2).toList != ([] : List UInt8)) = false := nF ly
        clear ly
        (first | rw [c24b0] | (simp only [i64_w, i32_w]; rw [c24b0]) | skip)
        by_cases lx : ((rd_T58 l0 a1).f1) = (wrap64 (a1 - 1))
        ·rw [if_pos lx] at H
         have c25b0 : (((rd_T58 l0 a1).f1) == (wrap64 (a1 - 1))) = true := qT lx
         have c25b1 : (((rd_T58 l0 a1).f1) != (wrap64 (a1 - 1))) = false := nF lx
         clear lx
         have H' := aM H
         clear H
         have gG : wc.cell? ⟨bq, 0, none⟩ = some (.int .i64 ((rd_T58 l0 a1).f0)) := (bC a8.out 0).trans rfl
         have i3 : wc.cell? ⟨bq, 1, none⟩ = some (.int .i64 ((rd_T58 l0 a1).f1)) := (bC a8.out 1).trans rfl
         have i2 : wc.cell? ⟨bq, 2, none⟩ = some (.string ((rd_T58 l0 a1).f2)) := (bC a8.out 2).trans rfl
         have i1 : wc.cell? ⟨bq, 3, none⟩ = some (.int .i64 ((rd_T58 l0 a1).f3)) := (bC a8.out 3).trans rfl
         have iZ : wc.cell? ⟨bq, 4, none⟩ = some (.int .i64 ((rd_T58 l0 a1).f4)) := (bC a8.out 4).trans rfl
         have gv := bF a8.out 0
         have iA := bF a8.out 1
         have iz := bF a8.out 2
         have iy := bF a8.out 3
         have ix := bF a8.out 4
         go_wp2
         all_goals (try (exfalso; rename_i h_; rw [c24b0] at h_; cases h_; done))
         repeat (go_quiet (fail); try go_wp2)
         all_goals (try (exfalso; rename_i h_; rw [c24b0] at h_; cases h_; done))
         go_meet
         case rel => exact ⟨_, (decide (a1 < 2)), z1, H', ⟨by have := kx.out; first | omega | exact Nat.le_refl _⟩, ⟨y10⟩, ⟨y12⟩⟩
        ·rw [if_neg lx] at H
         have c25b0 : (((rd_T58 l0 a1).f1) == (wrap64 (a1 - 1))) = false := qF lx
         have c25b1 : (((rd_T58 l0 a1).f1) != (wrap64 (a1 - 1))) = true := nT lx
         have H' := aM H
         clear H
         have iY : wc.cell? ⟨bq, 0, none⟩ = some (.int .i64 ((rd_T58 l0 a1).f0)) := (bC a8.out 0).trans rfl
         have iX : wc.cell? ⟨bq, 1, none⟩ = some (.int .i64 ((rd_T58 l0 a1).f1)) := (bC a8.out 1).trans rfl
         have iW : wc.cell? ⟨bq, 2, none⟩ = some (.string ((rd_T58 l0 a1).f2)) := (bC a8.out 2).trans rfl
         have iV : wc.cell? ⟨bq, 3, none⟩ = some (.int .i64 ((rd_T58 l0 a1).f3)) := (bC a8.out 3).trans rfl
         have iU : wc.cell? ⟨bq, 4, none⟩ = some (.int .i64 ((rd_T58 l0 a1).f4)) := (bC a8.out 4).trans rfl
         have iw := bF a8.out 0
         have iv := bF a8.out 1
         have iu := bF a8.out 2
         have ir := bF a8.out 3
         have iq := bF a8.out 4
         go_wp2
         all_goals (try (exfalso; rename_i h_; rw [c24b0] at h_; cases h_; done))
         repeat (go_quiet (fail); try go_wp2)
         all_goals (try (exfalso; rename_i h_; rw [c24b0] at h_; cases h_; done))
         go_meet
         case rel => exact ⟨_, (true), z1, H', ⟨by have := kx.out; first | omega | exact Nat.le_refl _⟩, ⟨y10⟩, ⟨y12⟩⟩
       ·rw [if_neg ly] at H
        have c24b0 : (((rd_T58 l0 a1).f2).toList == ([] : List UInt8)) = false := qF ly
        have c24b1 : (((rd_T58 l0 a1).f2).toList != ([] : List UInt8)) = true := nT ly
        (first | rw [c24b0] | (simp only [i64_w, i32_w]; rw [c24b0]) | skip)
        have H' := aM H
        clear H
        have kk : wc.cell? ⟨bq, 0, none⟩ = some (.int .i64 ((rd_T58 l0 a1).f0)) := (bC a8.out 0).trans rfl
        have kj : wc.cell? ⟨bq, 1, none⟩ = some (.int .i64 ((rd_T58 l0 a1).f1)) := (bC a8.out 1).trans rfl
        have ki : wc.cell? ⟨bq, 2, none⟩ = some (.string ((rd_T58 l0 a1).f2)) := (bC a8.out 2).trans rfl
        have kh : wc.cell? ⟨bq, 3, none⟩ = some (.int .i64 ((rd_T58 l0 a1).f3)) := (bC a8.out 3).trans rfl
        have kg : wc.cell? ⟨bq, 4, none⟩ = some (.int .i64 ((rd_T58 l0 a1).f4)) := (bC a8.out 4).trans rfl
        have jV := bF a8.out 0
        have jU := bF a8.out 1
        have jT := bF a8.out 2
        have jS := bF a8.out 3
        have jR := bF a8.out 4
        go_wp2
        all_goals (try (exfalso; rename_i h_; rw [c24b0] at h_; cases h_; done))
        repeat (go_quiet (fail); try go_wp2)
        all_goals (try (exfalso; rename_i h_; rw [c24b0] at h_; cases h_; done))
        go_meet
        case rel => exact ⟨_, (true), z1, H', ⟨by have := kx.out; first | omega | exact Nat.le_refl _⟩, ⟨y10⟩, ⟨y12⟩⟩
      case rest =>
       clear ms
       try clear c1
       try clear p1
       try clear q1
       try clear hx1
       try clear c2
       try clear p2
       try clear c3
       try clear c3b0
       try clear c4
       try clear c4b0
       try clear p6
       try clear c8
       try clear c8b0
       try clear c8b1
       try clear eI
       try clear gR
       try clear fK
       try clear p15
       try clear q15
       try clear hx15
       try clear ji
       try clear c16b0
       try clear c16b1
       try clear jC
       try clear c17b0
       try clear c17b1
       try clear ly
       try clear c24b0
       try clear c24b1
       try clear lx
       try clear c25b0
       try clear c25b1
       try clear gQ
       try clear gP
       try clear gO
       try clear gN
       try clear gM
       try clear ku
       try clear kt
       try clear ks
       try clear kr
       try clear kp
       try clear je
       try clear ko
       try clear kn
       try clear km
       try clear kl
       try clear gL
       try clear gK
       try clear gJ
       try clear gI
       try clear gH
       try clear fD
       try clear jd
       try clear jc
       try clear jb
       try clear ja
       try clear i9
       try clear i7
       try clear i6
       try clear i5
       try clear i4
       try clear gG
       try clear i3
       try clear i2
       try clear i1
       try clear iZ
       try clear iY
       try clear iX
       try clear iW
       try clear iV
       try clear iU
       try clear kk
       try clear kj
       try clear ki
       try clear kh
       try clear kg
       try clear fv
       try clear fu
       try clear ft
       try clear fq
       try clear fp
       try clear fo
       try clear iQ
       try clear iP
       try clear iO
       try clear iN
       try clear gF
       try clear gE
       try clear gD
       try clear gC
       try clear gB
       try clear j7
       try clear j6
       try clear j5
       try clear j4
       try clear j3
       try clear iK
       try clear jZ
       try clear jY
       try clear jX
       try clear jW
       try clear gA
       try clear gz
       try clear gy
       try clear gx
       try clear gw
       try clear fC
       try clear iJ
       try clear iI
       try clear iH
       try clear iG
       try clear iF
       try clear iE
       try clear iD
       try clear iC
       try clear iB
       try clear gv
       try clear iA
       try clear iz
       try clear iy
       try clear ix
       try clear iw
       try clear iv
       try clear iu
       try clear ir
       try clear iq
       try clear jV
       try clear jU
       try clear jT
       try clear jS
       try clear jR
       try clear fm
       try clear fl
       try clear fj
       try clear fi
       try clear fh
       try clear fg
       try clear ik
       try clear ij
       try clear ii
       try clear ig
       try clear hx155_0
       try clear hx155_1
       try clear hx155_2
       try clear hx155_3
       try clear hx155_4
       try clear p1
       try clear p155
       try clear p2
       try clear q1
       try clear q155
       obtain ⟨kq, x58_22, rfl, HA, gY, a8, HB⟩ := hcut
       cases kq with
       | zero => exact absurd HA.out (by simp [spec_l12First.j1])
       | succ kj22 =>
        have H := HA.out
        clear HA
        simp only [spec_l12First.j1] at H
        by_cases mJ : x58_22 = true
        ·subst mJ
         rw [if_pos rfl] at H
         obtain rfl := sI H
         go_wp2
         repeat (go_quiet (fail); try go_wp2)
         go_ret
         exact ⟨y2, y12⟩
        ·replace mJ := Bool.eq_false_iff.mpr mJ
         subst mJ
         rw [if_neg (show ¬ (false = true) by decide)] at H
         replace H := oB H
         obtain ⟨g7, mT, H⟩ := H
         try dsimp only at H
         have jj := aM mT
         clear mT
         have mq := aM H
         clear H
         go_upto_region 9 with (first | (go_at_call 46; (with_reducible refine (ih kj22 (by have := kx.out; have := gY.out; omega) _ _ l0 (wrap64 (a1 - 1)) g7 _ ?side1 ?side2 jj.out).mono ?_); (case side1 => repeat (first | exact (aD dE.out HB.out) | (with_reducible refine aE ?_ _) | (with_reducible refine aG ?_ _) | (with_reducible refine aH ?_))); (case side2 => exact jr.out); rintro e w32 ⟨rfl, hb⟩; have ba := aM (ae (g := bq) (o := .cells #[.int .i64 ((rd_T58 l0 a1).f0), .int .i64 ((rd_T58 l0 a1).f1), .string ((rd_T58 l0 a1).f2), .int .i64 ((rd_T58 l0 a1).f3), .int .i64 ((rd_T58 l0 a1).f4)] 58 (0, 0)) (by (with_reducible repeat (first | refine aq ?_ _ | refine ap ?_ | refine ar ?_ _)); exact a8.out) hb); have bc := aM (ay (by repeat (first | (with_reducible first | exact HB.out | apply bA | apply pD | apply bD | refine ax ?_ eS.out) | exact HB.out)) hb); clear a8; clear HB; have a8 := ba; have HB := bc; clear ba bc; (try clear hb); (try clear hb2); (try clear hk); (try clear hi)))
         repeat (go_quiet (first | (go_at_call 46; (with_reducible refine (ih kj22 (by have := kx.out; have := gY.out; omega) _ _ l0 (wrap64 (a1 - 1)) g7 _ ?side1 ?side2 jj.out).mono ?_); (case side1 => repeat (first | exact (aD dE.out HB.out) | (with_reducible refine aE ?_ _) | (with_reducible refine aG ?_ _) | (with_reducible refine aH ?_))); (case side2 => exact jr.out); rintro e w32 ⟨rfl, hb⟩; have ba := aM (ae (g := bq) (o := .cells #[.int .i64 ((rd_T58 l0 a1).f0), .int .i64 ((rd_T58 l0 a1).f1), .string ((rd_T58 l0 a1).f2), .int .i64 ((rd_T58 l0 a1).f3), .int .i64 ((rd_T58 l0 a1).f4)] 58 (0, 0)) (by (with_reducible repeat (first | refine aq ?_ _ | refine ap ?_ | refine ar ?_ _)); exact a8.out) hb); have bc := aM (ay (by repeat (first | (with_reducible first | exact HB.out | apply bA | apply pD | apply bD | refine ax ?_ eS.out) | exact HB.out)) hb); clear a8; clear HB; have a8 := ba; have HB := bc; clear ba bc; (try clear hb); (try clear hb2); (try clear hk); (try clear hi))); go_upto_region 9 with (first | (go_at_call 46; (with_reducible refine (ih kj22 (by have := kx.out; have := gY.out; omega) _ _ l0 (wrap64 (a1 - 1)) g7 _ ?side1 ?side2 jj.out).mono ?_); (case side1 => repeat (first | exact (aD dE.out HB.out) | (with_reducible refine aE ?_ _) | (with_reducible refine aG ?_ _) | (with_reducible refine aH ?_))); (case side2 => exact jr.out); rintro e w32 ⟨rfl, hb⟩; have ba := aM (ae (g := bq) (o := .cells #[.int .i64 ((rd_T58 l0 a1).f0), .int .i64 ((rd_T58 l0 a1).f1), .string ((rd_T58 l0 a1).f2), .int .i64 ((rd_T58 l0 a1).f3), .int .i64 ((rd_T58 l0 a1).f4)] 58 (0, 0)) (by (with_reducible repeat (first | refine aq ?_ _ | refine ap ?_ | refine ar ?_ _)); exact a8.out) hb); have bc := aM (ay (by repeat (first | (with_reducible first | exact HB.out | apply bA | apply pD | apply bD | refine ax ?_ eS.out) | exact HB.out)) hb); clear a8; clear HB; have a8 := ba; have HB := bc; clear ba bc; (try clear hb); (try clear hb2); (try clear hk); (try clear hi))))
         (try simp only [Act.put, sA, sB, sC])
         go_cut [71] (fun v71 wc => ∃ (kq : Nat) (x71_30 : Bool), v71 = .bool x71_30 ∧ Aside0 (spec_l12First.j2 kq l0 x71_30 ((rd_T58 l0 a1).f0) ((rd_T58 l0 a1).f1) ((rd_T58 l0 a1).f2) ((rd_T58 l0 a1).f3) ((rd_T58 l0 a1).f4) = some r) ∧ Aside0 (kq ≤ kj22) ∧ Aside0 (wc.heap[bq]? = some (.cells #[.int .i64 ((rd_T58 l0 a1).f0), .int .i64 ((rd_T58 l0 a1).f1), .string ((rd_T58 l0 a1).f2), .int .i64 ((rd_T58 l0 a1).f3), .int .i64 ((rd_T58 l0 a1).f4)] 58 (0, 0))) ∧ Aside0 (Below w.heap.size w wc))
         case first =>
          have H := mq.out
          clear mq
          by_cases kO : g7 < 1
          ·rw [if_pos kO] at H
           have c33b0 : decide (g7 < 1) = true := dT kO
           clear kO
           (first | rw [c33b0] | (simp only [i64_w, i32_w]; rw [c33b0]) | skip)
           have H' := aM H
           clear H
           go_wp2
           repeat (go_quiet (fail); try go_wp2)
           go_meet
           case rel => exact ⟨_, (true), z1, H', ⟨by have := kx.out; have := gY.out; first | omega | exact Nat.le_refl _⟩, ⟨y10⟩, ⟨y12⟩⟩
          ·rw [if_neg kO] at H
           have c33b0 : decide (g7 < 1) = false := dF kO
           clear kO
           (first | rw [c33b0] | (simp only [i64_w, i32_w]; rw [c33b0]) | skip)
           have H' := aM H
           clear H
           have hcz34_0 : w32.cell? ⟨bq, 0, none⟩ = some (.int .i64 ((rd_T58 l0 a1).f0)) := (bC a8.out 0).trans rfl
           have hcz34_1 : w32.cell? ⟨bq, 1, none⟩ = some (.int .i64 ((rd_T58 l0 a1).f1)) := (bC a8.out 1).trans rfl
           have hcz34_2 : w32.cell? ⟨bq, 2, none⟩ = some (.string ((rd_T58 l0 a1).f2)) := (bC a8.out 2).trans rfl
           have hcz34_3 : w32.cell? ⟨bq, 3, none⟩ = some (.int .i64 ((rd_T58 l0 a1).f3)) := (bC a8.out 3).trans rfl
           have hcz34_4 : w32.cell? ⟨bq, 4, none⟩ = some (.int .i64 ((rd_T58 l0 a1).f4)) := (bC a8.out 4).trans rfl
           have hfz34_0 := bF a8.out 0
           have hfz34_1 := bF a8.out 1
           have hfz34_2 := bF a8.out 2
           have hfz34_3 := bF a8.out 3
           have hfz34_4 := bF a8.out 4
           go_wp2
           repeat (go_quiet (fail); try go_wp2)
           go_meet
           case rel => exact ⟨_, ((((rd_T58 l0 a1).f0) != (wrap64 (g7 - 1)))), z1, H', ⟨by have := kx.out; have := gY.out; first | omega | exact Nat.le_refl _⟩, ⟨y10⟩, ⟨y12⟩⟩
         case rest =>
          clear mq
          try clear c1
          try clear p1
          try clear q1
          try clear hx1
          try clear c2
          try clear p2
          try clear c3
          try clear c3b0
          try clear c4
          try clear c4b0
          try clear p6
          try clear c8
          try clear c8b0
          try clear c8b1
          try clear eI
          try clear gR
          try clear fK
          try clear p15
          try clear q15
          try clear hx15
          try clear ji
          try clear c16b0
          try clear c16b1
          try clear jC
          try clear c17b0
          try clear c17b1
          try clear ly
          try clear c24b0
          try clear c24b1
          try clear lx
          try clear c25b0
          try clear c25b1
          try clear mJ
          try clear kO
          try clear c33b0
          try clear gQ
          try clear gP
          try clear gO
          try clear gN
          try clear gM
          try clear ku
          try clear kt
          try clear ks
          try clear kr
          try clear kp
          try clear je
          try clear ko
          try clear kn
          try clear km
          try clear kl
          try clear gL
          try clear gK
          try clear gJ
          try clear gI
          try clear gH
          try clear fD
          try clear jd
          try clear jc
          try clear jb
          try clear ja
          try clear i9
          try clear i7
          try clear i6
          try clear i5
          try clear i4
          try clear gG
          try clear i3
          try clear i2
          try clear i1
          try clear iZ
          try clear iY
          try clear iX
          try clear iW
          try clear iV
          try clear iU
          try clear kk
          try clear kj
          try clear ki
          try clear kh
          try clear kg
          try clear hcz34_0
          try clear hcz34_1
          try clear hcz34_2
          try clear hcz34_3
          try clear hcz34_4
          try clear fv
          try clear fu
          try clear ft
          try clear fq
          try clear fp
          try clear fo
          try clear iQ
          try clear iP
          try clear iO
          try clear iN
          try clear gF
          try clear gE
          try clear gD
          try clear gC
          try clear gB
          try clear j7
          try clear j6
          try clear j5
          try clear j4
          try clear j3
          try clear iK
          try clear jZ
          try clear jY
          try clear jX
          try clear jW
          try clear gA
          try clear gz
          try clear gy
          try clear gx
          try clear gw
          try clear fC
          try clear iJ
          try clear iI
          try clear iH
          try clear iG
          try clear iF
          try clear iE
          try clear iD
          try clear iC
          try clear iB
          try clear gv
          try clear iA
          try clear iz
          try clear iy
          try clear ix
          try clear iw
          try clear iv
          try clear iu
          try clear ir
          try clear iq
          try clear jV
          try clear jU
          try clear jT
          try clear jS
          try clear jR
          try clear hfz34_0
          try clear hfz34_1
          try clear hfz34_2
          try clear hfz34_3
          try clear hfz34_4
          try clear fm
          try clear fl
          try clear fj
          try clear fi
          try clear fh
          try clear fg
          try clear ik
          try clear ij
          try clear ii
          try clear ig
          try clear hx155_0
          try clear hx155_1
          try clear hx155_2
          try clear hx155_3
          try clear hx155_4
          try clear p1
          try clear p15
          try clear p155
          try clear p2
          try clear p6
          try clear q1
          try clear q15
          try clear q155
          obtain ⟨kq, x71_30, rfl, HA, kK, a8, HB⟩ := hcut
          cases kq with
          | zero => exact absurd HA.out (by simp [spec_l12First.j2])
          | succ kj30 =>
           have H := HA.out
           clear HA
           simp only [spec_l12First.j2] at H
           by_cases ml : x71_30 = true
           ·subst ml
            rw [if_pos rfl] at H
            obtain rfl := sI H
            go_wp2
            repeat (go_quiet (fail); try go_wp2)
            go_ret
            exact ⟨y2, y12⟩
           ·replace ml := Bool.eq_false_iff.mpr ml
            subst ml
            rw [if_neg (show ¬ (false = true) by decide)] at H
            by_cases nl : 0 ≤ ((rd_T58 l0 a1).f0)
            ·rw [if_pos nl] at H
             have c36b0 : decide (0 ≤ ((rd_T58 l0 a1).f0)) = true := dT nl
             clear nl
             by_cases nk : ((rd_T58 l0 a1).f0) < (l0.length : Int)
             ·rw [if_pos nk] at H
              have c37b0 : decide (((rd_T58 l0 a1).f0) < (l0.length : Int)) = true := dT nk
              clear nk
              by_cases nj : 0 ≤ ((rd_T58 l0 a1).f1)
              ·rw [if_pos nj] at H
               have c38b0 : decide (0 ≤ ((rd_T58 l0 a1).f1)) = true := dT nj
               clear nj
               by_cases ni : ((rd_T58 l0 a1).f1) < (l0.length : Int)
               ·rw [if_pos ni] at H
                have c39b0 : decide (((rd_T58 l0 a1).f1) < (l0.length : Int)) = true := dT ni
                clear ni
                by_cases mz : ((rd_T58 l0 ((rd_T58 l0 a1).f1)).f4) > ((rd_T58 l0 ((rd_T58 l0 a1).f0)).f4)
                ·rw [if_pos mz] at H
                 have c40b0 : decide (((rd_T58 l0 ((rd_T58 l0 a1).f0)).f4) < ((rd_T58 l0 ((rd_T58 l0 a1).f1)).f4)) = true := dT mz
                 clear mz
                 by_cases mj : ((rd_T58 l0 a1).f3) = (wrap64 (((rd_T58 l0 ((rd_T58 l0 a1).f0)).f3) + ((rd_T58 l0 ((rd_T58 l0 a1).f1)).f3)))
                 ·rw [if_pos mj] at H
                  have c41b0 : (((rd_T58 l0 a1).f3) == (wrap64 (((rd_T58 l0 ((rd_T58 l0 a1).f0)).f3) + ((rd_T58 l0 ((rd_T58 l0 a1).f1)).f3)))) = true := qT mj
                  have c41b1 : (((rd_T58 l0 a1).f3) != (wrap64 (((rd_T58 l0 ((rd_T58 l0 a1).f0)).f3) + ((rd_T58 l0 ((rd_T58 l0 a1).f1)).f3)))) = false := nF mj
                  clear mj
                  by_cases kN : ((rd_T58 l0 a1).f4) = (wrap64 (((rd_T58 l0 ((rd_T58 l0 a1).f1)).f4) + 1))
                  ·rw [if_pos kN] at H
                   have c42b0 : (((rd_T58 l0 a1).f4) == (wrap64 (((rd_T58 l0 ((rd_T58 l0 a1).f1)).f4) + 1))) = true := qT kN
                   have c42b1 : (((rd_T58 l0 a1).f4) != (wrap64 (((rd_T58 l0 ((rd_T58 l0 a1).f1)).f4) + 1))) = false := nF kN
                   clear kN
                   replace H := oB H
                   obtain ⟨kU, mS, H⟩ := H
                   try dsimp only at H
                   have nz := aM mS
                   clear mS
                   obtain rfl := sI H
                   have iT : wc.cell? ⟨bq, 0, none⟩ = some (.int .i64 ((rd_T58 l0 a1).f0)) := (bC a8.out 0).trans rfl
                   have hcz44_1 : wc.cell? ⟨bq, 1, none⟩ = some (.int .i64 ((rd_T58 l0 a1).f1)) := (bC a8.out 1).trans rfl
                   have hcz44_2 : wc.cell? ⟨bq, 2, none⟩ = some (.string ((rd_T58 l0 a1).f2)) := (bC a8.out 2).trans rfl
                   have hcz44_3 : wc.cell? ⟨bq, 3, none⟩ = some (.int .i64 ((rd_T58 l0 a1).f3)) := (bC a8.out 3).trans rfl
                   have hcz44_4 : wc.cell? ⟨bq, 4, none⟩ = some (.int .i64 ((rd_T58 l0 a1).f4)) := (bC a8.out 4).trans rfl
                   have ip := bF a8.out 0
                   have hfz44_1 := bF a8.out 1
                   have hfz44_2 := bF a8.out 2
                   have hfz44_3 := bF a8.out 3
                   have hfz44_4 := bF a8.out 4
                   have p160 : 0 ≤ (((rd_T58 l0 a1).f0) : Int) := oD z2
                   have q160 : ((rd_T58 l0 a1).f0) < (l0.length : Int) := oD z2
                   obtain ⟨ad160, e160, hx160_0, hx160_1, hx160_2, hx160_3, hx160_4⟩ := at_T58 dE.out ((rd_T58 l0 a1).f0) p160 q160
                   obtain rfl : ad155 = ad160 := (by injection e160)
                   replace hx160_0 := (HB.out.cell (World.block_lt_of_cell? w _ hx160_0)).trans hx160_0
                   replace hx160_1 := (HB.out.cell (World.block_lt_of_cell? w _ hx160_1)).trans hx160_1
                   replace hx160_2 := (HB.out.cell (World.block_lt_of_cell? w _ hx160_2)).trans hx160_2
                   replace hx160_3 := (HB.out.cell (World.block_lt_of_cell? w _ hx160_3)).trans hx160_3
                   replace hx160_4 := (HB.out.cell (World.block_lt_of_cell? w _ hx160_4)).trans hx160_4
                   replace p160 := eq_true p160
                   replace q160 := eq_true q160
                   have p161 : 0 ≤ (((rd_T58 l0 a1).f1) : Int) := oD z2
                   have q161 : ((rd_T58 l0 a1).f1) < (l0.length : Int) := oD z2
                   obtain ⟨ad161, e161, hx161_0, hx161_1, hx161_2, hx161_3, hx161_4⟩ := at_T58 dE.out ((rd_T58 l0 a1).f1) p161 q161
                   obtain rfl : ad155 = ad161 := (by injection e161)
                   replace hx161_0 := (HB.out.cell (World.block_lt_of_cell? w _ hx161_0)).trans hx161_0
                   replace hx161_1 := (HB.out.cell (World.block_lt_of_cell? w _ hx161_1)).trans hx161_1
                   replace hx161_2 := (HB.out.cell (World.block_lt_of_cell? w _ hx161_2)).trans hx161_2
                   replace hx161_3 := (HB.out.cell (World.block_lt_of_cell? w _ hx161_3)).trans hx161_3
                   replace hx161_4 := (HB.out.cell (World.block_lt_of_cell? w _ hx161_4)).trans hx161_4
                   replace p161 := eq_true p161
                   replace q161 := eq_true q161
                   have p162 : 0 ≤ (((rd_T58 l0 a1).f1) : Int) := oD z2
                   have q162 : ((rd_T58 l0 a1).f1) < (l0.length : Int) := oD z2
                   obtain ⟨ad162, e162, hx162_0, hx162_1, hx162_2, hx162_3, hx162_4⟩ := at_T58 dE.out ((rd_T58 l0 a1).f1) p162 q162
                   obtain rfl : ad155 = ad162 := (by injection e162)
                   replace hx162_0 := (HB.out.cell (World.block_lt_of_cell? w _ hx162_0)).trans hx162_0
                   replace hx162_1 := (HB.out.cell (World.block_lt_of_cell? w _ hx162_1)).trans hx162_1
                   replace hx162_2 := (HB.out.cell (World.block_lt_of_cell? w _ hx162_2)).trans hx162_2
                   replace hx162_3 := (HB.out.cell (World.block_lt_of_cell? w _ hx162_3)).trans hx162_3
                   replace hx162_4 := (HB.out.cell (World.block_lt_of_cell? w _ hx162_4)).trans hx162_4
                   replace p162 := eq_true p162
                   replace q162 := eq_true q162
                   have p163 : 0 ≤ (((rd_T58 l0 a1).f0) : Int) := oD z2
                   have q163 : ((rd_T58 l0 a1).f0) < (l0.length : Int) := oD z2
                   obtain ⟨ad163, e163, hx163_0, hx163_1, hx163_2, hx163_3, hx163_4⟩ := at_T58 dE.out ((rd_T58 l0 a1).f0) p163 q163
                   obtain rfl : ad155 = ad163 := (by injection e163)
                   replace hx163_0 := (HB.out.cell (World.block_lt_of_cell? w _ hx163_0)).trans hx163_0
                   replace hx163_1 := (HB.out.cell (World.block_lt_of_cell? w _ hx163_1)).trans hx163_1
                   replace hx163_2 := (HB.out.cell (World.block_lt_of_cell? w _ hx163_2)).trans hx163_2
                   replace hx163_3 := (HB.out.cell (World.block_lt_of_cell? w _ hx163_3)).trans hx163_3
                   replace hx163_4 := (HB.out.cell (World.block_lt_of_cell? w _ hx163_4)).trans hx163_4
                   replace p163 := eq_true p163
                   replace q163 := eq_true q163
                   have p164 : 0 ≤ (((rd_T58 l0 a1).f1) : Int) := oD z2
                   have q164 : ((rd_T58 l0 a1).f1) < (l0.length : Int) := oD z2
                   obtain ⟨ad164, e164, hx164_0, hx164_1, hx164_2, hx164_3, hx164_4⟩ := at_T58 dE.out ((rd_T58 l0 a1).f1) p164 q164
                   obtain rfl : ad155 = ad164 := (by injection e164)
                   replace hx164_0 := (HB.out.cell (World.block_lt_of_cell? w _ hx164_0)).trans hx164_0
                   replace hx164_1 := (HB.out.cell (World.block_lt_of_cell? w _ hx164_1)).trans hx164_1
                   replace hx164_2 := (HB.out.cell (World.block_lt_of_cell? w _ hx164_2)).trans hx164_2
                   replace hx164_3 := (HB.out.cell (World.block_lt_of_cell? w _ hx164_3)).trans hx164_3
                   replace hx164_4 := (HB.out.cell (World.block_lt_of_cell? w _ hx164_4)).trans hx164_4
                   replace p164 := eq_true p164
                   replace q164 := eq_true q164
                   go_wp2_with (first | (go_at_call 46; (with_reducible refine (ih kj30 (by have := kx.out; have := gY.out; have := kK.out; omega) _ _ l0 ((rd_T58 l0 a1).f0) kU _ ?side1 ?side2 nz.out).mono ?_); (case side1 => repeat (first | exact (aD dE.out HB.out) | (with_reducible refine aE ?_ _) | (with_reducible refine aG ?_ _) | (with_reducible refine aH ?_))); (case side2 => exact jr.out); rintro e w45 ⟨rfl, hb⟩; have ba := aM (ae (g := bq) (o := .cells #[.int .i64 ((rd_T58 l0 a1).f0), .int .i64 ((rd_T58 l0 a1).f1), .string ((rd_T58 l0 a1).f2), .int .i64 ((rd_T58 l0 a1).f3), .int .i64 ((rd_T58 l0 a1).f4)] 58 (0, 0)) (by (with_reducible repeat (first | refine aq ?_ _ | refine ap ?_ | refine ar ?_ _)); exact a8.out) hb); have bc := aM (ay (by repeat (first | (with_reducible first | exact HB.out | apply bA | apply pD | apply bD | refine ax ?_ eS.out) | exact HB.out)) hb); clear a8; clear HB; have a8 := ba; have HB := bc; clear ba bc; (try clear hb); (try clear hb2); (try clear hk); (try clear hi)))
                   repeat (go_quiet (first | (go_at_call 46; (with_reducible refine (ih kj30 (by have := kx.out; have := gY.out; have := kK.out; omega) _ _ l0 ((rd_T58 l0 a1).f0) kU _ ?side1 ?side2 nz.out).mono ?_); (case side1 => repeat (first | exact (aD dE.out HB.out) | (with_reducible refine aE ?_ _) | (with_reducible refine aG ?_ _) | (with_reducible refine aH ?_))); (case side2 => exact jr.out); rintro e w45 ⟨rfl, hb⟩; have ba := aM (ae (g := bq) (o := .cells #[.int .i64 ((rd_T58 l0 a1).f0), .int .i64 ((rd_T58 l0 a1).f1), .string ((rd_T58 l0 a1).f2), .int .i64 ((rd_T58 l0 a1).f3), .int .i64 ((rd_T58 l0 a1).f4)] 58 (0, 0)) (by (with_reducible repeat (first | refine aq ?_ _ | refine ap ?_ | refine ar ?_ _)); exact a8.out) hb); have bc := aM (ay (by repeat (first | (with_reducible first | exact HB.out | apply bA | apply pD | apply bD | refine ax ?_ eS.out) | exact HB.out)) hb); clear a8; clear HB; have a8 := ba; have HB := bc; clear ba bc; (try clear hb); (try clear hb2); (try clear hk); (try clear hi))); try go_wp2_with (first | (go_at_call 46; (with_reducible refine (ih kj30 (by have := kx.out; have := gY.out; have := kK.out; omega) _ _ l0 ((rd_T58 l0 a1).f0) kU _ ?side1 ?side2 nz.out).mono ?_); (case side1 => repeat (first | exact (aD dE.out HB.out) | (with_reducible refine aE ?_ _) | (with_reducible refine aG ?_ _) | (with_reducible refine aH ?_))); (case side2 => exact jr.out); rintro e w45 ⟨rfl, hb⟩; have ba := aM (ae (g := bq) (o := .cells #[.int .i64 ((rd_T58 l0 a1).f0), .int .i64 ((rd_T58 l0 a1).f1), .string ((rd_T58 l0 a1).f2), .int .i64 ((rd_T58 l0 a1).f3), .int .i64 ((rd_T58 l0 a1).f4)] 58 (0, 0)) (by (with_reducible repeat (first | refine aq ?_ _ | refine ap ?_ | refine ar ?_ _)); exact a8.out) hb); have bc := aM (ay (by repeat (first | (with_reducible first | exact HB.out | apply bA | apply pD | apply bD | refine ax ?_ eS.out) | exact HB.out)) hb); clear a8; clear HB; have a8 := ba; have HB := bc; clear ba bc; (try clear hb); (try clear hb2); (try clear hk); (try clear hi))))
                   go_ret
                   exact ⟨y2, y12⟩
                  ·rw [if_neg kN] at H
                   have c42b0 : (((rd_T58 l0 a1).f4) == (wrap64 (((rd_T58 l0 ((rd_T58 l0 a1).f1)).f4) + 1))) = false := qF kN
                   have c42b1 : (((rd_T58 l0 a1).f4) != (wrap64 (((rd_T58 l0 ((rd_T58 l0 a1).f1)).f4) + 1))) = true := nT kN
                   obtain rfl := sI H
                   have hcz46_0 : wc.cell? ⟨bq, 0, none⟩ = some (.int .i64 ((rd_T58 l0 a1).f0)) := (bC a8.out 0).trans rfl
                   have hcz46_1 : wc.cell? ⟨bq, 1, none⟩ = some (.int .i64 ((rd_T58 l0 a1).f1)) := (bC a8.out 1).trans rfl
                   have hcz46_2 : wc.cell? ⟨bq, 2, none⟩ = some (.string ((rd_T58 l0 a1).f2)) := (bC a8.out 2).trans rfl
                   have hcz46_3 : wc.cell? ⟨bq, 3, none⟩ = some (.int .i64 ((rd_T58 l0 a1).f3)) := (bC a8.out 3).trans rfl
                   have hcz46_4 : wc.cell? ⟨bq, 4, none⟩ = some (.int .i64 ((rd_T58 l0 a1).f4)) := (bC a8.out 4).trans rfl
                   have hfz46_0 := bF a8.out 0
                   have hfz46_1 := bF a8.out 1
                   have hfz46_2 := bF a8.out 2
                   have hfz46_3 := bF a8.out 3
                   have hfz46_4 := bF a8.out 4
                   have p160 : 0 ≤ (((rd_T58 l0 a1).f0) : Int) := oD z2
                   have q160 : ((rd_T58 l0 a1).f0) < (l0.length : Int) := oD z2
                   obtain ⟨ad160, e160, hx160_0, hx160_1, hx160_2, hx160_3, hx160_4⟩ := at_T58 dE.out ((rd_T58 l0 a1).f0) p160 q160
                   obtain rfl : ad155 = ad160 := (by injection e160)
                   replace hx160_0 := (HB.out.cell (World.block_lt_of_cell? w _ hx160_0)).trans hx160_0
                   replace hx160_1 := (HB.out.cell (World.block_lt_of_cell? w _ hx160_1)).trans hx160_1
                   replace hx160_2 := (HB.out.cell (World.block_lt_of_cell? w _ hx160_2)).trans hx160_2
                   replace hx160_3 := (HB.out.cell (World.block_lt_of_cell? w _ hx160_3)).trans hx160_3
                   replace hx160_4 := (HB.out.cell (World.block_lt_of_cell? w _ hx160_4)).trans hx160_4
                   replace p160 := eq_true p160
                   replace q160 := eq_true q160
                   have p161 : 0 ≤ (((rd_T58 l0 a1).f1) : Int) := oD z2
                   have q161 : ((rd_T58 l0 a1).f1) < (l0.length : Int) := oD z2
                   obtain ⟨ad161, e161, hx161_0, hx161_1, hx161_2, hx161_3, hx161_4⟩ := at_T58 dE.out ((rd_T58 l0 a1).f1) p161 q161
                   obtain rfl : ad155 = ad161 := (by injection e161)
                   replace hx161_0 := (HB.out.cell (World.block_lt_of_cell? w _ hx161_0)).trans hx161_0
                   replace hx161_1 := (HB.out.cell (World.block_lt_of_cell? w _ hx161_1)).trans hx161_1
                   replace hx161_2 := (HB.out.cell (World.block_lt_of_cell? w _ hx161_2)).trans hx161_2
                   replace hx161_3 := (HB.out.cell (World.block_lt_of_cell? w _ hx161_3)).trans hx161_3
                   replace hx161_4 := (HB.out.cell (World.block_lt_of_cell? w _ hx161_4)).trans hx161_4
                   replace p161 := eq_true p161
                   replace q161 := eq_true q161
                   have p162 : 0 ≤ (((rd_T58 l0 a1).f1) : Int) := oD z2
                   have q162 : ((rd_T58 l0 a1).f1) < (l0.length : Int) := oD z2
                   obtain ⟨ad162, e162, hx162_0, hx162_1, hx162_2, hx162_3, hx162_4⟩ := at_T58 dE.out ((rd_T58 l0 a1).f1) p162 q162
                   obtain rfl : ad155 = ad162 := (by injection e162)
                   replace hx162_0 := (HB.out.cell (World.block_lt_of_cell? w _ hx162_0)).trans hx162_0
                   replace hx162_1 := (HB.out.cell (World.block_lt_of_cell? w _ hx162_1)).trans hx162_1
                   replace hx162_2 := (HB.out.cell (World.block_lt_of_cell? w _ hx162_2)).trans hx162_2
                   replace hx162_3 := (HB.out.cell (World.block_lt_of_cell? w _ hx162_3)).trans hx162_3
                   replace hx162_4 := (HB.out.cell (World.block_lt_of_cell? w _ hx162_4)).trans hx162_4
                   replace p162 := eq_true p162
                   replace q162 := eq_true q162
                   have p163 : 0 ≤ (((rd_T58 l0 a1).f0) : Int) := oD z2
                   have q163 : ((rd_T58 l0 a1).f0) < (l0.length : Int) := oD z2
                   obtain ⟨ad163, e163, hx163_0, hx163_1, hx163_2, hx163_3, hx163_4⟩ := at_T58 dE.out ((rd_T58 l0 a1).f0) p163 q163
                   obtain rfl : ad155 = ad163 := (by injection e163)
                   replace hx163_0 := (HB.out.cell (World.block_lt_of_cell? w _ hx163_0)).trans hx163_0
                   replace hx163_1 := (HB.out.cell (World.block_lt_of_cell? w _ hx163_1)).trans hx163_1
                   replace hx163_2 := (HB.out.cell (World.block_lt_of_cell? w _ hx163_2)).trans hx163_2
                   replace hx163_3 := (HB.out.cell (World.block_lt_of_cell? w _ hx163_3)).trans hx163_3
                   replace hx163_4 := (HB.out.cell (World.block_lt_of_cell? w _ hx163_4)).trans hx163_4
                   replace p163 := eq_true p163
                   replace q163 := eq_true q163
                   have p164 : 0 ≤ (((rd_T58 l0 a1).f1) : Int) := oD z2
                   have q164 : ((rd_T58 l0 a1).f1) < (l0.length : Int) := oD z2
                   obtain ⟨ad164, e164, hx164_0, hx164_1, hx164_2, hx164_3, hx164_4⟩ := at_T58 dE.out ((rd_T58 l0 a1).f1) p164 q164
                   obtain rfl : ad155 = ad164 := (by injection e164)
                   replace hx164_0 := (HB.out.cell (World.block_lt_of_cell? w _ hx164_0)).trans hx164_0
                   replace hx164_1 := (HB.out.cell (World.block_lt_of_cell? w _ hx164_1)).trans hx164_1
                   replace hx164_2 := (HB.out.cell (World.block_lt_of_cell? w _ hx164_2)).trans hx164_2
                   replace hx164_3 := (HB.out.cell (World.block_lt_of_cell? w _ hx164_3)).trans hx164_3
                   replace hx164_4 := (HB.out.cell (World.block_lt_of_cell? w _ hx164_4)).trans hx164_4
                   replace p164 := eq_true p164
                   replace q164 := eq_true q164
                   go_wp2
                   repeat (go_quiet (fail); try go_wp2)
                   go_ret
                   exact ⟨y2, y12⟩
                 ·rw [if_neg mj] at H
                  have c41b0 : (((rd_T58 l0 a1).f3) == (wrap64 (((rd_T58 l0 ((rd_T58 l0 a1).f0)).f3) + ((rd_T58 l0 ((rd_T58 l0 a1).f1)).f3)))) = false := qF mj
                  have c41b1 : (((rd_T58 l0 a1).f3) != (wrap64 (((rd_T58 l0 ((rd_T58 l0 a1).f0)).f3) + ((rd_T58 l0 ((rd_T58 l0 a1).f1)).f3)))) = true := nT mj
                  obtain rfl := sI H
                  have hcz47_0 : wc.cell? ⟨bq, 0, none⟩ = some (.int .i64 ((rd_T58 l0 a1).f0)) := (bC a8.out 0).trans rfl
                  have hcz47_1 : wc.cell? ⟨bq, 1, none⟩ = some (.int .i64 ((rd_T58 l0 a1).f1)) := (bC a8.out 1).trans rfl
                  have hcz47_2 : wc.cell? ⟨bq, 2, none⟩ = some (.string ((rd_T58 l0 a1).f2)) := (bC a8.out 2).trans rfl
                  have hcz47_3 : wc.cell? ⟨bq, 3, none⟩ = some (.int .i64 ((rd_T58 l0 a1).f3)) := (bC a8.out 3).trans rfl
                  have hcz47_4 : wc.cell? ⟨bq, 4, none⟩ = some (.int .i64 ((rd_T58 l0 a1).f4)) := (bC a8.out 4).trans rfl
                  have hfz47_0 := bF a8.out 0
                  have hfz47_1 := bF a8.out 1
                  have hfz47_2 := bF a8.out 2
                  have hfz47_3 := bF a8.out 3
                  have hfz47_4 := bF a8.out 4
                  have p160 : 0 ≤ (((rd_T58 l0 a1).f0) : Int) := oD z2
                  have q160 : ((rd_T58 l0 a1).f0) < (l0.length : Int) := oD z2
                  obtain ⟨ad160, e160, hx160_0, hx160_1, hx160_2, hx160_3, hx160_4⟩ := at_T58 dE.out ((rd_T58 l0 a1).f0) p160 q160
                  obtain rfl : ad155 = ad160 := (by injection e160)
                  replace hx160_0 := (HB.out.cell (World.block_lt_of_cell? w _ hx160_0)).trans hx160_0
                  replace hx160_1 := (HB.out.cell (World.block_lt_of_cell? w _ hx160_1)).trans hx160_1
                  replace hx160_2 := (HB.out.cell (World.block_lt_of_cell? w _ hx160_2)).trans hx160_2
                  replace hx160_3 := (HB.out.cell (World.block_lt_of_cell? w _ hx160_3)).trans hx160_3
                  replace hx160_4 := (HB.out.cell (World.block_lt_of_cell? w _ hx160_4)).trans hx160_4
                  replace p160 := eq_true p160
                  replace q160 := eq_true q160
                  have p161 : 0 ≤ (((rd_T58 l0 a1).f1) : Int) := oD z2
                  have q161 : ((rd_T58 l0 a1).f1) < (l0.length : Int) := oD z2
                  obtain ⟨ad161, e161, hx161_0, hx161_1, hx161_2, hx161_3, hx161_4⟩ := at_T58 dE.out ((rd_T58 l0 a1).f1) p161 q161
                  obtain rfl : ad155 = ad161 := (by injection e161)
                  replace hx161_0 := (HB.out.cell (World.block_lt_of_cell? w _ hx161_0)).trans hx161_0
                  replace hx161_1 := (HB.out.cell (World.block_lt_of_cell? w _ hx161_1)).trans hx161_1
                  replace hx161_2 := (HB.out.cell (World.block_lt_of_cell? w _ hx161_2)).trans hx161_2
                  replace hx161_3 := (HB.out.cell (World.block_lt_of_cell? w _ hx161_3)).trans hx161_3
                  replace hx161_4 := (HB.out.cell (World.block_lt_of_cell? w _ hx161_4)).trans hx161_4
                  replace p161 := eq_true p161
                  replace q161 := eq_true q161
                  have p162 : 0 ≤ (((rd_T58 l0 a1).f1) : Int) := oD z2
                  have q162 : ((rd_T58 l0 a1).f1) < (l0.length : Int) := oD z2
                  obtain ⟨ad162, e162, hx162_0, hx162_1, hx162_2, hx162_3, hx162_4⟩ := at_T58 dE.out ((rd_T58 l0 a1).f1) p162 q162
                  obtain rfl : ad155 = ad162 := (by injection e162)
                  replace hx162_0 := (HB.out.cell (World.block_lt_of_cell? w _ hx162_0)).trans hx162_0
                  replace hx162_1 := (HB.out.cell (World.block_lt_of_cell? w _ hx162_1)).trans hx162_1
                  replace hx162_2 := (HB.out.cell (World.block_lt_of_cell? w _ hx162_2)).trans hx162_2
                  replace hx162_3 := (HB.out.cell (World.block_lt_of_cell? w _ hx162_3)).trans hx162_3
                  replace hx162_4 := (HB.out.cell (World.block_lt_of_cell? w _ hx162_4)).trans hx162_4
                  replace p162 := eq_true p162
                  replace q162 := eq_true q162
                  have p163 : 0 ≤ (((rd_T58 l0 a1).f0) : Int) := oD z2
                  have q163 : ((rd_T58 l0 a1).f0) < (l0.length : Int) := oD z2
                  obtain ⟨ad163, e163, hx163_0, hx163_1, hx163_2, hx163_3, hx163_4⟩ := at_T58 dE.out ((rd_T58 l0 a1).f0) p163 q163
                  obtain rfl : ad155 = ad163 := (by injection e163)
                  replace hx163_0 := (HB.out.cell (World.block_lt_of_cell? w _ hx163_0)).trans hx163_0
                  replace hx163_1 := (HB.out.cell (World.block_lt_of_cell? w _ hx163_1)).trans hx163_1
                  replace hx163_2 := (HB.out.cell (World.block_lt_of_cell? w _ hx163_2)).trans hx163_2
                  replace hx163_3 := (HB.out.cell (World.block_lt_of_cell? w _ hx163_3)).trans hx163_3
                  replace hx163_4 := (HB.out.cell (World.block_lt_of_cell? w _ hx163_4)).trans hx163_4
                  replace p163 := eq_true p163
                  replace q163 := eq_true q163
                  have p164 : 0 ≤ (((rd_T58 l0 a1).f1) : Int) := oD z2
                  have q164 : ((rd_T58 l0 a1).f1) < (l0.length : Int) := oD z2
                  obtain ⟨ad164, e164, hx164_0, hx164_1, hx164_2, hx164_3, hx164_4⟩ := at_T58 dE.out ((rd_T58 l0 a1).f1) p164 q164
                  obtain rfl : ad155 = ad164 := (by injection e164)
                  replace hx164_0 := (HB.out.cell (World.block_lt_of_cell? w _ hx164_0)).trans hx164_0
                  replace hx164_1 := (HB.out.cell (World.block_lt_of_cell? w _ hx164_1)).trans hx164_1
                  replace hx164_2 := (HB.out.cell (World.block_lt_of_cell? w _ hx164_2)).trans hx164_2
                  replace hx164_3 := (HB.out.cell (World.block_lt_of_cell? w _ hx164_3)).trans hx164_3
                  replace hx164_4 := (HB.out.cell (World.block_lt_of_cell? w _ hx164_4)).trans hx164_4
                  replace p164 := eq_true p164
                  replace q164 := eq_true q164
                  go_wp2
                  repeat (go_quiet (fail); try go_wp2)
                  go_ret
                  exact ⟨y2, y12⟩
                ·rw [if_neg mz] at H
                 have c40b0 : decide (((rd_T58 l0 ((rd_T58 l0 a1).f0)).f4) < ((rd_T58 l0 ((rd_T58 l0 a1).f1)).f4)) = false := dF mz
                 clear mz
                 by_cases lu : ((rd_T58 l0 a1).f3) = (wrap64 (((rd_T58 l0 ((rd_T58 l0 a1).f0)).f3) + ((rd_T58 l0 ((rd_T58 l0 a1).f1)).f3)))
                 ·rw [if_pos lu] at H
                  have c48b0 : (((rd_T58 l0 a1).f3) == (wrap64 (((rd_T58 l0 ((rd_T58 l0 a1).f0)).f3) + ((rd_T58 l0 ((rd_T58 l0 a1).f1)).f3)))) = true := qT lu
                  have c48b1 : (((rd_T58 l0 a1).f3) != (wrap64 (((rd_T58 l0 ((rd_T58 l0 a1).f0)).f3) + ((rd_T58 l0 ((rd_T58 l0 a1).f1)).f3)))) = false := nF lu
                  clear lu
                  by_cases ls : ((rd_T58 l0 a1).f4) = (wrap64 (((rd_T58 l0 ((rd_T58 l0 a1).f0)).f4) + 1))
                  ·rw [if_pos ls] at H
                   have c49b0 : (((rd_T58 l0 a1).f4) == (wrap64 (((rd_T58 l0 ((rd_T58 l0 a1).f0)).f4) + 1))) = true := qT ls
                   have c49b1 : (((rd_T58 l0 a1).f4) != (wrap64 (((rd_T58 l0 ((rd_T58 l0 a1).f0)).f4) + 1))) = false := nF ls
                   clear ls
                   replace H := oB H
                   obtain ⟨kT, mR, H⟩ := H
                   try dsimp only at H
                   have mC := aM mR
                   clear mR
                   obtain rfl := sI H
                   have iS : wc.cell? ⟨bq, 0, none⟩ = some (.int .i64 ((rd_T58 l0 a1).f0)) := (bC a8.out 0).trans rfl
                   have hcz51_1 : wc.cell? ⟨bq, 1, none⟩ = some (.int .i64 ((rd_T58 l0 a1).f1)) := (bC a8.out 1).trans rfl
                   have hcz51_2 : wc.cell? ⟨bq, 2, none⟩ = some (.string ((rd_T58 l0 a1).f2)) := (bC a8.out 2).trans rfl
                   have hcz51_3 : wc.cell? ⟨bq, 3, none⟩ = some (.int .i64 ((rd_T58 l0 a1).f3)) := (bC a8.out 3).trans rfl
                   have hcz51_4 : wc.cell? ⟨bq, 4, none⟩ = some (.int .i64 ((rd_T58 l0 a1).f4)) := (bC a8.out 4).trans rfl
                   have im := bF a8.out 0
                   have hfz51_1 := bF a8.out 1
                   have hfz51_2 := bF a8.out 2
                   have hfz51_3 := bF a8.out 3
                   have hfz51_4 := bF a8.out 4
                   have p160 : 0 ≤ (((rd_T58 l0 a1).f0) : Int) := oD z2
                   have q160 : ((rd_T58 l0 a1).f0) < (l0.length : Int) := oD z2
                   obtain ⟨ad160, e160, hx160_0, hx160_1, hx160_2, hx160_3, hx160_4⟩ := at_T58 dE.out ((rd_T58 l0 a1).f0) p160 q160
                   obtain rfl : ad155 = ad160 := (by injection e160)
                   replace hx160_0 := (HB.out.cell (World.block_lt_of_cell? w _ hx160_0)).trans hx160_0
                   replace hx160_1 := (HB.out.cell (World.block_lt_of_cell? w _ hx160_1)).trans hx160_1
                   replace hx160_2 := (HB.out.cell (World.block_lt_of_cell? w _ hx160_2)).trans hx160_2
                   replace hx160_3 := (HB.out.cell (World.block_lt_of_cell? w _ hx160_3)).trans hx160_3
                   replace hx160_4 := (HB.out.cell (World.block_lt_of_cell? w _ hx160_4)).trans hx160_4
                   replace p160 := eq_true p160
                   replace q160 := eq_true q160
                   have p161 : 0 ≤ (((rd_T58 l0 a1).f1) : Int) := oD z2
                   have q161 : ((rd_T58 l0 a1).f1) < (l0.length : Int) := oD z2
                   obtain ⟨ad161, e161, hx161_0, hx161_1, hx161_2, hx161_3, hx161_4⟩ := at_T58 dE.out ((rd_T58 l0 a1).f1) p161 q161
                   obtain rfl : ad155 = ad161 := (by injection e161)
                   replace hx161_0 := (HB.out.cell (World.block_lt_of_cell? w _ hx161_0)).trans hx161_0
                   replace hx161_1 := (HB.out.cell (World.block_lt_of_cell? w _ hx161_1)).trans hx161_1
                   replace hx161_2 := (HB.out.cell (World.block_lt_of_cell? w _ hx161_2)).trans hx161_2
                   replace hx161_3 := (HB.out.cell (World.block_lt_of_cell? w _ hx161_3)).trans hx161_3
                   replace hx161_4 := (HB.out.cell (World.block_lt_of_cell? w _ hx161_4)).trans hx161_4
                   replace p161 := eq_true p161
                   replace q161 := eq_true q161
                   have p166 : 0 ≤ (((rd_T58 l0 a1).f0) : Int) := oD z2
                   have q166 : ((rd_T58 l0 a1).f0) < (l0.length : Int) := oD z2
                   obtain ⟨ad166, e166, hx166_0, hx166_1, hx166_2, hx166_3, hx166_4⟩ := at_T58 dE.out ((rd_T58 l0 a1).f0) p166 q166
                   obtain rfl : ad155 = ad166 := (by injection e166)
                   replace hx166_0 := (HB.out.cell (World.block_lt_of_cell? w _ hx166_0)).trans hx166_0
                   replace hx166_1 := (HB.out.cell (World.block_lt_of_cell? w _ hx166_1)).trans hx166_1
                   replace hx166_2 := (HB.out.cell (World.block_lt_of_cell? w _ hx166_2)).trans hx166_2
                   replace hx166_3 := (HB.out.cell (World.block_lt_of_cell? w _ hx166_3)).trans hx166_3
                   replace hx166_4 := (HB.out.cell (World.block_lt_of_cell? w _ hx166_4)).trans hx166_4
                   replace p166 := eq_true p166
                   replace q166 := eq_true q166
                   have p167 : 0 ≤ (((rd_T58 l0 a1).f1) : Int) := oD z2
                   have q167 : ((rd_T58 l0 a1).f1) < (l0.length : Int) := oD z2
                   obtain ⟨ad167, e167, hx167_0, hx167_1, hx167_2, hx167_3, hx167_4⟩ := at_T58 dE.out ((rd_T58 l0 a1).f1) p167 q167
                   obtain rfl : ad155 = ad167 := (by injection e167)
                   replace hx167_0 := (HB.out.cell (World.block_lt_of_cell? w _ hx167_0)).trans hx167_0
                   replace hx167_1 := (HB.out.cell (World.block_lt_of_cell? w _ hx167_1)).trans hx167_1
                   replace hx167_2 := (HB.out.cell (World.block_lt_of_cell? w _ hx167_2)).trans hx167_2
                   replace hx167_3 := (HB.out.cell (World.block_lt_of_cell? w _ hx167_3)).trans hx167_3
                   replace hx167_4 := (HB.out.cell (World.block_lt_of_cell? w _ hx167_4)).trans hx167_4
                   replace p167 := eq_true p167
                   replace q167 := eq_true q167
                   go_wp2_with (first | (go_at_call 46; (with_reducible refine (ih kj30 (by have := kx.out; have := gY.out; have := kK.out; omega) _ _ l0 ((rd_T58 l0 a1).f0) kT _ ?side1 ?side2 mC.out).mono ?_); (case side1 => repeat (first | exact (aD dE.out HB.out) | (with_reducible refine aE ?_ _) | (with_reducible refine aG ?_ _) | (with_reducible refine aH ?_))); (case side2 => exact jr.out); rintro e w52 ⟨rfl, hb⟩; have ba := aM (ae (g := bq) (o := .cells #[.int .i64 ((rd_T58 l0 a1).f0), .int .i64 ((rd_T58 l0 a1).f1), .string ((rd_T58 l0 a1).f2), .int .i64 ((rd_T58 l0 a1).f3), .int .i64 ((rd_T58 l0 a1).f4)] 58 (0, 0)) (by (with_reducible repeat (first | refine aq ?_ _ | refine ap ?_ | refine ar ?_ _)); exact a8.out) hb); have bc := aM (ay (by repeat (first | (with_reducible first | exact HB.out | apply bA | apply pD | apply bD | refine ax ?_ eS.out) | exact HB.out)) hb); clear a8; clear HB; have a8 := ba; have HB := bc; clear ba bc; (try clear hb); (try clear hb2); (try clear hk); (try clear hi)))
                   repeat (go_quiet (first | (go_at_call 46; (with_reducible refine (ih kj30 (by have := kx.out; have := gY.out; have := kK.out; omega) _ _ l0 ((rd_T58 l0 a1).f0) kT _ ?side1 ?side2 mC.out).mono ?_); (case side1 => repeat (first | exact (aD dE.out HB.out) | (with_reducible refine aE ?_ _) | (with_reducible refine aG ?_ _) | (with_reducible refine aH ?_))); (case side2 => exact jr.out); rintro e w52 ⟨rfl, hb⟩; have ba := aM (ae (g := bq) (o := .cells #[.int .i64 ((rd_T58 l0 a1).f0), .int .i64 ((rd_T58 l0 a1).f1), .string ((rd_T58 l0 a1).f2), .int .i64 ((rd_T58 l0 a1).f3), .int .i64 ((rd_T58 l0 a1).f4)] 58 (0, 0)) (by (with_reducible repeat (first | refine aq ?_ _ | refine ap ?_ | refine ar ?_ _)); exact a8.out) hb); have bc := aM (ay (by repeat (first | (with_reducible first | exact HB.out | apply bA | apply pD | apply bD | refine ax ?_ eS.out) | exact HB.out)) hb); clear a8; clear HB; have a8 := ba; have HB := bc; clear ba bc; (try clear hb); (try clear hb2); (try clear hk); (try clear hi))); try go_wp2_with (first | (go_at_call 46; (with_reducible refine (ih kj30 (by have := kx.out; have := gY.out; have := kK.out; omega) _ _ l0 ((rd_T58 l0 a1).f0) kT _ ?side1 ?side2 mC.out).mono ?_); (case side1 => repeat (first | exact (aD dE.out HB.out) | (with_reducible refine aE ?_ _) | (with_reducible refine aG ?_ _) | (with_reducible refine aH ?_))); (case side2 => exact jr.out); rintro e w52 ⟨rfl, hb⟩; have ba := aM (ae (g := bq) (o := .cells #[.int .i64 ((rd_T58 l0 a1).f0), .int .i64 ((rd_T58 l0 a1).f1), .string ((rd_T58 l0 a1).f2), .int .i64 ((rd_T58 l0 a1).f3), .int .i64 ((rd_T58 l0 a1).f4)] 58 (0, 0)) (by (with_reducible repeat (first | refine aq ?_ _ | refine ap ?_ | refine ar ?_ _)); exact a8.out) hb); have bc := aM (ay (by repeat (first | (with_reducible first | exact HB.out | apply bA | apply pD | apply bD | refine ax ?_ eS.out) | exact HB.out)) hb); clear a8; clear HB; have a8 := ba; have HB := bc; clear ba bc; (try clear hb); (try clear hb2); (try clear hk); (try clear hi))))
                   go_ret
                   exact ⟨y2, y12⟩
                  ·rw [if_neg ls] at H
                   have c49b0 : (((rd_T58 l0 a1).f4) == (wrap64 (((rd_T58 l0 ((rd_T58 l0 a1).f0)).f4) + 1))) = false := qF ls
                   have c49b1 : (((rd_T58 l0 a1).f4) != (wrap64 (((rd_T58 l0 ((rd_T58 l0 a1).f0)).f4) + 1))) = true := nT ls
                   obtain rfl := sI H
                   have iR : wc.cell? ⟨bq, 0, none⟩ = some (.int .i64 ((rd_T58 l0 a1).f0)) := (bC a8.out 0).trans rfl
                   have hcz53_1 : wc.cell? ⟨bq, 1, none⟩ = some (.int .i64 ((rd_T58 l0 a1).f1)) := (bC a8.out 1).trans rfl
                   have hcz53_2 : wc.cell? ⟨bq, 2, none⟩ = some (.string ((rd_T58 l0 a1).f2)) := (bC a8.out 2).trans rfl
                   have hcz53_3 : wc.cell? ⟨bq, 3, none⟩ = some (.int .i64 ((rd_T58 l0 a1).f3)) := (bC a8.out 3).trans rfl
                   have hcz53_4 : wc.cell? ⟨bq, 4, none⟩ = some (.int .i64 ((rd_T58 l0 a1).f4)) := (bC a8.out 4).trans rfl
                   have il := bF a8.out 0
                   have hfz53_1 := bF a8.out 1
                   have hfz53_2 := bF a8.out 2
                   have hfz53_3 := bF a8.out 3
                   have hfz53_4 := bF a8.out 4
                   have p160 : 0 ≤ (((rd_T58 l0 a1).f0) : Int) := oD z2
                   have q160 : ((rd_T58 l0 a1).f0) < (l0.length : Int) := oD z2
                   obtain ⟨ad160, e160, hx160_0, hx160_1, hx160_2, hx160_3, hx160_4⟩ := at_T58 dE.out ((rd_T58 l0 a1).f0) p160 q160
                   obtain rfl : ad155 = ad160 := (by injection e160)
                   replace hx160_0 := (HB.out.cell (World.block_lt_of_cell? w _ hx160_0)).trans hx160_0
                   replace hx160_1 := (HB.out.cell (World.block_lt_of_cell? w _ hx160_1)).trans hx160_1
                   replace hx160_2 := (HB.out.cell (World.block_lt_of_cell? w _ hx160_2)).trans hx160_2
                   replace hx160_3 := (HB.out.cell (World.block_lt_of_cell? w _ hx160_3)).trans hx160_3
                   replace hx160_4 := (HB.out.cell (World.block_lt_of_cell? w _ hx160_4)).trans hx160_4
                   replace p160 := eq_true p160
                   replace q160 := eq_true q160
                   have p161 : 0 ≤ (((rd_T58 l0 a1).f1) : Int) := oD z2
                   have q161 : ((rd_T58 l0 a1).f1) < (l0.length : Int) := oD z2
                   obtain ⟨ad161, e161, hx161_0, hx161_1, hx161_2, hx161_3, hx161_4⟩ := at_T58 dE.out ((rd_T58 l0 a1).f1) p161 q161
                   obtain rfl : ad155 = ad161 := (by injection e161)
                   replace hx161_0 := (HB.out.cell (World.block_lt_of_cell? w _ hx161_0)).trans hx161_0
                   replace hx161_1 := (HB.out.cell (World.block_lt_of_cell? w _ hx161_1)).trans hx161_1
                   replace hx161_2 := (HB.out.cell (World.block_lt_of_cell? w _ hx161_2)).trans hx161_2
                   replace hx161_3 := (HB.out.cell (World.block_lt_of_cell? w _ hx161_3)).trans hx161_3
                   replace hx161_4 := (HB.out.cell (World.block_lt_of_cell? w _ hx161_4)).trans hx161_4
                   replace p161 := eq_true p161
                   replace q161 := eq_true q161
                   have p166 : 0 ≤ (((rd_T58 l0 a1).f0) : Int) := oD z2
                   have q166 : ((rd_T58 l0 a1).f0) < (l0.length : Int) := oD z2
                   obtain ⟨ad166, e166, hx166_0, hx166_1, hx166_2, hx166_3, hx166_4⟩ := at_T58 dE.out ((rd_T58 l0 a1).f0) p166 q166
                   obtain rfl : ad155 = ad166 := (by injection e166)
                   replace hx166_0 := (HB.out.cell (World.block_lt_of_cell? w _ hx166_0)).trans hx166_0
                   replace hx166_1 := (HB.out.cell (World.block_lt_of_cell? w _ hx166_1)).trans hx166_1
                   replace hx166_2 := (HB.out.cell (World.block_lt_of_cell? w _ hx166_2)).trans hx166_2
                   replace hx166_3 := (HB.out.cell (World.block_lt_of_cell? w _ hx166_3)).trans hx166_3
                   replace hx166_4 := (HB.out.cell (World.block_lt_of_cell? w _ hx166_4)).trans hx166_4
                   replace p166 := eq_true p166
                   replace q166 := eq_true q166
                   have p167 : 0 ≤ (((rd_T58 l0 a1).f1) : Int) := oD z2
                   have q167 : ((rd_T58 l0 a1).f1) < (l0.length : Int) := oD z2
                   obtain ⟨ad167, e167, hx167_0, hx167_1, hx167_2, hx167_3, hx167_4⟩ := at_T58 dE.out ((rd_T58 l0 a1).f1) p167 q167
                   obtain rfl : ad155 = ad167 := (by injection e167)
                   replace hx167_0 := (HB.out.cell (World.block_lt_of_cell? w _ hx167_0)).trans hx167_0
                   replace hx167_1 := (HB.out.cell (World.block_lt_of_cell? w _ hx167_1)).trans hx167_1
                   replace hx167_2 := (HB.out.cell (World.block_lt_of_cell? w _ hx167_2)).trans hx167_2
                   replace hx167_3 := (HB.out.cell (World.block_lt_of_cell? w _ hx167_3)).trans hx167_3
                   replace hx167_4 := (HB.out.cell (World.block_lt_of_cell? w _ hx167_4)).trans hx167_4
                   replace p167 := eq_true p167
                   replace q167 := eq_true q167
                   go_wp2
                   repeat (go_quiet (fail); try go_wp2)
                   go_ret
                   exact ⟨y2, y12⟩
                 ·rw [if_neg lu] at H
                  have c48b0 : (((rd_T58 l0 a1).f3) == (wrap64 (((rd_T58 l0 ((rd_T58 l0 a1).f0)).f3) + ((rd_T58 l0 ((rd_T58 l0 a1).f1)).f3)))) = false := qF lu
                  have c48b1 : (((rd_T58 l0 a1).f3) != (wrap64 (((rd_T58 l0 ((rd_T58 l0 a1).f0)).f3) + ((rd_T58 l0 ((rd_T58 l0 a1).f1)).f3)))) = true := nT lu
                  obtain rfl := sI H
                  have hcz54_0 : wc.cell? ⟨bq, 0, none⟩ = some (.int .i64 ((rd_T58 l0 a1).f0)) := (bC a8.out 0).trans rfl
                  have hcz54_1 : wc.cell? ⟨bq, 1, none⟩ = some (.int .i64 ((rd_T58 l0 a1).f1)) := (bC a8.out 1).trans rfl
                  have hcz54_2 : wc.cell? ⟨bq, 2, none⟩ = some (.string ((rd_T58 l0 a1).f2)) := (bC a8.out 2).trans rfl
                  have hcz54_3 : wc.cell? ⟨bq, 3, none⟩ = some (.int .i64 ((rd_T58 l0 a1).f3)) := (bC a8.out 3).trans rfl
                  have hcz54_4 : wc.cell? ⟨bq, 4, none⟩ = some (.int .i64 ((rd_T58 l0 a1).f4)) := (bC a8.out 4).trans rfl
                  have hfz54_0 := bF a8.out 0
                  have hfz54_1 := bF a8.out 1
                  have hfz54_2 := bF a8.out 2
                  have hfz54_3 := bF a8.out 3
                  have hfz54_4 := bF a8.out 4
                  have p160 : 0 ≤ (((rd_T58 l0 a1).f0) : Int) := oD z2
                  have q160 : ((rd_T58 l0 a1).f0) < (l0.length : Int) := oD z2
                  obtain ⟨ad160, e160, hx160_0, hx160_1, hx160_2, hx160_3, hx160_4⟩ := at_T58 dE.out ((rd_T58 l0 a1).f0) p160 q160
                  obtain rfl : ad155 = ad160 := (by injection e160)
                  replace hx160_0 := (HB.out.cell (World.block_lt_of_cell? w _ hx160_0)).trans hx160_0
                  replace hx160_1 := (HB.out.cell (World.block_lt_of_cell? w _ hx160_1)).trans hx160_1
                  replace hx160_2 := (HB.out.cell (World.block_lt_of_cell? w _ hx160_2)).trans hx160_2
                  replace hx160_3 := (HB.out.cell (World.block_lt_of_cell? w _ hx160_3)).trans hx160_3
                  replace hx160_4 := (HB.out.cell (World.block_lt_of_cell? w _ hx160_4)).trans hx160_4
                  replace p160 := eq_true p160
                  replace q160 := eq_true q160
                  have p161 : 0 ≤ (((rd_T58 l0 a1).f1) : Int) := oD z2
                  have q161 : ((rd_T58 l0 a1).f1) < (l0.length : Int) := oD z2
                  obtain ⟨ad161, e161, hx161_0, hx161_1, hx161_2, hx161_3, hx161_4⟩ := at_T58 dE.out ((rd_T58 l0 a1).f1) p161 q161
                  obtain rfl : ad155 = ad161 := (by injection e161)
                  replace hx161_0 := (HB.out.cell (World.block_lt_of_cell? w _ hx161_0)).trans hx161_0
                  replace hx161_1 := (HB.out.cell (World.block_lt_of_cell? w _ hx161_1)).trans hx161_1
                  replace hx161_2 := (HB.out.cell (World.block_lt_of_cell? w _ hx161_2)).trans hx161_2
                  replace hx161_3 := (HB.out.cell (World.block_lt_of_cell? w _ hx161_3)).trans hx161_3
                  replace hx161_4 := (HB.out.cell (World.block_lt_of_cell? w _ hx161_4)).trans hx161_4
                  replace p161 := eq_true p161
                  replace q161 := eq_true q161
                  have p166 : 0 ≤ (((rd_T58 l0 a1).f0) : Int) := oD z2
                  have q166 : ((rd_T58 l0 a1).f0) < (l0.length : Int) := oD z2
                  obtain ⟨ad166, e166, hx166_0, hx166_1, hx166_2, hx166_3, hx166_4⟩ := at_T58 dE.out ((rd_T58 l0 a1).f0) p166 q166
                  obtain rfl : ad155 = ad166 := (by injection e166)
                  replace hx166_0 := (HB.out.cell (World.block_lt_of_cell? w _ hx166_0)).trans hx166_0
                  replace hx166_1 := (HB.out.cell (World.block_lt_of_cell? w _ hx166_1)).trans hx166_1
                  replace hx166_2 := (HB.out.cell (World.block_lt_of_cell? w _ hx166_2)).trans hx166_2
                  replace hx166_3 := (HB.out.cell (World.block_lt_of_cell? w _ hx166_3)).trans hx166_3
                  replace hx166_4 := (HB.out.cell (World.block_lt_of_cell? w _ hx166_4)).trans hx166_4
                  replace p166 := eq_true p166
                  replace q166 := eq_true q166
                  have p167 : 0 ≤ (((rd_T58 l0 a1).f1) : Int) := oD z2
                  have q167 : ((rd_T58 l0 a1).f1) < (l0.length : Int) := oD z2
                  obtain ⟨ad167, e167, hx167_0, hx167_1, hx167_2, hx167_3, hx167_4⟩ := at_T58 dE.out ((rd_T58 l0 a1).f1) p167 q167
                  obtain rfl : ad155 = ad167 := (by injection e167)
                  replace hx167_0 := (HB.out.cell (World.block_lt_of_cell? w _ hx167_0)).trans hx167_0
                  replace hx167_1 := (HB.out.cell (World.block_lt_of_cell? w _ hx167_1)).trans hx167_1
                  replace hx167_2 := (HB.out.cell (World.block_lt_of_cell? w _ hx167_2)).trans hx167_2
                  replace hx167_3 := (HB.out.cell (World.block_lt_of_cell? w _ hx167_3)).trans hx167_3
                  replace hx167_4 := (HB.out.cell (World.block_lt_of_cell? w _ hx167_4)).trans hx167_4
                  replace p167 := eq_true p167
                  replace q167 := eq_true q167
                  go_wp2
                  repeat (go_quiet (fail); try go_wp2)
                  go_ret
                  exact ⟨y2, y12⟩
               ·rw [if_neg ni] at H
                exact absurd H (by simp)
              ·rw [if_neg nj] at H
               exact absurd H (by simp)
             ·rw [if_neg nk] at H
              exact absurd H (by simp)
            ·rw [if_neg nl] at H
             exact absurd H (by simp)
  ·rw [if_neg c4] at H
   exact absurd H (by simp)
 ·rw [if_neg c3] at H
  exact absurd H (by simp)

end Go.Proofs.Ytmkenlejdaphnaa.AFnExactJoinRopes
