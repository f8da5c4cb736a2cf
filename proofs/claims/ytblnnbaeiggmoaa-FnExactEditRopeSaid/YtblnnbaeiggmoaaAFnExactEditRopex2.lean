-- this session's own text: written by wip/tools/ownprint.py over the kit's print
import Derived.Test.YtblnnbaeiggmoaaAFnExactEditRopex0
import Derived.Test.YtblnnbaeiggmoaaAFnExactEditRopex1
namespace Go.Proofs.Ytblnnbaeiggmoaa.AFnExactEditRope
open Go.RowKit Go.Proofs.YtblnnbaeiggmoaaW.PrintWords Go.Proofs.YtblnnbaeiggmoaaW.PrintLast Go.Proofs.YtblnnbaeiggmoaaW.PrintMore
attribute [local go_sem] max2_int min2_int max_two min_two max_three min_three max_four min_four   -- for this text's walks alone
set_option linter.unusedVariables false
set_option linter.unusedSimpArgs false

/-! ### spec_l12First: function 59 -/
mutual
def spec_l12First.j0 : Nat → List (S101) → Int → Bool → Int → Int → ByteArray → Int → Int → Option (Int)
 | 0, _, _, _, _, _, _, _, _ => none
 | k + 1, x0, x1, x19, x113000, x113001, x113002, x113003, x113004 => if x19 = true then ((spec_l1In.f (x113002.size : Int) 1 8).bind fun mX => (if mX = true then ((spec_l1Text.f k x113002).bind fun mW => (if mW = true then (if x113003 = (x113002.size : Int) then (if x113004 = 0 then (some x1) else (some (-1))) else (some (-1))) else (some (-1)))) else (some (-1)))) else (if x113002.toList = ([] : List UInt8) then (if x113001 = (wrap64 (x1 - 1)) then (spec_l12First.j1 k x0 x1 (decide (x1 < 2)) x113000 x113001 x113002 x113003 x113004) else (spec_l12First.j1 k x0 x1 true x113000 x113001 x113002 x113003 x113004)) else (spec_l12First.j1 k x0 x1 true x113000 x113001 x113002 x113003 x113004))
def spec_l12First.j1 : Nat → List (S101) → Int → Bool → Int → Int → ByteArray → Int → Int → Option (Int)
 | 0, _, _, _, _, _, _, _, _ => none
 | k + 1, x0, x1, x58, x113000, x113001, x113002, x113003, x113004 => if x58 = true then (some (-1)) else ((spec_l12First.f k x0 (wrap64 (x1 - 1))).bind fun gQ => (if gQ < 1 then (spec_l12First.j2 k x0 true x113000 x113001 x113002 x113003 x113004) else (spec_l12First.j2 k x0 (x113000 != (wrap64 (gQ - 1))) x113000 x113001 x113002 x113003 x113004)))
def spec_l12First.j2 : Nat → List (S101) → Bool → Int → Int → ByteArray → Int → Int → Option (Int)
 | 0, _, _, _, _, _, _, _ => none
 | k + 1, x0, x71, x113000, x113001, x113002, x113003, x113004 => if x71 = true then (some (-1)) else (if 0 ≤ x113000 then (if x113000 < (x0.length : Int) then (if 0 ≤ x113001 then (if x113001 < (x0.length : Int) then (if ((rd_T101 x0 x113001).f4) > ((rd_T101 x0 x113000).f4) then (if x113003 = (wrap64 (((rd_T101 x0 x113000).f3) + ((rd_T101 x0 x113001).f3))) then (if x113004 = (wrap64 (((rd_T101 x0 x113001).f4) + 1)) then ((spec_l12First.f k x0 x113000).bind fun lr => (some lr)) else (some (-1))) else (some (-1))) else (if x113003 = (wrap64 (((rd_T101 x0 x113000).f3) + ((rd_T101 x0 x113001).f3))) then (if x113004 = (wrap64 (((rd_T101 x0 x113000).f4) + 1)) then ((spec_l12First.f k x0 x113000).bind fun lq => (some lq)) else (some (-1))) else (some (-1)))) else (none)) else (none)) else (none)) else (none))
def spec_l12First.f : Nat → List (S101) → Int → Option (Int)
 | 0, _, _ => none
 | k + 1, l0, a1 => if 0 ≤ a1 then (if a1 < (l0.length : Int) then (if ((rd_T101 l0 a1).f0) = (-1) then (spec_l12First.j0 k l0 a1 (((rd_T101 l0 a1).f1) == (-1)) ((rd_T101 l0 a1).f0) ((rd_T101 l0 a1).f1) ((rd_T101 l0 a1).f2) ((rd_T101 l0 a1).f3) ((rd_T101 l0 a1).f4)) else (spec_l12First.j0 k l0 a1 false ((rd_T101 l0 a1).f0) ((rd_T101 l0 a1).f1) ((rd_T101 l0 a1).f2) ((rd_T101 l0 a1).f3) ((rd_T101 l0 a1).f4))) else (none)) else (none)
end
theorem spec_l12First.mono_l : ∀ k, (∀ y0 y1, LeO (spec_l12First.f k y0 y1) (spec_l12First.f (k + 1) y0 y1)) ∧ (∀ y0 y1 y2 y3 y4 y5 y6 y7, LeO (spec_l12First.j0 k y0 y1 y2 y3 y4 y5 y6 y7) (spec_l12First.j0 (k + 1) y0 y1 y2 y3 y4 y5 y6 y7)) ∧ (∀ y0 y1 y2 y3 y4 y5 y6 y7, LeO (spec_l12First.j1 k y0 y1 y2 y3 y4 y5 y6 y7) (spec_l12First.j1 (k + 1) y0 y1 y2 y3 y4 y5 y6 y7)) ∧ (∀ y0 y1 y2 y3 y4 y5 y6, LeO (spec_l12First.j2 k y0 y1 y2 y3 y4 y5 y6) (spec_l12First.j2 (k + 1) y0 y1 y2 y3 y4 y5 y6))
 | 0 => ⟨fun _ _ r h => by simp [spec_l12First.f] at h, fun _ _ _ _ _ _ _ _ r h => by simp [spec_l12First.j0] at h, fun _ _ _ _ _ _ _ _ r h => by simp [spec_l12First.j1] at h, fun _ _ _ _ _ _ _ r h => by simp [spec_l12First.j2] at h⟩
 | k + 1 => by
  obtain ⟨ih0, ih1, ih2, ih3⟩ := spec_l12First.mono_l k
  refine ⟨?_, ?_, ?_, ?_⟩
  ·intro y0 y1
   unfold spec_l12First.f
   repeat' first
   | (with_reducible exact ih0 _ _)
   | (with_reducible exact ih1 _ _ _ _ _ _ _ _)
   | (with_reducible exact ih2 _ _ _ _ _ _ _ _)
   | (with_reducible exact ih3 _ _ _ _ _ _ _)
   | (with_reducible exact spec_l1Text.mono _ _)
   | (with_reducible exact LeO.refl _)
   | (with_reducible exact LeO.none _)
   | (with_reducible refine LeO.ite ?_ ?_)
   | (with_reducible refine LeO.bind ?_ (fun _ => ?_))
   | exact ih0 _ _
   | exact ih1 _ _ _ _ _ _ _ _
   | exact ih2 _ _ _ _ _ _ _ _
   | exact ih3 _ _ _ _ _ _ _
   | exact spec_l1Text.mono _ _
   | exact LeO.none _
   | refine LeO.ite ?_ ?_
   | refine LeO.bind ?_ (fun _ => ?_)
  ·intro y0 y1 y2 y3 y4 y5 y6 y7
   unfold spec_l12First.j0
   repeat' first
   | (with_reducible exact ih0 _ _)
   | (with_reducible exact ih1 _ _ _ _ _ _ _ _)
   | (with_reducible exact ih2 _ _ _ _ _ _ _ _)
   | (with_reducible exact ih3 _ _ _ _ _ _ _)
   | (with_reducible exact spec_l1Text.mono _ _)
   | (with_reducible exact LeO.refl _)
   | (with_reducible exact LeO.none _)
   | (with_reducible refine LeO.ite ?_ ?_)
   | (with_reducible refine LeO.bind ?_ (fun _ => ?_))
   | exact ih0 _ _
   | exact ih1 _ _ _ _ _ _ _ _
   | exact ih2 _ _ _ _ _ _ _ _
   | exact ih3 _ _ _ _ _ _ _
   | exact spec_l1Text.mono _ _
   | exact LeO.none _
   | refine LeO.ite ?_ ?_
   | refine LeO.bind ?_ (fun _ => ?_)
  ·intro y0 y1 y2 y3 y4 y5 y6 y7
   unfold spec_l12First.j1
   repeat' first
   | (with_reducible exact ih0 _ _)
   | (with_reducible exact ih1 _ _ _ _ _ _ _ _)
   | (with_reducible exact ih2 _ _ _ _ _ _ _ _)
   | (with_reducible exact ih3 _ _ _ _ _ _ _)
   | (with_reducible exact spec_l1Text.mono _ _)
   | (with_reducible exact LeO.refl _)
   | (with_reducible exact LeO.none _)
   | (with_reducible refine LeO.ite ?_ ?_)
   | (with_reducible refine LeO.bind ?_ (fun _ => ?_))
   | exact ih0 _ _
   | exact ih1 _ _ _ _ _ _ _ _
   | exact ih2 _ _ _ _ _ _ _ _
   | exact ih3 _ _ _ _ _ _ _
   | exact spec_l1Text.mono _ _
   | exact LeO.none _
   | refine LeO.ite ?_ ?_
   | refine LeO.bind ?_ (fun _ => ?_)
  ·intro y0 y1 y2 y3 y4 y5 y6
   unfold spec_l12First.j2
   repeat' first
   | (with_reducible exact ih0 _ _)
   | (with_reducible exact ih1 _ _ _ _ _ _ _ _)
   | (with_reducible exact ih2 _ _ _ _ _ _ _ _)
   | (with_reducible exact ih3 _ _ _ _ _ _ _)
   | (with_reducible exact spec_l1Text.mono _ _)
   | (with_reducible exact LeO.refl _)
   | (with_reducible exact LeO.none _)
   | (with_reducible refine LeO.ite ?_ ?_)
   | (with_reducible refine LeO.bind ?_ (fun _ => ?_))
   | exact ih0 _ _
   | exact ih1 _ _ _ _ _ _ _ _
   | exact ih2 _ _ _ _ _ _ _ _
   | exact ih3 _ _ _ _ _ _ _
   | exact spec_l1Text.mono _ _
   | exact LeO.none _
   | refine LeO.ite ?_ ?_
   | refine LeO.bind ?_ (fun _ => ?_)
theorem spec_l12First.mono : ∀ a0 a1 k, LeO (spec_l12First.f k a0 a1) (spec_l12First.f (k + 1) a0 a1) := by
 intro a0 a1 k
 obtain ⟨ih0, ih1, ih2, ih3⟩ := spec_l12First.mono_l k
 exact ih0 a0 a1
set_option maxHeartbeats 8000000 in
set_option maxRecDepth 100000 in
theorem spec_l12First.calls (k : Nat) : ∀ (A0 : Option Addr) (c0 : Nat) (l0 : List (S101)) (a1 : Int) (r : Int) (w : World) (hr0 : Kd.C k101 w A0 l0.length l0) (hc0 : l0.length ≤ c0) (h : spec_l12First.f k l0 a1 = some r),
  Calls Try.prog 59 #[.slice A0 l0.length c0, .int .i64 a1] w fun e w' => e = .returned (.int .i64 r) ∧ Below w.heap.size w w' := by
 induction k using Nat.strongRecOn with
 | _ k ih =>
 intro A0 c0 l0 a1 r w hr0 hc0 h
 cases k with
 | zero => exact absurd h (by simp [spec_l12First.f])
 | succ k =>
 simp only [spec_l12First.f] at h
 have hu101 := Try.underlying101
 have bY := aM hr0
 have cQ := aM hc0
 clear hr0 hc0
 have HB := aM (Below.refl w.heap.size w)
 have H : (if 0 ≤ a1 then (if a1 < (l0.length : Int) then (if ((rd_T101 l0 a1).f0) = (-1) then (spec_l12First.j0 k l0 a1 (((rd_T101 l0 a1).f1) == (-1)) ((rd_T101 l0 a1).f0) ((rd_T101 l0 a1).f1) ((rd_T101 l0 a1).f2) ((rd_T101 l0 a1).f3) ((rd_T101 l0 a1).f4)) else (spec_l12First.j0 k l0 a1 false ((rd_T101 l0 a1).f0) ((rd_T101 l0 a1).f1) ((rd_T101 l0 a1).f2) ((rd_T101 l0 a1).f3) ((rd_T101 l0 a1).f4))) else (none)) else (none)) = some r := h
 clear h
 by_cases c3 : 0 ≤ a1
 ·rw [if_pos c3] at H
  have c3b0 : decide (0 ≤ a1) = true := dT c3
  clear c3
  by_cases c4 : a1 < (l0.length : Int)
  ·rw [if_pos c4] at H
   have c4b0 : decide (a1 < (l0.length : Int)) = true := dT c4
   clear c4
   have lM := aM H
   clear H
   have p111 : 0 ≤ (a1 : Int) := oD z2
   have q111 : a1 < (l0.length : Int) := oD z2
   obtain ⟨ad111, e111, hx111_0, hx111_1, hx111_2, hx111_3, hx111_4⟩ := at_T101 bY.out a1 p111 q111
   cases e111
   replace p111 := eq_true p111
   replace q111 := eq_true q111
   go_enter Try.func59, Try.ntmps59
   go_upto_region 2 with (first | ((with_reducible refine aJ (N := 5) rfl ?_); (try (refine gate_guard (by rfl) ?_; dsimp only)); refine aK ?hg (N := 5) ?hd (cs := #[.int .i64 0, .int .i64 0, .string (⟨#[]⟩ : ByteArray), .int .i64 0, .int .i64 0]) (t := 101) ?hr ?_; (case hd => rfl); (case hg => rfl); (case hr => first | (go_simp; done) | (go_simp; rfl)); intro bh hg w6 hbox hb; have a6 := aM (ay z11 hb); have ba := aM (hbox); have bb := aM ((by rw [hg]; exact (az z11) : w.heap.size ≤ bh)); have bf := aM ((by rw [hg]; exact (az z11) : w.heap.size ≤ bh)); clear HB; have HB := a6; have a8 := ba; have mA := bb; have eA := bf; clear a6 ba bb bf; clear hb hbox hg; have ev : w6.cell? ⟨bh, 0, none⟩ = some (.int .i64 0) := (bC a8.out 0).trans rfl; have eu : w6.cell? ⟨bh, 1, none⟩ = some (.int .i64 0) := (bC a8.out 1).trans rfl; have es : w6.cell? ⟨bh, 2, none⟩ = some (.string (⟨#[]⟩ : ByteArray)) := (bC a8.out 2).trans rfl; have e8 : w6.cell? ⟨bh, 3, none⟩ = some (.int .i64 0) := (bC a8.out 3).trans rfl; have e7 : w6.cell? ⟨bh, 4, none⟩ = some (.int .i64 0) := (bC a8.out 4).trans rfl; have er := bF a8.out 0; have ep := bF a8.out 1; have en := bF a8.out 2; have eZ := bF a8.out 3; have eY := bF a8.out 4))
   repeat (go_quiet (first | ((with_reducible refine aJ (N := 5) rfl ?_); (try (refine gate_guard (by rfl) ?_; dsimp only)); refine aK ?hg (N := 5) ?hd (cs := #[.int .i64 0, .int .i64 0, .string (⟨#[]⟩ : ByteArray), .int .i64 0, .int .i64 0]) (t := 101) ?hr ?_; (case hd => rfl); (case hg => rfl); (case hr => first | (go_simp; done) | (go_simp; rfl)); intro bh hg w6 hbox hb; have a6 := aM (ay z11 hb); have ba := aM (hbox); have bb := aM ((by rw [hg]; exact (az z11) : w.heap.size ≤ bh)); have bf := aM ((by rw [hg]; exact (az z11) : w.heap.size ≤ bh)); clear HB; have HB := a6; have a8 := ba; have mA := bb; have eA := bf; clear a6 ba bb bf; clear hb hbox hg; have ev : w6.cell? ⟨bh, 0, none⟩ = some (.int .i64 0) := (bC a8.out 0).trans rfl; have eu : w6.cell? ⟨bh, 1, none⟩ = some (.int .i64 0) := (bC a8.out 1).trans rfl; have es : w6.cell? ⟨bh, 2, none⟩ = some (.string (⟨#[]⟩ : ByteArray)) := (bC a8.out 2).trans rfl; have e8 : w6.cell? ⟨bh, 3, none⟩ = some (.int .i64 0) := (bC a8.out 3).trans rfl; have e7 : w6.cell? ⟨bh, 4, none⟩ = some (.int .i64 0) := (bC a8.out 4).trans rfl; have er := bF a8.out 0; have ep := bF a8.out 1; have en := bF a8.out 2; have eZ := bF a8.out 3; have eY := bF a8.out 4)); go_upto_region 2 with (first | ((with_reducible refine aJ (N := 5) rfl ?_); (try (refine gate_guard (by rfl) ?_; dsimp only)); refine aK ?hg (N := 5) ?hd (cs := #[.int .i64 0, .int .i64 0, .string (⟨#[]⟩ : ByteArray), .int .i64 0, .int .i64 0]) (t := 101) ?hr ?_; (case hd => rfl); (case hg => rfl); (case hr => first | (go_simp; done) | (go_simp; rfl)); intro bh hg w6 hbox hb; have a6 := aM (ay z11 hb); have ba := aM (hbox); have bb := aM ((by rw [hg]; exact (az z11) : w.heap.size ≤ bh)); have bf := aM ((by rw [hg]; exact (az z11) : w.heap.size ≤ bh)); clear HB; have HB := a6; have a8 := ba; have mA := bb; have eA := bf; clear a6 ba bb bf; clear hb hbox hg; have ev : w6.cell? ⟨bh, 0, none⟩ = some (.int .i64 0) := (bC a8.out 0).trans rfl; have eu : w6.cell? ⟨bh, 1, none⟩ = some (.int .i64 0) := (bC a8.out 1).trans rfl; have es : w6.cell? ⟨bh, 2, none⟩ = some (.string (⟨#[]⟩ : ByteArray)) := (bC a8.out 2).trans rfl; have e8 : w6.cell? ⟨bh, 3, none⟩ = some (.int .i64 0) := (bC a8.out 3).trans rfl; have e7 : w6.cell? ⟨bh, 4, none⟩ = some (.int .i64 0) := (bC a8.out 4).trans rfl; have er := bF a8.out 0; have ep := bF a8.out 1; have en := bF a8.out 2; have eZ := bF a8.out 3; have eY := bF a8.out 4)))
   (try simp only [Act.put, sA, sB, sC])
   go_cut [19] (fun v19 wc => ∃ (kq : Nat) (x19_4 : Bool), v19 = .bool x19_4 ∧ Aside0 (spec_l12First.j0 kq l0 a1 x19_4 ((rd_T101 l0 a1).f0) ((rd_T101 l0 a1).f1) ((rd_T101 l0 a1).f2) ((rd_T101 l0 a1).f3) ((rd_T101 l0 a1).f4) = some r) ∧ Aside0 (kq ≤ k) ∧ Aside0 (wc.heap[bh]? = some (.cells #[.int .i64 ((rd_T101 l0 a1).f0), .int .i64 ((rd_T101 l0 a1).f1), .string ((rd_T101 l0 a1).f2), .int .i64 ((rd_T101 l0 a1).f3), .int .i64 ((rd_T101 l0 a1).f4)] 101 (0, 0))) ∧ Aside0 (Below w.heap.size w wc))
   case first =>
    have H := lM.out
    clear lM
    by_cases c8 : ((rd_T101 l0 a1).f0) = (-1)
    ·rw [if_pos c8] at H
     have c8b0 : (((rd_T101 l0 a1).f0) == (-1)) = true := qT c8
     have c8b1 : (((rd_T101 l0 a1).f0) != (-1)) = false := nF c8
     clear c8
     (first | rw [c8b0] | (simp only [i64_w, i32_w]; rw [c8b0]) | skip)
     have H' := aM H
     clear H
     have dp : w6.cell? ⟨bh, 0, none⟩ = some (.int .i64 0) := (bC a8.out 0).trans rfl
     have ec : w6.cell? ⟨bh, 1, none⟩ = some (.int .i64 0) := (bC a8.out 1).trans rfl
     have eb : w6.cell? ⟨bh, 2, none⟩ = some (.string (⟨#[]⟩ : ByteArray)) := (bC a8.out 2).trans rfl
     have iK : w6.cell? ⟨bh, 3, none⟩ = some (.int .i64 0) := (bC a8.out 3).trans rfl
     have iJ : w6.cell? ⟨bh, 4, none⟩ = some (.int .i64 0) := (bC a8.out 4).trans rfl
     have dn := bF a8.out 0
     have d5 := bF a8.out 1
     have dZ := bF a8.out 2
     have ie := bF a8.out 3
     have ic := bF a8.out 4
     go_wp2
     repeat (go_quiet (fail); try go_wp2)
     go_meet
     case rel => exact ⟨_, ((((rd_T101 l0 a1).f1) == (-1))), z1, H', ⟨by first | omega | exact Nat.le_refl _⟩, ⟨by (with_reducible repeat (first | refine ar ?_ _ | refine aq ?_ | refine au ?_ _)); refine av (cs := #[.int .i64 ((rd_T101 l0 a1).f0), .int .i64 ((rd_T101 l0 a1).f1), .string ((rd_T101 l0 a1).f2), .int .i64 ((rd_T101 l0 a1).f3), .int .i64 0]) ?_ 4 _ rfl; (with_reducible repeat (first | refine ar ?_ _ | refine aq ?_ | refine au ?_ _)); refine av (cs := #[.int .i64 ((rd_T101 l0 a1).f0), .int .i64 ((rd_T101 l0 a1).f1), .string ((rd_T101 l0 a1).f2), .int .i64 0, .int .i64 0]) ?_ 3 _ rfl; (with_reducible repeat (first | refine ar ?_ _ | refine aq ?_ | refine au ?_ _)); refine av (cs := #[.int .i64 ((rd_T101 l0 a1).f0), .int .i64 ((rd_T101 l0 a1).f1), .string (⟨#[]⟩ : ByteArray), .int .i64 0, .int .i64 0]) ?_ 2 _ rfl; (with_reducible repeat (first | refine ar ?_ _ | refine aq ?_ | refine au ?_ _)); refine av (cs := #[.int .i64 ((rd_T101 l0 a1).f0), .int .i64 0, .string (⟨#[]⟩ : ByteArray), .int .i64 0, .int .i64 0]) ?_ 1 _ rfl; (with_reducible repeat (first | refine ar ?_ _ | refine aq ?_ | refine au ?_ _)); refine av (cs := #[.int .i64 0, .int .i64 0, .string (⟨#[]⟩ : ByteArray), .int .i64 0, .int .i64 0]) ?_ 0 _ rfl; (with_reducible repeat (first | refine ar ?_ _ | refine aq ?_ | refine au ?_ _)); exact a8.out⟩, ⟨y12⟩⟩
    ·rw [if_neg c8] at H
     have c8b0 : (((rd_T101 l0 a1).f0) == (-1)) = false := qF c8
     have c8b1 : (((rd_T101 l0 a1).f0) != (-1)) = true := nT c8
     (first | rw [c8b0] | (simp only [i64_w, i32_w]; rw [c8b0]) | skip)
     have H' := aM H
     clear H
     have eh : w6.cell? ⟨bh, 0, none⟩ = some (.int .i64 0) := (bC a8.out 0).trans rfl
     have eg : w6.cell? ⟨bh, 1, none⟩ = some (.int .i64 0) := (bC a8.out 1).trans rfl
     have ee : w6.cell? ⟨bh, 2, none⟩ = some (.string (⟨#[]⟩ : ByteArray)) := (bC a8.out 2).trans rfl
     have gp : w6.cell? ⟨bh, 3, none⟩ = some (.int .i64 0) := (bC a8.out 3).trans rfl
     have gn : w6.cell? ⟨bh, 4, none⟩ = some (.int .i64 0) := (bC a8.out 4).trans rfl
     have ea := bF a8.out 0
     have d8 := bF a8.out 1
     have d7 := bF a8.out 2
     have f9 := bF a8.out 3
     have f8 := bF a8.out 4
     go_wp2
     repeat (go_quiet (fail); try go_wp2)
     go_meet
     case rel => exact ⟨_, (false), z1, H', ⟨by first | omega | exact Nat.le_refl _⟩, ⟨by (with_reducible repeat (first | refine ar ?_ _ | refine aq ?_ | refine au ?_ _)); refine av (cs := #[.int .i64 ((rd_T101 l0 a1).f0), .int .i64 ((rd_T101 l0 a1).f1), .string ((rd_T101 l0 a1).f2), .int .i64 ((rd_T101 l0 a1).f3), .int .i64 0]) ?_ 4 _ rfl; (with_reducible repeat (first | refine ar ?_ _ | refine aq ?_ | refine au ?_ _)); refine av (cs := #[.int .i64 ((rd_T101 l0 a1).f0), .int .i64 ((rd_T101 l0 a1).f1), .string ((rd_T101 l0 a1).f2), .int .i64 0, .int .i64 0]) ?_ 3 _ rfl; (with_reducible repeat (first | refine ar ?_ _ | refine aq ?_ | refine au ?_ _)); refine av (cs := #[.int .i64 ((rd_T101 l0 a1).f0), .int .i64 ((rd_T101 l0 a1).f1), .string (⟨#[]⟩ : ByteArray), .int .i64 0, .int .i64 0]) ?_ 2 _ rfl; (with_reducible repeat (first | refine ar ?_ _ | refine aq ?_ | refine au ?_ _)); refine av (cs := #[.int .i64 ((rd_T101 l0 a1).f0), .int .i64 0, .string (⟨#[]⟩ : ByteArray), .int .i64 0, .int .i64 0]) ?_ 1 _ rfl; (with_reducible repeat (first | refine ar ?_ _ | refine aq ?_ | refine au ?_ _)); refine av (cs := #[.int .i64 0, .int .i64 0, .string (⟨#[]⟩ : ByteArray), .int .i64 0, .int .i64 0]) ?_ 0 _ rfl; (with_reducible repeat (first | refine ar ?_ _ | refine aq ?_ | refine au ?_ _)); exact a8.out⟩, ⟨y12⟩⟩
   case rest =>
    clear lM
    try clear p1
    try clear q1
    try clear hx1
    try clear p2
    try clear c3
    try clear c3b0
    try clear c4
    try clear c4b0
    try clear c5
    try clear c8
    try clear c8b0
    try clear c8b1
    try clear eh
    try clear eg
    try clear ee
    try clear gp
    try clear gn
    try clear ev
    try clear eu
    try clear es
    try clear e8
    try clear e7
    try clear dp
    try clear ec
    try clear eb
    try clear iK
    try clear iJ
    try clear ea
    try clear d8
    try clear d7
    try clear f9
    try clear f8
    try clear er
    try clear ep
    try clear en
    try clear eZ
    try clear eY
    try clear dn
    try clear d5
    try clear dZ
    try clear ie
    try clear ic
    try clear hx111_0
    try clear hx111_1
    try clear hx111_2
    try clear hx111_3
    try clear hx111_4
    try clear p111
    try clear q111
    obtain ⟨kq, x19_4, rfl, HA, kK, a8, HB⟩ := hcut
    cases kq with
    | zero => exact absurd HA.out (by simp [spec_l12First.j0])
    | succ kj4 =>
     have H := HA.out
     clear HA
     simp only [spec_l12First.j0] at H
     by_cases dH : x19_4 = true
     ·subst dH
      rw [if_pos rfl] at H
      replace H := oB H
      obtain ⟨mX, oo, H⟩ := H
      try dsimp only at H
      have jV := aM oo
      clear oo
      by_cases dM : mX = true
      ·subst dM
       rw [if_pos rfl] at H
       replace H := oB H
       obtain ⟨mW, jJ, H⟩ := H
       try dsimp only at H
       have gN := aM jJ
       clear jJ
       by_cases ex : mW = true
       ·subst ex
        rw [if_pos rfl] at H
        by_cases fL : ((rd_T101 l0 a1).f3) = (((rd_T101 l0 a1).f2).size : Int)
        ·rw [if_pos fL] at H
         have c16b0 : (((rd_T101 l0 a1).f3) == (((rd_T101 l0 a1).f2).size : Int)) = true := qT fL
         have c16b1 : (((rd_T101 l0 a1).f3) != (((rd_T101 l0 a1).f2).size : Int)) = false := nF fL
         clear fL
         by_cases ei : ((rd_T101 l0 a1).f4) = 0
         ·rw [if_pos ei] at H
          have c17b0 : (((rd_T101 l0 a1).f4) == 0) = true := qT ei
          have c17b1 : (((rd_T101 l0 a1).f4) != 0) = false := nF ei
          clear ei
          obtain rfl := sI H
          have kH : wc.cell? ⟨bh, 0, none⟩ = some (.int .i64 ((rd_T101 l0 a1).f0)) := (bC a8.out 0).trans rfl
          have kG : wc.cell? ⟨bh, 1, none⟩ = some (.int .i64 ((rd_T101 l0 a1).f1)) := (bC a8.out 1).trans rfl
          have kF : wc.cell? ⟨bh, 2, none⟩ = some (.string ((rd_T101 l0 a1).f2)) := (bC a8.out 2).trans rfl
          have kE : wc.cell? ⟨bh, 3, none⟩ = some (.int .i64 ((rd_T101 l0 a1).f3)) := (bC a8.out 3).trans rfl
          have kD : wc.cell? ⟨bh, 4, none⟩ = some (.int .i64 ((rd_T101 l0 a1).f4)) := (bC a8.out 4).trans rfl
          have kj := bF a8.out 0
          have ki := bF a8.out 1
          have kg := bF a8.out 2
          have kf := bF a8.out 3
          have ke := bF a8.out 4
          go_wp2_with (first | (go_at_call 49; (with_reducible refine (spec_l1In.calls (((rd_T101 l0 a1).f2).size : Int) 1 8 true _ jV.out).mono ?_); rintro e w' ⟨rfl, ⟨nd, rfl⟩⟩; (try first | exact ⟨rfl, _, World.drewN_drewN _ _ _⟩ | exact ⟨rfl, _, Eq.trans (World.drewN_drewN _ _ _) (congrArg (World.drewN _) (Nat.add_assoc _ _ _))⟩)) | (go_at_call 77; (with_reducible refine (spec_l1Text.calls kj4 ((rd_T101 l0 a1).f2) true _ gN.out).mono ?_); rintro e w' ⟨rfl, ⟨nd, rfl⟩⟩; (try first | exact ⟨rfl, _, World.drewN_drewN _ _ _⟩ | exact ⟨rfl, _, Eq.trans (World.drewN_drewN _ _ _) (congrArg (World.drewN _) (Nat.add_assoc _ _ _))⟩)))
          repeat (go_quiet (first | (go_at_call 49; (with_reducible refine (spec_l1In.calls (((rd_T101 l0 a1).f2).size : Int) 1 8 true _ jV.out).mono ?_); rintro e w' ⟨rfl, ⟨nd, rfl⟩⟩; (try first | exact ⟨rfl, _, World.drewN_drewN _ _ _⟩ | exact ⟨rfl, _, Eq.trans (World.drewN_drewN _ _ _) (congrArg (World.drewN _) (Nat.add_assoc _ _ _))⟩)) | (go_at_call 77; (with_reducible refine (spec_l1Text.calls kj4 ((rd_T101 l0 a1).f2) true _ gN.out).mono ?_); rintro e w' ⟨rfl, ⟨nd, rfl⟩⟩; (try first | exact ⟨rfl, _, World.drewN_drewN _ _ _⟩ | exact ⟨rfl, _, Eq.trans (World.drewN_drewN _ _ _) (congrArg (World.drewN _) (Nat.add_assoc _ _ _))⟩))); try go_wp2_with (first | (go_at_call 49; (with_reducible refine (spec_l1In.calls (((rd_T101 l0 a1).f2).size : Int) 1 8 true _ jV.out).mono ?_); rintro e w' ⟨rfl, ⟨nd, rfl⟩⟩; (try first | exact ⟨rfl, _, World.drewN_drewN _ _ _⟩ | exact ⟨rfl, _, Eq.trans (World.drewN_drewN _ _ _) (congrArg (World.drewN _) (Nat.add_assoc _ _ _))⟩)) | (go_at_call 77; (with_reducible refine (spec_l1Text.calls kj4 ((rd_T101 l0 a1).f2) true _ gN.out).mono ?_); rintro e w' ⟨rfl, ⟨nd, rfl⟩⟩; (try first | exact ⟨rfl, _, World.drewN_drewN _ _ _⟩ | exact ⟨rfl, _, Eq.trans (World.drewN_drewN _ _ _) (congrArg (World.drewN _) (Nat.add_assoc _ _ _))⟩))))
          go_ret
          exact ⟨y3, y12⟩
         ·rw [if_neg ei] at H
          have c17b0 : (((rd_T101 l0 a1).f4) == 0) = false := qF ei
          have c17b1 : (((rd_T101 l0 a1).f4) != 0) = true := nT ei
          obtain rfl := sI H
          have fy : wc.cell? ⟨bh, 0, none⟩ = some (.int .i64 ((rd_T101 l0 a1).f0)) := (bC a8.out 0).trans rfl
          have gm : wc.cell? ⟨bh, 1, none⟩ = some (.int .i64 ((rd_T101 l0 a1).f1)) := (bC a8.out 1).trans rfl
          have gj : wc.cell? ⟨bh, 2, none⟩ = some (.string ((rd_T101 l0 a1).f2)) := (bC a8.out 2).trans rfl
          have i6 : wc.cell? ⟨bh, 3, none⟩ = some (.int .i64 ((rd_T101 l0 a1).f3)) := (bC a8.out 3).trans rfl
          have i5 : wc.cell? ⟨bh, 4, none⟩ = some (.int .i64 ((rd_T101 l0 a1).f4)) := (bC a8.out 4).trans rfl
          have fl := bF a8.out 0
          have f7 := bF a8.out 1
          have f6 := bF a8.out 2
          have iE := bF a8.out 3
          have iD := bF a8.out 4
          go_wp2_with (first | (go_at_call 49; (with_reducible refine (spec_l1In.calls (((rd_T101 l0 a1).f2).size : Int) 1 8 true _ jV.out).mono ?_); rintro e w' ⟨rfl, ⟨nd, rfl⟩⟩; (try first | exact ⟨rfl, _, World.drewN_drewN _ _ _⟩ | exact ⟨rfl, _, Eq.trans (World.drewN_drewN _ _ _) (congrArg (World.drewN _) (Nat.add_assoc _ _ _))⟩)) | (go_at_call 77; (with_reducible refine (spec_l1Text.calls kj4 ((rd_T101 l0 a1).f2) true _ gN.out).mono ?_); rintro e w' ⟨rfl, ⟨nd, rfl⟩⟩; (try first | exact ⟨rfl, _, World.drewN_drewN _ _ _⟩ | exact ⟨rfl, _, Eq.trans (World.drewN_drewN _ _ _) (congrArg (World.drewN _) (Nat.add_assoc _ _ _))⟩)))
          repeat (go_quiet (first | (go_at_call 49; (with_reducible refine (spec_l1In.calls (((rd_T101 l0 a1).f2).size : Int) 1 8 true _ jV.out).mono ?_); rintro e w' ⟨rfl, ⟨nd, rfl⟩⟩; (try first | exact ⟨rfl, _, World.drewN_drewN _ _ _⟩ | exact ⟨rfl, _, Eq.trans (World.drewN_drewN _ _ _) (congrArg (World.drewN _) (Nat.add_assoc _ _ _))⟩)) | (go_at_call 77; (with_reducible refine (spec_l1Text.calls kj4 ((rd_T101 l0 a1).f2) true _ gN.out).mono ?_); rintro e w' ⟨rfl, ⟨nd, rfl⟩⟩; (try first | exact ⟨rfl, _, World.drewN_drewN _ _ _⟩ | exact ⟨rfl, _, Eq.trans (World.drewN_drewN _ _ _) (congrArg (World.drewN _) (Nat.add_assoc _ _ _))⟩))); try go_wp2_with (first | (go_at_call 49; (with_reducible refine (spec_l1In.calls (((rd_T101 l0 a1).f2).size : Int) 1 8 true _ jV.out).mono ?_); rintro e w' ⟨rfl, ⟨nd, rfl⟩⟩; (try first | exact ⟨rfl, _, World.drewN_drewN _ _ _⟩ | exact ⟨rfl, _, Eq.trans (World.drewN_drewN _ _ _) (congrArg (World.drewN _) (Nat.add_assoc _ _ _))⟩)) | (go_at_call 77; (with_reducible refine (spec_l1Text.calls kj4 ((rd_T101 l0 a1).f2) true _ gN.out).mono ?_); rintro e w' ⟨rfl, ⟨nd, rfl⟩⟩; (try first | exact ⟨rfl, _, World.drewN_drewN _ _ _⟩ | exact ⟨rfl, _, Eq.trans (World.drewN_drewN _ _ _) (congrArg (World.drewN _) (Nat.add_assoc _ _ _))⟩))))
          go_ret
          exact ⟨y3, y12⟩
        ·rw [if_neg fL] at H
         have c16b0 : (((rd_T101 l0 a1).f3) == (((rd_T101 l0 a1).f2).size : Int)) = false := qF fL
         have c16b1 : (((rd_T101 l0 a1).f3) != (((rd_T101 l0 a1).f2).size : Int)) = true := nT fL
         obtain rfl := sI H
         have fx : wc.cell? ⟨bh, 0, none⟩ = some (.int .i64 ((rd_T101 l0 a1).f0)) := (bC a8.out 0).trans rfl
         have fw : wc.cell? ⟨bh, 1, none⟩ = some (.int .i64 ((rd_T101 l0 a1).f1)) := (bC a8.out 1).trans rfl
         have fv : wc.cell? ⟨bh, 2, none⟩ = some (.string ((rd_T101 l0 a1).f2)) := (bC a8.out 2).trans rfl
         have kC : wc.cell? ⟨bh, 3, none⟩ = some (.int .i64 ((rd_T101 l0 a1).f3)) := (bC a8.out 3).trans rfl
         have kB : wc.cell? ⟨bh, 4, none⟩ = some (.int .i64 ((rd_T101 l0 a1).f4)) := (bC a8.out 4).trans rfl
         have fj := bF a8.out 0
         have fi := bF a8.out 1
         have fh := bF a8.out 2
         have kd := bF a8.out 3
         have kc := bF a8.out 4
         go_wp2_with (first | (go_at_call 49; (with_reducible refine (spec_l1In.calls (((rd_T101 l0 a1).f2).size : Int) 1 8 true _ jV.out).mono ?_); rintro e w' ⟨rfl, ⟨nd, rfl⟩⟩; (try first | exact ⟨rfl, _, World.drewN_drewN _ _ _⟩ | exact ⟨rfl, _, Eq.trans (World.drewN_drewN _ _ _) (congrArg (World.drewN _) (Nat.add_assoc _ _ _))⟩)) | (go_at_call 77; (with_reducible refine (spec_l1Text.calls kj4 ((rd_T101 l0 a1).f2) true _ gN.out).mono ?_); rintro e w' ⟨rfl, ⟨nd, rfl⟩⟩; (try first | exact ⟨rfl, _, World.drewN_drewN _ _ _⟩ | exact ⟨rfl, _, Eq.trans (World.drewN_drewN _ _ _) (congrArg (World.drewN _) (Nat.add_assoc _ _ _))⟩)))
         repeat (go_quiet (first | (go_at_call 49; (with_reducible refine (spec_l1In.calls (((rd_T101 l0 a1).f2).size : Int) 1 8 true _ jV.out).mono ?_); rintro e w' ⟨rfl, ⟨nd, rfl⟩⟩; (try first | exact ⟨rfl, _, World.drewN_drewN _ _ _⟩ | exact ⟨rfl, _, Eq.trans (World.drewN_drewN _ _ _) (congrArg (World.drewN _) (Nat.add_assoc _ _ _))⟩)) | (go_at_call 77; (with_reducible refine (spec_l1Text.calls kj4 ((rd_T101 l0 a1).f2) true _ gN.out).mono ?_); rintro e w' ⟨rfl, ⟨nd, rfl⟩⟩; (try first | exact ⟨rfl, _, World.drewN_drewN _ _ _⟩ | exact ⟨rfl, _, Eq.trans (World.drewN_drewN _ _ _) (congrArg (World.drewN _) (Nat.add_assoc _ _ _))⟩))); try go_wp2_with (first | (go_at_call 49; (with_reducible refine (spec_l1In.calls (((rd_T101 l0 a1).f2).size : Int) 1 8 true _ jV.out).mono ?_); rintro e w' ⟨rfl, ⟨nd, rfl⟩⟩; (try first | exact ⟨rfl, _, World.drewN_drewN _ _ _⟩ | exact ⟨rfl, _, Eq.trans (World.drewN_drewN _ _ _) (congrArg (World.drewN _) (Nat.add_assoc _ _ _))⟩)) | (go_at_call 77; (with_reducible refine (spec_l1Text.calls kj4 ((rd_T101 l0 a1).f2) true _ gN.out).mono ?_); rintro e w' ⟨rfl, ⟨nd, rfl⟩⟩; (try first | exact ⟨rfl, _, World.drewN_drewN _ _ _⟩ | exact ⟨rfl, _, Eq.trans (World.drewN_drewN _ _ _) (congrArg (World.drewN _) (Nat.add_assoc _ _ _))⟩))))
         go_ret
         exact ⟨y3, y12⟩
       ·replace ex := Bool.eq_false_iff.mpr ex
        subst ex
        rw [if_neg (show ¬ (false = true) by decide)] at H
        obtain rfl := sI H
        have i4 : wc.cell? ⟨bh, 0, none⟩ = some (.int .i64 ((rd_T101 l0 a1).f0)) := (bC a8.out 0).trans rfl
        have i3 : wc.cell? ⟨bh, 1, none⟩ = some (.int .i64 ((rd_T101 l0 a1).f1)) := (bC a8.out 1).trans rfl
        have i2 : wc.cell? ⟨bh, 2, none⟩ = some (.string ((rd_T101 l0 a1).f2)) := (bC a8.out 2).trans rfl
        have i1 : wc.cell? ⟨bh, 3, none⟩ = some (.int .i64 ((rd_T101 l0 a1).f3)) := (bC a8.out 3).trans rfl
        have iZ : wc.cell? ⟨bh, 4, none⟩ = some (.int .i64 ((rd_T101 l0 a1).f4)) := (bC a8.out 4).trans rfl
        have iC := bF a8.out 0
        have iB := bF a8.out 1
        have iA := bF a8.out 2
        have iz := bF a8.out 3
        have iy := bF a8.out 4
        go_wp2_with (first | (go_at_call 49; (with_reducible refine (spec_l1In.calls (((rd_T101 l0 a1).f2).size : Int) 1 8 true _ jV.out).mono ?_); rintro e w' ⟨rfl, ⟨nd, rfl⟩⟩; (try first | exact ⟨rfl, _, World.drewN_drewN _ _ _⟩ | exact ⟨rfl, _, Eq.trans (World.drewN_drewN _ _ _) (congrArg (World.drewN _) (Nat.add_assoc _ _ _))⟩)) | (go_at_call 77; (with_reducible refine (spec_l1Text.calls kj4 ((rd_T101 l0 a1).f2) false _ gN.out).mono ?_); rintro e w' ⟨rfl, ⟨nd, rfl⟩⟩; (try first | exact ⟨rfl, _, World.drewN_drewN _ _ _⟩ | exact ⟨rfl, _, Eq.trans (World.drewN_drewN _ _ _) (congrArg (World.drewN _) (Nat.add_assoc _ _ _))⟩)))
        repeat (go_quiet (first | (go_at_call 49; (with_reducible refine (spec_l1In.calls (((rd_T101 l0 a1).f2).size : Int) 1 8 true _ jV.out).mono ?_); rintro e w' ⟨rfl, ⟨nd, rfl⟩⟩; (try first | exact ⟨rfl, _, World.drewN_drewN _ _ _⟩ | exact ⟨rfl, _, Eq.trans (World.drewN_drewN _ _ _) (congrArg (World.drewN _) (Nat.add_assoc _ _ _))⟩)) | (go_at_call 77; (with_reducible refine (spec_l1Text.calls kj4 ((rd_T101 l0 a1).f2) false _ gN.out).mono ?_); rintro e w' ⟨rfl, ⟨nd, rfl⟩⟩; (try first | exact ⟨rfl, _, World.drewN_drewN _ _ _⟩ | exact ⟨rfl, _, Eq.trans (World.drewN_drewN _ _ _) (congrArg (World.drewN _) (Nat.add_assoc _ _ _))⟩))); try go_wp2_with (first | (go_at_call 49; (with_reducible refine (spec_l1In.calls (((rd_T101 l0 a1).f2).size : Int) 1 8 true _ jV.out).mono ?_); rintro e w' ⟨rfl, ⟨nd, rfl⟩⟩; (try first | exact ⟨rfl, _, World.drewN_drewN _ _ _⟩ | exact ⟨rfl, _, Eq.trans (World.drewN_drewN _ _ _) (congrArg (World.drewN _) (Nat.add_assoc _ _ _))⟩)) | (go_at_call 77; (with_reducible refine (spec_l1Text.calls kj4 ((rd_T101 l0 a1).f2) false _ gN.out).mono ?_); rintro e w' ⟨rfl, ⟨nd, rfl⟩⟩; (try first | exact ⟨rfl, _, World.drewN_drewN _ _ _⟩ | exact ⟨rfl, _, Eq.trans (World.drewN_drewN _ _ _) (congrArg (World.drewN _) (Nat.add_assoc _ _ _))⟩))))
        go_ret
        exact ⟨y3, y12⟩
      ·replace dM := Bool.eq_false_iff.mpr dM
       subst dM
       rw [if_neg (show ¬ (false = true) by decide)] at H
       obtain rfl := sI H
       have dy : wc.cell? ⟨bh, 0, none⟩ = some (.int .i64 ((rd_T101 l0 a1).f0)) := (bC a8.out 0).trans rfl
       have fu : wc.cell? ⟨bh, 1, none⟩ = some (.int .i64 ((rd_T101 l0 a1).f1)) := (bC a8.out 1).trans rfl
       have ft : wc.cell? ⟨bh, 2, none⟩ = some (.string ((rd_T101 l0 a1).f2)) := (bC a8.out 2).trans rfl
       have iY : wc.cell? ⟨bh, 3, none⟩ = some (.int .i64 ((rd_T101 l0 a1).f3)) := (bC a8.out 3).trans rfl
       have iX : wc.cell? ⟨bh, 4, none⟩ = some (.int .i64 ((rd_T101 l0 a1).f4)) := (bC a8.out 4).trans rfl
       have dx := bF a8.out 0
       have fg := bF a8.out 1
       have ff := bF a8.out 2
       have ix := bF a8.out 3
       have iw := bF a8.out 4
       go_wp2_with (first | (go_at_call 49; (with_reducible refine (spec_l1In.calls (((rd_T101 l0 a1).f2).size : Int) 1 8 false _ jV.out).mono ?_); rintro e w' ⟨rfl, ⟨nd, rfl⟩⟩; (try first | exact ⟨rfl, _, World.drewN_drewN _ _ _⟩ | exact ⟨rfl, _, Eq.trans (World.drewN_drewN _ _ _) (congrArg (World.drewN _) (Nat.add_assoc _ _ _))⟩)))
       repeat (go_quiet (first | (go_at_call 49; (with_reducible refine (spec_l1In.calls (((rd_T101 l0 a1).f2).size : Int) 1 8 false _ jV.out).mono ?_); rintro e w' ⟨rfl, ⟨nd, rfl⟩⟩; (try first | exact ⟨rfl, _, World.drewN_drewN _ _ _⟩ | exact ⟨rfl, _, Eq.trans (World.drewN_drewN _ _ _) (congrArg (World.drewN _) (Nat.add_assoc _ _ _))⟩))); try go_wp2_with (first | (go_at_call 49; (with_reducible refine (spec_l1In.calls (((rd_T101 l0 a1).f2).size : Int) 1 8 false _ jV.out).mono ?_); rintro e w' ⟨rfl, ⟨nd, rfl⟩⟩; (try first | exact ⟨rfl, _, World.drewN_drewN _ _ _⟩ | exact ⟨rfl, _, Eq.trans (World.drewN_drewN _ _ _) (congrArg (World.drewN _) (Nat.add_assoc _ _ _))⟩))))
       go_ret
       exact ⟨y3, y12⟩
     ·replace dH := Bool.eq_false_iff.mpr dH
      subst dH
      rw [if_neg (show ¬ (false = true) by decide)] at H
      have nm := aM H
      clear H
      go_upto_region 6 with (fail)
      repeat (go_quiet (fail); go_upto_region 6 with (fail))
      go_cut [58] (fun v58 wc => ∃ (kq : Nat) (x58_22 : Bool), v58 = .bool x58_22 ∧ Aside0 (spec_l12First.j1 kq l0 a1 x58_22 ((rd_T101 l0 a1).f0) ((rd_T101 l0 a1).f1) ((rd_T101 l0 a1).f2) ((rd_T101 l0 a1).f3) ((rd_T101 l0 a1).f4) = some r) ∧ Aside0 (kq ≤ kj4) ∧ Aside0 (wc.heap[bh]? = some (.cells #[.int .i64 ((rd_T101 l0 a1).f0), .int .i64 ((rd_T101 l0 a1).f1), .string ((rd_T101 l0 a1).f2), .int .i64 ((rd_T101 l0 a1).f3), .int .i64 ((rd_T101 l0 a1).f4)] 101 (0, 0))) ∧ Aside0 (Below w.heap.size w wc))
      case first =>
       have H := nm.out
       clear nm
       by_cases jR : ((rd_T101 l0 a1).f2).toList = ([] : List UInt8)
       ·rw [if_pos jR] at H
        have c24b0 : (((rd_T101 l0 a1).f2).toList == ([] : List UInt8)) = true := qT jR
        have c24b1 : (((rd_T101 l0 a1).f2).toList != ([] : List UInt8)) = false := nF jR
        clear jR
        (first | rw [c24b0] | (simp only [i64_w, i32_w]; rw [c24b0]) | skip)
        by_cases jQ : ((rd_T101 l0 a1).f1) = (wrap64 (a1 - 1))
        ·rw [if_pos jQ] at H
         have c25b0 : (((rd_T101 l0 a1).f1) == (wrap64 (a1 - 1))) = true := qT jQ
         have c25b1 : (((rd_T101 l0 a1).f1) != (wrap64 (a1 - 1))) = false := nF jQ
         clear jQ
         have H' := aM H
         clear H
         have gi : wc.cell? ⟨bh, 0, none⟩ = some (.int .i64 ((rd_T101 l0 a1).f0)) := (bC a8.out 0).trans rfl
         have gh : wc.cell? ⟨bh, 1, none⟩ = some (.int .i64 ((rd_T101 l0 a1).f1)) := (bC a8.out 1).trans rfl
         have gc : wc.cell? ⟨bh, 2, none⟩ = some (.string ((rd_T101 l0 a1).f2)) := (bC a8.out 2).trans rfl
         have iW : wc.cell? ⟨bh, 3, none⟩ = some (.int .i64 ((rd_T101 l0 a1).f3)) := (bC a8.out 3).trans rfl
         have iV : wc.cell? ⟨bh, 4, none⟩ = some (.int .i64 ((rd_T101 l0 a1).f4)) := (bC a8.out 4).trans rfl
         have f5 := bF a8.out 0
         have fZ := bF a8.out 1
         have fY := bF a8.out 2
         have iv := bF a8.out 3
         have iu := bF a8.out 4
         go_wp2
         all_goals (try (exfalso; rename_i h_; rw [c24b0] at h_; cases h_; done))
         repeat (go_quiet (fail); try go_wp2)
         all_goals (try (exfalso; rename_i h_; rw [c24b0] at h_; cases h_; done))
         go_meet
         case rel => exact ⟨_, (decide (a1 < 2)), z1, H', ⟨by have := kK.out; first | omega | exact Nat.le_refl _⟩, ⟨y10⟩, ⟨y12⟩⟩
        ·rw [if_neg jQ] at H
         have c25b0 : (((rd_T101 l0 a1).f1) == (wrap64 (a1 - 1))) = false := qF jQ
         have c25b1 : (((rd_T101 l0 a1).f1) != (wrap64 (a1 - 1))) = true := nT jQ
         have H' := aM H
         clear H
         have eM : wc.cell? ⟨bh, 0, none⟩ = some (.int .i64 ((rd_T101 l0 a1).f0)) := (bC a8.out 0).trans rfl
         have eK : wc.cell? ⟨bh, 1, none⟩ = some (.int .i64 ((rd_T101 l0 a1).f1)) := (bC a8.out 1).trans rfl
         have eI : wc.cell? ⟨bh, 2, none⟩ = some (.string ((rd_T101 l0 a1).f2)) := (bC a8.out 2).trans rfl
         have iU : wc.cell? ⟨bh, 3, none⟩ = some (.int .i64 ((rd_T101 l0 a1).f3)) := (bC a8.out 3).trans rfl
         have iT : wc.cell? ⟨bh, 4, none⟩ = some (.int .i64 ((rd_T101 l0 a1).f4)) := (bC a8.out 4).trans rfl
         have eG := bF a8.out 0
         have eF := bF a8.out 1
         have eE := bF a8.out 2
         have ir := bF a8.out 3
         have iq := bF a8.out 4
         go_wp2
         all_goals (try (exfalso; rename_i h_; rw [c24b0] at h_; cases h_; done))
         repeat (go_quiet (fail); try go_wp2)
         all_goals (try (exfalso; rename_i h_; rw [c24b0] at h_; cases h_; done))
         go_meet
         case rel => exact ⟨_, (true), z1, H', ⟨by have := kK.out; first | omega | exact Nat.le_refl _⟩, ⟨y10⟩, ⟨y12⟩⟩
       ·rw [if_neg jR] at H
        have c24b0 : (((rd_T101 l0 a1).f2).toList == ([] : List UInt8)) = false := qF jR
        have c24b1 : (((rd_T101 l0 a1).f2).toList != ([] : List UInt8)) = true := nT jR
        (first | rw [c24b0] | (simp only [i64_w, i32_w]; rw [c24b0]) | skip)
        have H' := aM H
        clear H
        have kx : wc.cell? ⟨bh, 0, none⟩ = some (.int .i64 ((rd_T101 l0 a1).f0)) := (bC a8.out 0).trans rfl
        have kw : wc.cell? ⟨bh, 1, none⟩ = some (.int .i64 ((rd_T101 l0 a1).f1)) := (bC a8.out 1).trans rfl
        have kv : wc.cell? ⟨bh, 2, none⟩ = some (.string ((rd_T101 l0 a1).f2)) := (bC a8.out 2).trans rfl
        have ku : wc.cell? ⟨bh, 3, none⟩ = some (.int .i64 ((rd_T101 l0 a1).f3)) := (bC a8.out 3).trans rfl
        have kt : wc.cell? ⟨bh, 4, none⟩ = some (.int .i64 ((rd_T101 l0 a1).f4)) := (bC a8.out 4).trans rfl
        have j8 := bF a8.out 0
        have j7 := bF a8.out 1
        have j6 := bF a8.out 2
        have j5 := bF a8.out 3
        have j4 := bF a8.out 4
        go_wp2
        all_goals (try (exfalso; rename_i h_; rw [c24b0] at h_; cases h_; done))
        repeat (go_quiet (fail); try go_wp2)
        all_goals (try (exfalso; rename_i h_; rw [c24b0] at h_; cases h_; done))
        go_meet
        case rel => exact ⟨_, (true), z1, H', ⟨by have := kK.out; first | omega | exact Nat.le_refl _⟩, ⟨y10⟩, ⟨y12⟩⟩
      case rest =>
       clear nm
       try clear c1
       try clear p1
       try clear q1
       try clear hx1
       try clear c2
       try clear p2
       try clear c3
       try clear c3b0
       try clear c4
       try clear c4b0
       try clear c5
       try clear p6
       try clear c8
       try clear c8b0
       try clear c8b1
       try clear dH
       try clear p11
       try clear q11
       try clear hx11
       try clear dM
       try clear ex
       try clear fL
       try clear c16b0
       try clear c16b1
       try clear ei
       try clear c17b0
       try clear c17b1
       try clear jR
       try clear c24b0
       try clear c24b1
       try clear jQ
       try clear c25b0
       try clear c25b1
       try clear eh
       try clear eg
       try clear ee
       try clear gp
       try clear gn
       try clear kH
       try clear kG
       try clear kF
       try clear kE
       try clear kD
       try clear fy
       try clear gm
       try clear gj
       try clear i6
       try clear i5
       try clear fx
       try clear fw
       try clear fv
       try clear kC
       try clear kB
       try clear i4
       try clear i3
       try clear i2
       try clear i1
       try clear iZ
       try clear dy
       try clear fu
       try clear ft
       try clear iY
       try clear iX
       try clear gi
       try clear gh
       try clear gc
       try clear iW
       try clear iV
       try clear eM
       try clear eK
       try clear eI
       try clear iU
       try clear iT
       try clear kx
       try clear kw
       try clear kv
       try clear ku
       try clear kt
       try clear ev
       try clear eu
       try clear es
       try clear e8
       try clear e7
       try clear dp
       try clear ec
       try clear eb
       try clear iK
       try clear iJ
       try clear ea
       try clear d8
       try clear d7
       try clear f9
       try clear f8
       try clear kj
       try clear ki
       try clear kg
       try clear kf
       try clear ke
       try clear fl
       try clear f7
       try clear f6
       try clear iE
       try clear iD
       try clear fj
       try clear fi
       try clear fh
       try clear kd
       try clear kc
       try clear iC
       try clear iB
       try clear iA
       try clear iz
       try clear iy
       try clear dx
       try clear fg
       try clear ff
       try clear ix
       try clear iw
       try clear f5
       try clear fZ
       try clear fY
       try clear iv
       try clear iu
       try clear eG
       try clear eF
       try clear eE
       try clear ir
       try clear iq
       try clear j8
       try clear j7
       try clear j6
       try clear j5
       try clear j4
       try clear er
       try clear ep
       try clear en
       try clear eZ
       try clear eY
       try clear dn
       try clear d5
       try clear dZ
       try clear ie
       try clear ic
       try clear hx111_0
       try clear hx111_1
       try clear hx111_2
       try clear hx111_3
       try clear hx111_4
       try clear p1
       try clear p111
       try clear p2
       try clear q1
       try clear q111
       obtain ⟨kq, x58_22, rfl, HA, gG, a8, HB⟩ := hcut
       cases kq with
       | zero => exact absurd HA.out (by simp [spec_l12First.j1])
       | succ kj22 =>
        have H := HA.out
        clear HA
        simp only [spec_l12First.j1] at H
        by_cases lD : x58_22 = true
        ·subst lD
         rw [if_pos rfl] at H
         obtain rfl := sI H
         go_wp2
         repeat (go_quiet (fail); try go_wp2)
         go_ret
         exact ⟨y3, y12⟩
        ·replace lD := Bool.eq_false_iff.mpr lD
         subst lD
         rw [if_neg (show ¬ (false = true) by decide)] at H
         replace H := oB H
         obtain ⟨gQ, od, H⟩ := H
         try dsimp only at H
         have fT := aM od
         clear od
         have nk := aM H
         clear H
         go_upto_region 9 with (first | (go_at_call 59; (with_reducible refine (ih kj22 (by have := kK.out; have := gG.out; omega) _ _ l0 (wrap64 (a1 - 1)) gQ _ ?side1 ?side2 fT.out).mono ?_); (case side1 => repeat (first | exact (aD bY.out HB.out) | (with_reducible refine aE ?_ _) | (with_reducible refine aG ?_ _) | (with_reducible refine aH ?_))); (case side2 => exact cQ.out); rintro e w32 ⟨rfl, hb⟩; have a6 := aM (af (g := bh) (o := .cells #[.int .i64 ((rd_T101 l0 a1).f0), .int .i64 ((rd_T101 l0 a1).f1), .string ((rd_T101 l0 a1).f2), .int .i64 ((rd_T101 l0 a1).f3), .int .i64 ((rd_T101 l0 a1).f4)] 101 (0, 0)) (by (with_reducible repeat (first | refine ar ?_ _ | refine aq ?_ | refine au ?_ _)); exact a8.out) hb); have ba := aM (ay (by repeat (first | (with_reducible first | exact HB.out | apply bA | apply pD | apply bD | refine ax ?_ eA.out) | exact HB.out)) hb); clear a8; clear HB; have a8 := a6; have HB := ba; clear a6 ba; (try clear hb); (try clear hb2); (try clear hk); (try clear hi)))
         repeat (go_quiet (first | (go_at_call 59; (with_reducible refine (ih kj22 (by have := kK.out; have := gG.out; omega) _ _ l0 (wrap64 (a1 - 1)) gQ _ ?side1 ?side2 fT.out).mono ?_); (case side1 => repeat (first | exact (aD bY.out HB.out) | (with_reducible refine aE ?_ _) | (with_reducible refine aG ?_ _) | (with_reducible refine aH ?_))); (case side2 => exact cQ.out); rintro e w32 ⟨rfl, hb⟩; have a6 := aM (af (g := bh) (o := .cells #[.int .i64 ((rd_T101 l0 a1).f0), .int .i64 ((rd_T101 l0 a1).f1), .string ((rd_T101 l0 a1).f2), .int .i64 ((rd_T101 l0 a1).f3), .int .i64 ((rd_T101 l0 a1).f4)] 101 (0, 0)) (by (with_reducible repeat (first | refine ar ?_ _ | refine aq ?_ | refine au ?_ _)); exact a8.out) hb); have ba := aM (ay (by repeat (first | (with_reducible first | exact HB.out | apply bA | apply pD | apply bD | refine ax ?_ eA.out) | exact HB.out)) hb); clear a8; clear HB; have a8 := a6; have HB := ba; clear a6 ba; (try clear hb); (try clear hb2); (try clear hk); (try clear hi))); go_upto_region 9 with (first | (go_at_call 59; (with_reducible refine (ih kj22 (by have := kK.out; have := gG.out; omega) _ _ l0 (wrap64 (a1 - 1)) gQ _ ?side1 ?side2 fT.out).mono ?_); (case side1 => repeat (first | exact (aD bY.out HB.out) | (with_reducible refine aE ?_ _) | (with_reducible refine aG ?_ _) | (with_reducible refine aH ?_))); (case side2 => exact cQ.out); rintro e w32 ⟨rfl, hb⟩; have a6 := aM (af (g := bh) (o := .cells #[.int .i64 ((rd_T101 l0 a1).f0), .int .i64 ((rd_T101 l0 a1).f1), .string ((rd_T101 l0 a1).f2), .int .i64 ((rd_T101 l0 a1).f3), .int .i64 ((rd_T101 l0 a1).f4)] 101 (0, 0)) (by (with_reducible repeat (first | refine ar ?_ _ | refine aq ?_ | refine au ?_ _)); exact a8.out) hb); have ba := aM (ay (by repeat (first | (with_reducible first | exact HB.out | apply bA | apply pD | apply bD | refine ax ?_ eA.out) | exact HB.out)) hb); clear a8; clear HB; have a8 := a6; have HB := ba; clear a6 ba; (try clear hb); (try clear hb2); (try clear hk); (try clear hi))))
         (try simp only [Act.put, sA, sB, sC])
         go_cut [71] (fun v71 wc => ∃ (kq : Nat) (x71_30 : Bool), v71 = .bool x71_30 ∧ Aside0 (spec_l12First.j2 kq l0 x71_30 ((rd_T101 l0 a1).f0) ((rd_T101 l0 a1).f1) ((rd_T101 l0 a1).f2) ((rd_T101 l0 a1).f3) ((rd_T101 l0 a1).f4) = some r) ∧ Aside0 (kq ≤ kj22) ∧ Aside0 (wc.heap[bh]? = some (.cells #[.int .i64 ((rd_T101 l0 a1).f0), .int .i64 ((rd_T101 l0 a1).f1), .string ((rd_T101 l0 a1).f2), .int .i64 ((rd_T101 l0 a1).f3), .int .i64 ((rd_T101 l0 a1).f4)] 101 (0, 0))) ∧ Aside0 (Below w.heap.size w wc))
         case first =>
          have H := nk.out
          clear nk
          by_cases l8 : gQ < 1
          ·rw [if_pos l8] at H
           have c33b0 : decide (gQ < 1) = true := dT l8
           clear l8
           (first | rw [c33b0] | (simp only [i64_w, i32_w]; rw [c33b0]) | skip)
           have H' := aM H
           clear H
           go_wp2
           repeat (go_quiet (fail); try go_wp2)
           go_meet
           case rel => exact ⟨_, (true), z1, H', ⟨by have := kK.out; have := gG.out; first | omega | exact Nat.le_refl _⟩, ⟨y10⟩, ⟨y12⟩⟩
          ·rw [if_neg l8] at H
           have c33b0 : decide (gQ < 1) = false := dF l8
           clear l8
           (first | rw [c33b0] | (simp only [i64_w, i32_w]; rw [c33b0]) | skip)
           have H' := aM H
           clear H
           have fp : w32.cell? ⟨bh, 0, none⟩ = some (.int .i64 ((rd_T101 l0 a1).f0)) := (bC a8.out 0).trans rfl
           have hcz34_1 : w32.cell? ⟨bh, 1, none⟩ = some (.int .i64 ((rd_T101 l0 a1).f1)) := (bC a8.out 1).trans rfl
           have hcz34_2 : w32.cell? ⟨bh, 2, none⟩ = some (.string ((rd_T101 l0 a1).f2)) := (bC a8.out 2).trans rfl
           have hcz34_3 : w32.cell? ⟨bh, 3, none⟩ = some (.int .i64 ((rd_T101 l0 a1).f3)) := (bC a8.out 3).trans rfl
           have hcz34_4 : w32.cell? ⟨bh, 4, none⟩ = some (.int .i64 ((rd_T101 l0 a1).f4)) := (bC a8.out 4).trans rfl
           have fd := bF a8.out 0
           have hfz34_1 := bF a8.out 1
           have hfz34_2 := bF a8.out 2
           have hfz34_3 := bF a8.out 3
           have hfz34_4 := bF a8.out 4
           go_wp2
           repeat (go_quiet (fail); try go_wp2)
           go_meet
           case rel => exact ⟨_, ((((rd_T101 l0 a1).f0) != (wrap64 (gQ - 1)))), z1, H', ⟨by have := kK.out; have := gG.out; first | omega | exact Nat.le_refl _⟩, ⟨y10⟩, ⟨y12⟩⟩
         case rest =>
          clear nk
          try clear c1
          try clear p1
          try clear q1
          try clear hx1
          try clear c2
          try clear p2
          try clear c3
          try clear c3b0
          try clear c4
          try clear c4b0
          try clear c5
          try clear p6
          try clear c8
          try clear c8b0
          try clear c8b1
          try clear dH
          try clear p11
          try clear q11
          try clear hx11
          try clear dM
          try clear ex
          try clear fL
          try clear c16b0
          try clear c16b1
          try clear ei
          try clear c17b0
          try clear c17b1
          try clear jR
          try clear c24b0
          try clear c24b1
          try clear jQ
          try clear c25b0
          try clear c25b1
          try clear lD
          try clear l8
          try clear c33b0
          try clear eh
          try clear eg
          try clear ee
          try clear gp
          try clear gn
          try clear kH
          try clear kG
          try clear kF
          try clear kE
          try clear kD
          try clear fy
          try clear gm
          try clear gj
          try clear i6
          try clear i5
          try clear fx
          try clear fw
          try clear fv
          try clear kC
          try clear kB
          try clear i4
          try clear i3
          try clear i2
          try clear i1
          try clear iZ
          try clear dy
          try clear fu
          try clear ft
          try clear iY
          try clear iX
          try clear gi
          try clear gh
          try clear gc
          try clear iW
          try clear iV
          try clear eM
          try clear eK
          try clear eI
          try clear iU
          try clear iT
          try clear kx
          try clear kw
          try clear kv
          try clear ku
          try clear kt
          try clear fp
          try clear hcz34_1
          try clear hcz34_2
          try clear hcz34_3
          try clear hcz34_4
          try clear ev
          try clear eu
          try clear es
          try clear e8
          try clear e7
          try clear dp
          try clear ec
          try clear eb
          try clear iK
          try clear iJ
          try clear ea
          try clear d8
          try clear d7
          try clear f9
          try clear f8
          try clear kj
          try clear ki
          try clear kg
          try clear kf
          try clear ke
          try clear fl
          try clear f7
          try clear f6
          try clear iE
          try clear iD
          try clear fj
          try clear fi
          try clear fh
          try clear kd
          try clear kc
          try clear iC
          try clear iB
          try clear iA
          try clear iz
          try clear iy
          try clear dx
          try clear fg
          try clear ff
          try clear ix
          try clear iw
          try clear f5
          try clear fZ
          try clear fY
          try clear iv
          try clear iu
          try clear eG
          try clear eF
          try clear eE
          try clear ir
          try clear iq
          try clear j8
          try clear j7
          try clear j6
          try clear j5
          try clear j4
          try clear fd
          try clear hfz34_1
          try clear hfz34_2
          try clear hfz34_3
          try clear hfz34_4
          try clear er
          try clear ep
          try clear en
          try clear eZ
          try clear eY
          try clear dn
          try clear d5
          try clear dZ
          try clear ie
          try clear ic
          try clear hx111_0
          try clear hx111_1
          try clear hx111_2
          try clear hx111_3
          try clear hx111_4
          try clear p1
          try clear p11
          try clear p111
          try clear p2
          try clear p6
          try clear q1
          try clear q11
          try clear q111
          obtain ⟨kq, x71_30, rfl, HA, k0, a8, HB⟩ := hcut
          cases kq with
          | zero => exact absurd HA.out (by simp [spec_l12First.j2])
          | succ kj30 =>
           have H := HA.out
           clear HA
           simp only [spec_l12First.j2] at H
           by_cases ow : x71_30 = true
           ·subst ow
            rw [if_pos rfl] at H
            obtain rfl := sI H
            go_wp2
            repeat (go_quiet (fail); try go_wp2)
            go_ret
            exact ⟨y3, y12⟩
           ·replace ow := Bool.eq_false_iff.mpr ow
            subst ow
            rw [if_neg (show ¬ (false = true) by decide)] at H
            by_cases ov : 0 ≤ ((rd_T101 l0 a1).f0)
            ·rw [if_pos ov] at H
             have c36b0 : decide (0 ≤ ((rd_T101 l0 a1).f0)) = true := dT ov
             clear ov
             by_cases ou : ((rd_T101 l0 a1).f0) < (l0.length : Int)
             ·rw [if_pos ou] at H
              have c37b0 : decide (((rd_T101 l0 a1).f0) < (l0.length : Int)) = true := dT ou
              clear ou
              by_cases ot : 0 ≤ ((rd_T101 l0 a1).f1)
              ·rw [if_pos ot] at H
               have c38b0 : decide (0 ≤ ((rd_T101 l0 a1).f1)) = true := dT ot
               clear ot
               by_cases nb : ((rd_T101 l0 a1).f1) < (l0.length : Int)
               ·rw [if_pos nb] at H
                have c39b0 : decide (((rd_T101 l0 a1).f1) < (l0.length : Int)) = true := dT nb
                clear nb
                by_cases me : ((rd_T101 l0 ((rd_T101 l0 a1).f1)).f4) > ((rd_T101 l0 ((rd_T101 l0 a1).f0)).f4)
                ·rw [if_pos me] at H
                 have c40b0 : decide (((rd_T101 l0 ((rd_T101 l0 a1).f0)).f4) < ((rd_T101 l0 ((rd_T101 l0 a1).f1)).f4)) = true := dT me
                 clear me
                 by_cases na : ((rd_T101 l0 a1).f3) = (wrap64 (((rd_T101 l0 ((rd_T101 l0 a1).f0)).f3) + ((rd_T101 l0 ((rd_T101 l0 a1).f1)).f3)))
                 ·rw [if_pos na] at H
                  have c41b0 : (((rd_T101 l0 a1).f3) == (wrap64 (((rd_T101 l0 ((rd_T101 l0 a1).f0)).f3) + ((rd_T101 l0 ((rd_T101 l0 a1).f1)).f3)))) = true := qT na
                  have c41b1 : (((rd_T101 l0 a1).f3) != (wrap64 (((rd_T101 l0 ((rd_T101 l0 a1).f0)).f3) + ((rd_T101 l0 ((rd_T101 l0 a1).f1)).f3)))) = false := nF na
                  clear na
                  by_cases m9 : ((rd_T101 l0 a1).f4) = (wrap64 (((rd_T101 l0 ((rd_T101 l0 a1).f1)).f4) + 1))
                  ·rw [if_pos m9] at H
                   have c42b0 : (((rd_T101 l0 a1).f4) == (wrap64 (((rd_T101 l0 ((rd_T101 l0 a1).f1)).f4) + 1))) = true := qT m9
                   have c42b1 : (((rd_T101 l0 a1).f4) != (wrap64 (((rd_T101 l0 ((rd_T101 l0 a1).f1)).f4) + 1))) = false := nF m9
                   clear m9
                   replace H := oB H
                   obtain ⟨lr, oc, H⟩ := H
                   try dsimp only at H
                   have oG := aM oc
                   clear oc
                   obtain rfl := sI H
                   have hcz44_0 : wc.cell? ⟨bh, 0, none⟩ = some (.int .i64 ((rd_T101 l0 a1).f0)) := (bC a8.out 0).trans rfl
                   have hcz44_1 : wc.cell? ⟨bh, 1, none⟩ = some (.int .i64 ((rd_T101 l0 a1).f1)) := (bC a8.out 1).trans rfl
                   have hcz44_2 : wc.cell? ⟨bh, 2, none⟩ = some (.string ((rd_T101 l0 a1).f2)) := (bC a8.out 2).trans rfl
                   have hcz44_3 : wc.cell? ⟨bh, 3, none⟩ = some (.int .i64 ((rd_T101 l0 a1).f3)) := (bC a8.out 3).trans rfl
                   have hcz44_4 : wc.cell? ⟨bh, 4, none⟩ = some (.int .i64 ((rd_T101 l0 a1).f4)) := (bC a8.out 4).trans rfl
                   have hfz44_0 := bF a8.out 0
                   have hfz44_1 := bF a8.out 1
                   have hfz44_2 := bF a8.out 2
                   have hfz44_3 := bF a8.out 3
                   have hfz44_4 := bF a8.out 4
                   have p116 : 0 ≤ (((rd_T101 l0 a1).f0) : Int) := oD z2
                   have q116 : ((rd_T101 l0 a1).f0) < (l0.length : Int) := oD z2
                   obtain ⟨ad116, e116, hx116_0, hx116_1, hx116_2, hx116_3, hx116_4⟩ := at_T101 bY.out ((rd_T101 l0 a1).f0) p116 q116
                   obtain rfl : ad111 = ad116 := (by injection e116)
                   replace hx116_0 := (HB.out.cell (World.block_lt_of_cell? w _ hx116_0)).trans hx116_0
                   replace hx116_1 := (HB.out.cell (World.block_lt_of_cell? w _ hx116_1)).trans hx116_1
                   replace hx116_2 := (HB.out.cell (World.block_lt_of_cell? w _ hx116_2)).trans hx116_2
                   replace hx116_3 := (HB.out.cell (World.block_lt_of_cell? w _ hx116_3)).trans hx116_3
                   replace hx116_4 := (HB.out.cell (World.block_lt_of_cell? w _ hx116_4)).trans hx116_4
                   replace p116 := eq_true p116
                   replace q116 := eq_true q116
                   have p117 : 0 ≤ (((rd_T101 l0 a1).f1) : Int) := oD z2
                   have q117 : ((rd_T101 l0 a1).f1) < (l0.length : Int) := oD z2
                   obtain ⟨ad117, e117, hx117_0, hx117_1, hx117_2, hx117_3, hx117_4⟩ := at_T101 bY.out ((rd_T101 l0 a1).f1) p117 q117
                   obtain rfl : ad111 = ad117 := (by injection e117)
                   replace hx117_0 := (HB.out.cell (World.block_lt_of_cell? w _ hx117_0)).trans hx117_0
                   replace hx117_1 := (HB.out.cell (World.block_lt_of_cell? w _ hx117_1)).trans hx117_1
                   replace hx117_2 := (HB.out.cell (World.block_lt_of_cell? w _ hx117_2)).trans hx117_2
                   replace hx117_3 := (HB.out.cell (World.block_lt_of_cell? w _ hx117_3)).trans hx117_3
                   replace hx117_4 := (HB.out.cell (World.block_lt_of_cell? w _ hx117_4)).trans hx117_4
                   replace p117 := eq_true p117
                   replace q117 := eq_true q117
                   have p118 : 0 ≤ (((rd_T101 l0 a1).f1) : Int) := oD z2
                   have q118 : ((rd_T101 l0 a1).f1) < (l0.length : Int) := oD z2
                   obtain ⟨ad118, e118, hx118_0, hx118_1, hx118_2, hx118_3, hx118_4⟩ := at_T101 bY.out ((rd_T101 l0 a1).f1) p118 q118
                   obtain rfl : ad111 = ad118 := (by injection e118)
                   replace hx118_0 := (HB.out.cell (World.block_lt_of_cell? w _ hx118_0)).trans hx118_0
                   replace hx118_1 := (HB.out.cell (World.block_lt_of_cell? w _ hx118_1)).trans hx118_1
                   replace hx118_2 := (HB.out.cell (World.block_lt_of_cell? w _ hx118_2)).trans hx118_2
                   replace hx118_3 := (HB.out.cell (World.block_lt_of_cell? w _ hx118_3)).trans hx118_3
                   replace hx118_4 := (HB.out.cell (World.block_lt_of_cell? w _ hx118_4)).trans hx118_4
                   replace p118 := eq_true p118
                   replace q118 := eq_true q118
                   have p119 : 0 ≤ (((rd_T101 l0 a1).f0) : Int) := oD z2
                   have q119 : ((rd_T101 l0 a1).f0) < (l0.length : Int) := oD z2
                   obtain ⟨ad119, e119, hx119_0, hx119_1, hx119_2, hx119_3, hx119_4⟩ := at_T101 bY.out ((rd_T101 l0 a1).f0) p119 q119
                   obtain rfl : ad111 = ad119 := (by injection e119)
                   replace hx119_0 := (HB.out.cell (World.block_lt_of_cell? w _ hx119_0)).trans hx119_0
                   replace hx119_1 := (HB.out.cell (World.block_lt_of_cell? w _ hx119_1)).trans hx119_1
                   replace hx119_2 := (HB.out.cell (World.block_lt_of_cell? w _ hx119_2)).trans hx119_2
                   replace hx119_3 := (HB.out.cell (World.block_lt_of_cell? w _ hx119_3)).trans hx119_3
                   replace hx119_4 := (HB.out.cell (World.block_lt_of_cell? w _ hx119_4)).trans hx119_4
                   replace p119 := eq_true p119
                   replace q119 := eq_true q119
                   have p120 : 0 ≤ (((rd_T101 l0 a1).f1) : Int) := oD z2
                   have q120 : ((rd_T101 l0 a1).f1) < (l0.length : Int) := oD z2
                   obtain ⟨ad120, e120, hx120_0, hx120_1, hx120_2, hx120_3, hx120_4⟩ := at_T101 bY.out ((rd_T101 l0 a1).f1) p120 q120
                   obtain rfl : ad111 = ad120 := (by injection e120)
                   replace hx120_0 := (HB.out.cell (World.block_lt_of_cell? w _ hx120_0)).trans hx120_0
                   replace hx120_1 := (HB.out.cell (World.block_lt_of_cell? w _ hx120_1)).trans hx120_1
                   replace hx120_2 := (HB.out.cell (World.block_lt_of_cell? w _ hx120_2)).trans hx120_2
                   replace hx120_3 := (HB.out.cell (World.block_lt_of_cell? w _ hx120_3)).trans hx120_3
                   replace hx120_4 := (HB.out.cell (World.block_lt_of_cell? w _ hx120_4)).trans hx120_4
                   replace p120 := eq_true p120
                   replace q120 := eq_true q120
                   go_wp2_with (first | (go_at_call 59; (with_reducible refine (ih kj30 (by have := kK.out; have := gG.out; have := k0.out; omega) _ _ l0 ((rd_T101 l0 a1).f0) lr _ ?side1 ?side2 oG.out).mono ?_); (case side1 => repeat (first | exact (aD bY.out HB.out) | (with_reducible refine aE ?_ _) | (with_reducible refine aG ?_ _) | (with_reducible refine aH ?_))); (case side2 => exact cQ.out); rintro e w45 ⟨rfl, hb⟩; have a6 := aM (af (g := bh) (o := .cells #[.int .i64 ((rd_T101 l0 a1).f0), .int .i64 ((rd_T101 l0 a1).f1), .string ((rd_T101 l0 a1).f2), .int .i64 ((rd_T101 l0 a1).f3), .int .i64 ((rd_T101 l0 a1).f4)] 101 (0, 0)) (by (with_reducible repeat (first | refine ar ?_ _ | refine aq ?_ | refine au ?_ _)); exact a8.out) hb); have ba := aM (ay (by repeat (first | (with_reducible first | exact HB.out | apply bA | apply pD | apply bD | refine ax ?_ eA.out) | exact HB.out)) hb); clear a8; clear HB; have a8 := a6; have HB := ba; clear a6 ba; (try clear hb); (try clear hb2); (try clear hk); (try clear hi)))
                   repeat (go_quiet (first | (go_at_call 59; (with_reducible refine (ih kj30 (by have := kK.out; have := gG.out; have := k0.out; omega) _ _ l0 ((rd_T101 l0 a1).f0) lr _ ?side1 ?side2 oG.out).mono ?_); (case side1 => repeat (first | exact (aD bY.out HB.out) | (with_reducible refine aE ?_ _) | (with_reducible refine aG ?_ _) | (with_reducible refine aH ?_))); (case side2 => exact cQ.out); rintro e w45 ⟨rfl, hb⟩; have a6 := aM (af (g := bh) (o := .cells #[.int .i64 ((rd_T101 l0 a1).f0), .int .i64 ((rd_T101 l0 a1).f1), .string ((rd_T101 l0 a1).f2), .int .i64 ((rd_T101 l0 a1).f3), .int .i64 ((rd_T101 l0 a1).f4)] 101 (0, 0)) (by (with_reducible repeat (first | refine ar ?_ _ | refine aq ?_ | refine au ?_ _)); exact a8.out) hb); have ba := aM (ay (by repeat (first | (with_reducible first | exact HB.out | apply bA | apply pD | apply bD | refine ax ?_ eA.out) | exact HB.out)) hb); clear a8; clear HB; have a8 := a6; have HB := ba; clear a6 ba; (try clear hb); (try clear hb2); (try clear hk); (try clear hi))); try go_wp2_with (first | (go_at_call 59; (with_reducible refine (ih kj30 (by have := kK.out; have := gG.out; have := k0.out; omega) _ _ l0 ((rd_T101 l0 a1).f0) lr _ ?side1 ?side2 oG.out).mono ?_); (case side1 => repeat (first | exact (aD bY.out HB.out) | (with_reducible refine aE ?_ _) | (with_reducible refine aG ?_ _) | (with_reducible refine aH ?_))); (case side2 => exact cQ.out); rintro e w45 ⟨rfl, hb⟩; have a6 := aM (af (g := bh) (o := .cells #[.int .i64 ((rd_T101 l0 a1).f0), .int .i64 ((rd_T101 l0 a1).f1), .string ((rd_T101 l0 a1).f2), .int .i64 ((rd_T101 l0 a1).f3), .int .i64 ((rd_T101 l0 a1).f4)] 101 (0, 0)) (by (with_reducible repeat (first | refine ar ?_ _ | refine aq ?_ | refine au ?_ _)); exact a8.out) hb); have ba := aM (ay (by repeat (first | (with_reducible first | exact HB.out | apply bA | apply pD | apply bD | refine ax ?_ eA.out) | exact HB.out)) hb); clear a8; clear HB; have a8 := a6; have HB := ba; clear a6 ba; (try clear hb); (try clear hb2); (try clear hk); (try clear hi))))
                   go_ret
                   exact ⟨y3, y12⟩
                  ·rw [if_neg m9] at H
                   have c42b0 : (((rd_T101 l0 a1).f4) == (wrap64 (((rd_T101 l0 ((rd_T101 l0 a1).f1)).f4) + 1))) = false := qF m9
                   have c42b1 : (((rd_T101 l0 a1).f4) != (wrap64 (((rd_T101 l0 ((rd_T101 l0 a1).f1)).f4) + 1))) = true := nT m9
                   obtain rfl := sI H
                   have hcz46_0 : wc.cell? ⟨bh, 0, none⟩ = some (.int .i64 ((rd_T101 l0 a1).f0)) := (bC a8.out 0).trans rfl
                   have hcz46_1 : wc.cell? ⟨bh, 1, none⟩ = some (.int .i64 ((rd_T101 l0 a1).f1)) := (bC a8.out 1).trans rfl
                   have hcz46_2 : wc.cell? ⟨bh, 2, none⟩ = some (.string ((rd_T101 l0 a1).f2)) := (bC a8.out 2).trans rfl
                   have hcz46_3 : wc.cell? ⟨bh, 3, none⟩ = some (.int .i64 ((rd_T101 l0 a1).f3)) := (bC a8.out 3).trans rfl
                   have hcz46_4 : wc.cell? ⟨bh, 4, none⟩ = some (.int .i64 ((rd_T101 l0 a1).f4)) := (bC a8.out 4).trans rfl
                   have hfz46_0 := bF a8.out 0
                   have hfz46_1 := bF a8.out 1
                   have hfz46_2 := bF a8.out 2
                   have hfz46_3 := bF a8.out 3
                   have hfz46_4 := bF a8.out 4
                   have p116 : 0 ≤ (((rd_T101 l0 a1).f0) : Int) := oD z2
                   have q116 : ((rd_T101 l0 a1).f0) < (l0.length : Int) := oD z2
                   obtain ⟨ad116, e116, hx116_0, hx116_1, hx116_2, hx116_3, hx116_4⟩ := at_T101 bY.out ((rd_T101 l0 a1).f0) p116 q116
                   obtain rfl : ad111 = ad116 := (by injection e116)
                   replace hx116_0 := (HB.out.cell (World.block_lt_of_cell? w _ hx116_0)).trans hx116_0
                   replace hx116_1 := (HB.out.cell (World.block_lt_of_cell? w _ hx116_1)).trans hx116_1
                   replace hx116_2 := (HB.out.cell (World.block_lt_of_cell? w _ hx116_2)).trans hx116_2
                   replace hx116_3 := (HB.out.cell (World.block_lt_of_cell? w _ hx116_3)).trans hx116_3
                   replace hx116_4 := (HB.out.cell (World.block_lt_of_cell? w _ hx116_4)).trans hx116_4
                   replace p116 := eq_true p116
                   replace q116 := eq_true q116
                   have p117 : 0 ≤ (((rd_T101 l0 a1).f1) : Int) := oD z2
                   have q117 : ((rd_T101 l0 a1).f1) < (l0.length : Int) := oD z2
                   obtain ⟨ad117, e117, hx117_0, hx117_1, hx117_2, hx117_3, hx117_4⟩ := at_T101 bY.out ((rd_T101 l0 a1).f1) p117 q117
                   obtain rfl : ad111 = ad117 := (by injection e117)
                   replace hx117_0 := (HB.out.cell (World.block_lt_of_cell? w _ hx117_0)).trans hx117_0
                   replace hx117_1 := (HB.out.cell (World.block_lt_of_cell? w _ hx117_1)).trans hx117_1
                   replace hx117_2 := (HB.out.cell (World.block_lt_of_cell? w _ hx117_2)).trans hx117_2
                   replace hx117_3 := (HB.out.cell (World.block_lt_of_cell? w _ hx117_3)).trans hx117_3
                   replace hx117_4 := (HB.out.cell (World.block_lt_of_cell? w _ hx117_4)).trans hx117_4
                   replace p117 := eq_true p117
                   replace q117 := eq_true q117
                   have p118 : 0 ≤ (((rd_T101 l0 a1).f1) : Int) := oD z2
                   have q118 : ((rd_T101 l0 a1).f1) < (l0.length : Int) := oD z2
                   obtain ⟨ad118, e118, hx118_0, hx118_1, hx118_2, hx118_3, hx118_4⟩ := at_T101 bY.out ((rd_T101 l0 a1).f1) p118 q118
                   obtain rfl : ad111 = ad118 := (by injection e118)
                   replace hx118_0 := (HB.out.cell (World.block_lt_of_cell? w _ hx118_0)).trans hx118_0
                   replace hx118_1 := (HB.out.cell (World.block_lt_of_cell? w _ hx118_1)).trans hx118_1
                   replace hx118_2 := (HB.out.cell (World.block_lt_of_cell? w _ hx118_2)).trans hx118_2
                   replace hx118_3 := (HB.out.cell (World.block_lt_of_cell? w _ hx118_3)).trans hx118_3
                   replace hx118_4 := (HB.out.cell (World.block_lt_of_cell? w _ hx118_4)).trans hx118_4
                   replace p118 := eq_true p118
                   replace q118 := eq_true q118
                   have p119 : 0 ≤ (((rd_T101 l0 a1).f0) : Int) := oD z2
                   have q119 : ((rd_T101 l0 a1).f0) < (l0.length : Int) := oD z2
                   obtain ⟨ad119, e119, hx119_0, hx119_1, hx119_2, hx119_3, hx119_4⟩ := at_T101 bY.out ((rd_T101 l0 a1).f0) p119 q119
                   obtain rfl : ad111 = ad119 := (by injection e119)
                   replace hx119_0 := (HB.out.cell (World.block_lt_of_cell? w _ hx119_0)).trans hx119_0
                   replace hx119_1 := (HB.out.cell (World.block_lt_of_cell? w _ hx119_1)).trans hx119_1
                   replace hx119_2 := (HB.out.cell (World.block_lt_of_cell? w _ hx119_2)).trans hx119_2
                   replace hx119_3 := (HB.out.cell (World.block_lt_of_cell? w _ hx119_3)).trans hx119_3
                   replace hx119_4 := (HB.out.cell (World.block_lt_of_cell? w _ hx119_4)).trans hx119_4
                   replace p119 := eq_true p119
                   replace q119 := eq_true q119
                   have p120 : 0 ≤ (((rd_T101 l0 a1).f1) : Int) := oD z2
                   have q120 : ((rd_T101 l0 a1).f1) < (l0.length : Int) := oD z2
                   obtain ⟨ad120, e120, hx120_0, hx120_1, hx120_2, hx120_3, hx120_4⟩ := at_T101 bY.out ((rd_T101 l0 a1).f1) p120 q120
                   obtain rfl : ad111 = ad120 := (by injection e120)
                   replace hx120_0 := (HB.out.cell (World.block_lt_of_cell? w _ hx120_0)).trans hx120_0
                   replace hx120_1 := (HB.out.cell (World.block_lt_of_cell? w _ hx120_1)).trans hx120_1
                   replace hx120_2 := (HB.out.cell (World.block_lt_of_cell? w _ hx120_2)).trans hx120_2
                   replace hx120_3 := (HB.out.cell (World.block_lt_of_cell? w _ hx120_3)).trans hx120_3
                   replace hx120_4 := (HB.out.cell (World.block_lt_of_cell? w _ hx120_4)).trans hx120_4
                   replace p120 := eq_true p120
                   replace q120 := eq_true q120
                   go_wp2
                   repeat (go_quiet (fail); try go_wp2)
                   go_ret
                   exact ⟨y3, y12⟩
                 ·rw [if_neg na] at H
                  have c41b0 : (((rd_T101 l0 a1).f3) == (wrap64 (((rd_T101 l0 ((rd_T101 l0 a1).f0)).f3) + ((rd_T101 l0 ((rd_T101 l0 a1).f1)).f3)))) = false := qF na
                  have c41b1 : (((rd_T101 l0 a1).f3) != (wrap64 (((rd_T101 l0 ((rd_T101 l0 a1).f0)).f3) + ((rd_T101 l0 ((rd_T101 l0 a1).f1)).f3)))) = true := nT na
                  obtain rfl := sI H
                  have hcz47_0 : wc.cell? ⟨bh, 0, none⟩ = some (.int .i64 ((rd_T101 l0 a1).f0)) := (bC a8.out 0).trans rfl
                  have hcz47_1 : wc.cell? ⟨bh, 1, none⟩ = some (.int .i64 ((rd_T101 l0 a1).f1)) := (bC a8.out 1).trans rfl
                  have hcz47_2 : wc.cell? ⟨bh, 2, none⟩ = some (.string ((rd_T101 l0 a1).f2)) := (bC a8.out 2).trans rfl
                  have hcz47_3 : wc.cell? ⟨bh, 3, none⟩ = some (.int .i64 ((rd_T101 l0 a1).f3)) := (bC a8.out 3).trans rfl
                  have hcz47_4 : wc.cell? ⟨bh, 4, none⟩ = some (.int .i64 ((rd_T101 l0 a1).f4)) := (bC a8.out 4).trans rfl
                  have hfz47_0 := bF a8.out 0
                  have hfz47_1 := bF a8.out 1
                  have hfz47_2 := bF a8.out 2
                  have hfz47_3 := bF a8.out 3
                  have hfz47_4 := bF a8.out 4
                  have p116 : 0 ≤ (((rd_T101 l0 a1).f0) : Int) := oD z2
                  have q116 : ((rd_T101 l0 a1).f0) < (l0.length : Int) := oD z2
                  obtain ⟨ad116, e116, hx116_0, hx116_1, hx116_2, hx116_3, hx116_4⟩ := at_T101 bY.out ((rd_T101 l0 a1).f0) p116 q116
                  obtain rfl : ad111 = ad116 := (by injection e116)
                  replace hx116_0 := (HB.out.cell (World.block_lt_of_cell? w _ hx116_0)).trans hx116_0
                  replace hx116_1 := (HB.out.cell (World.block_lt_of_cell? w _ hx116_1)).trans hx116_1
                  replace hx116_2 := (HB.out.cell (World.block_lt_of_cell? w _ hx116_2)).trans hx116_2
                  replace hx116_3 := (HB.out.cell (World.block_lt_of_cell? w _ hx116_3)).trans hx116_3
                  replace hx116_4 := (HB.out.cell (World.block_lt_of_cell? w _ hx116_4)).trans hx116_4
                  replace p116 := eq_true p116
                  replace q116 := eq_true q116
                  have p117 : 0 ≤ (((rd_T101 l0 a1).f1) : Int) := oD z2
                  have q117 : ((rd_T101 l0 a1).f1) < (l0.length : Int) := oD z2
                  obtain ⟨ad117, e117, hx117_0, hx117_1, hx117_2, hx117_3, hx117_4⟩ := at_T101 bY.out ((rd_T101 l0 a1).f1) p117 q117
                  obtain rfl : ad111 = ad117 := (by injection e117)
                  replace hx117_0 := (HB.out.cell (World.block_lt_of_cell? w _ hx117_0)).trans hx117_0
                  replace hx117_1 := (HB.out.cell (World.block_lt_of_cell? w _ hx117_1)).trans hx117_1
                  replace hx117_2 := (HB.out.cell (World.block_lt_of_cell? w _ hx117_2)).trans hx117_2
                  replace hx117_3 := (HB.out.cell (World.block_lt_of_cell? w _ hx117_3)).trans hx117_3
                  replace hx117_4 := (HB.out.cell (World.block_lt_of_cell? w _ hx117_4)).trans hx117_4
                  replace p117 := eq_true p117
                  replace q117 := eq_true q117
                  have p118 : 0 ≤ (((rd_T101 l0 a1).f1) : Int) := oD z2
                  have q118 : ((rd_T101 l0 a1).f1) < (l0.length : Int) := oD z2
                  obtain ⟨ad118, e118, hx118_0, hx118_1, hx118_2, hx118_3, hx118_4⟩ := at_T101 bY.out ((rd_T101 l0 a1).f1) p118 q118
                  obtain rfl : ad111 = ad118 := (by injection e118)
                  replace hx118_0 := (HB.out.cell (World.block_lt_of_cell? w _ hx118_0)).trans hx118_0
                  replace hx118_1 := (HB.out.cell (World.block_lt_of_cell? w _ hx118_1)).trans hx118_1
                  replace hx118_2 := (HB.out.cell (World.block_lt_of_cell? w _ hx118_2)).trans hx118_2
                  replace hx118_3 := (HB.out.cell (World.block_lt_of_cell? w _ hx118_3)).trans hx118_3
                  replace hx118_4 := (HB.out.cell (World.block_lt_of_cell? w _ hx118_4)).trans hx118_4
                  replace p118 := eq_true p118
                  replace q118 := eq_true q118
                  have p119 : 0 ≤ (((rd_T101 l0 a1).f0) : Int) := oD z2
                  have q119 : ((rd_T101 l0 a1).f0) < (l0.length : Int) := oD z2
                  obtain ⟨ad119, e119, hx119_0, hx119_1, hx119_2, hx119_3, hx119_4⟩ := at_T101 bY.out ((rd_T101 l0 a1).f0) p119 q119
                  obtain rfl : ad111 = ad119 := (by injection e119)
                  replace hx119_0 := (HB.out.cell (World.block_lt_of_cell? w _ hx119_0)).trans hx119_0
                  replace hx119_1 := (HB.out.cell (World.block_lt_of_cell? w _ hx119_1)).trans hx119_1
                  replace hx119_2 := (HB.out.cell (World.block_lt_of_cell? w _ hx119_2)).trans hx119_2
                  replace hx119_3 := (HB.out.cell (World.block_lt_of_cell? w _ hx119_3)).trans hx119_3
                  replace hx119_4 := (HB.out.cell (World.block_lt_of_cell? w _ hx119_4)).trans hx119_4
                  replace p119 := eq_true p119
                  replace q119 := eq_true q119
                  have p120 : 0 ≤ (((rd_T101 l0 a1).f1) : Int) := oD z2
                  have q120 : ((rd_T101 l0 a1).f1) < (l0.length : Int) := oD z2
                  obtain ⟨ad120, e120, hx120_0, hx120_1, hx120_2, hx120_3, hx120_4⟩ := at_T101 bY.out ((rd_T101 l0 a1).f1) p120 q120
                  obtain rfl : ad111 = ad120 := (by injection e120)
                  replace hx120_0 := (HB.out.cell (World.block_lt_of_cell? w _ hx120_0)).trans hx120_0
                  replace hx120_1 := (HB.out.cell (World.block_lt_of_cell? w _ hx120_1)).trans hx120_1
                  replace hx120_2 := (HB.out.cell (World.block_lt_of_cell? w _ hx120_2)).trans hx120_2
                  replace hx120_3 := (HB.out.cell (World.block_lt_of_cell? w _ hx120_3)).trans hx120_3
                  replace hx120_4 := (HB.out.cell (World.block_lt_of_cell? w _ hx120_4)).trans hx120_4
                  replace p120 := eq_true p120
                  replace q120 := eq_true q120
                  go_wp2
                  repeat (go_quiet (fail); try go_wp2)
                  go_ret
                  exact ⟨y3, y12⟩
                ·rw [if_neg me] at H
                 have c40b0 : decide (((rd_T101 l0 ((rd_T101 l0 a1).f0)).f4) < ((rd_T101 l0 ((rd_T101 l0 a1).f1)).f4)) = false := dF me
                 clear me
                 by_cases l7 : ((rd_T101 l0 a1).f3) = (wrap64 (((rd_T101 l0 ((rd_T101 l0 a1).f0)).f3) + ((rd_T101 l0 ((rd_T101 l0 a1).f1)).f3)))
                 ·rw [if_pos l7] at H
                  have c48b0 : (((rd_T101 l0 a1).f3) == (wrap64 (((rd_T101 l0 ((rd_T101 l0 a1).f0)).f3) + ((rd_T101 l0 ((rd_T101 l0 a1).f1)).f3)))) = true := qT l7
                  have c48b1 : (((rd_T101 l0 a1).f3) != (wrap64 (((rd_T101 l0 ((rd_T101 l0 a1).f0)).f3) + ((rd_T101 l0 ((rd_T101 l0 a1).f1)).f3)))) = false := nF l7
                  clear l7
                  by_cases l6 : ((rd_T101 l0 a1).f4) = (wrap64 (((rd_T101 l0 ((rd_T101 l0 a1).f0)).f4) + 1))
                  ·rw [if_pos l6] at H
                   have c49b0 : (((rd_T101 l0 a1).f4) == (wrap64 (((rd_T101 l0 ((rd_T101 l0 a1).f0)).f4) + 1))) = true := qT l6
                   have c49b1 : (((rd_T101 l0 a1).f4) != (wrap64 (((rd_T101 l0 ((rd_T101 l0 a1).f0)).f4) + 1))) = false := nF l6
                   clear l6
                   replace H := oB H
                   obtain ⟨lq, ob, H⟩ := H
                   try dsimp only at H
                   have nA := aM ob
                   clear ob
                   obtain rfl := sI H
                   have ga : wc.cell? ⟨bh, 0, none⟩ = some (.int .i64 ((rd_T101 l0 a1).f0)) := (bC a8.out 0).trans rfl
                   have hcz51_1 : wc.cell? ⟨bh, 1, none⟩ = some (.int .i64 ((rd_T101 l0 a1).f1)) := (bC a8.out 1).trans rfl
                   have hcz51_2 : wc.cell? ⟨bh, 2, none⟩ = some (.string ((rd_T101 l0 a1).f2)) := (bC a8.out 2).trans rfl
                   have hcz51_3 : wc.cell? ⟨bh, 3, none⟩ = some (.int .i64 ((rd_T101 l0 a1).f3)) := (bC a8.out 3).trans rfl
                   have hcz51_4 : wc.cell? ⟨bh, 4, none⟩ = some (.int .i64 ((rd_T101 l0 a1).f4)) := (bC a8.out 4).trans rfl
                   have fX := bF a8.out 0
                   have hfz51_1 := bF a8.out 1
                   have hfz51_2 := bF a8.out 2
                   have hfz51_3 := bF a8.out 3
                   have hfz51_4 := bF a8.out 4
                   have p116 : 0 ≤ (((rd_T101 l0 a1).f0) : Int) := oD z2
                   have q116 : ((rd_T101 l0 a1).f0) < (l0.length : Int) := oD z2
                   obtain ⟨ad116, e116, hx116_0, hx116_1, hx116_2, hx116_3, hx116_4⟩ := at_T101 bY.out ((rd_T101 l0 a1).f0) p116 q116
                   obtain rfl : ad111 = ad116 := (by injection e116)
                   replace hx116_0 := (HB.out.cell (World.block_lt_of_cell? w _ hx116_0)).trans hx116_0
                   replace hx116_1 := (HB.out.cell (World.block_lt_of_cell? w _ hx116_1)).trans hx116_1
                   replace hx116_2 := (HB.out.cell (World.block_lt_of_cell? w _ hx116_2)).trans hx116_2
                   replace hx116_3 := (HB.out.cell (World.block_lt_of_cell? w _ hx116_3)).trans hx116_3
                   replace hx116_4 := (HB.out.cell (World.block_lt_of_cell? w _ hx116_4)).trans hx116_4
                   replace p116 := eq_true p116
                   replace q116 := eq_true q116
                   have p117 : 0 ≤ (((rd_T101 l0 a1).f1) : Int) := oD z2
                   have q117 : ((rd_T101 l0 a1).f1) < (l0.length : Int) := oD z2
                   obtain ⟨ad117, e117, hx117_0, hx117_1, hx117_2, hx117_3, hx117_4⟩ := at_T101 bY.out ((rd_T101 l0 a1).f1) p117 q117
                   obtain rfl : ad111 = ad117 := (by injection e117)
                   replace hx117_0 := (HB.out.cell (World.block_lt_of_cell? w _ hx117_0)).trans hx117_0
                   replace hx117_1 := (HB.out.cell (World.block_lt_of_cell? w _ hx117_1)).trans hx117_1
                   replace hx117_2 := (HB.out.cell (World.block_lt_of_cell? w _ hx117_2)).trans hx117_2
                   replace hx117_3 := (HB.out.cell (World.block_lt_of_cell? w _ hx117_3)).trans hx117_3
                   replace hx117_4 := (HB.out.cell (World.block_lt_of_cell? w _ hx117_4)).trans hx117_4
                   replace p117 := eq_true p117
                   replace q117 := eq_true q117
                   have p122 : 0 ≤ (((rd_T101 l0 a1).f0) : Int) := oD z2
                   have q122 : ((rd_T101 l0 a1).f0) < (l0.length : Int) := oD z2
                   obtain ⟨ad122, e122, hx122_0, hx122_1, hx122_2, hx122_3, hx122_4⟩ := at_T101 bY.out ((rd_T101 l0 a1).f0) p122 q122
                   obtain rfl : ad111 = ad122 := (by injection e122)
                   replace hx122_0 := (HB.out.cell (World.block_lt_of_cell? w _ hx122_0)).trans hx122_0
                   replace hx122_1 := (HB.out.cell (World.block_lt_of_cell? w _ hx122_1)).trans hx122_1
                   replace hx122_2 := (HB.out.cell (World.block_lt_of_cell? w _ hx122_2)).trans hx122_2
                   replace hx122_3 := (HB.out.cell (World.block_lt_of_cell? w _ hx122_3)).trans hx122_3
                   replace hx122_4 := (HB.out.cell (World.block_lt_of_cell? w _ hx122_4)).trans hx122_4
                   replace p122 := eq_true p122
                   replace q122 := eq_true q122
                   have p123 : 0 ≤ (((rd_T101 l0 a1).f1) : Int) := oD z2
                   have q123 : ((rd_T101 l0 a1).f1) < (l0.length : Int) := oD z2
                   obtain ⟨ad123, e123, hx123_0, hx123_1, hx123_2, hx123_3, hx123_4⟩ := at_T101 bY.out ((rd_T101 l0 a1).f1) p123 q123
                   obtain rfl : ad111 = ad123 := (by injection e123)
                   replace hx123_0 := (HB.out.cell (World.block_lt_of_cell? w _ hx123_0)).trans hx123_0
                   replace hx123_1 := (HB.out.cell (World.block_lt_of_cell? w _ hx123_1)).trans hx123_1
                   replace hx123_2 := (HB.out.cell (World.block_lt_of_cell? w _ hx123_2)).trans hx123_2
                   replace hx123_3 := (HB.out.cell (World.block_lt_of_cell? w _ hx123_3)).trans hx123_3
                   replace hx123_4 := (HB.out.cell (World.block_lt_of_cell? w _ hx123_4)).trans hx123_4
                   replace p123 := eq_true p123
                   replace q123 := eq_true q123
                   go_wp2_with (first | (go_at_call 59; (with_reducible refine (ih kj30 (by have := kK.out; have := gG.out; have := k0.out; omega) _ _ l0 ((rd_T101 l0 a1).f0) lq _ ?side1 ?side2 nA.out).mono ?_); (case side1 => repeat (first | exact (aD bY.out HB.out) | (with_reducible refine aE ?_ _) | (with_reducible refine aG ?_ _) | (with_reducible refine aH ?_))); (case side2 => exact cQ.out); rintro e w52 ⟨rfl, hb⟩; have a6 := aM (af (g := bh) (o := .cells #[.int .i64 ((rd_T101 l0 a1).f0), .int .i64 ((rd_T101 l0 a1).f1), .string ((rd_T101 l0 a1).f2), .int .i64 ((rd_T101 l0 a1).f3), .int .i64 ((rd_T101 l0 a1).f4)] 101 (0, 0)) (by (with_reducible repeat (first | refine ar ?_ _ | refine aq ?_ | refine au ?_ _)); exact a8.out) hb); have ba := aM (ay (by repeat (first | (with_reducible first | exact HB.out | apply bA | apply pD | apply bD | refine ax ?_ eA.out) | exact HB.out)) hb); clear a8; clear HB; have a8 := a6; have HB := ba; clear a6 ba; (try clear hb); (try clear hb2); (try clear hk); (try clear hi)))
                   repeat (go_quiet (first | (go_at_call 59; (with_reducible refine (ih kj30 (by have := kK.out; have := gG.out; have := k0.out; omega) _ _ l0 ((rd_T101 l0 a1).f0) lq _ ?side1 ?side2 nA.out).mono ?_); (case side1 => repeat (first | exact (aD bY.out HB.out) | (with_reducible refine aE ?_ _) | (with_reducible refine aG ?_ _) | (with_reducible refine aH ?_))); (case side2 => exact cQ.out); rintro e w52 ⟨rfl, hb⟩; have a6 := aM (af (g := bh) (o := .cells #[.int .i64 ((rd_T101 l0 a1).f0), .int .i64 ((rd_T101 l0 a1).f1), .string ((rd_T101 l0 a1).f2), .int .i64 ((rd_T101 l0 a1).f3), .int .i64 ((rd_T101 l0 a1).f4)] 101 (0, 0)) (by (with_reducible repeat (first | refine ar ?_ _ | refine aq ?_ | refine au ?_ _)); exact a8.out) hb); have ba := aM (ay (by repeat (first | (with_reducible first | exact HB.out | apply bA | apply pD | apply bD | refine ax ?_ eA.out) | exact HB.out)) hb); clear a8; clear HB; have a8 := a6; have HB := ba; clear a6 ba; (try clear hb); (try clear hb2); (try clear hk); (try clear hi))); try go_wp2_with (first | (go_at_call 59; (with_reducible refine (ih kj30 (by have := kK.out; have := gG.out; have := k0.out; omega) _ _ l0 ((rd_T101 l0 a1).f0) lq _ ?side1 ?side2 nA.out).mono ?_); (case side1 => repeat (first | exact (aD bY.out HB.out) | (with_reducible refine aE ?_ _) | (with_reducible refine aG ?_ _) | (with_reducible refine aH ?_))); (case side2 => exact cQ.out); rintro e w52 ⟨rfl, hb⟩; have a6 := aM (af (g := bh) (o := .cells #[.int .i64 ((rd_T101 l0 a1).f0), .int .i64 ((rd_T101 l0 a1).f1), .string ((rd_T101 l0 a1).f2), .int .i64 ((rd_T101 l0 a1).f3), .int .i64 ((rd_T101 l0 a1).f4)] 101 (0, 0)) (by (with_reducible repeat (first | refine ar ?_ _ | refine aq ?_ | refine au ?_ _)); exact a8.out) hb); have ba := aM (ay (by repeat (first | (with_reducible first | exact HB.out | apply bA | apply pD | apply bD | refine ax ?_ eA.out) | exact HB.out)) hb); clear a8; clear HB; have a8 := a6; have HB := ba; clear a6 ba; (try clear hb); (try clear hb2); (try clear hk); (try clear hi))))
                   go_ret
                   exact ⟨y3, y12⟩
                  ·rw [if_neg l6] at H
                   have c49b0 : (((rd_T101 l0 a1).f4) == (wrap64 (((rd_T101 l0 ((rd_T101 l0 a1).f0)).f4) + 1))) = false := qF l6
                   have c49b1 : (((rd_T101 l0 a1).f4) != (wrap64 (((rd_T101 l0 ((rd_T101 l0 a1).f0)).f4) + 1))) = true := nT l6
                   obtain rfl := sI H
                   have hcz53_0 : wc.cell? ⟨bh, 0, none⟩ = some (.int .i64 ((rd_T101 l0 a1).f0)) := (bC a8.out 0).trans rfl
                   have hcz53_1 : wc.cell? ⟨bh, 1, none⟩ = some (.int .i64 ((rd_T101 l0 a1).f1)) := (bC a8.out 1).trans rfl
                   have hcz53_2 : wc.cell? ⟨bh, 2, none⟩ = some (.string ((rd_T101 l0 a1).f2)) := (bC a8.out 2).trans rfl
                   have hcz53_3 : wc.cell? ⟨bh, 3, none⟩ = some (.int .i64 ((rd_T101 l0 a1).f3)) := (bC a8.out 3).trans rfl
                   have hcz53_4 : wc.cell? ⟨bh, 4, none⟩ = some (.int .i64 ((rd_T101 l0 a1).f4)) := (bC a8.out 4).trans rfl
                   have hfz53_0 := bF a8.out 0
                   have hfz53_1 := bF a8.out 1
                   have hfz53_2 := bF a8.out 2
                   have hfz53_3 := bF a8.out 3
                   have hfz53_4 := bF a8.out 4
                   have p116 : 0 ≤ (((rd_T101 l0 a1).f0) : Int) := oD z2
                   have q116 : ((rd_T101 l0 a1).f0) < (l0.length : Int) := oD z2
                   obtain ⟨ad116, e116, hx116_0, hx116_1, hx116_2, hx116_3, hx116_4⟩ := at_T101 bY.out ((rd_T101 l0 a1).f0) p116 q116
                   obtain rfl : ad111 = ad116 := (by injection e116)
                   replace hx116_0 := (HB.out.cell (World.block_lt_of_cell? w _ hx116_0)).trans hx116_0
                   replace hx116_1 := (HB.out.cell (World.block_lt_of_cell? w _ hx116_1)).trans hx116_1
                   replace hx116_2 := (HB.out.cell (World.block_lt_of_cell? w _ hx116_2)).trans hx116_2
                   replace hx116_3 := (HB.out.cell (World.block_lt_of_cell? w _ hx116_3)).trans hx116_3
                   replace hx116_4 := (HB.out.cell (World.block_lt_of_cell? w _ hx116_4)).trans hx116_4
                   replace p116 := eq_true p116
                   replace q116 := eq_true q116
                   have p117 : 0 ≤ (((rd_T101 l0 a1).f1) : Int) := oD z2
                   have q117 : ((rd_T101 l0 a1).f1) < (l0.length : Int) := oD z2
                   obtain ⟨ad117, e117, hx117_0, hx117_1, hx117_2, hx117_3, hx117_4⟩ := at_T101 bY.out ((rd_T101 l0 a1).f1) p117 q117
                   obtain rfl : ad111 = ad117 := (by injection e117)
                   replace hx117_0 := (HB.out.cell (World.block_lt_of_cell? w _ hx117_0)).trans hx117_0
                   replace hx117_1 := (HB.out.cell (World.block_lt_of_cell? w _ hx117_1)).trans hx117_1
                   replace hx117_2 := (HB.out.cell (World.block_lt_of_cell? w _ hx117_2)).trans hx117_2
                   replace hx117_3 := (HB.out.cell (World.block_lt_of_cell? w _ hx117_3)).trans hx117_3
                   replace hx117_4 := (HB.out.cell (World.block_lt_of_cell? w _ hx117_4)).trans hx117_4
                   replace p117 := eq_true p117
                   replace q117 := eq_true q117
                   have p122 : 0 ≤ (((rd_T101 l0 a1).f0) : Int) := oD z2
                   have q122 : ((rd_T101 l0 a1).f0) < (l0.length : Int) := oD z2
                   obtain ⟨ad122, e122, hx122_0, hx122_1, hx122_2, hx122_3, hx122_4⟩ := at_T101 bY.out ((rd_T101 l0 a1).f0) p122 q122
                   obtain rfl : ad111 = ad122 := (by injection e122)
                   replace hx122_0 := (HB.out.cell (World.block_lt_of_cell? w _ hx122_0)).trans hx122_0
                   replace hx122_1 := (HB.out.cell (World.block_lt_of_cell? w _ hx122_1)).trans hx122_1
                   replace hx122_2 := (HB.out.cell (World.block_lt_of_cell? w _ hx122_2)).trans hx122_2
                   replace hx122_3 := (HB.out.cell (World.block_lt_of_cell? w _ hx122_3)).trans hx122_3
                   replace hx122_4 := (HB.out.cell (World.block_lt_of_cell? w _ hx122_4)).trans hx122_4
                   replace p122 := eq_true p122
                   replace q122 := eq_true q122
                   have p123 : 0 ≤ (((rd_T101 l0 a1).f1) : Int) := oD z2
                   have q123 : ((rd_T101 l0 a1).f1) < (l0.length : Int) := oD z2
                   obtain ⟨ad123, e123, hx123_0, hx123_1, hx123_2, hx123_3, hx123_4⟩ := at_T101 bY.out ((rd_T101 l0 a1).f1) p123 q123
                   obtain rfl : ad111 = ad123 := (by injection e123)
                   replace hx123_0 := (HB.out.cell (World.block_lt_of_cell? w _ hx123_0)).trans hx123_0
                   replace hx123_1 := (HB.out.cell (World.block_lt_of_cell? w _ hx123_1)).trans hx123_1
                   replace hx123_2 := (HB.out.cell (World.block_lt_of_cell? w _ hx123_2)).trans hx123_2
                   replace hx123_3 := (HB.out.cell (World.block_lt_of_cell? w _ hx123_3)).trans hx123_3
                   replace hx123_4 := (HB.out.cell (World.block_lt_of_cell? w _ hx123_4)).trans hx123_4
                   replace p123 := eq_true p123
                   replace q123 := eq_true q123
                   go_wp2
                   repeat (go_quiet (fail); try go_wp2)
                   go_ret
                   exact ⟨y3, y12⟩
                 ·rw [if_neg l7] at H
                  have c48b0 : (((rd_T101 l0 a1).f3) == (wrap64 (((rd_T101 l0 ((rd_T101 l0 a1).f0)).f3) + ((rd_T101 l0 ((rd_T101 l0 a1).f1)).f3)))) = false := qF l7
                  have c48b1 : (((rd_T101 l0 a1).f3) != (wrap64 (((rd_T101 l0 ((rd_T101 l0 a1).f0)).f3) + ((rd_T101 l0 ((rd_T101 l0 a1).f1)).f3)))) = true := nT l7
                  obtain rfl := sI H
                  have hcz54_0 : wc.cell? ⟨bh, 0, none⟩ = some (.int .i64 ((rd_T101 l0 a1).f0)) := (bC a8.out 0).trans rfl
                  have hcz54_1 : wc.cell? ⟨bh, 1, none⟩ = some (.int .i64 ((rd_T101 l0 a1).f1)) := (bC a8.out 1).trans rfl
                  have hcz54_2 : wc.cell? ⟨bh, 2, none⟩ = some (.string ((rd_T101 l0 a1).f2)) := (bC a8.out 2).trans rfl
                  have hcz54_3 : wc.cell? ⟨bh, 3, none⟩ = some (.int .i64 ((rd_T101 l0 a1).f3)) := (bC a8.out 3).trans rfl
                  have hcz54_4 : wc.cell? ⟨bh, 4, none⟩ = some (.int .i64 ((rd_T101 l0 a1).f4)) := (bC a8.out 4).trans rfl
                  have hfz54_0 := bF a8.out 0
                  have hfz54_1 := bF a8.out 1
                  have hfz54_2 := bF a8.out 2
                  have hfz54_3 := bF a8.out 3
                  have hfz54_4 := bF a8.out 4
                  have p116 : 0 ≤ (((rd_T101 l0 a1).f0) : Int) := oD z2
                  have q116 : ((rd_T101 l0 a1).f0) < (l0.length : Int) := oD z2
                  obtain ⟨ad116, e116, hx116_0, hx116_1, hx116_2, hx116_3, hx116_4⟩ := at_T101 bY.out ((rd_T101 l0 a1).f0) p116 q116
                  obtain rfl : ad111 = ad116 := (by injection e116)
                  replace hx116_0 := (HB.out.cell (World.block_lt_of_cell? w _ hx116_0)).trans hx116_0
                  replace hx116_1 := (HB.out.cell (World.block_lt_of_cell? w _ hx116_1)).trans hx116_1
                  replace hx116_2 := (HB.out.cell (World.block_lt_of_cell? w _ hx116_2)).trans hx116_2
                  replace hx116_3 := (HB.out.cell (World.block_lt_of_cell? w _ hx116_3)).trans hx116_3
                  replace hx116_4 := (HB.out.cell (World.block_lt_of_cell? w _ hx116_4)).trans hx116_4
                  replace p116 := eq_true p116
                  replace q116 := eq_true q116
                  have p117 : 0 ≤ (((rd_T101 l0 a1).f1) : Int) := oD z2
                  have q117 : ((rd_T101 l0 a1).f1) < (l0.length : Int) := oD z2
                  obtain ⟨ad117, e117, hx117_0, hx117_1, hx117_2, hx117_3, hx117_4⟩ := at_T101 bY.out ((rd_T101 l0 a1).f1) p117 q117
                  obtain rfl : ad111 = ad117 := (by injection e117)
                  replace hx117_0 := (HB.out.cell (World.block_lt_of_cell? w _ hx117_0)).trans hx117_0
                  replace hx117_1 := (HB.out.cell (World.block_lt_of_cell? w _ hx117_1)).trans hx117_1
                  replace hx117_2 := (HB.out.cell (World.block_lt_of_cell? w _ hx117_2)).trans hx117_2
                  replace hx117_3 := (HB.out.cell (World.block_lt_of_cell? w _ hx117_3)).trans hx117_3
                  replace hx117_4 := (HB.out.cell (World.block_lt_of_cell? w _ hx117_4)).trans hx117_4
                  replace p117 := eq_true p117
                  replace q117 := eq_true q117
                  have p122 : 0 ≤ (((rd_T101 l0 a1).f0) : Int) := oD z2
                  have q122 : ((rd_T101 l0 a1).f0) < (l0.length : Int) := oD z2
                  obtain ⟨ad122, e122, hx122_0, hx122_1, hx122_2, hx122_3, hx122_4⟩ := at_T101 bY.out ((rd_T101 l0 a1).f0) p122 q122
                  obtain rfl : ad111 = ad122 := (by injection e122)
                  replace hx122_0 := (HB.out.cell (World.block_lt_of_cell? w _ hx122_0)).trans hx122_0
                  replace hx122_1 := (HB.out.cell (World.block_lt_of_cell? w _ hx122_1)).trans hx122_1
                  replace hx122_2 := (HB.out.cell (World.block_lt_of_cell? w _ hx122_2)).trans hx122_2
                  replace hx122_3 := (HB.out.cell (World.block_lt_of_cell? w _ hx122_3)).trans hx122_3
                  replace hx122_4 := (HB.out.cell (World.block_lt_of_cell? w _ hx122_4)).trans hx122_4
                  replace p122 := eq_true p122
                  replace q122 := eq_true q122
                  have p123 : 0 ≤ (((rd_T101 l0 a1).f1) : Int) := oD z2
                  have q123 : ((rd_T101 l0 a1).f1) < (l0.length : Int) := oD z2
                  obtain ⟨ad123, e123, hx123_0, hx123_1, hx123_2, hx123_3, hx123_4⟩ := at_T101 bY.out ((rd_T101 l0 a1).f1) p123 q123
                  obtain rfl : ad111 = ad123 := (by injection e123)
                  replace hx123_0 := (HB.out.cell (World.block_lt_of_cell? w _ hx123_0)).trans hx123_0
                  replace hx123_1 := (HB.out.cell (World.block_lt_of_cell? w _ hx123_1)).trans hx123_1
                  replace hx123_2 := (HB.out.cell (World.block_lt_of_cell? w _ hx123_2)).trans hx123_2
                  replace hx123_3 := (HB.out.cell (World.block_lt_of_cell? w _ hx123_3)).trans hx123_3
                  replace hx123_4 := (HB.out.cell (World.block_lt_of_cell? w _ hx123_4)).trans hx123_4
                  replace p123 := eq_true p123
                  replace q123 := eq_true q123
                  go_wp2
                  repeat (go_quiet (fail); try go_wp2)
                  go_ret
                  exact ⟨y3, y12⟩
               ·rw [if_neg nb] at H
                exact absurd H (by simp)
              ·rw [if_neg ot] at H
               exact absurd H (by simp)
             ·rw [if_neg ou] at H
              exact absurd H (by simp)
            ·rw [if_neg ov] at H
             exact absurd H (by simp)
  ·rw [if_neg c4] at H
   exact absurd H (by simp)
 ·rw [if_neg c3] at H
  exact absurd H (by simp)

end Go.Proofs.Ytblnnbaeiggmoaa.AFnExactEditRope
