-- this session's own text: written by wip/tools/ownprint.py over the kit's print
import Derived.Test.YtifllccpfiobfaaAFnExactMergeThreex0
import Derived.Test.YtifllccpfiobfaaAFnExactMergeThreex9
import Derived.Test.YtifllccpfiobfaaAFnExactMergeThreex11
import Derived.Test.YtifllccpfiobfaaAFnExactMergeThreex12
namespace Go.Proofs.Ytifllccpfiobfaa.AFnExactMergeThree
open Go.RowKit Go.Proofs.YtifllccpfiobfaaW.PrintWords Go.Proofs.YtifllccpfiobfaaW.PrintLast Go.Proofs.YtifllccpfiobfaaW.PrintMore
attribute [local go_sem] max2_int min2_int max_two min_two max_three min_three max_four min_four   -- for this text's walks alone
set_option linter.unusedVariables false
set_option linter.unusedSimpArgs false

/-! ### impl_putsWithin: function 32 -/
def impl_putsWithin.l0 : Nat → List Int → Int → Int → List (S44) → Int → Int → Option (Int)
 | 0, _, _, _, _, _, _ => none
 | k + 1, x1, x5, x6, x9, x10, x11 => if x11 < x10 then (if 0 ≤ x11 then (if x11 < (x9.length : Int) then (if ((rd_T44 x9 x11).f1).toList = ([] : List UInt8) then (impl_putsWithin.l0 k x1 x5 (wrap64 (x6 + (wrap64 (((rd_T44 x9 x11).f0) + (((rd_T44 x9 x11).f2).size : Int))))) x9 x10 (wrap64 (x11 + 1))) else (if x6 > 0 then (if x6 < (x1.length : Int) then (if 0 ≤ (wrap64 (x6 - 1)) then (if (wrap64 (x6 - 1)) < (x1.length : Int) then (if (rd x1 (wrap64 (x6 - 1))) = 0 then (impl_putsWithin.l0 k x1 x5 (wrap64 (x6 + (wrap64 (((rd_T44 x9 x11).f0) + (((rd_T44 x9 x11).f2).size : Int))))) x9 x10 (wrap64 (x11 + 1))) else (if 0 ≤ x6 then (if (rd x1 x6) = 0 then (impl_putsWithin.l0 k x1 x5 (wrap64 (x6 + (wrap64 (((rd_T44 x9 x11).f0) + (((rd_T44 x9 x11).f2).size : Int))))) x9 x10 (wrap64 (x11 + 1))) else (impl_putsWithin.l0 k x1 (wrap64 (x5 + 1)) (wrap64 (x6 + (wrap64 (((rd_T44 x9 x11).f0) + (((rd_T44 x9 x11).f2).size : Int))))) x9 x10 (wrap64 (x11 + 1)))) else (none))) else (none)) else (none)) else (impl_putsWithin.l0 k x1 x5 (wrap64 (x6 + (wrap64 (((rd_T44 x9 x11).f0) + (((rd_T44 x9 x11).f2).size : Int))))) x9 x10 (wrap64 (x11 + 1)))) else (impl_putsWithin.l0 k x1 x5 (wrap64 (x6 + (wrap64 (((rd_T44 x9 x11).f0) + (((rd_T44 x9 x11).f2).size : Int))))) x9 x10 (wrap64 (x11 + 1))))) else (none)) else (none)) else (some x5)
def impl_putsWithin.f (k : Nat) (l0 : List (S44)) (l1 : List Int) : Option (Int) := impl_putsWithin.l0 k l1 0 0 l0 (l0.length : Int) 0
theorem impl_putsWithin.mono_l : ∀ k, (∀ y0 y1 y2 y3 y4 y5, LeO (impl_putsWithin.l0 k y0 y1 y2 y3 y4 y5) (impl_putsWithin.l0 (k + 1) y0 y1 y2 y3 y4 y5))
 | 0 => fun _ _ _ _ _ _ r h => by simp [impl_putsWithin.l0] at h
 | k + 1 => by
  have ih0 := impl_putsWithin.mono_l k
  ·intro y0 y1 y2 y3 y4 y5
   unfold impl_putsWithin.l0
   repeat' first
   | (with_reducible exact ih0 _ _ _ _ _ _)
   | (with_reducible exact LeO.refl _)
   | (with_reducible exact LeO.none _)
   | (with_reducible refine LeO.ite ?_ ?_)
   | (with_reducible refine LeO.bind ?_ (fun _ => ?_))
   | exact ih0 _ _ _ _ _ _
   | exact LeO.none _
   | refine LeO.ite ?_ ?_
   | refine LeO.bind ?_ (fun _ => ?_)
theorem impl_putsWithin.mono : ∀ a0 a1 k, LeO (impl_putsWithin.f k a0 a1) (impl_putsWithin.f (k + 1) a0 a1) := by
 intro a0 a1 k
 have ih0 := impl_putsWithin.mono_l k
 unfold impl_putsWithin.f
 repeat' first
   | (with_reducible exact ih0 _ _ _ _ _ _)
   | (with_reducible exact LeO.refl _)
   | (with_reducible exact LeO.none _)
   | (with_reducible refine LeO.ite ?_ ?_)
   | (with_reducible refine LeO.bind ?_ (fun _ => ?_))
   | exact ih0 _ _ _ _ _ _
   | exact LeO.none _
   | refine LeO.ite ?_ ?_
   | refine LeO.bind ?_ (fun _ => ?_)
set_option maxHeartbeats 8000000 in
set_option maxRecDepth 100000 in
theorem impl_putsWithin.calls (k : Nat) (A0 : Option Addr) (c0 : Nat) (l0 : List (S44)) (A1 : Option Addr) (c1 : Nat) (l1 : List Int) (r : Int) (w : World) (hr0 : Kd.C k44 w A0 l0.length l0) (hc0 : l0.length ≤ c0) (hr1 : Kd.C (Kd.int .u8) w A1 l1.length l1) (hc1 : l1.length ≤ c1) (h : impl_putsWithin.f k l0 l1 = some r) :
  Calls Try.prog 32 #[.slice A0 l0.length c0, .slice A1 l1.length c1] w fun e w' => e = .returned (.int .i64 r) ∧ Below w.heap.size w w' := by
 have hu44 := Try.underlying44
 have bG := aM hr0
 have b8 := aM hc0
 clear hr0 hc0
 have cz := aM hr1
 have dg := aM hc1
 clear hr1 hc1
 have HB := aM (Below.refl w.heap.size w)
 have H : (impl_putsWithin.l0 k l1 0 0 l0 (l0.length : Int) 0) = some r := h
 clear h
 have H' := aM H
 clear H
 go_enter Try.func32, Try.ntmps32
 go_wp2
 go_loopg [5, 6, 11] k (fun kq v5 v6 v11 w' => ∃ (x5_1 : Int) (x6_1 : Int) (x11_1 : Int), v5 = .int .i64 x5_1 ∧ v6 = .int .i64 x6_1 ∧ v11 = .int .i64 x11_1 ∧ Aside0 (impl_putsWithin.l0 kq l1 x5_1 x6_1 l0 (l0.length : Int) x11_1 = some r) ∧ Aside0 (kq ≤ k) ∧ Aside0 (Below w.heap.size w w'))
 case atStart => exact ⟨(0), (0), (0), z1, z1, z1, H', ⟨Nat.le_refl _⟩, ⟨y5⟩⟩
 case round =>
  clear H'
  try clear c1
  try clear p2
  obtain ⟨x5_1, x6_1, x11_1, rfl, rfl, rfl, HA, HK1, HB⟩ := hrel
  cases gk with
  | zero => exact absurd HA.out (by simp [impl_putsWithin.l0])
  | succ k1 =>
   have H := HA.out
   clear HA
   simp only [impl_putsWithin.l0] at H
   by_cases c3 : x11_1 < (l0.length : Int)
   ·rw [if_pos c3] at H
    have c3b0 : decide (x11_1 < (l0.length : Int)) = true := dT c3
    clear c3
    by_cases c4 : 0 ≤ x11_1
    ·rw [if_pos c4] at H
     have c4b0 : decide (0 ≤ x11_1) = true := dT c4
     clear c4
     by_cases c5 : x11_1 < (l0.length : Int)
     ·rw [if_pos c5] at H
      have c5b0 : decide (x11_1 < (l0.length : Int)) = true := dT c5
      clear c5
      by_cases c6 : ((rd_T44 l0 x11_1).f1).toList = ([] : List UInt8)
      ·rw [if_pos c6] at H
       have c6b0 : (((rd_T44 l0 x11_1).f1).toList == ([] : List UInt8)) = true := qT c6
       have c6b1 : (((rd_T44 l0 x11_1).f1).toList != ([] : List UInt8)) = false := nF c6
       have c6b8 : (!((rd_T44 l0 x11_1).f1).toList.isEmpty) = false := by have h_ := c6b1; revert h_; cases ((rd_T44 l0 x11_1).f1).toList <;> simp
       clear c6
       have H' := aM H
       clear H
       have p356 : 0 ≤ (x11_1 : Int) := oD z2
       have q356 : x11_1 < (l0.length : Int) := oD z2
       obtain ⟨ad356, e356, hx356_0, hx356_1, hx356_2⟩ := at_T44 bG.out x11_1 p356 q356
       cases e356
       replace hx356_0 := (HB.out.cell (World.block_lt_of_cell? w _ hx356_0)).trans hx356_0
       replace hx356_1 := (HB.out.cell (World.block_lt_of_cell? w _ hx356_1)).trans hx356_1
       replace hx356_2 := (HB.out.cell (World.block_lt_of_cell? w _ hx356_2)).trans hx356_2
       replace p356 := eq_true p356
       replace q356 := eq_true q356
       go_wp2_with (first | ((with_reducible refine aD (N := 8) rfl ?_); (try (refine gate_guard (by rfl) ?_; dsimp only)); refine aE ?hg (N := 8) ?hd (cs := #[.int .i64 0, .string (⟨#[]⟩ : ByteArray), .string (⟨#[]⟩ : ByteArray)]) (t := 44) ?hr ?_; (case hd => rfl); (case hg => rfl); (case hr => first | (go_simp; done) | (go_simp; rfl)); intro bc hg w7 hbox hb; have aT := aM (ap z9 hb); have aU := aM (hbox); have aX := aM ((by rw [hg]; exact (aq z9) : w.heap.size ≤ bc)); have a5 := aM ((by rw [hg]; exact (aq z9) : w.heap.size ≤ bc)); clear HB; have HB := aT; have bs := aU; have cp := aX; have hZ := a5; clear aT aU aX a5; clear hb hbox hg; have dq : w7.cell? ⟨bc, 0, none⟩ = some (.int .i64 0) := (bC bs.out 0).trans rfl; have dp : w7.cell? ⟨bc, 1, none⟩ = some (.string (⟨#[]⟩ : ByteArray)) := (bC bs.out 1).trans rfl; have dn : w7.cell? ⟨bc, 2, none⟩ = some (.string (⟨#[]⟩ : ByteArray)) := (bC bs.out 2).trans rfl; have dm := bF bs.out 0; have dl := bF bs.out 1; have dk := bF bs.out 2))
       all_goals (try (exfalso; rename_i h_; rw [c6b0] at h_; cases h_; done))
       go_roundg k1
       case measure => have := HK1.out; omega
       case rel => exact ⟨(x5_1), (wrap64 (x6_1 + (wrap64 (((rd_T44 l0 x11_1).f0) + (((rd_T44 l0 x11_1).f2).size : Int))))), (wrap64 (x11_1 + 1)), z1, z1, z1, H', ⟨y0⟩, ⟨y15⟩⟩
      ·rw [if_neg c6] at H
       have c6b0 : (((rd_T44 l0 x11_1).f1).toList == ([] : List UInt8)) = false := qF c6
       have c6b1 : (((rd_T44 l0 x11_1).f1).toList != ([] : List UInt8)) = true := nT c6
       have c6b8 : (!((rd_T44 l0 x11_1).f1).toList.isEmpty) = true := by have h_ := c6b1; revert h_; cases ((rd_T44 l0 x11_1).f1).toList <;> simp
       by_cases c9 : x6_1 > 0
       ·rw [if_pos c9] at H
        have c9b0 : decide (0 < x6_1) = true := dT c9
        clear c9
        by_cases bz : x6_1 < (l1.length : Int)
        ·rw [if_pos bz] at H
         have c10b0 : decide (x6_1 < (l1.length : Int)) = true := dT bz
         clear bz
         obtain ⟨dc, ej⟩ : ∃ j_ : Int, (wrap64 (x6_1 - 1)) = j_ := ⟨_, rfl⟩
         replace H : (if 0 ≤ (dc) then (if (dc) < (l1.length : Int) then (if (rd l1 (dc)) = 0 then (impl_putsWithin.l0 k1 l1 x5_1 (wrap64 (x6_1 + (wrap64 (((rd_T44 l0 x11_1).f0) + (((rd_T44 l0 x11_1).f2).size : Int))))) l0 (l0.length : Int) (wrap64 (x11_1 + 1))) else (if 0 ≤ x6_1 then (if (rd l1 x6_1) = 0 then (impl_putsWithin.l0 k1 l1 x5_1 (wrap64 (x6_1 + (wrap64 (((rd_T44 l0 x11_1).f0) + (((rd_T44 l0 x11_1).f2).size : Int))))) l0 (l0.length : Int) (wrap64 (x11_1 + 1))) else (impl_putsWithin.l0 k1 l1 (wrap64 (x5_1 + 1)) (wrap64 (x6_1 + (wrap64 (((rd_T44 l0 x11_1).f0) + (((rd_T44 l0 x11_1).f2).size : Int))))) l0 (l0.length : Int) (wrap64 (x11_1 + 1)))) else (none))) else (none)) else (none)) = some r := by first | (rw [ej] at H; exact H) | (simp only [ej] at H ⊢; exact H)
         have hji11w : (IntKind.i64.wrap (x6_1 - 1)) = dc := (i64_w _).trans ej
         by_cases cd : 0 ≤ (dc)
         ·rw [if_pos cd] at H
          have c12b0 : decide (0 ≤ (dc)) = true := dT cd
          clear cd
          by_cases bR : (dc) < (l1.length : Int)
          ·rw [if_pos bR] at H
           have c13b0 : decide ((dc) < (l1.length : Int)) = true := dT bR
           clear bR
           by_cases ce : (rd l1 (dc)) = 0
           ·rw [if_pos ce] at H
            have c14b0 : ((rd l1 (dc)) == 0) = true := qT ce
            have c14b1 : ((rd l1 (dc)) != 0) = false := nF ce
            clear ce
            have H' := aM H
            clear H
            have p356 : 0 ≤ (x11_1 : Int) := oD z2
            have q356 : x11_1 < (l0.length : Int) := oD z2
            obtain ⟨ad356, e356, hx356_0, hx356_1, hx356_2⟩ := at_T44 bG.out x11_1 p356 q356
            cases e356
            replace hx356_0 := (HB.out.cell (World.block_lt_of_cell? w _ hx356_0)).trans hx356_0
            replace hx356_1 := (HB.out.cell (World.block_lt_of_cell? w _ hx356_1)).trans hx356_1
            replace hx356_2 := (HB.out.cell (World.block_lt_of_cell? w _ hx356_2)).trans hx356_2
            replace p356 := eq_true p356
            replace q356 := eq_true q356
            go_wp2_with (first | ((with_reducible refine aD (N := 8) rfl ?_); (try (refine gate_guard (by rfl) ?_; dsimp only)); refine aE ?hg (N := 8) ?hd (cs := #[.int .i64 0, .string (⟨#[]⟩ : ByteArray), .string (⟨#[]⟩ : ByteArray)]) (t := 44) ?hr ?_; (case hd => rfl); (case hg => rfl); (case hr => first | (go_simp; done) | (go_simp; rfl)); intro bc hg w15 hbox hb; have aT := aM (ap z9 hb); have aU := aM (hbox); have aX := aM ((by rw [hg]; exact (aq z9) : w.heap.size ≤ bc)); have a5 := aM ((by rw [hg]; exact (aq z9) : w.heap.size ≤ bc)); clear HB; have HB := aT; have bs := aU; have cp := aX; have hZ := a5; clear aT aU aX a5; clear hb hbox hg; have hcz16_0 : w15.cell? ⟨bc, 0, none⟩ = some (.int .i64 0) := (bC bs.out 0).trans rfl; have hcz16_1 : w15.cell? ⟨bc, 1, none⟩ = some (.string (⟨#[]⟩ : ByteArray)) := (bC bs.out 1).trans rfl; have hcz16_2 : w15.cell? ⟨bc, 2, none⟩ = some (.string (⟨#[]⟩ : ByteArray)) := (bC bs.out 2).trans rfl; have hfz16_0 := bF bs.out 0; have hfz16_1 := bF bs.out 1; have hfz16_2 := bF bs.out 2; have p358 : 0 ≤ ((dc) : Int) := oD z2; have q358 : (dc) < (l1.length : Int) := oD z2; obtain ⟨ad358, e358, hx358_0⟩ := Kd.at_int cz.out (dc) p358 q358; cases e358; have hn358_0 : ad358.block ≠ bc := ar (Nat.lt_of_lt_of_le (by have := World.block_lt_of_cell? _ _ hx358_0; first | rwa [add_block] at this | exact this) cp.out); have hn358_1 : ad358.block ≠ bc := ar (Nat.lt_of_lt_of_le (by have := World.block_lt_of_cell? _ _ hx358_0; first | rwa [add_block] at this | exact this) cp.out); have hn358_2 : ad358.block ≠ bc := ar (Nat.lt_of_lt_of_le (by have := World.block_lt_of_cell? _ _ hx358_0; first | rwa [add_block] at this | exact this) cp.out); replace hx358_0 := (HB.out.cell (World.block_lt_of_cell? w _ hx358_0)).trans hx358_0; replace hx358_0 := (cell_far (p := ⟨bc, 0, none⟩) (by first | (rw [add_block]; exact hn358_0) | (show (Addr.add _ _).block ≠ _; rw [add_block]; exact hn358_0) | exact hn358_0) (.int .i64 ((rd_T44 l0 x11_1).f0))).trans hx358_0; replace hx358_0 := (cell_far (p := ⟨bc, 1, none⟩) (by first | (rw [add_block]; exact hn358_1) | (show (Addr.add _ _).block ≠ _; rw [add_block]; exact hn358_1) | exact hn358_1) (.string ((rd_T44 l0 x11_1).f1))).trans hx358_0; replace hx358_0 := (cell_far (p := ⟨bc, 2, none⟩) (by first | (rw [add_block]; exact hn358_2) | (show (Addr.add _ _).block ≠ _; rw [add_block]; exact hn358_2) | exact hn358_2) (.string ((rd_T44 l0 x11_1).f2))).trans hx358_0; clear hn358_0; clear hn358_1; clear hn358_2; replace p358 := eq_true p358; replace q358 := eq_true q358))
            all_goals (try (exfalso; rename_i h_; rw [c6b0] at h_; cases h_; done))
            go_roundg k1
            case measure => have := HK1.out; omega
            case rel => exact ⟨(x5_1), (wrap64 (x6_1 + (wrap64 (((rd_T44 l0 x11_1).f0) + (((rd_T44 l0 x11_1).f2).size : Int))))), (wrap64 (x11_1 + 1)), z1, z1, z1, (by first | exact H' | (simp only [ej]; exact H') | (simp only [← ej]; exact H')), ⟨y0⟩, ⟨y15⟩⟩
           ·rw [if_neg ce] at H
            have c14b0 : ((rd l1 (dc)) == 0) = false := qF ce
            have c14b1 : ((rd l1 (dc)) != 0) = true := nT ce
            by_cases cB : 0 ≤ x6_1
            ·rw [if_pos cB] at H
             have c17b0 : decide (0 ≤ x6_1) = true := dT cB
             clear cB
             by_cases cn : (rd l1 x6_1) = 0
             ·rw [if_pos cn] at H
              have c18b0 : ((rd l1 x6_1) == 0) = true := qT cn
              have c18b1 : ((rd l1 x6_1) != 0) = false := nF cn
              clear cn
              have H' := aM H
              clear H
              have p356 : 0 ≤ (x11_1 : Int) := oD z2
              have q356 : x11_1 < (l0.length : Int) := oD z2
              obtain ⟨ad356, e356, hx356_0, hx356_1, hx356_2⟩ := at_T44 bG.out x11_1 p356 q356
              cases e356
              replace hx356_0 := (HB.out.cell (World.block_lt_of_cell? w _ hx356_0)).trans hx356_0
              replace hx356_1 := (HB.out.cell (World.block_lt_of_cell? w _ hx356_1)).trans hx356_1
              replace hx356_2 := (HB.out.cell (World.block_lt_of_cell? w _ hx356_2)).trans hx356_2
              replace p356 := eq_true p356
              replace q356 := eq_true q356
              go_wp2_with (first | ((with_reducible refine aD (N := 8) rfl ?_); (try (refine gate_guard (by rfl) ?_; dsimp only)); refine aE ?hg (N := 8) ?hd (cs := #[.int .i64 0, .string (⟨#[]⟩ : ByteArray), .string (⟨#[]⟩ : ByteArray)]) (t := 44) ?hr ?_; (case hd => rfl); (case hg => rfl); (case hr => first | (go_simp; done) | (go_simp; rfl)); intro bc hg w19 hbox hb; have aT := aM (ap z9 hb); have aU := aM (hbox); have aX := aM ((by rw [hg]; exact (aq z9) : w.heap.size ≤ bc)); have a5 := aM ((by rw [hg]; exact (aq z9) : w.heap.size ≤ bc)); clear HB; have HB := aT; have bs := aU; have cp := aX; have hZ := a5; clear aT aU aX a5; clear hb hbox hg; have gF : w19.cell? ⟨bc, 0, none⟩ = some (.int .i64 0) := (bC bs.out 0).trans rfl; have gE : w19.cell? ⟨bc, 1, none⟩ = some (.string (⟨#[]⟩ : ByteArray)) := (bC bs.out 1).trans rfl; have gD : w19.cell? ⟨bc, 2, none⟩ = some (.string (⟨#[]⟩ : ByteArray)) := (bC bs.out 2).trans rfl; have gf := bF bs.out 0; have gc := bF bs.out 1; have gb := bF bs.out 2; have p358 : 0 ≤ ((dc) : Int) := oD z2; have q358 : (dc) < (l1.length : Int) := oD z2; obtain ⟨ad358, e358, hx358_0⟩ := Kd.at_int cz.out (dc) p358 q358; cases e358; have hn358_0 : ad358.block ≠ bc := ar (Nat.lt_of_lt_of_le (by have := World.block_lt_of_cell? _ _ hx358_0; first | rwa [add_block] at this | exact this) cp.out); have hn358_1 : ad358.block ≠ bc := ar (Nat.lt_of_lt_of_le (by have := World.block_lt_of_cell? _ _ hx358_0; first | rwa [add_block] at this | exact this) cp.out); have hn358_2 : ad358.block ≠ bc := ar (Nat.lt_of_lt_of_le (by have := World.block_lt_of_cell? _ _ hx358_0; first | rwa [add_block] at this | exact this) cp.out); replace hx358_0 := (HB.out.cell (World.block_lt_of_cell? w _ hx358_0)).trans hx358_0; replace hx358_0 := (cell_far (p := ⟨bc, 0, none⟩) (by first | (rw [add_block]; exact hn358_0) | (show (Addr.add _ _).block ≠ _; rw [add_block]; exact hn358_0) | exact hn358_0) (.int .i64 ((rd_T44 l0 x11_1).f0))).trans hx358_0; replace hx358_0 := (cell_far (p := ⟨bc, 1, none⟩) (by first | (rw [add_block]; exact hn358_1) | (show (Addr.add _ _).block ≠ _; rw [add_block]; exact hn358_1) | exact hn358_1) (.string ((rd_T44 l0 x11_1).f1))).trans hx358_0; replace hx358_0 := (cell_far (p := ⟨bc, 2, none⟩) (by first | (rw [add_block]; exact hn358_2) | (show (Addr.add _ _).block ≠ _; rw [add_block]; exact hn358_2) | exact hn358_2) (.string ((rd_T44 l0 x11_1).f2))).trans hx358_0; clear hn358_0; clear hn358_1; clear hn358_2; replace p358 := eq_true p358; replace q358 := eq_true q358; have p359 : 0 ≤ (x6_1 : Int) := oD z2; have q359 : x6_1 < (l1.length : Int) := oD z2; obtain ⟨ad359, e359, hx359_0⟩ := Kd.at_int cz.out x6_1 p359 q359; obtain rfl : ad358 = ad359 := (by injection e359); have hn359_0 : ad358.block ≠ bc := ar (Nat.lt_of_lt_of_le (by have := World.block_lt_of_cell? _ _ hx359_0; first | rwa [add_block] at this | exact this) cp.out); have hn359_1 : ad358.block ≠ bc := ar (Nat.lt_of_lt_of_le (by have := World.block_lt_of_cell? _ _ hx359_0; first | rwa [add_block] at this | exact this) cp.out); have hn359_2 : ad358.block ≠ bc := ar (Nat.lt_of_lt_of_le (by have := World.block_lt_of_cell? _ _ hx359_0; first | rwa [add_block] at this | exact this) cp.out); replace hx359_0 := (HB.out.cell (World.block_lt_of_cell? w _ hx359_0)).trans hx359_0; replace hx359_0 := (cell_far (p := ⟨bc, 0, none⟩) (by first | (rw [add_block]; exact hn359_0) | (show (Addr.add _ _).block ≠ _; rw [add_block]; exact hn359_0) | exact hn359_0) (.int .i64 ((rd_T44 l0 x11_1).f0))).trans hx359_0; replace hx359_0 := (cell_far (p := ⟨bc, 1, none⟩) (by first | (rw [add_block]; exact hn359_1) | (show (Addr.add _ _).block ≠ _; rw [add_block]; exact hn359_1) | exact hn359_1) (.string ((rd_T44 l0 x11_1).f1))).trans hx359_0; replace hx359_0 := (cell_far (p := ⟨bc, 2, none⟩) (by first | (rw [add_block]; exact hn359_2) | (show (Addr.add _ _).block ≠ _; rw [add_block]; exact hn359_2) | exact hn359_2) (.string ((rd_T44 l0 x11_1).f2))).trans hx359_0; clear hn359_0; clear hn359_1; clear hn359_2; replace p359 := eq_true p359; replace q359 := eq_true q359))
              all_goals (try (exfalso; rename_i h_; rw [c6b0] at h_; cases h_; done))
              go_roundg k1
              case measure => have := HK1.out; omega
              case rel => exact ⟨(x5_1), (wrap64 (x6_1 + (wrap64 (((rd_T44 l0 x11_1).f0) + (((rd_T44 l0 x11_1).f2).size : Int))))), (wrap64 (x11_1 + 1)), z1, z1, z1, (by first | exact H' | (simp only [ej]; exact H') | (simp only [← ej]; exact H')), ⟨y0⟩, ⟨y15⟩⟩
             ·rw [if_neg cn] at H
              have c18b0 : ((rd l1 x6_1) == 0) = false := qF cn
              have c18b1 : ((rd l1 x6_1) != 0) = true := nT cn
              have H' := aM H
              clear H
              have p356 : 0 ≤ (x11_1 : Int) := oD z2
              have q356 : x11_1 < (l0.length : Int) := oD z2
              obtain ⟨ad356, e356, hx356_0, hx356_1, hx356_2⟩ := at_T44 bG.out x11_1 p356 q356
              cases e356
              replace hx356_0 := (HB.out.cell (World.block_lt_of_cell? w _ hx356_0)).trans hx356_0
              replace hx356_1 := (HB.out.cell (World.block_lt_of_cell? w _ hx356_1)).trans hx356_1
              replace hx356_2 := (HB.out.cell (World.block_lt_of_cell? w _ hx356_2)).trans hx356_2
              replace p356 := eq_true p356
              replace q356 := eq_true q356
              go_wp2_with (first | ((with_reducible refine aD (N := 8) rfl ?_); (try (refine gate_guard (by rfl) ?_; dsimp only)); refine aE ?hg (N := 8) ?hd (cs := #[.int .i64 0, .string (⟨#[]⟩ : ByteArray), .string (⟨#[]⟩ : ByteArray)]) (t := 44) ?hr ?_; (case hd => rfl); (case hg => rfl); (case hr => first | (go_simp; done) | (go_simp; rfl)); intro bc hg w21 hbox hb; have aT := aM (ap z9 hb); have aU := aM (hbox); have aX := aM ((by rw [hg]; exact (aq z9) : w.heap.size ≤ bc)); have a5 := aM ((by rw [hg]; exact (aq z9) : w.heap.size ≤ bc)); clear HB; have HB := aT; have bs := aU; have cp := aX; have hZ := a5; clear aT aU aX a5; clear hb hbox hg; have dJ : w21.cell? ⟨bc, 0, none⟩ = some (.int .i64 0) := (bC bs.out 0).trans rfl; have dI : w21.cell? ⟨bc, 1, none⟩ = some (.string (⟨#[]⟩ : ByteArray)) := (bC bs.out 1).trans rfl; have dH : w21.cell? ⟨bc, 2, none⟩ = some (.string (⟨#[]⟩ : ByteArray)) := (bC bs.out 2).trans rfl; have dC := bF bs.out 0; have dB := bF bs.out 1; have dA := bF bs.out 2; have p358 : 0 ≤ ((dc) : Int) := oD z2; have q358 : (dc) < (l1.length : Int) := oD z2; obtain ⟨ad358, e358, hx358_0⟩ := Kd.at_int cz.out (dc) p358 q358; cases e358; have hn358_0 : ad358.block ≠ bc := ar (Nat.lt_of_lt_of_le (by have := World.block_lt_of_cell? _ _ hx358_0; first | rwa [add_block] at this | exact this) cp.out); have hn358_1 : ad358.block ≠ bc := ar (Nat.lt_of_lt_of_le (by have := World.block_lt_of_cell? _ _ hx358_0; first | rwa [add_block] at this | exact this) cp.out); have hn358_2 : ad358.block ≠ bc := ar (Nat.lt_of_lt_of_le (by have := World.block_lt_of_cell? _ _ hx358_0; first | rwa [add_block] at this | exact this) cp.out); replace hx358_0 := (HB.out.cell (World.block_lt_of_cell? w _ hx358_0)).trans hx358_0; replace hx358_0 := (cell_far (p := ⟨bc, 0, none⟩) (by first | (rw [add_block]; exact hn358_0) | (show (Addr.add _ _).block ≠ _; rw [add_block]; exact hn358_0) | exact hn358_0) (.int .i64 ((rd_T44 l0 x11_1).f0))).trans hx358_0; replace hx358_0 := (cell_far (p := ⟨bc, 1, none⟩) (by first | (rw [add_block]; exact hn358_1) | (show (Addr.add _ _).block ≠ _; rw [add_block]; exact hn358_1) | exact hn358_1) (.string ((rd_T44 l0 x11_1).f1))).trans hx358_0; replace hx358_0 := (cell_far (p := ⟨bc, 2, none⟩) (by first | (rw [add_block]; exact hn358_2) | (show (Addr.add _ _).block ≠ _; rw [add_block]; exact hn358_2) | exact hn358_2) (.string ((rd_T44 l0 x11_1).f2))).trans hx358_0; clear hn358_0; clear hn358_1; clear hn358_2; replace p358 := eq_true p358; replace q358 := eq_true q358; have p359 : 0 ≤ (x6_1 : Int) := oD z2; have q359 : x6_1 < (l1.length : Int) := oD z2; obtain ⟨ad359, e359, hx359_0⟩ := Kd.at_int cz.out x6_1 p359 q359; obtain rfl : ad358 = ad359 := (by injection e359); have hn359_0 : ad358.block ≠ bc := ar (Nat.lt_of_lt_of_le (by have := World.block_lt_of_cell? _ _ hx359_0; first | rwa [add_block] at this | exact this) cp.out); have hn359_1 : ad358.block ≠ bc := ar (Nat.lt_of_lt_of_le (by have := World.block_lt_of_cell? _ _ hx359_0; first | rwa [add_block] at this | exact this) cp.out); have hn359_2 : ad358.block ≠ bc := ar (Nat.lt_of_lt_of_le (by have := World.block_lt_of_cell? _ _ hx359_0; first | rwa [add_block] at this | exact this) cp.out); replace hx359_0 := (HB.out.cell (World.block_lt_of_cell? w _ hx359_0)).trans hx359_0; replace hx359_0 := (cell_far (p := ⟨bc, 0, none⟩) (by first | (rw [add_block]; exact hn359_0) | (show (Addr.add _ _).block ≠ _; rw [add_block]; exact hn359_0) | exact hn359_0) (.int .i64 ((rd_T44 l0 x11_1).f0))).trans hx359_0; replace hx359_0 := (cell_far (p := ⟨bc, 1, none⟩) (by first | (rw [add_block]; exact hn359_1) | (show (Addr.add _ _).block ≠ _; rw [add_block]; exact hn359_1) | exact hn359_1) (.string ((rd_T44 l0 x11_1).f1))).trans hx359_0; replace hx359_0 := (cell_far (p := ⟨bc, 2, none⟩) (by first | (rw [add_block]; exact hn359_2) | (show (Addr.add _ _).block ≠ _; rw [add_block]; exact hn359_2) | exact hn359_2) (.string ((rd_T44 l0 x11_1).f2))).trans hx359_0; clear hn359_0; clear hn359_1; clear hn359_2; replace p359 := eq_true p359; replace q359 := eq_true q359))
              all_goals (try (exfalso; rename_i h_; rw [c6b0] at h_; cases h_; done))
              go_roundg k1
              case measure => have := HK1.out; omega
              case rel => exact ⟨(wrap64 (x5_1 + 1)), (wrap64 (x6_1 + (wrap64 (((rd_T44 l0 x11_1).f0) + (((rd_T44 l0 x11_1).f2).size : Int))))), (wrap64 (x11_1 + 1)), z1, z1, z1, (by first | exact H' | (simp only [ej]; exact H') | (simp only [← ej]; exact H')), ⟨y0⟩, ⟨y15⟩⟩
            ·rw [if_neg cB] at H
             exact absurd H (by simp)
          ·rw [if_neg bR] at H
           exact absurd H (by simp)
         ·rw [if_neg cd] at H
          exact absurd H (by simp)
        ·rw [if_neg bz] at H
         have c10b0 : decide (x6_1 < (l1.length : Int)) = false := dF bz
         clear bz
         have H' := aM H
         clear H
         have p356 : 0 ≤ (x11_1 : Int) := oD z2
         have q356 : x11_1 < (l0.length : Int) := oD z2
         obtain ⟨ad356, e356, hx356_0, hx356_1, hx356_2⟩ := at_T44 bG.out x11_1 p356 q356
         cases e356
         replace hx356_0 := (HB.out.cell (World.block_lt_of_cell? w _ hx356_0)).trans hx356_0
         replace hx356_1 := (HB.out.cell (World.block_lt_of_cell? w _ hx356_1)).trans hx356_1
         replace hx356_2 := (HB.out.cell (World.block_lt_of_cell? w _ hx356_2)).trans hx356_2
         replace p356 := eq_true p356
         replace q356 := eq_true q356
         go_wp2_with (first | ((with_reducible refine aD (N := 8) rfl ?_); (try (refine gate_guard (by rfl) ?_; dsimp only)); refine aE ?hg (N := 8) ?hd (cs := #[.int .i64 0, .string (⟨#[]⟩ : ByteArray), .string (⟨#[]⟩ : ByteArray)]) (t := 44) ?hr ?_; (case hd => rfl); (case hg => rfl); (case hr => first | (go_simp; done) | (go_simp; rfl)); intro bc hg w23 hbox hb; have aT := aM (ap z9 hb); have aU := aM (hbox); have aX := aM ((by rw [hg]; exact (aq z9) : w.heap.size ≤ bc)); have a5 := aM ((by rw [hg]; exact (aq z9) : w.heap.size ≤ bc)); clear HB; have HB := aT; have bs := aU; have cp := aX; have hZ := a5; clear aT aU aX a5; clear hb hbox hg; have jw : w23.cell? ⟨bc, 0, none⟩ = some (.int .i64 0) := (bC bs.out 0).trans rfl; have jv : w23.cell? ⟨bc, 1, none⟩ = some (.string (⟨#[]⟩ : ByteArray)) := (bC bs.out 1).trans rfl; have ju : w23.cell? ⟨bc, 2, none⟩ = some (.string (⟨#[]⟩ : ByteArray)) := (bC bs.out 2).trans rfl; have i7 := bF bs.out 0; have i6 := bF bs.out 1; have i5 := bF bs.out 2))
         all_goals (try (exfalso; rename_i h_; rw [c6b0] at h_; cases h_; done))
         go_roundg k1
         case measure => have := HK1.out; omega
         case rel => exact ⟨(x5_1), (wrap64 (x6_1 + (wrap64 (((rd_T44 l0 x11_1).f0) + (((rd_T44 l0 x11_1).f2).size : Int))))), (wrap64 (x11_1 + 1)), z1, z1, z1, H', ⟨y0⟩, ⟨y15⟩⟩
       ·rw [if_neg c9] at H
        have c9b0 : decide (0 < x6_1) = false := dF c9
        clear c9
        have H' := aM H
        clear H
        have p356 : 0 ≤ (x11_1 : Int) := oD z2
        have q356 : x11_1 < (l0.length : Int) := oD z2
        obtain ⟨ad356, e356, hx356_0, hx356_1, hx356_2⟩ := at_T44 bG.out x11_1 p356 q356
        cases e356
        replace hx356_0 := (HB.out.cell (World.block_lt_of_cell? w _ hx356_0)).trans hx356_0
        replace hx356_1 := (HB.out.cell (World.block_lt_of_cell? w _ hx356_1)).trans hx356_1
        replace hx356_2 := (HB.out.cell (World.block_lt_of_cell? w _ hx356_2)).trans hx356_2
        replace p356 := eq_true p356
        replace q356 := eq_true q356
        go_wp2_with (first | ((with_reducible refine aD (N := 8) rfl ?_); (try (refine gate_guard (by rfl) ?_; dsimp only)); refine aE ?hg (N := 8) ?hd (cs := #[.int .i64 0, .string (⟨#[]⟩ : ByteArray), .string (⟨#[]⟩ : ByteArray)]) (t := 44) ?hr ?_; (case hd => rfl); (case hg => rfl); (case hr => first | (go_simp; done) | (go_simp; rfl)); intro bc hg w25 hbox hb; have aT := aM (ap z9 hb); have aU := aM (hbox); have aX := aM ((by rw [hg]; exact (aq z9) : w.heap.size ≤ bc)); have a5 := aM ((by rw [hg]; exact (aq z9) : w.heap.size ≤ bc)); clear HB; have HB := aT; have bs := aU; have cp := aX; have hZ := a5; clear aT aU aX a5; clear hb hbox hg; have cT : w25.cell? ⟨bc, 0, none⟩ = some (.int .i64 0) := (bC bs.out 0).trans rfl; have cS : w25.cell? ⟨bc, 1, none⟩ = some (.string (⟨#[]⟩ : ByteArray)) := (bC bs.out 1).trans rfl; have cR : w25.cell? ⟨bc, 2, none⟩ = some (.string (⟨#[]⟩ : ByteArray)) := (bC bs.out 2).trans rfl; have cQ := bF bs.out 0; have cP := bF bs.out 1; have cO := bF bs.out 2))
        all_goals (try (exfalso; rename_i h_; rw [c6b0] at h_; cases h_; done))
        go_roundg k1
        case measure => have := HK1.out; omega
        case rel => exact ⟨(x5_1), (wrap64 (x6_1 + (wrap64 (((rd_T44 l0 x11_1).f0) + (((rd_T44 l0 x11_1).f2).size : Int))))), (wrap64 (x11_1 + 1)), z1, z1, z1, H', ⟨y0⟩, ⟨y15⟩⟩
     ·rw [if_neg c5] at H
      exact absurd H (by simp)
    ·rw [if_neg c4] at H
     exact absurd H (by simp)
   ·rw [if_neg c3] at H
    have c3b0 : decide (x11_1 < (l0.length : Int)) = false := dF c3
    clear c3
    obtain rfl := sI H
    go_wp2
    go_ret
    exact ⟨y4, y5⟩

/-! ### impl_ClashesOf: function 11 -/
mutual
def impl_ClashesOf.j0 : Nat → List (S44) → List (S44) → Bool → Option (Int × Bool)
 | 0, _, _, _ => none
 | k + 1, x0, x1, x24 => if x24 = true then (some (0, false)) else ((impl_dropped.f k x0).bind fun cH => ((impl_dropped.f k x1).bind fun dx => ((impl_normal.f x0).bind fun ke => ((impl_putsWithin.f k ke dx).bind fun ll => ((impl_normal.f x1).bind fun kd => ((impl_putsWithin.f k kd cH).bind fun lh => (impl_ClashesOf.l0 k dx (wrap64 (ll + lh)) cH (cH.length : Int) 0)))))))
def impl_ClashesOf.l0 : Nat → List Int → Int → List Int → Int → Int → Option (Int × Bool)
 | 0, _, _, _, _, _ => none
 | k + 1, x9, x10, x38, x39, x40 => if x40 < x39 then (if 0 ≤ x40 then (if x40 < (x38.length : Int) then (if (rd x38 x40) = 0 then (impl_ClashesOf.l0 k x9 x10 x38 x39 (wrap64 (x40 + 1))) else (if x40 < (x9.length : Int) then (if (rd x9 x40) = 0 then (impl_ClashesOf.l0 k x9 x10 x38 x39 (wrap64 (x40 + 1))) else (impl_ClashesOf.l0 k x9 (wrap64 (x10 + 1)) x38 x39 (wrap64 (x40 + 1)))) else (none))) else (none)) else (none)) else (some (x10, true))
end
def impl_ClashesOf.f (k : Nat) (l0 : List (S44)) (l1 : List (S44)) : Option (Int × Bool) := (impl_SameTexts.f k l0 l1).bind fun hU => (if hU.2 = true then (impl_ClashesOf.j0 k l0 l1 (!hU.1)) else (impl_ClashesOf.j0 k l0 l1 true))
theorem impl_ClashesOf.mono_l : ∀ k, (∀ y0 y1 y2, LeO (impl_ClashesOf.j0 k y0 y1 y2) (impl_ClashesOf.j0 (k + 1) y0 y1 y2)) ∧ (∀ y0 y1 y2 y3 y4, LeO (impl_ClashesOf.l0 k y0 y1 y2 y3 y4) (impl_ClashesOf.l0 (k + 1) y0 y1 y2 y3 y4))
 | 0 => ⟨fun _ _ _ r h => by simp [impl_ClashesOf.j0] at h, fun _ _ _ _ _ r h => by simp [impl_ClashesOf.l0] at h⟩
 | k + 1 => by
  obtain ⟨ih0, ih1⟩ := impl_ClashesOf.mono_l k
  refine ⟨?_, ?_⟩
  ·intro y0 y1 y2
   unfold impl_ClashesOf.j0
   repeat' first
   | (with_reducible exact ih0 _ _ _)
   | (with_reducible exact ih1 _ _ _ _ _)
   | (with_reducible exact impl_SameTexts.mono _ _ _)
   | (with_reducible exact impl_dropped.mono _ _)
   | (with_reducible exact impl_putsWithin.mono _ _ _)
   | (with_reducible exact LeO.refl _)
   | (with_reducible exact LeO.none _)
   | (with_reducible refine LeO.ite ?_ ?_)
   | (with_reducible refine LeO.bind ?_ (fun _ => ?_))
   | exact ih0 _ _ _
   | exact ih1 _ _ _ _ _
   | exact impl_SameTexts.mono _ _ _
   | exact impl_dropped.mono _ _
   | exact impl_putsWithin.mono _ _ _
   | exact LeO.none _
   | refine LeO.ite ?_ ?_
   | refine LeO.bind ?_ (fun _ => ?_)
  ·intro y0 y1 y2 y3 y4
   unfold impl_ClashesOf.l0
   repeat' first
   | (with_reducible exact ih0 _ _ _)
   | (with_reducible exact ih1 _ _ _ _ _)
   | (with_reducible exact impl_SameTexts.mono _ _ _)
   | (with_reducible exact impl_dropped.mono _ _)
   | (with_reducible exact impl_putsWithin.mono _ _ _)
   | (with_reducible exact LeO.refl _)
   | (with_reducible exact LeO.none _)
   | (with_reducible refine LeO.ite ?_ ?_)
   | (with_reducible refine LeO.bind ?_ (fun _ => ?_))
   | exact ih0 _ _ _
   | exact ih1 _ _ _ _ _
   | exact impl_SameTexts.mono _ _ _
   | exact impl_dropped.mono _ _
   | exact impl_putsWithin.mono _ _ _
   | exact LeO.none _
   | refine LeO.ite ?_ ?_
   | refine LeO.bind ?_ (fun _ => ?_)
theorem impl_ClashesOf.mono : ∀ a0 a1 k, LeO (impl_ClashesOf.f k a0 a1) (impl_ClashesOf.f (k + 1) a0 a1) := by
 intro a0 a1 k
 obtain ⟨ih0, ih1⟩ := impl_ClashesOf.mono_l k
 unfold impl_ClashesOf.f
 repeat' first
   | (with_reducible exact ih0 _ _ _)
   | (with_reducible exact ih1 _ _ _ _ _)
   | (with_reducible exact impl_SameTexts.mono _ _ _)
   | (with_reducible exact impl_dropped.mono _ _)
   | (with_reducible exact impl_putsWithin.mono _ _ _)
   | (with_reducible exact LeO.refl _)
   | (with_reducible exact LeO.none _)
   | (with_reducible refine LeO.ite ?_ ?_)
   | (with_reducible refine LeO.bind ?_ (fun _ => ?_))
   | exact ih0 _ _ _
   | exact ih1 _ _ _ _ _
   | exact impl_SameTexts.mono _ _ _
   | exact impl_dropped.mono _ _
   | exact impl_putsWithin.mono _ _ _
   | exact LeO.none _
   | refine LeO.ite ?_ ?_
   | refine LeO.bind ?_ (fun _ => ?_)
set_option maxHeartbeats 8000000 in
set_option maxRecDepth 100000 in
theorem impl_ClashesOf.calls (k : Nat) (A0 : Option Addr) (c0 : Nat) (l0 : List (S44)) (A1 : Option Addr) (c1 : Nat) (l1 : List (S44)) (r1 : Int) (r2 : Bool) (w : World) (hr0 : Kd.C k44 w A0 l0.length l0) (hc0 : l0.length ≤ c0) (hr1 : Kd.C k44 w A1 l1.length l1) (hc1 : l1.length ≤ c1) (h : impl_ClashesOf.f k l0 l1 = some (r1, r2)) :
  Calls Try.prog 11 #[.slice A0 l0.length c0, .slice A1 l1.length c1] w fun e w' => e = .returned (.tuple #[.int .i64 r1, .bool r2]) ∧ Below w.heap.size w w' := by
 have bG := aM hr0
 have b8 := aM hc0
 clear hr0 hc0
 have cz := aM hr1
 have dg := aM hc1
 clear hr1 hc1
 have HB := aM (Below.refl w.heap.size w)
 have H : ((impl_SameTexts.f k l0 l1).bind fun hU => (if hU.2 = true then (impl_ClashesOf.j0 k l0 l1 (!hU.1)) else (impl_ClashesOf.j0 k l0 l1 true))) = some (r1, r2) := h
 clear h
 replace H := oB H
 obtain ⟨⟨mB, mA⟩, eF, H⟩ := H
 try dsimp only at H
 have A3 := aM eF
 clear eF
 have nM := aM H
 clear H
 go_enter Try.func11, Try.ntmps11
 go_upto_region 2 with (first | ((with_reducible refine aC (f := 25) rfl ?_); refine aG (some 16) rfl rfl Try.func25 z0 rfl #[.slice A0 l0.length c0, .slice A1 l1.length c1] rfl z10 ?_; (with_reducible refine (impl_SameTexts.calls k _ _ l0 _ _ l1 mB mA _ ?side1 ?side2 ?side3 ?side4 A3.out).mono ?_); (case side1 => repeat (first | exact bG.out | (with_reducible refine av ?_ _) | (with_reducible refine aw ?_ _) | (with_reducible refine ay ?_))); (case side2 => exact b8.out); (case side3 => repeat (first | exact cz.out | (with_reducible refine av ?_ _) | (with_reducible refine aw ?_ _) | (with_reducible refine ay ?_))); (case side4 => exact dg.out); rintro e w5 ⟨rfl, hb⟩; refine ⟨_, rfl, ?_⟩; have aT := aM (ap z9 hb); clear HB; have HB := aT; clear aT; (try clear hb); (try clear hb2); (try clear hk); (try clear hi)))
 (try simp only [Act.put, sA, sB, sC])
 go_cut [24] (fun v24 wc => ∃ (kq : Nat) (x24_3 : Bool), v24 = .bool x24_3 ∧ Aside0 (impl_ClashesOf.j0 kq l0 l1 x24_3 = some (r1, r2)) ∧ Aside0 (kq ≤ k) ∧ Aside0 (Below w.heap.size w wc))
 case first =>
  have H := nM.out
  clear nM
  by_cases c6 : mA = true
  ·subst c6
   rw [if_pos rfl] at H
   have H' := aM H
   clear H
   go_wp2
   go_meet
   case rel => exact ⟨_, (!mB), z1, H', ⟨y1⟩, ⟨y5⟩⟩
  ·replace c6 := Bool.eq_false_iff.mpr c6
   subst c6
   rw [if_neg (show ¬ (false = true) by decide)] at H
   have H' := aM H
   clear H
   go_wp2
   go_meet
   case rel => exact ⟨_, (true), z1, H', ⟨y1⟩, ⟨y5⟩⟩
 case rest =>
  clear nM
  try clear c1
  try clear c2
  try clear p2
  try clear c6
  obtain ⟨kq, x24_3, rfl, HA, mv, HB⟩ := hcut
  cases kq with
  | zero => exact absurd HA.out (by simp [impl_ClashesOf.j0])
  | succ kj3 =>
   have H := HA.out
   clear HA
   simp only [impl_ClashesOf.j0] at H
   by_cases c7 : x24_3 = true
   ·subst c7
    rw [if_pos rfl] at H
    simp only [Option.some.injEq, Prod.mk.injEq] at H
    obtain ⟨rfl, rfl⟩ := H
    go_wp2
    go_ret2
    exact ⟨y4, y5⟩
   ·replace c7 := Bool.eq_false_iff.mpr c7
    subst c7
    rw [if_neg (show ¬ (false = true) by decide)] at H
    replace H := oB H
    obtain ⟨cH, k6, H⟩ := H
    try dsimp only at H
    have A8 := aM k6
    clear k6
    replace H := oB H
    obtain ⟨dx, ng, H⟩ := H
    try dsimp only at H
    have A9 := aM ng
    clear ng
    replace H := oB H
    obtain ⟨ke, la, H⟩ := H
    try dsimp only at H
    have lU := aM la
    clear la
    replace H := oB H
    obtain ⟨ll, da, H⟩ := H
    try dsimp only at H
    have eG := aM da
    clear da
    replace H := oB H
    obtain ⟨kd, ii, H⟩ := H
    try dsimp only at H
    have lC := aM ii
    clear ii
    replace H := oB H
    obtain ⟨lh, fv, H⟩ := H
    try dsimp only at H
    have iE := aM fv
    clear fv
    have H' := aM H
    clear H
    go_wp2_with (first | ((with_reducible refine aC (f := 31) rfl ?_); refine aG (some 26) rfl rfl Try.func31 z0 rfl #[.slice A0 l0.length c0] rfl z10 ?_; (with_reducible refine (impl_dropped.calls kj3 _ _ l0 cH _ ?side1 ?side2 A8.out).mono ?_); (case side1 => repeat (first | exact (au bG.out HB.out) | (with_reducible refine av ?_ _) | (with_reducible refine aw ?_ _) | (with_reducible refine ay ?_))); (case side2 => exact b8.out); rintro e w14 ⟨v363, rfl, ho0, hb⟩; refine ⟨_, rfl, ?_⟩; have aT := aM (aH ho0 (aq z9)); have aU := aM (ap z9 hb); clear HB; have co := aT; have HB := aU; clear aT aU; (try clear hb); (try clear hb2); (try clear hk); (try clear hi); (try clear ho0)) | ((with_reducible refine aC (f := 31) rfl ?_); refine aG (some 28) rfl rfl Try.func31 z0 rfl #[.slice A1 l1.length c1] rfl z10 ?_; (with_reducible refine (impl_dropped.calls kj3 _ _ l1 dx _ ?side1 ?side2 A9.out).mono ?_); (case side1 => repeat (first | exact (au cz.out HB.out) | (with_reducible refine av ?_ _) | (with_reducible refine aw ?_ _) | (with_reducible refine ay ?_))); (case side2 => exact dg.out); rintro e w15 ⟨v366, rfl, ho0, hb⟩; refine ⟨_, rfl, ?_⟩; have aT := aM (Kd.R_elder' (by (with_reducible repeat (first | apply ac | apply ab | apply aa)); exact co.out) (ai ho0) hb); have aU := aM (aH (ah ho0 (aj (by (with_reducible repeat (first | apply ac | apply ab | apply aa)); exact co.out))) (aq z9)); have aX := aM (ap z9 hb); clear co; clear HB; have co := aT; have cJ := aU; have HB := aX; clear aT aU aX; (try clear hb); (try clear hb2); (try clear hk); (try clear hi); (try clear ho0)) | ((with_reducible refine aC (f := 26) rfl ?_); refine aG (some 30) rfl rfl Try.func26 z0 rfl #[.slice A0 l0.length c0] rfl z10 ?_; (with_reducible refine (impl_normal.calls _ _ l0 ke _ ?side1 ?side2 lU.out).mono ?_); (case side1 => repeat (first | exact (au bG.out HB.out) | (with_reducible refine av ?_ _) | (with_reducible refine aw ?_ _) | (with_reducible refine ay ?_))); (case side2 => exact b8.out); rintro e w16 ⟨v369, rfl, ho0, hb⟩; refine ⟨_, rfl, ?_⟩; have aT := aM (ae (by (with_reducible repeat (first | apply ac | apply ab | apply aa)); exact co.out) hb); have aU := aM (ae (by (with_reducible repeat (first | apply ac | apply ab | apply aa)); exact cJ.out) hb); have aX := aM (aH ho0 (aq z9)); have a5 := aM (ap z9 hb); clear co; clear cJ; clear HB; have co := aT; have cJ := aU; have dv := aX; have HB := a5; clear aT aU aX a5; (try clear hb); (try clear hb2); (try clear hk); (try clear hi); (try clear ho0); obtain ⟨fq, e9, eo17⟩ := Kd.R_slice dv.out; subst eo17; obtain ⟨iD, iw, eo18⟩ := Kd.R_slice cJ.out; subst eo18) | ((with_reducible refine aC (f := 32) rfl ?_); refine aG (some 32) rfl rfl Try.func32 z0 rfl #[.slice fq ke.length e9, .slice iD dx.length iw] rfl z10 ?_; (with_reducible refine (impl_putsWithin.calls kj3 _ _ ke _ _ dx ll _ ?side1 ?side2 ?side3 ?side4 eG.out).mono ?_); (case side1 => repeat (first | exact (ag dv.out).2.2 | (with_reducible refine av ?_ _) | (with_reducible refine aw ?_ _) | (with_reducible refine ay ?_))); (case side2 => exact (ag dv.out).2.1); (case side3 => repeat (first | exact (ag cJ.out).2.2 | (with_reducible refine av ?_ _) | (with_reducible refine aw ?_ _) | (with_reducible refine ay ?_))); (case side4 => exact (ag cJ.out).2.1); rintro e w19 ⟨rfl, hb⟩; refine ⟨_, rfl, ?_⟩; have aT := aM (ae (by (with_reducible repeat (first | apply ac | apply ab | apply aa)); exact co.out) hb); have aU := aM (ae (by (with_reducible repeat (first | apply ac | apply ab | apply aa)); exact cJ.out) hb); have aX := aM (ae (by (with_reducible repeat (first | apply ac | apply ab | apply aa)); exact dv.out) hb); have a5 := aM (ap z9 hb); clear co; clear cJ; clear dv; clear HB; have co := aT; have cJ := aU; have dv := aX; have HB := a5; clear aT aU aX a5; (try clear hb); (try clear hb2); (try clear hk); (try clear hi)) | ((with_reducible refine aC (f := 26) rfl ?_); refine aG (some 34) rfl rfl Try.func26 z0 rfl #[.slice A1 l1.length c1] rfl z10 ?_; (with_reducible refine (impl_normal.calls _ _ l1 kd _ ?side1 ?side2 lC.out).mono ?_); (case side1 => repeat (first | exact (au cz.out HB.out) | (with_reducible refine av ?_ _) | (with_reducible refine aw ?_ _) | (with_reducible refine ay ?_))); (case side2 => exact dg.out); rintro e w20 ⟨v373, rfl, ho0, hb⟩; refine ⟨_, rfl, ?_⟩; have aT := aM (ae (by (with_reducible repeat (first | apply ac | apply ab | apply aa)); exact co.out) hb); have aU := aM (ae (by (with_reducible repeat (first | apply ac | apply ab | apply aa)); exact cJ.out) hb); have aX := aM (Kd.R_elder' (by (with_reducible repeat (first | apply ac | apply ab | apply aa)); exact dv.out) (ai ho0) hb); have a5 := aM (aH (ah ho0 (aj (by (with_reducible repeat (first | apply ac | apply ab | apply aa)); exact dv.out))) (aq z9)); have bf := aM (ap z9 hb); clear co; clear cJ; clear dv; clear HB; have co := aT; have cJ := aU; have dv := aX; have fG := a5; have HB := bf; clear aT aU aX a5 bf; (try clear hb); (try clear hb2); (try clear hk); (try clear hi); (try clear ho0); obtain ⟨Ao21, co21, eo21⟩ := Kd.R_slice fG.out; subst eo21; obtain ⟨k5, kG, eo22⟩ := Kd.R_slice co.out; subst eo22) | ((with_reducible refine aC (f := 32) rfl ?_); refine aG (some 36) rfl rfl Try.func32 z0 rfl #[.slice Ao21 kd.length co21, .slice k5 cH.length kG] rfl z10 ?_; (with_reducible refine (impl_putsWithin.calls kj3 _ _ kd _ _ cH lh _ ?side1 ?side2 ?side3 ?side4 iE.out).mono ?_); (case side1 => repeat (first | exact (ag fG.out).2.2 | (with_reducible refine av ?_ _) | (with_reducible refine aw ?_ _) | (with_reducible refine ay ?_))); (case side2 => exact (ag fG.out).2.1); (case side3 => repeat (first | exact (ag co.out).2.2 | (with_reducible refine av ?_ _) | (with_reducible refine aw ?_ _) | (with_reducible refine ay ?_))); (case side4 => exact (ag co.out).2.1); rintro e w23 ⟨rfl, hb⟩; refine ⟨_, rfl, ?_⟩; have aT := aM (ae (by (with_reducible repeat (first | apply ac | apply ab | apply aa)); exact co.out) hb); have aU := aM (ae (by (with_reducible repeat (first | apply ac | apply ab | apply aa)); exact cJ.out) hb); have aX := aM (ae (by (with_reducible repeat (first | apply ac | apply ab | apply aa)); exact dv.out) hb); have a5 := aM (ae (by (with_reducible repeat (first | apply ac | apply ab | apply aa)); exact fG.out) hb); have bf := aM (ap z9 hb); clear co; clear cJ; clear dv; clear fG; clear HB; have co := aT; have cJ := aU; have dv := aX; have fG := a5; have HB := bf; clear aT aU aX a5 bf; (try clear hb); (try clear hb2); (try clear hk); (try clear hi)))
    go_loopg [10, 40] kj3 (fun kq v10 v40 w' => ∃ (x10_2 : Int) (x40_2 : Int), v10 = .int .i64 x10_2 ∧ v40 = .int .i64 x40_2 ∧ Aside0 (impl_ClashesOf.l0 kq dx x10_2 cH (cH.length : Int) x40_2 = some (r1, r2)) ∧ Aside0 (kq ≤ kj3) ∧ Aside0 (Kd.R (Kd.int .u8) 5 w' w.heap.size (fun k_ => some k_ ≠ ((.slice k5 cH.length kG) : Value).ownBlock) (.slice iD dx.length iw) dx) ∧ Aside0 (Kd.R (Kd.int .u8) 5 w' w.heap.size (fun k_ => some k_ ≠ ((.slice iD dx.length iw) : Value).ownBlock) (.slice k5 cH.length kG) cH) ∧ Aside0 (Below w.heap.size w w'))
    case atStart => exact ⟨(wrap64 (ll + lh)), (0), z1, z1, H', ⟨Nat.le_refl _⟩, ⟨by (with_reducible repeat (first | apply ac | apply ab | apply aa)); exact af cJ.out (fun _ hk => hk.2)⟩, ⟨by (with_reducible repeat (first | apply ac | apply ab | apply aa)); exact af co.out (fun _ hk => hk.2)⟩, ⟨y5⟩⟩
    case round =>
     clear H'
     try clear c1
     try clear c2
     try clear p2
     try clear c3
     try clear c6
     try clear p6
     try clear c7
     try clear bV
     try clear p2
     obtain ⟨x10_2, x40_2, rfl, rfl, HA, HK2, ba, fE, HB⟩ := hrel
     cases gk with
     | zero => exact absurd HA.out (by simp [impl_ClashesOf.l0])
     | succ k2 =>
      have H := HA.out
      clear HA
      simp only [impl_ClashesOf.l0] at H
      by_cases dN : x40_2 < (cH.length : Int)
      ·rw [if_pos dN] at H
       have c24b0 : decide (x40_2 < (cH.length : Int)) = true := dT dN
       clear dN
       by_cases eA : 0 ≤ x40_2
       ·rw [if_pos eA] at H
        have c25b0 : decide (0 ≤ x40_2) = true := dT eA
        clear eA
        by_cases eD : x40_2 < (cH.length : Int)
        ·rw [if_pos eD] at H
         have c26b0 : decide (x40_2 < (cH.length : Int)) = true := dT eD
         clear eD
         by_cases fa : (rd cH x40_2) = 0
         ·rw [if_pos fa] at H
          have c27b0 : ((rd cH x40_2) == 0) = true := qT fa
          have c27b1 : ((rd cH x40_2) != 0) = false := nF fa
          clear fa
          have H' := aM H
          clear H
          have p376 : 0 ≤ (x40_2 : Int) := oD z2
          have q376 : x40_2 < (cH.length : Int) := oD z2
          obtain ⟨ad376, e376, hx376_0⟩ := Kd.at_int (ag fE.out).2.2 x40_2 p376 q376
          cases e376
          replace p376 := eq_true p376
          replace q376 := eq_true q376
          go_wp2
          go_roundg k2
          case measure => have := mv.out; have := HK2.out; omega
          case rel => exact ⟨(x10_2), (wrap64 (x40_2 + 1)), z1, z1, H', ⟨by have := mv.out; have := HK2.out; omega⟩, ⟨y9⟩, ⟨by (with_reducible repeat (first | apply ac | apply ab | apply aa)); exact fE.out⟩, ⟨y5⟩⟩
         ·rw [if_neg fa] at H
          have c27b0 : ((rd cH x40_2) == 0) = false := qF fa
          have c27b1 : ((rd cH x40_2) != 0) = true := nT fa
          by_cases d9 : x40_2 < (dx.length : Int)
          ·rw [if_pos d9] at H
           have c28b0 : decide (x40_2 < (dx.length : Int)) = true := dT d9
           clear d9
           by_cases de : (rd dx x40_2) = 0
           ·rw [if_pos de] at H
            have c29b0 : ((rd dx x40_2) == 0) = true := qT de
            have c29b1 : ((rd dx x40_2) != 0) = false := nF de
            clear de
            have H' := aM H
            clear H
            have p376 : 0 ≤ (x40_2 : Int) := oD z2
            have q376 : x40_2 < (cH.length : Int) := oD z2
            obtain ⟨ad376, e376, hx376_0⟩ := Kd.at_int (ag fE.out).2.2 x40_2 p376 q376
            cases e376
            replace p376 := eq_true p376
            replace q376 := eq_true q376
            have p377 : 0 ≤ (x40_2 : Int) := oD z2
            have q377 : x40_2 < (dx.length : Int) := oD z2
            obtain ⟨ad377, e377, hx377_0⟩ := Kd.at_int (ag ba.out).2.2 x40_2 p377 q377
            cases e377
            replace p377 := eq_true p377
            replace q377 := eq_true q377
            go_wp2
            go_roundg k2
            case measure => have := mv.out; have := HK2.out; omega
            case rel => exact ⟨(x10_2), (wrap64 (x40_2 + 1)), z1, z1, H', ⟨by have := mv.out; have := HK2.out; omega⟩, ⟨y9⟩, ⟨by (with_reducible repeat (first | apply ac | apply ab | apply aa)); exact fE.out⟩, ⟨y5⟩⟩
           ·rw [if_neg de] at H
            have c29b0 : ((rd dx x40_2) == 0) = false := qF de
            have c29b1 : ((rd dx x40_2) != 0) = true := nT de
            have H' := aM H
            clear H
            have p376 : 0 ≤ (x40_2 : Int) := oD z2
            have q376 : x40_2 < (cH.length : Int) := oD z2
            obtain ⟨ad376, e376, hx376_0⟩ := Kd.at_int (ag fE.out).2.2 x40_2 p376 q376
            cases e376
            replace p376 := eq_true p376
            replace q376 := eq_true q376
            have p377 : 0 ≤ (x40_2 : Int) := oD z2
            have q377 : x40_2 < (dx.length : Int) := oD z2
            obtain ⟨ad377, e377, hx377_0⟩ := Kd.at_int (ag ba.out).2.2 x40_2 p377 q377
            cases e377
            replace p377 := eq_true p377
            replace q377 := eq_true q377
            go_wp2
            go_roundg k2
            case measure => have := mv.out; have := HK2.out; omega
            case rel => exact ⟨(wrap64 (x10_2 + 1)), (wrap64 (x40_2 + 1)), z1, z1, H', ⟨by have := mv.out; have := HK2.out; omega⟩, ⟨y9⟩, ⟨by (with_reducible repeat (first | apply ac | apply ab | apply aa)); exact fE.out⟩, ⟨y5⟩⟩
          ·rw [if_neg d9] at H
           exact absurd H (by simp)
        ·rw [if_neg eD] at H
         exact absurd H (by simp)
       ·rw [if_neg eA] at H
        exact absurd H (by simp)
      ·rw [if_neg dN] at H
       have c24b0 : decide (x40_2 < (cH.length : Int)) = false := dF dN
       clear dN
       simp only [Option.some.injEq, Prod.mk.injEq] at H
       obtain ⟨rfl, rfl⟩ := H
       go_wp2
       go_ret2
       exact ⟨y4, y5⟩

/-! ### impl_ApplyOp: function 12 -/
mutual
def impl_ApplyOp.j0 : Nat → List (S44) → ByteArray → Bool → Option (ByteArray × Bool)
 | 0, _, _, _ => none
 | k + 1, x0, x1, x18 => if x18 = true then (some ((⟨#[]⟩ : ByteArray), false)) else ((impl_sizes.f k x0).bind fun bt380 => (if bt380.1 = (x1.size : Int) then (impl_ApplyOp.l0 k x1 (⟨#[]⟩ : ByteArray) x0 (x0.length : Int) 0) else (some ((⟨#[]⟩ : ByteArray), false))))
def impl_ApplyOp.l0 : Nat → ByteArray → ByteArray → List (S44) → Int → Int → Option (ByteArray × Bool)
 | 0, _, _, _, _, _ => none
 | k + 1, x1, x8, x28, x29, x30 => if x30 < x29 then (if 0 ≤ x30 then (if x30 < (x28.length : Int) then (if 0 ≤ (((rd_T44 x28 x30).f2).size : Int) then (if (((rd_T44 x28 x30).f2).size : Int) ≤ (x1.size : Int) then (if (x1.extract 0 ((((rd_T44 x28 x30).f2).size : Int) : Int).toNat).toList = ((rd_T44 x28 x30).f2).toList then (if 0 ≤ ((rd_T44 x28 x30).f0) then (if ((rd_T44 x28 x30).f0) ≤ (x1.size : Int) then (if (x1.extract 0 (((rd_T44 x28 x30).f0) : Int).toNat).size + ((rd_T44 x28 x30).f1).size ≤ 9223372036854775807 then (if x8.size + ((x1.extract 0 (((rd_T44 x28 x30).f0) : Int).toNat) ++ ((rd_T44 x28 x30).f1)).size ≤ 9223372036854775807 then (if 0 ≤ (wrap64 (((rd_T44 x28 x30).f0) + (((rd_T44 x28 x30).f2).size : Int))) then (if (wrap64 (((rd_T44 x28 x30).f0) + (((rd_T44 x28 x30).f2).size : Int))) ≤ (x1.size : Int) then (impl_ApplyOp.l0 k (x1.extract ((wrap64 (((rd_T44 x28 x30).f0) + (((rd_T44 x28 x30).f2).size : Int))) : Int).toNat x1.size) (x8 ++ ((x1.extract 0 (((rd_T44 x28 x30).f0) : Int).toNat) ++ ((rd_T44 x28 x30).f1))) x28 x29 (wrap64 (x30 + 1))) else (none)) else (none)) else (none)) else (none)) else (none)) else (none)) else (some ((⟨#[]⟩ : ByteArray), false))) else (none)) else (none)) else (none)) else (none)) else (some (x8, true))
end
def impl_ApplyOp.f (k : Nat) (l0 : List (S44)) (a1 : ByteArray) : Option (ByteArray × Bool) := (impl_GoodOp.f k l0).bind fun kc => (if kc = true then ((impl_GoodText.f k a1).bind fun gW => (impl_ApplyOp.j0 k l0 a1 (!gW))) else (impl_ApplyOp.j0 k l0 a1 true))
theorem impl_ApplyOp.mono_l : ∀ k, (∀ y0 y1 y2, LeO (impl_ApplyOp.j0 k y0 y1 y2) (impl_ApplyOp.j0 (k + 1) y0 y1 y2)) ∧ (∀ y0 y1 y2 y3 y4, LeO (impl_ApplyOp.l0 k y0 y1 y2 y3 y4) (impl_ApplyOp.l0 (k + 1) y0 y1 y2 y3 y4))
 | 0 => ⟨fun _ _ _ r h => by simp [impl_ApplyOp.j0] at h, fun _ _ _ _ _ r h => by simp [impl_ApplyOp.l0] at h⟩
 | k + 1 => by
  obtain ⟨ih0, ih1⟩ := impl_ApplyOp.mono_l k
  refine ⟨?_, ?_⟩
  ·intro y0 y1 y2
   unfold impl_ApplyOp.j0
   repeat' first
   | (with_reducible exact ih0 _ _ _)
   | (with_reducible exact ih1 _ _ _ _ _)
   | (with_reducible exact impl_GoodOp.mono _ _)
   | (with_reducible exact impl_GoodText.mono _ _)
   | (with_reducible exact impl_sizes.mono _ _)
   | (with_reducible exact LeO.refl _)
   | (with_reducible exact LeO.none _)
   | (with_reducible refine LeO.ite ?_ ?_)
   | (with_reducible refine LeO.bind ?_ (fun _ => ?_))
   | exact ih0 _ _ _
   | exact ih1 _ _ _ _ _
   | exact impl_GoodOp.mono _ _
   | exact impl_GoodText.mono _ _
   | exact impl_sizes.mono _ _
   | exact LeO.none _
   | refine LeO.ite ?_ ?_
   | refine LeO.bind ?_ (fun _ => ?_)
  ·intro y0 y1 y2 y3 y4
   unfold impl_ApplyOp.l0
   repeat' first
   | (with_reducible exact ih0 _ _ _)
   | (with_reducible exact ih1 _ _ _ _ _)
   | (with_reducible exact impl_GoodOp.mono _ _)
   | (with_reducible exact impl_GoodText.mono _ _)
   | (with_reducible exact impl_sizes.mono _ _)
   | (with_reducible exact LeO.refl _)
   | (with_reducible exact LeO.none _)
   | (with_reducible refine LeO.ite ?_ ?_)
   | (with_reducible refine LeO.bind ?_ (fun _ => ?_))
   | exact ih0 _ _ _
   | exact ih1 _ _ _ _ _
   | exact impl_GoodOp.mono _ _
   | exact impl_GoodText.mono _ _
   | exact impl_sizes.mono _ _
   | exact LeO.none _
   | refine LeO.ite ?_ ?_
   | refine LeO.bind ?_ (fun _ => ?_)
theorem impl_ApplyOp.mono : ∀ a0 a1 k, LeO (impl_ApplyOp.f k a0 a1) (impl_ApplyOp.f (k + 1) a0 a1) := by
 intro a0 a1 k
 obtain ⟨ih0, ih1⟩ := impl_ApplyOp.mono_l k
 unfold impl_ApplyOp.f
 repeat' first
   | (with_reducible exact ih0 _ _ _)
   | (with_reducible exact ih1 _ _ _ _ _)
   | (with_reducible exact impl_GoodOp.mono _ _)
   | (with_reducible exact impl_GoodText.mono _ _)
   | (with_reducible exact impl_sizes.mono _ _)
   | (with_reducible exact LeO.refl _)
   | (with_reducible exact LeO.none _)
   | (with_reducible refine LeO.ite ?_ ?_)
   | (with_reducible refine LeO.bind ?_ (fun _ => ?_))
   | exact ih0 _ _ _
   | exact ih1 _ _ _ _ _
   | exact impl_GoodOp.mono _ _
   | exact impl_GoodText.mono _ _
   | exact impl_sizes.mono _ _
   | exact LeO.none _
   | refine LeO.ite ?_ ?_
   | refine LeO.bind ?_ (fun _ => ?_)
set_option maxHeartbeats 8000000 in
set_option maxRecDepth 100000 in
theorem impl_ApplyOp.calls (k : Nat) (A0 : Option Addr) (c0 : Nat) (l0 : List (S44)) (a1 : ByteArray) (r1 : ByteArray) (r2 : Bool) (w : World) (hr0 : Kd.C k44 w A0 l0.length l0) (hc0 : l0.length ≤ c0) (h : impl_ApplyOp.f k l0 a1 = some (r1, r2)) :
  Calls Try.prog 12 #[.slice A0 l0.length c0, .string a1] w fun e w' => e = .returned (.tuple #[.string r1, .bool r2]) ∧ Below w.heap.size w w' := by
 have hu44 := Try.underlying44
 have bG := aM hr0
 have b8 := aM hc0
 clear hr0 hc0
 have HB := aM (Below.refl w.heap.size w)
 have H : ((impl_GoodOp.f k l0).bind fun kc => (if kc = true then ((impl_GoodText.f k a1).bind fun gW => (impl_ApplyOp.j0 k l0 a1 (!gW))) else (impl_ApplyOp.j0 k l0 a1 true))) = some (r1, r2) := h
 clear h
 have gT := aM H
 clear H
 go_enter Try.func12, Try.ntmps12
 go_upto_region 1 with (fail)
 repeat (go_quiet (fail); go_upto_region 1 with (fail))
 go_cut [18] (fun v18 wc => ∃ (kq : Nat) (x18_2 : Bool), v18 = .bool x18_2 ∧ Aside0 (impl_ApplyOp.j0 kq l0 a1 x18_2 = some (r1, r2)) ∧ Aside0 (kq ≤ k) ∧ Aside0 (Below w.heap.size w wc))
 case first =>
  have H := gT.out
  clear gT
  replace H := oB H
  obtain ⟨kc, eE, H⟩ := H
  try dsimp only at H
  have A4 := aM eE
  clear eE
  by_cases c5 : kc = true
  ·subst c5
   rw [if_pos rfl] at H
   replace H := oB H
   obtain ⟨gW, ez, H⟩ := H
   try dsimp only at H
   have A6 := aM ez
   clear ez
   have H' := aM H
   clear H
   go_wp2_with (first | (go_at_call 33; (with_reducible refine (impl_GoodOp.calls k _ _ l0 true _ ?side1 ?side2 A4.out).mono ?_); (case side1 => repeat (first | exact (au bG.out HB.out) | (with_reducible refine av ?_ _) | (with_reducible refine aw ?_ _) | (with_reducible refine ay ?_))); (case side2 => exact b8.out); rintro e w7 ⟨rfl, hb⟩; have aT := aM (ap z9 hb); clear HB; have HB := aT; clear aT; (try clear hb); (try clear hb2); (try clear hk); (try clear hi)) | (go_at_call 13; (with_reducible refine (impl_GoodText.calls k a1 gW _ A6.out).mono ?_); rintro e w' ⟨rfl, ⟨nd, rfl⟩⟩; (try first | exact ⟨rfl, _, World.drewN_drewN _ _ _⟩ | exact ⟨rfl, _, Eq.trans (World.drewN_drewN _ _ _) (congrArg (World.drewN _) (Nat.add_assoc _ _ _))⟩)))
   repeat (go_quiet (first | (go_at_call 33; (with_reducible refine (impl_GoodOp.calls k _ _ l0 true _ ?side1 ?side2 A4.out).mono ?_); (case side1 => repeat (first | exact (au bG.out HB.out) | (with_reducible refine av ?_ _) | (with_reducible refine aw ?_ _) | (with_reducible refine ay ?_))); (case side2 => exact b8.out); rintro e w7 ⟨rfl, hb⟩; have aT := aM (ap z9 hb); clear HB; have HB := aT; clear aT; (try clear hb); (try clear hb2); (try clear hk); (try clear hi)) | (go_at_call 13; (with_reducible refine (impl_GoodText.calls k a1 gW _ A6.out).mono ?_); rintro e w' ⟨rfl, ⟨nd, rfl⟩⟩; (try first | exact ⟨rfl, _, World.drewN_drewN _ _ _⟩ | exact ⟨rfl, _, Eq.trans (World.drewN_drewN _ _ _) (congrArg (World.drewN _) (Nat.add_assoc _ _ _))⟩))); try go_wp2_with (first | (go_at_call 33; (with_reducible refine (impl_GoodOp.calls k _ _ l0 true _ ?side1 ?side2 A4.out).mono ?_); (case side1 => repeat (first | exact (au bG.out HB.out) | (with_reducible refine av ?_ _) | (with_reducible refine aw ?_ _) | (with_reducible refine ay ?_))); (case side2 => exact b8.out); rintro e w7 ⟨rfl, hb⟩; have aT := aM (ap z9 hb); clear HB; have HB := aT; clear aT; (try clear hb); (try clear hb2); (try clear hk); (try clear hi)) | (go_at_call 13; (with_reducible refine (impl_GoodText.calls k a1 gW _ A6.out).mono ?_); rintro e w' ⟨rfl, ⟨nd, rfl⟩⟩; (try first | exact ⟨rfl, _, World.drewN_drewN _ _ _⟩ | exact ⟨rfl, _, Eq.trans (World.drewN_drewN _ _ _) (congrArg (World.drewN _) (Nat.add_assoc _ _ _))⟩))))
   go_meet
   case rel => exact ⟨_, (!gW), z1, H', ⟨y1⟩, ⟨y5⟩⟩
  ·replace c5 := Bool.eq_false_iff.mpr c5
   subst c5
   rw [if_neg (show ¬ (false = true) by decide)] at H
   have H' := aM H
   clear H
   go_wp2_with (first | (go_at_call 33; (with_reducible refine (impl_GoodOp.calls k _ _ l0 false _ ?side1 ?side2 A4.out).mono ?_); (case side1 => repeat (first | exact (au bG.out HB.out) | (with_reducible refine av ?_ _) | (with_reducible refine aw ?_ _) | (with_reducible refine ay ?_))); (case side2 => exact b8.out); rintro e w8 ⟨rfl, hb⟩; have aT := aM (ap z9 hb); clear HB; have HB := aT; clear aT; (try clear hb); (try clear hb2); (try clear hk); (try clear hi)))
   repeat (go_quiet (first | (go_at_call 33; (with_reducible refine (impl_GoodOp.calls k _ _ l0 false _ ?side1 ?side2 A4.out).mono ?_); (case side1 => repeat (first | exact (au bG.out HB.out) | (with_reducible refine av ?_ _) | (with_reducible refine aw ?_ _) | (with_reducible refine ay ?_))); (case side2 => exact b8.out); rintro e w8 ⟨rfl, hb⟩; have aT := aM (ap z9 hb); clear HB; have HB := aT; clear aT; (try clear hb); (try clear hb2); (try clear hk); (try clear hi))); try go_wp2_with (first | (go_at_call 33; (with_reducible refine (impl_GoodOp.calls k _ _ l0 false _ ?side1 ?side2 A4.out).mono ?_); (case side1 => repeat (first | exact (au bG.out HB.out) | (with_reducible refine av ?_ _) | (with_reducible refine aw ?_ _) | (with_reducible refine ay ?_))); (case side2 => exact b8.out); rintro e w8 ⟨rfl, hb⟩; have aT := aM (ap z9 hb); clear HB; have HB := aT; clear aT; (try clear hb); (try clear hb2); (try clear hk); (try clear hi))))
   go_meet
   case rel => exact ⟨_, (true), z1, H', ⟨y1⟩, ⟨y5⟩⟩
 case rest =>
  clear gT
  try clear c1
  try clear p2
  try clear c5
  obtain ⟨kq, x18_2, rfl, HA, eB, HB⟩ := hcut
  cases kq with
  | zero => exact absurd HA.out (by simp [impl_ApplyOp.j0])
  | succ kj2 =>
   have H := HA.out
   clear HA
   simp only [impl_ApplyOp.j0] at H
   by_cases c9 : x18_2 = true
   ·subst c9
    rw [if_pos rfl] at H
    simp only [Option.some.injEq, Prod.mk.injEq] at H
    obtain ⟨rfl, rfl⟩ := H
    go_wp2
    repeat (go_quiet (fail); try go_wp2)
    go_ret2
    exact ⟨y4, y5⟩
   ·replace c9 := Bool.eq_false_iff.mpr c9
    subst c9
    rw [if_neg (show ¬ (false = true) by decide)] at H
    replace H := oB H
    obtain ⟨⟨eW, jD⟩, la, H⟩ := H
    try dsimp only at H
    have lU := aM la
    clear la
    by_cases bV : eW = (a1.size : Int)
    ·rw [if_pos bV] at H
     have c11b0 : (eW == (a1.size : Int)) = true := qT bV
     have c11b1 : (eW != (a1.size : Int)) = false := nF bV
     clear bV
     have H' := aM H
     clear H
     go_wp2_with (first | (go_at_call 34; (with_reducible refine (impl_sizes.calls kj2 _ _ l0 eW jD _ ?side1 ?side2 lU.out).mono ?_); (case side1 => repeat (first | exact (au bG.out HB.out) | (with_reducible refine av ?_ _) | (with_reducible refine aw ?_ _) | (with_reducible refine ay ?_))); (case side2 => exact b8.out); rintro e w12 ⟨rfl, hb⟩; have aT := aM (ap z9 hb); clear HB; have HB := aT; clear aT; (try clear hb); (try clear hb2); (try clear hk); (try clear hi)))
     repeat (go_quiet (first | (go_at_call 34; (with_reducible refine (impl_sizes.calls kj2 _ _ l0 eW jD _ ?side1 ?side2 lU.out).mono ?_); (case side1 => repeat (first | exact (au bG.out HB.out) | (with_reducible refine av ?_ _) | (with_reducible refine aw ?_ _) | (with_reducible refine ay ?_))); (case side2 => exact b8.out); rintro e w12 ⟨rfl, hb⟩; have aT := aM (ap z9 hb); clear HB; have HB := aT; clear aT; (try clear hb); (try clear hb2); (try clear hk); (try clear hi))); try go_wp2_with (first | (go_at_call 34; (with_reducible refine (impl_sizes.calls kj2 _ _ l0 eW jD _ ?side1 ?side2 lU.out).mono ?_); (case side1 => repeat (first | exact (au bG.out HB.out) | (with_reducible refine av ?_ _) | (with_reducible refine aw ?_ _) | (with_reducible refine ay ?_))); (case side2 => exact b8.out); rintro e w12 ⟨rfl, hb⟩; have aT := aM (ap z9 hb); clear HB; have HB := aT; clear aT; (try clear hb); (try clear hb2); (try clear hk); (try clear hi))))
     go_loopg [1, 8, 30] kj2 (fun kq v1 v8 v30 w' => ∃ (x1_2 : ByteArray) (x8_2 : ByteArray) (x30_2 : Int), v1 = .string x1_2 ∧ v8 = .string x8_2 ∧ v30 = .int .i64 x30_2 ∧ Aside0 (impl_ApplyOp.l0 kq x1_2 x8_2 l0 (l0.length : Int) x30_2 = some (r1, r2)) ∧ Aside0 (kq ≤ kj2) ∧ Aside0 (Below w.heap.size w w'))
     case atStart => exact ⟨(a1), ((⟨#[]⟩ : ByteArray)), (0), z1, z1, z1, H', ⟨Nat.le_refl _⟩, ⟨y5⟩⟩
     case round =>
      clear H'
      try clear c1
      try clear p2
      try clear c5
      try clear c9
      try clear bV
      try clear c11b0
      try clear c11b1
      try clear cd
      try clear p2
      obtain ⟨x1_2, x8_2, x30_2, rfl, rfl, rfl, HA, HK2, HB⟩ := hrel
      cases gk with
      | zero => exact absurd HA.out (by simp [impl_ApplyOp.l0])
      | succ k2 =>
       have H := HA.out
       clear HA
       simp only [impl_ApplyOp.l0] at H
       by_cases bR : x30_2 < (l0.length : Int)
       ·rw [if_pos bR] at H
        have c13b0 : decide (x30_2 < (l0.length : Int)) = true := dT bR
        clear bR
        by_cases ce : 0 ≤ x30_2
        ·rw [if_pos ce] at H
         have c14b0 : decide (0 ≤ x30_2) = true := dT ce
         clear ce
         by_cases ck : x30_2 < (l0.length : Int)
         ·rw [if_pos ck] at H
          have c15b0 : decide (x30_2 < (l0.length : Int)) = true := dT ck
          clear ck
          by_cases cG : 0 ≤ (((rd_T44 l0 x30_2).f2).size : Int)
          ·rw [if_pos cG] at H
           have c16b0 := eq_true cG
           have c16b1 : decide (0 ≤ (((rd_T44 l0 x30_2).f2).size : Int)) = true := dT cG
           clear cG
           by_cases cB : (((rd_T44 l0 x30_2).f2).size : Int) ≤ (x1_2.size : Int)
           ·rw [if_pos cB] at H
            have c17b0 := eq_true cB
            have c17b1 : decide ((((rd_T44 l0 x30_2).f2).size : Int) ≤ (x1_2.size : Int)) = true := dT cB
            clear cB
            by_cases cn : (x1_2.extract 0 ((((rd_T44 l0 x30_2).f2).size : Int) : Int).toNat).toList = ((rd_T44 l0 x30_2).f2).toList
            ·rw [if_pos cn] at H
             have c18b0 : ((x1_2.extract 0 ((((rd_T44 l0 x30_2).f2).size : Int) : Int).toNat).toList == ((rd_T44 l0 x30_2).f2).toList) = true := qT cn
             (try (have c18b0n := c18b0; simp only [aI] at c18b0n))
             have c18b1 : ((x1_2.extract 0 ((((rd_T44 l0 x30_2).f2).size : Int) : Int).toNat).toList != ((rd_T44 l0 x30_2).f2).toList) = false := nF cn
             (try (have c18b1n := c18b1; simp only [aI] at c18b1n))
             clear cn
             by_cases fy : 0 ≤ ((rd_T44 l0 x30_2).f0)
             ·rw [if_pos fy] at H
              have c19b0 := eq_true fy
              have c19b1 : decide (0 ≤ ((rd_T44 l0 x30_2).f0)) = true := dT fy
              clear fy
              by_cases dd : ((rd_T44 l0 x30_2).f0) ≤ (x1_2.size : Int)
              ·rw [if_pos dd] at H
               have c20b0 := eq_true dd
               have c20b1 : decide (((rd_T44 l0 x30_2).f0) ≤ (x1_2.size : Int)) = true := dT dd
               clear dd
               by_cases cF : (x1_2.extract 0 (((rd_T44 l0 x30_2).f0) : Int).toNat).size + ((rd_T44 l0 x30_2).f1).size ≤ 9223372036854775807
               ·rw [if_pos cF] at H
                have c21b0 := eq_true cF
                have c21b1 : decide ((x1_2.extract 0 (((rd_T44 l0 x30_2).f0) : Int).toNat).size + ((rd_T44 l0 x30_2).f1).size ≤ 9223372036854775807) = true := dT cF
                try have c21b2 : (9223372036854775807 < (x1_2.extract 0 (((rd_T44 l0 x30_2).f0) : Int).toNat).size + ((rd_T44 l0 x30_2).f1).size) = False := eq_false (Nat.not_lt.2 cF)
                (try (have c21x : (9223372036854775807 < ((rd_T44 l0 x30_2).f0).toNat + ((rd_T44 l0 x30_2).f1).size) = False := eq_false (fun h_ => by have e_ := of_eq_true c21b0; simp only [aK, ByteArray.size_append] at e_; have f0_ : ((rd_T44 l0 x30_2).f0) ≤ (x1_2.size : Int) := (by first | assumption | exact of_eq_true (by assumption) | exact oD (by assumption)); omega)))
                by_cases ec : x8_2.size + ((x1_2.extract 0 (((rd_T44 l0 x30_2).f0) : Int).toNat) ++ ((rd_T44 l0 x30_2).f1)).size ≤ 9223372036854775807
                ·rw [if_pos ec] at H
                 have c22b0 := eq_true ec
                 have c22b1 : decide (x8_2.size + ((x1_2.extract 0 (((rd_T44 l0 x30_2).f0) : Int).toNat) ++ ((rd_T44 l0 x30_2).f1)).size ≤ 9223372036854775807) = true := dT ec
                 try have c22b2 : (9223372036854775807 < x8_2.size + ((x1_2.extract 0 (((rd_T44 l0 x30_2).f0) : Int).toNat) ++ ((rd_T44 l0 x30_2).f1)).size) = False := eq_false (Nat.not_lt.2 ec)
                 (try (have c22x : (9223372036854775807 < x8_2.size + (((rd_T44 l0 x30_2).f0).toNat + ((rd_T44 l0 x30_2).f1).size)) = False := eq_false (fun h_ => by have e_ := of_eq_true c22b0; simp only [aK, ByteArray.size_append] at e_; have f0_ : ((rd_T44 l0 x30_2).f0) ≤ (x1_2.size : Int) := (by first | assumption | exact of_eq_true (by assumption) | exact oD (by assumption)); omega)))
                 (try (have c22b2s := c22b2; simp only [ByteArray.size_append] at c22b2s))
                 obtain ⟨fU, fB⟩ : ∃ j_ : Int, (wrap64 (((rd_T44 l0 x30_2).f0) + (((rd_T44 l0 x30_2).f2).size : Int))) = j_ := ⟨_, rfl⟩
                 replace H : (if 0 ≤ (fU) then (if (fU) ≤ (x1_2.size : Int) then (impl_ApplyOp.l0 k2 (x1_2.extract ((fU) : Int).toNat x1_2.size) (x8_2 ++ ((x1_2.extract 0 (((rd_T44 l0 x30_2).f0) : Int).toNat) ++ ((rd_T44 l0 x30_2).f1))) l0 (l0.length : Int) (wrap64 (x30_2 + 1))) else (none)) else (none)) = some (r1, r2) := by first | (rw [fB] at H; exact H) | (simp only [fB] at H ⊢; exact H)
                 have hji23w : (IntKind.i64.wrap (((rd_T44 l0 x30_2).f0) + (((rd_T44 l0 x30_2).f2).size : Int))) = fU := (i64_w _).trans fB
                 by_cases dN : 0 ≤ (fU)
                 ·rw [if_pos dN] at H
                  have c24b0 := eq_true dN
                  have c24b1 : decide (0 ≤ (fU)) = true := dT dN
                  clear dN
                  by_cases eA : (fU) ≤ (x1_2.size : Int)
                  ·rw [if_pos eA] at H
                   have c25b0 := eq_true eA
                   have c25b1 : decide ((fU) ≤ (x1_2.size : Int)) = true := dT eA
                   clear eA
                   have H' := aM H
                   clear H
                   have p382 : 0 ≤ (x30_2 : Int) := oD z2
                   have q382 : x30_2 < (l0.length : Int) := oD z2
                   obtain ⟨ad382, e382, hx382_0, hx382_1, hx382_2⟩ := at_T44 bG.out x30_2 p382 q382
                   cases e382
                   replace hx382_0 := (HB.out.cell (World.block_lt_of_cell? w _ hx382_0)).trans hx382_0
                   replace hx382_1 := (HB.out.cell (World.block_lt_of_cell? w _ hx382_1)).trans hx382_1
                   replace hx382_2 := (HB.out.cell (World.block_lt_of_cell? w _ hx382_2)).trans hx382_2
                   replace p382 := eq_true p382
                   replace q382 := eq_true q382
                   go_wp2_with (first | ((with_reducible refine aD (N := 10) rfl ?_); refine aE ?hg (N := 10) ?hd (cs := #[.int .i64 0, .string (⟨#[]⟩ : ByteArray), .string (⟨#[]⟩ : ByteArray)]) (t := 44) ?hr ?_; (case hd => rfl); (case hg => rfl); (case hr => first | (go_simp; done) | (go_simp; rfl)); intro bI hg w26 hbox hb; have aT := aM (ap z9 hb); have aU := aM (hbox); have aX := aM ((by rw [hg]; exact (aq z9) : w.heap.size ≤ bI)); have a5 := aM ((by rw [hg]; exact (aq z9) : w.heap.size ≤ bI)); clear HB; have HB := aT; have br := aU; have hY := aX; have fo := a5; clear aT aU aX a5; clear hb hbox hg; have jt : w26.cell? ⟨bI, 0, none⟩ = some (.int .i64 0) := (bC br.out 0).trans rfl; have js : w26.cell? ⟨bI, 1, none⟩ = some (.string (⟨#[]⟩ : ByteArray)) := (bC br.out 1).trans rfl; have jr : w26.cell? ⟨bI, 2, none⟩ = some (.string (⟨#[]⟩ : ByteArray)) := (bC br.out 2).trans rfl; have i4 := bF br.out 0; have i3 := bF br.out 1; have i2 := bF br.out 2))
                   all_goals (try (exfalso; rename_i h_; rw [c18b0] at h_; cases h_; done))
                   repeat (go_quiet (first | ((with_reducible refine aD (N := 10) rfl ?_); refine aE ?hg (N := 10) ?hd (cs := #[.int .i64 0, .string (⟨#[]⟩ : ByteArray), .string (⟨#[]⟩ : ByteArray)]) (t := 44) ?hr ?_; (case hd => rfl); (case hg => rfl); (case hr => first | (go_simp; done) | (go_simp; rfl)); intro bI hg w26 hbox hb; have aT := aM (ap z9 hb); have aU := aM (hbox); have aX := aM ((by rw [hg]; exact (aq z9) : w.heap.size ≤ bI)); have a5 := aM ((by rw [hg]; exact (aq z9) : w.heap.size ≤ bI)); clear HB; have HB := aT; have br := aU; have hY := aX; have fo := a5; clear aT aU aX a5; clear hb hbox hg; have jt : w26.cell? ⟨bI, 0, none⟩ = some (.int .i64 0) := (bC br.out 0).trans rfl; have js : w26.cell? ⟨bI, 1, none⟩ = some (.string (⟨#[]⟩ : ByteArray)) := (bC br.out 1).trans rfl; have jr : w26.cell? ⟨bI, 2, none⟩ = some (.string (⟨#[]⟩ : ByteArray)) := (bC br.out 2).trans rfl; have i4 := bF br.out 0; have i3 := bF br.out 1; have i2 := bF br.out 2)); try go_wp2_with (first | ((with_reducible refine aD (N := 10) rfl ?_); refine aE ?hg (N := 10) ?hd (cs := #[.int .i64 0, .string (⟨#[]⟩ : ByteArray), .string (⟨#[]⟩ : ByteArray)]) (t := 44) ?hr ?_; (case hd => rfl); (case hg => rfl); (case hr => first | (go_simp; done) | (go_simp; rfl)); intro bI hg w26 hbox hb; have aT := aM (ap z9 hb); have aU := aM (hbox); have aX := aM ((by rw [hg]; exact (aq z9) : w.heap.size ≤ bI)); have a5 := aM ((by rw [hg]; exact (aq z9) : w.heap.size ≤ bI)); clear HB; have HB := aT; have br := aU; have hY := aX; have fo := a5; clear aT aU aX a5; clear hb hbox hg; have jt : w26.cell? ⟨bI, 0, none⟩ = some (.int .i64 0) := (bC br.out 0).trans rfl; have js : w26.cell? ⟨bI, 1, none⟩ = some (.string (⟨#[]⟩ : ByteArray)) := (bC br.out 1).trans rfl; have jr : w26.cell? ⟨bI, 2, none⟩ = some (.string (⟨#[]⟩ : ByteArray)) := (bC br.out 2).trans rfl; have i4 := bF br.out 0; have i3 := bF br.out 1; have i2 := bF br.out 2)))
                   all_goals (try (exfalso; rename_i h_; rw [c18b0] at h_; cases h_; done))
                   go_roundg k2
                   case measure => have := eB.out; have := HK2.out; omega
                   case rel => exact ⟨(x1_2.extract ((fU) : Int).toNat x1_2.size), (x8_2 ++ ((x1_2.extract 0 (((rd_T44 l0 x30_2).f0) : Int).toNat) ++ ((rd_T44 l0 x30_2).f1))), (wrap64 (x30_2 + 1)), (by first | rfl | (simp; done) | (simp only [← fB] <;> (first | rfl | (simp; done) | (simp; generalize ByteArray.toList _ = u_; cases u_ <;> (first | rfl | (simp; done))))) | (simp [*]; done)), z1, z1, (by first | exact H' | (simp only [fB]; exact H') | (simp only [← fB]; exact H')), ⟨by have := eB.out; have := HK2.out; omega⟩, ⟨by repeat (first | (with_reducible first | exact HB.out | apply bA | apply pD | apply bD | refine ao ?_ fo.out) | exact HB.out)⟩⟩
                  ·rw [if_neg eA] at H
                   exact absurd H (by simp)
                 ·rw [if_neg dN] at H
                  exact absurd H (by simp)
                ·rw [if_neg ec] at H
                 exact absurd H (by simp)
               ·rw [if_neg cF] at H
                exact absurd H (by simp)
              ·rw [if_neg dd] at H
               exact absurd H (by simp)
             ·rw [if_neg fy] at H
              exact absurd H (by simp)
            ·rw [if_neg cn] at H
             have c18b0 : ((x1_2.extract 0 ((((rd_T44 l0 x30_2).f2).size : Int) : Int).toNat).toList == ((rd_T44 l0 x30_2).f2).toList) = false := qF cn
             (try (have c18b0n := c18b0; simp only [aI] at c18b0n))
             have c18b1 : ((x1_2.extract 0 ((((rd_T44 l0 x30_2).f2).size : Int) : Int).toNat).toList != ((rd_T44 l0 x30_2).f2).toList) = true := nT cn
             (try (have c18b1n := c18b1; simp only [aI] at c18b1n))
             simp only [Option.some.injEq, Prod.mk.injEq] at H
             obtain ⟨rfl, rfl⟩ := H
             have p382 : 0 ≤ (x30_2 : Int) := oD z2
             have q382 : x30_2 < (l0.length : Int) := oD z2
             obtain ⟨ad382, e382, hx382_0, hx382_1, hx382_2⟩ := at_T44 bG.out x30_2 p382 q382
             cases e382
             replace hx382_0 := (HB.out.cell (World.block_lt_of_cell? w _ hx382_0)).trans hx382_0
             replace hx382_1 := (HB.out.cell (World.block_lt_of_cell? w _ hx382_1)).trans hx382_1
             replace hx382_2 := (HB.out.cell (World.block_lt_of_cell? w _ hx382_2)).trans hx382_2
             replace p382 := eq_true p382
             replace q382 := eq_true q382
             go_wp2_with (first | ((with_reducible refine aD (N := 10) rfl ?_); refine aE ?hg (N := 10) ?hd (cs := #[.int .i64 0, .string (⟨#[]⟩ : ByteArray), .string (⟨#[]⟩ : ByteArray)]) (t := 44) ?hr ?_; (case hd => rfl); (case hg => rfl); (case hr => first | (go_simp; done) | (go_simp; rfl)); intro bI hg w28 hbox hb; have aT := aM (ap z9 hb); have aU := aM (hbox); have aX := aM ((by rw [hg]; exact (aq z9) : w.heap.size ≤ bI)); have a5 := aM ((by rw [hg]; exact (aq z9) : w.heap.size ≤ bI)); clear HB; have HB := aT; have br := aU; have hY := aX; have fo := a5; clear aT aU aX a5; clear hb hbox hg; have jq : w28.cell? ⟨bI, 0, none⟩ = some (.int .i64 0) := (bC br.out 0).trans rfl; have jp : w28.cell? ⟨bI, 1, none⟩ = some (.string (⟨#[]⟩ : ByteArray)) := (bC br.out 1).trans rfl; have jo : w28.cell? ⟨bI, 2, none⟩ = some (.string (⟨#[]⟩ : ByteArray)) := (bC br.out 2).trans rfl; have i1 := bF br.out 0; have iZ := bF br.out 1; have iY := bF br.out 2))
             all_goals (try (exfalso; rename_i h_; rw [c18b0] at h_; cases h_; done))
             repeat (go_quiet (first | ((with_reducible refine aD (N := 10) rfl ?_); refine aE ?hg (N := 10) ?hd (cs := #[.int .i64 0, .string (⟨#[]⟩ : ByteArray), .string (⟨#[]⟩ : ByteArray)]) (t := 44) ?hr ?_; (case hd => rfl); (case hg => rfl); (case hr => first | (go_simp; done) | (go_simp; rfl)); intro bI hg w28 hbox hb; have aT := aM (ap z9 hb); have aU := aM (hbox); have aX := aM ((by rw [hg]; exact (aq z9) : w.heap.size ≤ bI)); have a5 := aM ((by rw [hg]; exact (aq z9) : w.heap.size ≤ bI)); clear HB; have HB := aT; have br := aU; have hY := aX; have fo := a5; clear aT aU aX a5; clear hb hbox hg; have jq : w28.cell? ⟨bI, 0, none⟩ = some (.int .i64 0) := (bC br.out 0).trans rfl; have jp : w28.cell? ⟨bI, 1, none⟩ = some (.string (⟨#[]⟩ : ByteArray)) := (bC br.out 1).trans rfl; have jo : w28.cell? ⟨bI, 2, none⟩ = some (.string (⟨#[]⟩ : ByteArray)) := (bC br.out 2).trans rfl; have i1 := bF br.out 0; have iZ := bF br.out 1; have iY := bF br.out 2)); try go_wp2_with (first | ((with_reducible refine aD (N := 10) rfl ?_); refine aE ?hg (N := 10) ?hd (cs := #[.int .i64 0, .string (⟨#[]⟩ : ByteArray), .string (⟨#[]⟩ : ByteArray)]) (t := 44) ?hr ?_; (case hd => rfl); (case hg => rfl); (case hr => first | (go_simp; done) | (go_simp; rfl)); intro bI hg w28 hbox hb; have aT := aM (ap z9 hb); have aU := aM (hbox); have aX := aM ((by rw [hg]; exact (aq z9) : w.heap.size ≤ bI)); have a5 := aM ((by rw [hg]; exact (aq z9) : w.heap.size ≤ bI)); clear HB; have HB := aT; have br := aU; have hY := aX; have fo := a5; clear aT aU aX a5; clear hb hbox hg; have jq : w28.cell? ⟨bI, 0, none⟩ = some (.int .i64 0) := (bC br.out 0).trans rfl; have jp : w28.cell? ⟨bI, 1, none⟩ = some (.string (⟨#[]⟩ : ByteArray)) := (bC br.out 1).trans rfl; have jo : w28.cell? ⟨bI, 2, none⟩ = some (.string (⟨#[]⟩ : ByteArray)) := (bC br.out 2).trans rfl; have i1 := bF br.out 0; have iZ := bF br.out 1; have iY := bF br.out 2)))
             all_goals (try (exfalso; rename_i h_; rw [c18b0] at h_; cases h_; done))
             go_ret2
             exact ⟨y4, by repeat (first | (with_reducible first | exact HB.out | apply bA | apply pD | apply bD | refine ao ?_ fo.out) | exact HB.out)⟩
           ·rw [if_neg cB] at H
            exact absurd H (by simp)
          ·rw [if_neg cG] at H
           exact absurd H (by simp)
         ·rw [if_neg ck] at H
          exact absurd H (by simp)
        ·rw [if_neg ce] at H
         exact absurd H (by simp)
       ·rw [if_neg bR] at H
        have c13b0 : decide (x30_2 < (l0.length : Int)) = false := dF bR
        clear bR
        simp only [Option.some.injEq, Prod.mk.injEq] at H
        obtain ⟨rfl, rfl⟩ := H
        go_wp2
        repeat (go_quiet (fail); try go_wp2)
        go_ret2
        exact ⟨y4, y5⟩
    ·rw [if_neg bV] at H
     have c11b0 : (eW == (a1.size : Int)) = false := qF bV
     have c11b1 : (eW != (a1.size : Int)) = true := nT bV
     simp only [Option.some.injEq, Prod.mk.injEq] at H
     obtain ⟨rfl, rfl⟩ := H
     go_wp2_with (first | (go_at_call 34; (with_reducible refine (impl_sizes.calls kj2 _ _ l0 eW jD _ ?side1 ?side2 lU.out).mono ?_); (case side1 => repeat (first | exact (au bG.out HB.out) | (with_reducible refine av ?_ _) | (with_reducible refine aw ?_ _) | (with_reducible refine ay ?_))); (case side2 => exact b8.out); rintro e w30 ⟨rfl, hb⟩; have aT := aM (ap z9 hb); clear HB; have HB := aT; clear aT; (try clear hb); (try clear hb2); (try clear hk); (try clear hi)))
     repeat (go_quiet (first | (go_at_call 34; (with_reducible refine (impl_sizes.calls kj2 _ _ l0 eW jD _ ?side1 ?side2 lU.out).mono ?_); (case side1 => repeat (first | exact (au bG.out HB.out) | (with_reducible refine av ?_ _) | (with_reducible refine aw ?_ _) | (with_reducible refine ay ?_))); (case side2 => exact b8.out); rintro e w30 ⟨rfl, hb⟩; have aT := aM (ap z9 hb); clear HB; have HB := aT; clear aT; (try clear hb); (try clear hb2); (try clear hk); (try clear hi))); try go_wp2_with (first | (go_at_call 34; (with_reducible refine (impl_sizes.calls kj2 _ _ l0 eW jD _ ?side1 ?side2 lU.out).mono ?_); (case side1 => repeat (first | exact (au bG.out HB.out) | (with_reducible refine av ?_ _) | (with_reducible refine aw ?_ _) | (with_reducible refine ay ?_))); (case side2 => exact b8.out); rintro e w30 ⟨rfl, hb⟩; have aT := aM (ap z9 hb); clear HB; have HB := aT; clear aT; (try clear hb); (try clear hb2); (try clear hk); (try clear hi))))
     go_ret2
     exact ⟨y4, y5⟩

end Go.Proofs.Ytifllccpfiobfaa.AFnExactMergeThree
