-- this session's own text: written by wip/tools/ownprint.py over the kit's print
import Derived.Test.YtifllccpfiobfaaAFnExactMergeThreex0
import Derived.Test.YtifllccpfiobfaaAFnExactMergeThreex9
namespace Go.Proofs.Ytifllccpfiobfaa.AFnExactMergeThree
open Go.RowKit Go.Proofs.YtifllccpfiobfaaW.PrintWords Go.Proofs.YtifllccpfiobfaaW.PrintLast Go.Proofs.YtifllccpfiobfaaW.PrintMore
attribute [local go_sem] max2_int min2_int max_two min_two max_three min_three max_four min_four   -- for this text's walks alone
set_option linter.unusedVariables false
set_option linter.unusedSimpArgs false

/-! ### impl_maker_end: function 45, by hand -/

/-! ### impl_maker_keep: function 21, by hand -/

/-! ### impl_maker_take: function 22, by hand -/

/-! ### impl_sizes: function 34 -/
def impl_sizes.l0 : Nat → Int → Int → List (S44) → Int → Int → Option (Int × Int)
 | 0, _, _, _, _, _ => none
 | k + 1, x4, x5, x8, x9, x10 => if x10 < x9 then (if 0 ≤ x10 then (if x10 < (x8.length : Int) then (impl_sizes.l0 k (wrap64 (x4 + (wrap64 (((rd_T44 x8 x10).f0) + (((rd_T44 x8 x10).f2).size : Int))))) (wrap64 (x5 + (wrap64 (((rd_T44 x8 x10).f0) + (((rd_T44 x8 x10).f1).size : Int))))) x8 x9 (wrap64 (x10 + 1))) else (none)) else (none)) else (some (x4, x5))
def impl_sizes.f (k : Nat) (l0 : List (S44)) : Option (Int × Int) := impl_sizes.l0 k 0 0 l0 (l0.length : Int) 0
theorem impl_sizes.mono_l : ∀ k, (∀ y0 y1 y2 y3 y4, LeO (impl_sizes.l0 k y0 y1 y2 y3 y4) (impl_sizes.l0 (k + 1) y0 y1 y2 y3 y4))
 | 0 => fun _ _ _ _ _ r h => by simp [impl_sizes.l0] at h
 | k + 1 => by
  have ih0 := impl_sizes.mono_l k
  ·intro y0 y1 y2 y3 y4
   unfold impl_sizes.l0
   repeat' first
   | (with_reducible exact ih0 _ _ _ _ _)
   | (with_reducible exact LeO.refl _)
   | (with_reducible exact LeO.none _)
   | (with_reducible refine LeO.ite ?_ ?_)
   | (with_reducible refine LeO.bind ?_ (fun _ => ?_))
   | exact ih0 _ _ _ _ _
   | exact LeO.none _
   | refine LeO.ite ?_ ?_
   | refine LeO.bind ?_ (fun _ => ?_)
theorem impl_sizes.mono : ∀ a0 k, LeO (impl_sizes.f k a0) (impl_sizes.f (k + 1) a0) := by
 intro a0 k
 have ih0 := impl_sizes.mono_l k
 unfold impl_sizes.f
 repeat' first
   | (with_reducible exact ih0 _ _ _ _ _)
   | (with_reducible exact LeO.refl _)
   | (with_reducible exact LeO.none _)
   | (with_reducible refine LeO.ite ?_ ?_)
   | (with_reducible refine LeO.bind ?_ (fun _ => ?_))
   | exact ih0 _ _ _ _ _
   | exact LeO.none _
   | refine LeO.ite ?_ ?_
   | refine LeO.bind ?_ (fun _ => ?_)
set_option maxHeartbeats 8000000 in
set_option maxRecDepth 100000 in
theorem impl_sizes.calls (k : Nat) (A0 : Option Addr) (c0 : Nat) (l0 : List (S44)) (r1 : Int) (r2 : Int) (w : World) (hr0 : Kd.C k44 w A0 l0.length l0) (hc0 : l0.length ≤ c0) (h : impl_sizes.f k l0 = some (r1, r2)) :
  Calls Try.prog 34 #[.slice A0 l0.length c0] w fun e w' => e = .returned (.tuple #[.int .i64 r1, .int .i64 r2]) ∧ Below w.heap.size w w' := by
 have hu44 := Try.underlying44
 have bG := aM hr0
 have b8 := aM hc0
 clear hr0 hc0
 have HB := aM (Below.refl w.heap.size w)
 have H : (impl_sizes.l0 k 0 0 l0 (l0.length : Int) 0) = some (r1, r2) := h
 clear h
 have H' := aM H
 clear H
 go_enter Try.func34, Try.ntmps34
 go_wp2
 go_loopg [4, 5, 10] k (fun kq v4 v5 v10 w' => ∃ (x4_1 : Int) (x5_1 : Int) (x10_1 : Int), v4 = .int .i64 x4_1 ∧ v5 = .int .i64 x5_1 ∧ v10 = .int .i64 x10_1 ∧ Aside0 (impl_sizes.l0 kq x4_1 x5_1 l0 (l0.length : Int) x10_1 = some (r1, r2)) ∧ Aside0 (kq ≤ k) ∧ Aside0 (Below w.heap.size w w'))
 case atStart => exact ⟨(0), (0), (0), z1, z1, z1, H', ⟨Nat.le_refl _⟩, ⟨y5⟩⟩
 case round =>
  clear H'
  obtain ⟨x4_1, x5_1, x10_1, rfl, rfl, rfl, HA, HK1, HB⟩ := hrel
  cases gk with
  | zero => exact absurd HA.out (by simp [impl_sizes.l0])
  | succ k1 =>
   have H := HA.out
   clear HA
   simp only [impl_sizes.l0] at H
   by_cases c2 : x10_1 < (l0.length : Int)
   ·rw [if_pos c2] at H
    have c2b0 : decide (x10_1 < (l0.length : Int)) = true := dT c2
    clear c2
    by_cases c3 : 0 ≤ x10_1
    ·rw [if_pos c3] at H
     have c3b0 : decide (0 ≤ x10_1) = true := dT c3
     clear c3
     by_cases c4 : x10_1 < (l0.length : Int)
     ·rw [if_pos c4] at H
      have c4b0 : decide (x10_1 < (l0.length : Int)) = true := dT c4
      clear c4
      have H' := aM H
      clear H
      have p322 : 0 ≤ (x10_1 : Int) := oD z2
      have q322 : x10_1 < (l0.length : Int) := oD z2
      obtain ⟨ad322, e322, hx322_0, hx322_1, hx322_2⟩ := at_T44 bG.out x10_1 p322 q322
      cases e322
      replace hx322_0 := (HB.out.cell (World.block_lt_of_cell? w _ hx322_0)).trans hx322_0
      replace hx322_1 := (HB.out.cell (World.block_lt_of_cell? w _ hx322_1)).trans hx322_1
      replace hx322_2 := (HB.out.cell (World.block_lt_of_cell? w _ hx322_2)).trans hx322_2
      replace p322 := eq_true p322
      replace q322 := eq_true q322
      go_wp2_with (first | ((with_reducible refine aD (N := 7) rfl ?_); refine aE ?hg (N := 7) ?hd (cs := #[.int .i64 0, .string (⟨#[]⟩ : ByteArray), .string (⟨#[]⟩ : ByteArray)]) (t := 44) ?hr ?_; (case hd => rfl); (case hg => rfl); (case hr => first | (go_simp; done) | (go_simp; rfl)); intro hG hg w5 hbox hb; have aT := aM (ap z9 hb); have aU := aM (hbox); have aX := aM ((by rw [hg]; exact (aq z9) : w.heap.size ≤ hG)); have a5 := aM ((by rw [hg]; exact (aq z9) : w.heap.size ≤ hG)); clear HB; have HB := aT; have fN := aU; have GW323 := aX; have GE323 := a5; clear aT aU aX a5; clear hb hbox hg; have iv : w5.cell? ⟨hG, 0, none⟩ = some (.int .i64 0) := (bC fN.out 0).trans rfl; have iu : w5.cell? ⟨hG, 1, none⟩ = some (.string (⟨#[]⟩ : ByteArray)) := (bC fN.out 1).trans rfl; have ir : w5.cell? ⟨hG, 2, none⟩ = some (.string (⟨#[]⟩ : ByteArray)) := (bC fN.out 2).trans rfl; have iq := bF fN.out 0; have ip := bF fN.out 1; have im := bF fN.out 2))
      go_roundg k1
      case measure => have := HK1.out; omega
      case rel => exact ⟨(wrap64 (x4_1 + (wrap64 (((rd_T44 l0 x10_1).f0) + (((rd_T44 l0 x10_1).f2).size : Int))))), (wrap64 (x5_1 + (wrap64 (((rd_T44 l0 x10_1).f0) + (((rd_T44 l0 x10_1).f1).size : Int))))), (wrap64 (x10_1 + 1)), z1, z1, z1, H', ⟨y0⟩, ⟨by repeat (first | (with_reducible first | exact HB.out | apply bA | apply pD | apply bD | refine ao ?_ GE323.out) | exact HB.out)⟩⟩
     ·rw [if_neg c4] at H
      exact absurd H (by simp)
    ·rw [if_neg c3] at H
     exact absurd H (by simp)
   ·rw [if_neg c2] at H
    have c2b0 : decide (x10_1 < (l0.length : Int)) = false := dF c2
    clear c2
    simp only [Option.some.injEq, Prod.mk.injEq] at H
    obtain ⟨rfl, rfl⟩ := H
    go_wp2
    go_ret2
    exact ⟨y4, y5⟩

/-! ### impl_Part_isPart: function 48 -/
def impl_Part_isPart.f (k : Nat) (a0_0 : Int) (a0_1 : ByteArray) (a0_2 : ByteArray) : Option (Bool) := if a0_0 = 0 then (if a0_1.toList = ([] : List UInt8) then (if a0_2.toList = ([] : List UInt8) then (some false) else ((impl_GoodText.f k a0_2).bind fun km => (some km))) else (if a0_2.toList = ([] : List UInt8) then ((impl_GoodText.f k a0_1).bind fun kl => (some kl)) else (some false))) else (if a0_0 ≥ 1 then (if a0_0 ≤ 300 then (if a0_1.toList = ([] : List UInt8) then (some (a0_2.toList == ([] : List UInt8))) else (some false)) else (some false)) else (some false))
theorem impl_Part_isPart.mono : ∀ a0 a1 a2 k, LeO (impl_Part_isPart.f k a0 a1 a2) (impl_Part_isPart.f (k + 1) a0 a1 a2) := by
 intro a0 a1 a2 k
 unfold impl_Part_isPart.f
 repeat' first
   | (with_reducible exact impl_GoodText.mono _ _)
   | (with_reducible exact LeO.refl _)
   | (with_reducible exact LeO.none _)
   | (with_reducible refine LeO.ite ?_ ?_)
   | (with_reducible refine LeO.bind ?_ (fun _ => ?_))
   | exact impl_GoodText.mono _ _
   | exact LeO.none _
   | refine LeO.ite ?_ ?_
   | refine LeO.bind ?_ (fun _ => ?_)
set_option maxHeartbeats 8000000 in
set_option maxRecDepth 100000 in
theorem impl_Part_isPart.calls (k : Nat) (a0_0 : Int) (a0_1 : ByteArray) (a0_2 : ByteArray) (r : Bool) (w : World) (h : impl_Part_isPart.f k a0_0 a0_1 a0_2 = some r) :
  Calls Try.prog 48 #[.agg #[.int .i64 a0_0, .string a0_1, .string a0_2]] w fun e w' => e = .returned (.bool r) ∧ Below w.heap.size w w' := by
 have hu44 := Try.underlying44
 have HB := aM (Below.refl w.heap.size w)
 have H : (if a0_0 = 0 then (if a0_1.toList = ([] : List UInt8) then (if a0_2.toList = ([] : List UInt8) then (some false) else ((impl_GoodText.f k a0_2).bind fun km => (some km))) else (if a0_2.toList = ([] : List UInt8) then ((impl_GoodText.f k a0_1).bind fun kl => (some kl)) else (some false))) else (if a0_0 ≥ 1 then (if a0_0 ≤ 300 then (if a0_1.toList = ([] : List UInt8) then (some (a0_2.toList == ([] : List UInt8))) else (some false)) else (some false)) else (some false))) = some r := h
 clear h
 by_cases c2 : a0_0 = 0
 ·rw [if_pos c2] at H
  have c2b0 : (a0_0 == 0) = true := qT c2
  have c2b1 : (a0_0 != 0) = false := nF c2
  clear c2
  by_cases c3 : a0_1.toList = ([] : List UInt8)
  ·rw [if_pos c3] at H
   have c3b0 : (a0_1.toList == ([] : List UInt8)) = true := qT c3
   have c3b1 : (a0_1.toList != ([] : List UInt8)) = false := nF c3
   have c3b8 : (!a0_1.toList.isEmpty) = false := by have h_ := c3b1; revert h_; cases a0_1.toList <;> simp
   clear c3
   by_cases c4 : a0_2.toList = ([] : List UInt8)
   ·rw [if_pos c4] at H
    have c4b0 : (a0_2.toList == ([] : List UInt8)) = true := qT c4
    have c4b1 : (a0_2.toList != ([] : List UInt8)) = false := nF c4
    have c4b8 : (!a0_2.toList.isEmpty) = false := by have h_ := c4b1; revert h_; cases a0_2.toList <;> simp
    clear c4
    obtain rfl := sI H
    go_enter Try.func48, Try.ntmps48
    go_wp2_with (first | ((with_reducible refine aD (N := 1) rfl ?_); refine aE ?hg (N := 1) ?hd (cs := #[.int .i64 a0_0, .string a0_1, .string a0_2]) (t := 44) ?hr ?_; (case hd => rfl); (case hg => rfl); (case hr => first | (go_simp; done) | (go_simp; rfl)); intro bl hg w5 hbox hb; have aT := aM (ap z9 hb); have aU := aM (hbox); have aX := aM ((by rw [hg]; exact (aq z9) : w.heap.size ≤ bl)); have a5 := aM ((by rw [hg]; exact (aq z9) : w.heap.size ≤ bl)); clear HB; have HB := aT; have bi := aU; have fm := aX; have fp := a5; clear aT aU aX a5; clear hb hbox hg; have iv : w5.cell? ⟨bl, 0, none⟩ = some (.int .i64 a0_0) := (bC bi.out 0).trans rfl; have iu : w5.cell? ⟨bl, 1, none⟩ = some (.string a0_1) := (bC bi.out 1).trans rfl; have ir : w5.cell? ⟨bl, 2, none⟩ = some (.string a0_2) := (bC bi.out 2).trans rfl; have iq := bF bi.out 0; have ip := bF bi.out 1; have im := bF bi.out 2))
    all_goals (try (exfalso; rename_i h_; rw [c3b0] at h_; cases h_; done))
    all_goals (try (exfalso; rename_i h_; rw [c4b0] at h_; cases h_; done))
    go_ret
    exact ⟨y4, y14⟩
   ·rw [if_neg c4] at H
    have c4b0 : (a0_2.toList == ([] : List UInt8)) = false := qF c4
    have c4b1 : (a0_2.toList != ([] : List UInt8)) = true := nT c4
    have c4b8 : (!a0_2.toList.isEmpty) = true := by have h_ := c4b1; revert h_; cases a0_2.toList <;> simp
    replace H := oB H
    obtain ⟨km, lT, H⟩ := H
    try dsimp only at H
    have A7 := aM lT
    clear lT
    obtain rfl := sI H
    go_enter Try.func48, Try.ntmps48
    go_wp2_with (first | ((with_reducible refine aD (N := 1) rfl ?_); refine aE ?hg (N := 1) ?hd (cs := #[.int .i64 a0_0, .string a0_1, .string a0_2]) (t := 44) ?hr ?_; (case hd => rfl); (case hg => rfl); (case hr => first | (go_simp; done) | (go_simp; rfl)); intro bl hg w8 hbox hb; have aT := aM (ap z9 hb); have aU := aM (hbox); have aX := aM ((by rw [hg]; exact (aq z9) : w.heap.size ≤ bl)); have a5 := aM ((by rw [hg]; exact (aq z9) : w.heap.size ≤ bl)); clear HB; have HB := aT; have bi := aU; have fm := aX; have fp := a5; clear aT aU aX a5; clear hb hbox hg; have cZ : w8.cell? ⟨bl, 0, none⟩ = some (.int .i64 a0_0) := (bC bi.out 0).trans rfl; have cY : w8.cell? ⟨bl, 1, none⟩ = some (.string a0_1) := (bC bi.out 1).trans rfl; have cX : w8.cell? ⟨bl, 2, none⟩ = some (.string a0_2) := (bC bi.out 2).trans rfl; have cW := bF bi.out 0; have cV := bF bi.out 1; have cU := bF bi.out 2) | (go_at_call 13; (with_reducible refine (impl_GoodText.calls k a0_2 km _ A7.out).mono ?_); rintro e w' ⟨rfl, ⟨nd, rfl⟩⟩))
    all_goals (try (exfalso; rename_i h_; rw [c3b0] at h_; cases h_; done))
    all_goals (try (exfalso; rename_i h_; rw [c4b0] at h_; cases h_; done))
    go_ret
    exact ⟨y4, y14⟩
  ·rw [if_neg c3] at H
   have c3b0 : (a0_1.toList == ([] : List UInt8)) = false := qF c3
   have c3b1 : (a0_1.toList != ([] : List UInt8)) = true := nT c3
   have c3b8 : (!a0_1.toList.isEmpty) = true := by have h_ := c3b1; revert h_; cases a0_1.toList <;> simp
   by_cases bz : a0_2.toList = ([] : List UInt8)
   ·rw [if_pos bz] at H
    have c10b0 : (a0_2.toList == ([] : List UInt8)) = true := qT bz
    have c10b1 : (a0_2.toList != ([] : List UInt8)) = false := nF bz
    have c10b8 : (!a0_2.toList.isEmpty) = false := by have h_ := c10b1; revert h_; cases a0_2.toList <;> simp
    clear bz
    replace H := oB H
    obtain ⟨kl, da, H⟩ := H
    try dsimp only at H
    have eG := aM da
    clear da
    obtain rfl := sI H
    go_enter Try.func48, Try.ntmps48
    go_wp2_with (first | ((with_reducible refine aD (N := 1) rfl ?_); refine aE ?hg (N := 1) ?hd (cs := #[.int .i64 a0_0, .string a0_1, .string a0_2]) (t := 44) ?hr ?_; (case hd => rfl); (case hg => rfl); (case hr => first | (go_simp; done) | (go_simp; rfl)); intro bl hg w12 hbox hb; have aT := aM (ap z9 hb); have aU := aM (hbox); have aX := aM ((by rw [hg]; exact (aq z9) : w.heap.size ≤ bl)); have a5 := aM ((by rw [hg]; exact (aq z9) : w.heap.size ≤ bl)); clear HB; have HB := aT; have bi := aU; have fm := aX; have fp := a5; clear aT aU aX a5; clear hb hbox hg; have hcz13_0 : w12.cell? ⟨bl, 0, none⟩ = some (.int .i64 a0_0) := (bC bi.out 0).trans rfl; have hcz13_1 : w12.cell? ⟨bl, 1, none⟩ = some (.string a0_1) := (bC bi.out 1).trans rfl; have hcz13_2 : w12.cell? ⟨bl, 2, none⟩ = some (.string a0_2) := (bC bi.out 2).trans rfl; have hfz13_0 := bF bi.out 0; have hfz13_1 := bF bi.out 1; have hfz13_2 := bF bi.out 2) | (go_at_call 13; (with_reducible refine (impl_GoodText.calls k a0_1 kl _ eG.out).mono ?_); rintro e w' ⟨rfl, ⟨nd, rfl⟩⟩))
    all_goals (try (exfalso; rename_i h_; rw [c3b0] at h_; cases h_; done))
    all_goals (try (exfalso; rename_i h_; rw [c10b0] at h_; cases h_; done))
    go_ret
    exact ⟨y4, y14⟩
   ·rw [if_neg bz] at H
    have c10b0 : (a0_2.toList == ([] : List UInt8)) = false := qF bz
    have c10b1 : (a0_2.toList != ([] : List UInt8)) = true := nT bz
    have c10b8 : (!a0_2.toList.isEmpty) = true := by have h_ := c10b1; revert h_; cases a0_2.toList <;> simp
    obtain rfl := sI H
    go_enter Try.func48, Try.ntmps48
    go_wp2_with (first | ((with_reducible refine aD (N := 1) rfl ?_); refine aE ?hg (N := 1) ?hd (cs := #[.int .i64 a0_0, .string a0_1, .string a0_2]) (t := 44) ?hr ?_; (case hd => rfl); (case hg => rfl); (case hr => first | (go_simp; done) | (go_simp; rfl)); intro bl hg w14 hbox hb; have aT := aM (ap z9 hb); have aU := aM (hbox); have aX := aM ((by rw [hg]; exact (aq z9) : w.heap.size ≤ bl)); have a5 := aM ((by rw [hg]; exact (aq z9) : w.heap.size ≤ bl)); clear HB; have HB := aT; have bi := aU; have fm := aX; have fp := a5; clear aT aU aX a5; clear hb hbox hg; have d6 : w14.cell? ⟨bl, 0, none⟩ = some (.int .i64 a0_0) := (bC bi.out 0).trans rfl; have d5 : w14.cell? ⟨bl, 1, none⟩ = some (.string a0_1) := (bC bi.out 1).trans rfl; have d4 : w14.cell? ⟨bl, 2, none⟩ = some (.string a0_2) := (bC bi.out 2).trans rfl; have dZ := bF bi.out 0; have dY := bF bi.out 1; have dX := bF bi.out 2))
    all_goals (try (exfalso; rename_i h_; rw [c3b0] at h_; cases h_; done))
    all_goals (try (exfalso; rename_i h_; rw [c10b0] at h_; cases h_; done))
    go_ret
    exact ⟨y4, y14⟩
 ·rw [if_neg c2] at H
  have c2b0 : (a0_0 == 0) = false := qF c2
  have c2b1 : (a0_0 != 0) = true := nT c2
  by_cases cG : a0_0 ≥ 1
  ·rw [if_pos cG] at H
   have c16b0 : decide (1 ≤ a0_0) = true := dT cG
   clear cG
   by_cases cB : a0_0 ≤ 300
   ·rw [if_pos cB] at H
    have c17b0 : decide (a0_0 ≤ 300) = true := dT cB
    clear cB
    by_cases cn : a0_1.toList = ([] : List UInt8)
    ·rw [if_pos cn] at H
     have c18b0 : (a0_1.toList == ([] : List UInt8)) = true := qT cn
     have c18b1 : (a0_1.toList != ([] : List UInt8)) = false := nF cn
     have c18b8 : (!a0_1.toList.isEmpty) = false := by have h_ := c18b1; revert h_; cases a0_1.toList <;> simp
     clear cn
     obtain rfl := sI H
     go_enter Try.func48, Try.ntmps48
     go_wp2_with (first | ((with_reducible refine aD (N := 1) rfl ?_); refine aE ?hg (N := 1) ?hd (cs := #[.int .i64 a0_0, .string a0_1, .string a0_2]) (t := 44) ?hr ?_; (case hd => rfl); (case hg => rfl); (case hr => first | (go_simp; done) | (go_simp; rfl)); intro bl hg w19 hbox hb; have aT := aM (ap z9 hb); have aU := aM (hbox); have aX := aM ((by rw [hg]; exact (aq z9) : w.heap.size ≤ bl)); have a5 := aM ((by rw [hg]; exact (aq z9) : w.heap.size ≤ bl)); clear HB; have HB := aT; have bi := aU; have fm := aX; have fp := a5; clear aT aU aX a5; clear hb hbox hg; have gF : w19.cell? ⟨bl, 0, none⟩ = some (.int .i64 a0_0) := (bC bi.out 0).trans rfl; have gE : w19.cell? ⟨bl, 1, none⟩ = some (.string a0_1) := (bC bi.out 1).trans rfl; have gD : w19.cell? ⟨bl, 2, none⟩ = some (.string a0_2) := (bC bi.out 2).trans rfl; have gf := bF bi.out 0; have gc := bF bi.out 1; have gb := bF bi.out 2))
     all_goals (try (exfalso; rename_i h_; rw [c18b0] at h_; cases h_; done))
     go_ret
     exact ⟨y4, y14⟩
    ·rw [if_neg cn] at H
     have c18b0 : (a0_1.toList == ([] : List UInt8)) = false := qF cn
     have c18b1 : (a0_1.toList != ([] : List UInt8)) = true := nT cn
     have c18b8 : (!a0_1.toList.isEmpty) = true := by have h_ := c18b1; revert h_; cases a0_1.toList <;> simp
     obtain rfl := sI H
     go_enter Try.func48, Try.ntmps48
     go_wp2_with (first | ((with_reducible refine aD (N := 1) rfl ?_); refine aE ?hg (N := 1) ?hd (cs := #[.int .i64 a0_0, .string a0_1, .string a0_2]) (t := 44) ?hr ?_; (case hd => rfl); (case hg => rfl); (case hr => first | (go_simp; done) | (go_simp; rfl)); intro bl hg w21 hbox hb; have aT := aM (ap z9 hb); have aU := aM (hbox); have aX := aM ((by rw [hg]; exact (aq z9) : w.heap.size ≤ bl)); have a5 := aM ((by rw [hg]; exact (aq z9) : w.heap.size ≤ bl)); clear HB; have HB := aT; have bi := aU; have fm := aX; have fp := a5; clear aT aU aX a5; clear hb hbox hg; have dJ : w21.cell? ⟨bl, 0, none⟩ = some (.int .i64 a0_0) := (bC bi.out 0).trans rfl; have dI : w21.cell? ⟨bl, 1, none⟩ = some (.string a0_1) := (bC bi.out 1).trans rfl; have dH : w21.cell? ⟨bl, 2, none⟩ = some (.string a0_2) := (bC bi.out 2).trans rfl; have dC := bF bi.out 0; have dB := bF bi.out 1; have dA := bF bi.out 2))
     all_goals (try (exfalso; rename_i h_; rw [c18b0] at h_; cases h_; done))
     go_ret
     exact ⟨y4, y14⟩
   ·rw [if_neg cB] at H
    have c17b0 : decide (a0_0 ≤ 300) = false := dF cB
    clear cB
    obtain rfl := sI H
    go_enter Try.func48, Try.ntmps48
    go_wp2_with (first | ((with_reducible refine aD (N := 1) rfl ?_); refine aE ?hg (N := 1) ?hd (cs := #[.int .i64 a0_0, .string a0_1, .string a0_2]) (t := 44) ?hr ?_; (case hd => rfl); (case hg => rfl); (case hr => first | (go_simp; done) | (go_simp; rfl)); intro bl hg w23 hbox hb; have aT := aM (ap z9 hb); have aU := aM (hbox); have aX := aM ((by rw [hg]; exact (aq z9) : w.heap.size ≤ bl)); have a5 := aM ((by rw [hg]; exact (aq z9) : w.heap.size ≤ bl)); clear HB; have HB := aT; have bi := aU; have fm := aX; have fp := a5; clear aT aU aX a5; clear hb hbox hg; have jw : w23.cell? ⟨bl, 0, none⟩ = some (.int .i64 a0_0) := (bC bi.out 0).trans rfl; have jv : w23.cell? ⟨bl, 1, none⟩ = some (.string a0_1) := (bC bi.out 1).trans rfl; have ju : w23.cell? ⟨bl, 2, none⟩ = some (.string a0_2) := (bC bi.out 2).trans rfl; have i7 := bF bi.out 0; have i6 := bF bi.out 1; have i5 := bF bi.out 2))
    go_ret
    exact ⟨y4, y14⟩
  ·rw [if_neg cG] at H
   have c16b0 : decide (1 ≤ a0_0) = false := dF cG
   clear cG
   obtain rfl := sI H
   go_enter Try.func48, Try.ntmps48
   go_wp2_with (first | ((with_reducible refine aD (N := 1) rfl ?_); refine aE ?hg (N := 1) ?hd (cs := #[.int .i64 a0_0, .string a0_1, .string a0_2]) (t := 44) ?hr ?_; (case hd => rfl); (case hg => rfl); (case hr => first | (go_simp; done) | (go_simp; rfl)); intro bl hg w25 hbox hb; have aT := aM (ap z9 hb); have aU := aM (hbox); have aX := aM ((by rw [hg]; exact (aq z9) : w.heap.size ≤ bl)); have a5 := aM ((by rw [hg]; exact (aq z9) : w.heap.size ≤ bl)); clear HB; have HB := aT; have bi := aU; have fm := aX; have fp := a5; clear aT aU aX a5; clear hb hbox hg; have cT : w25.cell? ⟨bl, 0, none⟩ = some (.int .i64 a0_0) := (bC bi.out 0).trans rfl; have cS : w25.cell? ⟨bl, 1, none⟩ = some (.string a0_1) := (bC bi.out 1).trans rfl; have cR : w25.cell? ⟨bl, 2, none⟩ = some (.string a0_2) := (bC bi.out 2).trans rfl; have cQ := bF bi.out 0; have cP := bF bi.out 1; have cO := bF bi.out 2))
   go_ret
   exact ⟨y4, y14⟩

/-! ### impl_GoodOp_1: function 47 -/
def impl_GoodOp_1.f (k : Nat) (a0_0 : Int) (a0_1 : ByteArray) (a0_2 : ByteArray) : Option (Bool) := (impl_Part_isPart.f k a0_0 a0_1 a0_2).bind fun kk => (some (!kk))
theorem impl_GoodOp_1.mono : ∀ a0 a1 a2 k, LeO (impl_GoodOp_1.f k a0 a1 a2) (impl_GoodOp_1.f (k + 1) a0 a1 a2) := by
 intro a0 a1 a2 k
 unfold impl_GoodOp_1.f
 repeat' first
   | (with_reducible exact impl_Part_isPart.mono _ _ _ _)
   | (with_reducible exact LeO.refl _)
   | (with_reducible exact LeO.none _)
   | (with_reducible refine LeO.ite ?_ ?_)
   | (with_reducible refine LeO.bind ?_ (fun _ => ?_))
   | exact impl_Part_isPart.mono _ _ _ _
   | exact LeO.none _
   | refine LeO.ite ?_ ?_
   | refine LeO.bind ?_ (fun _ => ?_)
set_option maxHeartbeats 8000000 in
set_option maxRecDepth 100000 in
theorem impl_GoodOp_1.calls (k : Nat) (a0_0 : Int) (a0_1 : ByteArray) (a0_2 : ByteArray) (r : Bool) (w : World) (h : impl_GoodOp_1.f k a0_0 a0_1 a0_2 = some r) :
  Calls Try.prog 47 #[.agg #[.int .i64 a0_0, .string a0_1, .string a0_2]] w fun e w' => e = .returned (.bool r) ∧ Below w.heap.size w w' := by
 have hu44 := Try.underlying44
 have HB := aM (Below.refl w.heap.size w)
 have H : ((impl_Part_isPart.f k a0_0 a0_1 a0_2).bind fun kk => (some (!kk))) = some r := h
 clear h
 replace H := oB H
 obtain ⟨kk, k7, H⟩ := H
 try dsimp only at H
 have A2 := aM k7
 clear k7
 obtain rfl := sI H
 go_enter Try.func47, Try.ntmps47
 go_wp2_with (first | ((with_reducible refine aD (N := 1) rfl ?_); refine aE ?hg (N := 1) ?hd (cs := #[.int .i64 a0_0, .string a0_1, .string a0_2]) (t := 44) ?hr ?_; (case hd => rfl); (case hg => rfl); (case hr => first | (go_simp; done) | (go_simp; rfl)); intro fD hg w3 hbox hb; have aT := aM (ap z9 hb); have aU := aM (hbox); have aX := aM ((by rw [hg]; exact (aq z9) : w.heap.size ≤ fD)); have a5 := aM ((by rw [hg]; exact (aq z9) : w.heap.size ≤ fD)); clear HB; have HB := aT; have ey := aU; have GW327 := aX; have lQ := a5; clear aT aU aX a5; clear hb hbox hg; have hcz4_0 : w3.cell? ⟨fD, 0, none⟩ = some (.int .i64 a0_0) := (bC ey.out 0).trans rfl; have hcz4_1 : w3.cell? ⟨fD, 1, none⟩ = some (.string a0_1) := (bC ey.out 1).trans rfl; have hcz4_2 : w3.cell? ⟨fD, 2, none⟩ = some (.string a0_2) := (bC ey.out 2).trans rfl; have hfz4_0 := bF ey.out 0; have hfz4_1 := bF ey.out 1; have hfz4_2 := bF ey.out 2) | ((with_reducible refine aC (f := 48) rfl ?_); refine aG (some 4) rfl rfl Try.func48 z0 rfl #[.agg #[.int .i64 a0_0, .string a0_1, .string a0_2]] rfl z10 ?_; (with_reducible refine (impl_Part_isPart.calls k a0_0 a0_1 a0_2 kk _ A2.out).mono ?_); rintro e w5 ⟨rfl, hb⟩; refine ⟨_, rfl, ?_⟩; have aT := aM (blk_below (g := fD) (o := .cells #[.int .i64 a0_0, .string a0_1, .string a0_2] 44 (0, 0)) (by (with_reducible repeat (first | refine al ?_ _ | refine ak ?_ | refine am ?_ _)); exact ey.out) hb); have aU := aM (ap (by repeat (first | (with_reducible first | exact HB.out | apply bA | apply pD | apply bD | refine ao ?_ lQ.out) | exact HB.out)) hb); clear ey; clear HB; have ey := aT; have HB := aU; clear aT aU; (try clear hb); (try clear hb2); (try clear hk); (try clear hi)))
 go_ret
 exact ⟨y4, by repeat (first | (with_reducible first | exact HB.out | apply bA | apply pD | apply bD | refine ao ?_ lQ.out) | exact HB.out)⟩

/-! ### impl_Part_58: function 58 -/
def impl_Part_58.l0 : Nat → List (S44) → Int → Int → Option (Int)
 | 0, _, _, _ => none
 | k + 1, x0, x7, x8 => if x8 < x7 then (if 0 ≤ x8 then (if x8 < (x0.length : Int) then ((impl_GoodOp_1.f k ((rd_T44 x0 x8).f0) ((rd_T44 x0 x8).f1) ((rd_T44 x0 x8).f2)).bind fun lW => (if lW = true then (some x8) else (impl_Part_58.l0 k x0 x7 (wrap64 (x8 + 1))))) else (none)) else (none)) else (some (-1))
def impl_Part_58.f (k : Nat) (l0 : List (S44))  : Option (Int) := impl_Part_58.l0 k l0 (l0.length : Int) 0
theorem impl_Part_58.mono_l : ∀ k, (∀ y0 y1 y2, LeO (impl_Part_58.l0 k y0 y1 y2) (impl_Part_58.l0 (k + 1) y0 y1 y2))
 | 0 => fun _ _ _ r h => by simp [impl_Part_58.l0] at h
 | k + 1 => by
  have ih0 := impl_Part_58.mono_l k
  ·intro y0 y1 y2
   unfold impl_Part_58.l0
   repeat' first
   | (with_reducible exact ih0 _ _ _)
   | (with_reducible exact impl_GoodOp_1.mono _ _ _ _)
   | (with_reducible exact LeO.refl _)
   | (with_reducible exact LeO.none _)
   | (with_reducible refine LeO.ite ?_ ?_)
   | (with_reducible refine LeO.bind ?_ (fun _ => ?_))
   | exact ih0 _ _ _
   | exact impl_GoodOp_1.mono _ _ _ _
   | exact LeO.none _
   | refine LeO.ite ?_ ?_
   | refine LeO.bind ?_ (fun _ => ?_)
theorem impl_Part_58.mono : ∀ a0 k, LeO (impl_Part_58.f k a0) (impl_Part_58.f (k + 1) a0) := by
 intro a0 k
 have ih0 := impl_Part_58.mono_l k
 unfold impl_Part_58.f
 repeat' first
   | (with_reducible exact ih0 _ _ _)
   | (with_reducible exact impl_GoodOp_1.mono _ _ _ _)
   | (with_reducible exact LeO.refl _)
   | (with_reducible exact LeO.none _)
   | (with_reducible refine LeO.ite ?_ ?_)
   | (with_reducible refine LeO.bind ?_ (fun _ => ?_))
   | exact ih0 _ _ _
   | exact impl_GoodOp_1.mono _ _ _ _
   | exact LeO.none _
   | refine LeO.ite ?_ ?_
   | refine LeO.bind ?_ (fun _ => ?_)
set_option maxHeartbeats 8000000 in
set_option maxRecDepth 100000 in
theorem impl_Part_58.calls (k : Nat) (A0 : Option Addr) (c0 : Nat) (l0 : List (S44))  (r : Int) (w : World) (hr0 : Kd.C k44 w A0 l0.length l0) (hc0 : l0.length ≤ c0) (h : impl_Part_58.f k l0 = some r) :
  Calls Try.prog 58 #[.slice A0 l0.length c0, .func (.func 47) #[] #[]] w fun e w' => e = .returned (.int .i64 r) ∧ Below w.heap.size w w' := by
 have hu44 := Try.underlying44
 have bG := aM hr0
 have b8 := aM hc0
 clear hr0 hc0
 have HB := aM (Below.refl w.heap.size w)
 have H : (impl_Part_58.l0 k l0 (l0.length : Int) 0) = some r := h
 clear h
 have H' := aM H
 clear H
 go_enter Try.func58, Try.ntmps58
 go_wp2
 go_loopg [8] k (fun kq v8 w' => ∃ (x8_1 : Int), v8 = .int .i64 x8_1 ∧ Aside0 (impl_Part_58.l0 kq l0 (l0.length : Int) x8_1 = some r) ∧ Aside0 (kq ≤ k) ∧ Aside0 (Below w.heap.size w w'))
 case atStart => exact ⟨(0), z1, H', ⟨Nat.le_refl _⟩, ⟨y5⟩⟩
 case round =>
  clear H'
  try clear p2
  obtain ⟨x8_1, rfl, HA, HK1, HB⟩ := hrel
  cases gk with
  | zero => exact absurd HA.out (by simp [impl_Part_58.l0])
  | succ k1 =>
   have H := HA.out
   clear HA
   simp only [impl_Part_58.l0] at H
   by_cases c3 : x8_1 < (l0.length : Int)
   ·rw [if_pos c3] at H
    have c3b0 : decide (x8_1 < (l0.length : Int)) = true := dT c3
    clear c3
    by_cases c4 : 0 ≤ x8_1
    ·rw [if_pos c4] at H
     have c4b0 : decide (0 ≤ x8_1) = true := dT c4
     clear c4
     by_cases c5 : x8_1 < (l0.length : Int)
     ·rw [if_pos c5] at H
      have c5b0 : decide (x8_1 < (l0.length : Int)) = true := dT c5
      clear c5
      replace H := oB H
      obtain ⟨lW, ez, H⟩ := H
      try dsimp only at H
      have A6 := aM ez
      clear ez
      by_cases c7 : lW = true
      ·subst c7
       rw [if_pos rfl] at H
       obtain rfl := sI H
       have p329 : 0 ≤ (x8_1 : Int) := oD z2
       have q329 : x8_1 < (l0.length : Int) := oD z2
       obtain ⟨ad329, e329, hx329_0, hx329_1, hx329_2⟩ := at_T44 bG.out x8_1 p329 q329
       cases e329
       replace hx329_0 := (HB.out.cell (World.block_lt_of_cell? w _ hx329_0)).trans hx329_0
       replace hx329_1 := (HB.out.cell (World.block_lt_of_cell? w _ hx329_1)).trans hx329_1
       replace hx329_2 := (HB.out.cell (World.block_lt_of_cell? w _ hx329_2)).trans hx329_2
       replace p329 := eq_true p329
       replace q329 := eq_true q329
       go_wp2_with (first | (go_at_call 47; (with_reducible refine (impl_GoodOp_1.calls k1 ((rd_T44 l0 x8_1).f0) ((rd_T44 l0 x8_1).f1) ((rd_T44 l0 x8_1).f2) true _ A6.out).mono ?_); rintro e w8 ⟨rfl, hb⟩; have aT := aM (ap z9 hb); clear HB; have HB := aT; clear aT; (try clear hb); (try clear hb2); (try clear hk); (try clear hi)))
       go_ret
       exact ⟨y4, y5⟩
      ·replace c7 := Bool.eq_false_iff.mpr c7
       subst c7
       rw [if_neg (show ¬ (false = true) by decide)] at H
       have H' := aM H
       clear H
       have p329 : 0 ≤ (x8_1 : Int) := oD z2
       have q329 : x8_1 < (l0.length : Int) := oD z2
       obtain ⟨ad329, e329, hx329_0, hx329_1, hx329_2⟩ := at_T44 bG.out x8_1 p329 q329
       cases e329
       replace hx329_0 := (HB.out.cell (World.block_lt_of_cell? w _ hx329_0)).trans hx329_0
       replace hx329_1 := (HB.out.cell (World.block_lt_of_cell? w _ hx329_1)).trans hx329_1
       replace hx329_2 := (HB.out.cell (World.block_lt_of_cell? w _ hx329_2)).trans hx329_2
       replace p329 := eq_true p329
       replace q329 := eq_true q329
       go_wp2_with (first | (go_at_call 47; (with_reducible refine (impl_GoodOp_1.calls k1 ((rd_T44 l0 x8_1).f0) ((rd_T44 l0 x8_1).f1) ((rd_T44 l0 x8_1).f2) false _ A6.out).mono ?_); rintro e w9 ⟨rfl, hb⟩; have aT := aM (ap z9 hb); clear HB; have HB := aT; clear aT; (try clear hb); (try clear hb2); (try clear hk); (try clear hi)))
       go_roundg k1
       case measure => have := HK1.out; omega
       case rel => exact ⟨(wrap64 (x8_1 + 1)), z1, H', ⟨y0⟩, ⟨y5⟩⟩
     ·rw [if_neg c5] at H
      exact absurd H (by simp)
    ·rw [if_neg c4] at H
     exact absurd H (by simp)
   ·rw [if_neg c3] at H
    have c3b0 : decide (x8_1 < (l0.length : Int)) = false := dF c3
    clear c3
    obtain rfl := sI H
    go_wp2
    go_ret
    exact ⟨y4, y5⟩

/-! ### impl_Part_46: function 46 -/
def impl_Part_46.f (k : Nat) (l0 : List (S44))  : Option (Bool) := (impl_Part_58.f k l0).bind fun kj => (some (decide (kj ≥ 0)))
theorem impl_Part_46.mono : ∀ a0 k, LeO (impl_Part_46.f k a0) (impl_Part_46.f (k + 1) a0) := by
 intro a0 k
 unfold impl_Part_46.f
 repeat' first
   | (with_reducible exact impl_Part_58.mono _ _)
   | (with_reducible exact LeO.refl _)
   | (with_reducible exact LeO.none _)
   | (with_reducible refine LeO.ite ?_ ?_)
   | (with_reducible refine LeO.bind ?_ (fun _ => ?_))
   | exact impl_Part_58.mono _ _
   | exact LeO.none _
   | refine LeO.ite ?_ ?_
   | refine LeO.bind ?_ (fun _ => ?_)
set_option maxHeartbeats 8000000 in
set_option maxRecDepth 100000 in
theorem impl_Part_46.calls (k : Nat) (A0 : Option Addr) (c0 : Nat) (l0 : List (S44))  (r : Bool) (w : World) (hr0 : Kd.C k44 w A0 l0.length l0) (hc0 : l0.length ≤ c0) (h : impl_Part_46.f k l0 = some r) :
  Calls Try.prog 46 #[.slice A0 l0.length c0, .func (.func 47) #[] #[]] w fun e w' => e = .returned (.bool r) ∧ Below w.heap.size w w' := by
 have bG := aM hr0
 have b8 := aM hc0
 clear hr0 hc0
 have HB := aM (Below.refl w.heap.size w)
 have H : ((impl_Part_58.f k l0).bind fun kj => (some (decide (kj ≥ 0)))) = some r := h
 clear h
 replace H := oB H
 obtain ⟨kj, eF, H⟩ := H
 try dsimp only at H
 have A3 := aM eF
 clear eF
 obtain rfl := sI H
 go_enter Try.func46, Try.ntmps46
 go_wp2_with (first | ((with_reducible refine aC (f := 58) rfl ?_); refine aG (some 7) rfl rfl Try.func58 z0 rfl #[.slice A0 l0.length c0, .func (.func 47) #[] #[]] rfl z10 ?_; (with_reducible refine (impl_Part_58.calls k _ _ l0  kj _ ?side1 ?side2 A3.out).mono ?_); (case side1 => repeat (first | exact bG.out | (with_reducible refine av ?_ _) | (with_reducible refine aw ?_ _) | (with_reducible refine ay ?_))); (case side2 => exact b8.out); rintro e w4 ⟨rfl, hb⟩; refine ⟨_, rfl, ?_⟩; have aT := aM (ap z9 hb); clear HB; have HB := aT; clear aT; (try clear hb); (try clear hb2); (try clear hk); (try clear hi)))
 go_ret
 exact ⟨y4, y5⟩

/-! ### impl_GoodOp: function 33 -/
def impl_GoodOp.f (k : Nat) (l0 : List (S44)) : Option (Bool) := if (l0.length : Int) > 60 then (some false) else ((impl_Part_46.f k l0).bind fun ki => (if ki = true then (some false) else ((impl_sizes.f k l0).bind fun hV => (if hV.1 ≤ 300 then (some (decide (hV.2 ≤ 300))) else (some false)))))
theorem impl_GoodOp.mono : ∀ a0 k, LeO (impl_GoodOp.f k a0) (impl_GoodOp.f (k + 1) a0) := by
 intro a0 k
 unfold impl_GoodOp.f
 repeat' first
   | (with_reducible exact impl_Part_46.mono _ _)
   | (with_reducible exact impl_sizes.mono _ _)
   | (with_reducible exact LeO.refl _)
   | (with_reducible exact LeO.none _)
   | (with_reducible refine LeO.ite ?_ ?_)
   | (with_reducible refine LeO.bind ?_ (fun _ => ?_))
   | exact impl_Part_46.mono _ _
   | exact impl_sizes.mono _ _
   | exact LeO.none _
   | refine LeO.ite ?_ ?_
   | refine LeO.bind ?_ (fun _ => ?_)
set_option maxHeartbeats 8000000 in
set_option maxRecDepth 100000 in
theorem impl_GoodOp.calls (k : Nat) (A0 : Option Addr) (c0 : Nat) (l0 : List (S44)) (r : Bool) (w : World) (hr0 : Kd.C k44 w A0 l0.length l0) (hc0 : l0.length ≤ c0) (h : impl_GoodOp.f k l0 = some r) :
  Calls Try.prog 33 #[.slice A0 l0.length c0] w fun e w' => e = .returned (.bool r) ∧ Below w.heap.size w w' := by
 have bG := aM hr0
 have b8 := aM hc0
 clear hr0 hc0
 have HB := aM (Below.refl w.heap.size w)
 have H : (if (l0.length : Int) > 60 then (some false) else ((impl_Part_46.f k l0).bind fun ki => (if ki = true then (some false) else ((impl_sizes.f k l0).bind fun hV => (if hV.1 ≤ 300 then (some (decide (hV.2 ≤ 300))) else (some false)))))) = some r := h
 clear h
 by_cases c2 : (l0.length : Int) > 60
 ·rw [if_pos c2] at H
  have c2b0 : decide (60 < (l0.length : Int)) = true := dT c2
  have c2b1 : decide (60 < l0.length) = true := dT (by omega)
  clear c2
  obtain rfl := sI H
  go_enter Try.func33, Try.ntmps33
  go_wp2
  go_ret
  exact ⟨y4, y5⟩
 ·rw [if_neg c2] at H
  have c2b0 : decide (60 < (l0.length : Int)) = false := dF c2
  have c2b1 : decide (60 < l0.length) = false := dF (by omega)
  clear c2
  replace H := oB H
  obtain ⟨ki, eF, H⟩ := H
  try dsimp only at H
  have A3 := aM eF
  clear eF
  by_cases c4 : ki = true
  ·subst c4
   rw [if_pos rfl] at H
   obtain rfl := sI H
   go_enter Try.func33, Try.ntmps33
   go_wp2_with (first | (go_at_call 46; (with_reducible refine (impl_Part_46.calls k _ _ l0  true _ ?side1 ?side2 A3.out).mono ?_); (case side1 => repeat (first | exact bG.out | (with_reducible refine av ?_ _) | (with_reducible refine aw ?_ _) | (with_reducible refine ay ?_))); (case side2 => exact b8.out); rintro e w5 ⟨rfl, hb⟩; have aT := aM (ap z9 hb); clear HB; have HB := aT; clear aT; (try clear hb); (try clear hb2); (try clear hk); (try clear hi)))
   go_ret
   exact ⟨y4, y5⟩
  ·replace c4 := Bool.eq_false_iff.mpr c4
   subst c4
   rw [if_neg (show ¬ (false = true) by decide)] at H
   replace H := oB H
   obtain ⟨⟨kh, mC⟩, ez, H⟩ := H
   try dsimp only at H
   have A6 := aM ez
   clear ez
   by_cases c7 : kh ≤ 300
   ·rw [if_pos c7] at H
    have c7b0 : decide (kh ≤ 300) = true := dT c7
    clear c7
    obtain rfl := sI H
    go_enter Try.func33, Try.ntmps33
    go_wp2_with (first | (go_at_call 46; (with_reducible refine (impl_Part_46.calls k _ _ l0  false _ ?side1 ?side2 A3.out).mono ?_); (case side1 => repeat (first | exact bG.out | (with_reducible refine av ?_ _) | (with_reducible refine aw ?_ _) | (with_reducible refine ay ?_))); (case side2 => exact b8.out); rintro e w8 ⟨rfl, hb⟩; have aT := aM (ap z9 hb); clear HB; have HB := aT; clear aT; (try clear hb); (try clear hb2); (try clear hk); (try clear hi)) | ((with_reducible refine aC (f := 34) rfl ?_); refine aG (some 14) rfl rfl Try.func34 z0 rfl #[.slice A0 l0.length c0] rfl z10 ?_; (with_reducible refine (impl_sizes.calls k _ _ l0 kh mC _ ?side1 ?side2 A6.out).mono ?_); (case side1 => repeat (first | exact (au bG.out HB.out) | (with_reducible refine av ?_ _) | (with_reducible refine aw ?_ _) | (with_reducible refine ay ?_))); (case side2 => exact b8.out); rintro e w9 ⟨rfl, hb⟩; refine ⟨_, rfl, ?_⟩; have aT := aM (ap z9 hb); clear HB; have HB := aT; clear aT; (try clear hb); (try clear hb2); (try clear hk); (try clear hi)))
    go_ret
    exact ⟨y4, y5⟩
   ·rw [if_neg c7] at H
    have c7b0 : decide (kh ≤ 300) = false := dF c7
    clear c7
    obtain rfl := sI H
    go_enter Try.func33, Try.ntmps33
    go_wp2_with (first | (go_at_call 46; (with_reducible refine (impl_Part_46.calls k _ _ l0  false _ ?side1 ?side2 A3.out).mono ?_); (case side1 => repeat (first | exact bG.out | (with_reducible refine av ?_ _) | (with_reducible refine aw ?_ _) | (with_reducible refine ay ?_))); (case side2 => exact b8.out); rintro e w10 ⟨rfl, hb⟩; have aT := aM (ap z9 hb); clear HB; have HB := aT; clear aT; (try clear hb); (try clear hb2); (try clear hk); (try clear hi)) | ((with_reducible refine aC (f := 34) rfl ?_); refine aG (some 14) rfl rfl Try.func34 z0 rfl #[.slice A0 l0.length c0] rfl z10 ?_; (with_reducible refine (impl_sizes.calls k _ _ l0 kh mC _ ?side1 ?side2 A6.out).mono ?_); (case side1 => repeat (first | exact (au bG.out HB.out) | (with_reducible refine av ?_ _) | (with_reducible refine aw ?_ _) | (with_reducible refine ay ?_))); (case side2 => exact b8.out); rintro e w11 ⟨rfl, hb⟩; refine ⟨_, rfl, ?_⟩; have aT := aM (ap z9 hb); clear HB; have HB := aT; clear aT; (try clear hb); (try clear hb2); (try clear hk); (try clear hi)))
    go_ret
    exact ⟨y4, y5⟩

/-! ### impl_goodOp: function 23 -/
def impl_goodOp.f (k : Nat) (l0 : List (S44)) : Option ((List (S44)) × Bool) := (impl_GoodOp.f k l0).bind fun kg => (if kg = true then (some (l0, true)) else (some (([] : List (S44)), false)))
theorem impl_goodOp.mono : ∀ a0 k, LeO (impl_goodOp.f k a0) (impl_goodOp.f (k + 1) a0) := by
 intro a0 k
 unfold impl_goodOp.f
 repeat' first
   | (with_reducible exact impl_GoodOp.mono _ _)
   | (with_reducible exact LeO.refl _)
   | (with_reducible exact LeO.none _)
   | (with_reducible refine LeO.ite ?_ ?_)
   | (with_reducible refine LeO.bind ?_ (fun _ => ?_))
   | exact impl_GoodOp.mono _ _
   | exact LeO.none _
   | refine LeO.ite ?_ ?_
   | refine LeO.bind ?_ (fun _ => ?_)
set_option maxHeartbeats 8000000 in
set_option maxRecDepth 100000 in
theorem impl_goodOp.calls (k : Nat) (P0_ : Nat → Prop) (u9000_ : Value) (l0 : List (S44)) (r1 : List (S44)) (r2 : Bool) (w0 w : World) (hB : Below w0.heap.size w0 w) (ho0 : Kd.R k44 44 w w0.heap.size P0_ u9000_ l0) (h : impl_goodOp.f k l0 = some (r1, r2)) :
  Calls Try.prog 23 #[u9000_] w fun e w' => ∃ v0_ : Value, e = .returned (.tuple #[v0_, .bool r2]) ∧ Kd.R k44 44 w' w0.heap.size (fun k_ => (P0_ k_ ∨ w.heap.size ≤ k_)) v0_ r1 ∧ Below w0.heap.size w0 w' ∧ Kept w w' (fun k_ => P0_ k_) := by
 have fz := aM (show Kd.R k44 44 w w0.heap.size (fun k_ => (P0_ k_ ∨ w.heap.size ≤ k_)) u9000_ l0 from af ho0 (fun k_ hk => (.inl hk)))
 have HK := aM (Kept.refl w (fun k_ => P0_ k_))
 have HW0 := aM hB.size
 have HB := aM hB
 clear hB
 have H : ((impl_GoodOp.f k l0).bind fun kg => (if kg = true then (some (l0, true)) else (some (([] : List (S44)), false)))) = some (r1, r2) := h
 clear h
 replace H := oB H
 obtain ⟨kg, k7, H⟩ := H
 try dsimp only at H
 have A2 := aM k7
 clear k7
 by_cases c3 : kg = true
 ·subst c3
  rw [if_pos rfl] at H
  simp only [Option.some.injEq, Prod.mk.injEq] at H
  obtain ⟨rfl, rfl⟩ := H
  obtain ⟨nN, mZ, eo4⟩ := Kd.R_slice fz.out
  subst eo4
  go_enter Try.func23, Try.ntmps23
  go_wp2_with (first | ((with_reducible refine aC (f := 33) rfl ?_); refine aG (some 5) rfl rfl Try.func33 z0 rfl #[.slice nN l0.length mZ] rfl z10 ?_; (with_reducible refine (impl_GoodOp.calls k _ _ l0 true _ ?side1 ?side2 A2.out).mono ?_); (case side1 => repeat (first | exact (ag fz.out).2.2 | (with_reducible refine av ?_ _) | (with_reducible refine aw ?_ _) | (with_reducible refine ay ?_))); (case side2 => exact (ag fz.out).2.1); rintro e w5 ⟨rfl, hb⟩; refine ⟨_, rfl, ?_⟩; have aT := aM (ae (by (with_reducible repeat (first | apply ac | apply ab | apply aa)); exact fz.out) hb); have aU := aM (Kept.below (S := (fun k_ => P0_ k_)) (by repeat (first | (with_reducible first | exact HK.out | apply Kept.alloc | apply Kept.drewN | apply Kept.drew) | exact HK.out)) hb); have aX := aM (ap z9 hb); clear fz; clear HK; clear HB; have fz := aT; have HK := aU; have HB := aX; clear aT aU aX; (try clear hb); (try clear hb2); (try clear hk); (try clear hi)))
  go_ret2
  exact ⟨_, y4, by (with_reducible repeat (first | apply ac | apply ab | apply aa)); exact fz.out, y5, by repeat (first | (with_reducible first | exact HK.out | apply Kept.alloc | apply Kept.drewN | apply Kept.drew) | exact HK.out)⟩
 ·replace c3 := Bool.eq_false_iff.mpr c3
  subst c3
  rw [if_neg (show ¬ (false = true) by decide)] at H
  simp only [Option.some.injEq, Prod.mk.injEq] at H
  obtain ⟨rfl, rfl⟩ := H
  obtain ⟨Ao6, co6, eo6⟩ := Kd.R_slice fz.out
  subst eo6
  go_enter Try.func23, Try.ntmps23
  go_wp2_with (first | ((with_reducible refine aC (f := 33) rfl ?_); refine aG (some 5) rfl rfl Try.func33 z0 rfl #[.slice Ao6 l0.length co6] rfl z10 ?_; (with_reducible refine (impl_GoodOp.calls k _ _ l0 false _ ?side1 ?side2 A2.out).mono ?_); (case side1 => repeat (first | exact (ag fz.out).2.2 | (with_reducible refine av ?_ _) | (with_reducible refine aw ?_ _) | (with_reducible refine ay ?_))); (case side2 => exact (ag fz.out).2.1); rintro e w7 ⟨rfl, hb⟩; refine ⟨_, rfl, ?_⟩; have aT := aM (ae (by (with_reducible repeat (first | apply ac | apply ab | apply aa)); exact fz.out) hb); have aU := aM (Kept.below (S := (fun k_ => P0_ k_)) (by repeat (first | (with_reducible first | exact HK.out | apply Kept.alloc | apply Kept.drewN | apply Kept.drew) | exact HK.out)) hb); have aX := aM (ap z9 hb); clear fz; clear HK; clear HB; have fz := aT; have HK := aU; have HB := aX; clear aT aU aX; (try clear hb); (try clear hb2); (try clear hk); (try clear hi)))
  go_ret2
  exact ⟨_, y4, y21, y5, by repeat (first | (with_reducible first | exact HK.out | apply Kept.alloc | apply Kept.drewN | apply Kept.drew) | exact HK.out)⟩

/-! ### impl_maker_made: function 24, by hand -/
def Mk (w0 w : World) (g : Nat) (v : Value) (out : List S44) (put drop : ByteArray) : Prop :=
 w.heap[g]? = some (.cells #[v, .string put, .string drop] 39 (0, 0)) ∧ Kd.R k44 44 w w0.heap.size (fun _ => True) v out ∧ Below w0.heap.size w0 w ∧ w0.heap.size ≤ g
def MkTo (w w' : World) (g : Nat) (v v' : Value) : Prop := Kept w w' (fun k => k = g ∨ some k = v.ownBlock) ∧ (v'.ownBlock = v.ownBlock ∨ ∃ b, v'.ownBlock = some b ∧ w.heap.size ≤ b)
theorem MkTo.refl (w : World) (g : Nat) (v : Value) : MkTo w w g v v := ⟨Kept.refl _ _, .inl rfl⟩
theorem MkTo.trans {w w1 w2 : World} {g : Nat} {v v1 v2 : Value} (h : MkTo w w1 g v v1) (k : MkTo w1 w2 g v1 v2) : MkTo w w2 g v v2 := by
 obtain ⟨h1, h2⟩ := h
 obtain ⟨k1, k2⟩ := k
 refine ⟨h1.then_ k1 (fun b hb => ?_), ?_⟩
 ·rcases hb with rfl | hb
  ·exact .inl (.inl rfl)
  ·rcases h2 with h2 | ⟨b', h2, hle⟩
   ·rw [h2] at hb; exact .inl (.inr hb)
   ·rw [h2] at hb; injection hb with hb; exact .inr (by omega)
 ·rcases k2 with k2 | ⟨b', k2, hle⟩
  ·rw [k2]; exact h2
  ·exact .inr ⟨b', k2, Nat.le_trans h1.1 hle⟩
theorem Mk.alloc {w0 w : World} {g : Nat} {v : Value} {out : List S44} {put drop : ByteArray} (h : Mk w0 w g v out put drop) (o : Obj) : Mk w0 (w.alloc o) g v out put drop :=
 ⟨am h.1 o, ac h.2.1 o, h.2.2.1.alloc h.2.2.1.size o, h.2.2.2⟩
theorem Mk.drew {w0 w : World} {g : Nat} {v : Value} {out : List S44} {put drop : ByteArray} (h : Mk w0 w g v out put drop) : Mk w0 w.drew g v out put drop :=
 ⟨ak h.1, aa h.2.1, below_drew h.2.2.1, h.2.2.2⟩
theorem Mk.drewN {w0 w : World} {g : Nat} {v : Value} {out : List S44} {put drop : ByteArray} (h : Mk w0 w g v out put drop) (n : Nat) : Mk w0 (w.drewN n) g v out put drop :=
 ⟨al h.1 n, ab h.2.1 n, pD h.2.2.1 n, h.2.2.2⟩
theorem Mk.below {w0 w w' : World} {g : Nat} {v : Value} {out : List S44} {put drop : ByteArray} (h : Mk w0 w g v out put drop) (hb : Below w.heap.size w w') : Mk w0 w' g v out put drop :=
 ⟨blk_below h.1 hb, ae h.2.1 hb, below_then h.2.2.1 h.2.2.1.size hb, h.2.2.2⟩
theorem MkTo.alloc {w w' : World} {g : Nat} {v v' : Value} (h : MkTo w w' g v v') (o : Obj) : MkTo w (w'.alloc o) g v v' := ⟨h.1.alloc o, h.2⟩
theorem MkTo.drew {w w' : World} {g : Nat} {v v' : Value} (h : MkTo w w' g v v') : MkTo w w'.drew g v v' := ⟨h.1.drew, h.2⟩
theorem MkTo.drewN {w w' : World} {g : Nat} {v v' : Value} (h : MkTo w w' g v v') (n : Nat) : MkTo w (w'.drewN n) g v v' := ⟨h.1.drewN n, h.2⟩
theorem MkTo.below {w w' w2 : World} {g : Nat} {v v' : Value} (h : MkTo w w' g v v') (hb : Below w'.heap.size w' w2) : MkTo w w2 g v v' := ⟨h.1.below hb, h.2⟩
theorem Mk.far {w0 w : World} {g : Nat} {v : Value} {out : List S44} {put drop : ByteArray} (h : Mk w0 w g v out put drop) : ∀ k, v.ownBlock = some k → k ≠ g := fun k hk e => aA h.2.1 h.1 (by decide) (by rw [hk, e])
theorem Mk.set1 {w0 w : World} {g : Nat} {v : Value} {out : List S44} {put drop : ByteArray} (h : Mk w0 w g v out put drop) (s : ByteArray) : Mk w0 (w.setCell ⟨g, 1, none⟩ (.string s)) g v out s drop :=
 ⟨by simpa using blk_set h.1 1 (.string s), Kd.R_set h.2.1 h.1 (by decide) 1 _, ao h.2.2.1 h.2.2.2, h.2.2.2⟩
theorem Mk.set2 {w0 w : World} {g : Nat} {v : Value} {out : List S44} {put drop : ByteArray} (h : Mk w0 w g v out put drop) (s : ByteArray) : Mk w0 (w.setCell ⟨g, 2, none⟩ (.string s)) g v out put s :=
 ⟨by simpa using blk_set h.1 2 (.string s), Kd.R_set h.2.1 h.1 (by decide) 2 _, ao h.2.2.1 h.2.2.2, h.2.2.2⟩
theorem MkTo.set {w w' : World} {g : Nat} {v v' : Value} (h : MkTo w w' g v v') (j : Nat) (u : Value) : MkTo w (w'.setCell ⟨g, j, none⟩ u) g v v' := ⟨h.1.setCell (.inl (.inl rfl)) u, h.2⟩
/-- an append, and its store into the field -/
theorem Mk.app {w0 w w1 : World} {g : Nat} {v v1 : Value} {out out1 : List S44} {put drop : ByteArray} (h : Mk w0 w g v out put drop) (hr : Kd.R k44 44 w1 w0.heap.size (fun _ => True) v1 out1) (hb : Below w0.heap.size w0 w1) (hg : w.grownBy w1 v.ownBlock) : Mk w0 (w1.setCell ⟨g, 0, none⟩ v1) g v1 out1 put drop := by
 have hk := blk_grown h.1 hg (aA h.2.1 h.1 (by decide))
 exact ⟨by simpa using blk_set hk 0 v1, Kd.R_set hr hk (by decide) 0 _, ao hb h.2.2.2, h.2.2.2⟩
theorem MkTo.app {w w1 : World} {g : Nat} {v v1 : Value} (hg : w.grownBy w1 v.ownBlock) (hat : v1.ownBlock = v.ownBlock ∨ ∃ b, v1.ownBlock = some b ∧ w.heap.size ≤ b) (u : Value) : MkTo w (w1.setCell ⟨g, 0, none⟩ u) g v v1 :=
 ⟨(Kept.of_grown hg (Kept.refl w _) (fun k hk => .inl (.inr hk.symm))).setCell (.inl (.inl rfl)) u, hat⟩
theorem Mk.cells {w0 w : World} {g : Nat} {v : Value} {out : List S44} {put drop : ByteArray} (h : Mk w0 w g v out put drop) :
  w.cell? ⟨g, 0, none⟩ = some v ∧ w.cell? ⟨g, 1, none⟩ = some (.string put) ∧ w.cell? ⟨g, 2, none⟩ = some (.string drop) ∧ w.frozen? ⟨g, 0, none⟩ = false ∧ w.frozen? ⟨g, 1, none⟩ = false ∧ w.frozen? ⟨g, 2, none⟩ = false :=
 ⟨bC h.1 0, bC h.1 1, bC h.1 2, bF h.1 0, bF h.1 1, bF h.1 2⟩
def ends (put drop : ByteArray) : List S44 := (if put.toList = [] then [] else [⟨0, put, ⟨#[]⟩⟩]) ++ (if drop.toList = [] then [] else [⟨0, ⟨#[]⟩, drop⟩])
def Mid1 (w0 w : World) (g : Nat) (v : Value) (out : List S44) (put drop : ByteArray) (wx : World) : Prop := ∃ v', Mk w0 wx g v' out put drop ∧ MkTo w wx g v v'
set_option maxHeartbeats 1000000 in
theorem mk_end (w0 w : World) (g : Nat) (v : Value) (out : List S44) (put drop : ByteArray) (h : Mk w0 w g v out put drop) (hl : out.length + 2 ≤ 3518437208883) :
  Calls Try.prog 45 #[.pointer (some ⟨g, 0, none⟩)] w fun e w' => e = .returned (.tuple #[]) ∧ Mid1 w0 w g v (out ++ ends put drop) ⟨#[]⟩ ⟨#[]⟩ w' := by
 have HL := aM hl
 have HM := aM h
 obtain ⟨c0, c1, c2, f0, f1, f2⟩ := h.cells
 obtain ⟨A, c, rfl, -, -⟩ := Kd.R_reads h.2.1
 have a0 : ∀ o, (w.alloc o).cell? ⟨g, 0, none⟩ = some (.slice A out.length c) := fun o => bC (am h.1 o) 0
 clear h hl
 go_enter Try.func45, Try.ntmps45
 go_upto_if 6 with fail
 go_cut [] (fun wx => Mid1 w0 w g (.slice A out.length c) (out ++ (if put.toList = [] then [] else [⟨0, put, ⟨#[]⟩⟩])) put drop wx)
 case first =>
  by_cases hp : put.toList = []
  ·have e : (!put.toList.isEmpty) = false := by simp [hp]
   have e2 : put.toList.isEmpty = true := by simp [hp]
   have HM' : Aside0 (Mid1 w0 w g (.slice A out.length c) (out ++ (if put.toList = [] then [] else [⟨0, put, ⟨#[]⟩⟩])) put drop w) := ⟨by rw [if_pos hp, List.append_nil]; exact ⟨_, HM.out, MkTo.refl _ _ _⟩⟩
   clear hp
   rw [e]
   go_wp2_with fail
   go_meet
   exact HM'.out
  ·have e : (!put.toList.isEmpty) = true := by simp [hp]
   have e2 : put.toList.isEmpty = false := by simp [hp]
   have hi : Aside0 ((if put.toList = [] then [] else [(⟨0, put, ⟨#[]⟩⟩ : S44)]) = [⟨0, put, ⟨#[]⟩⟩]) := ⟨if_neg hp⟩
   clear hp
   rw [e]
   go_wp2_with fail
   go_region_law? (refine Kd.R_append_step k44 (w0 := w0) (W := w.drew) w0.heap.size ?hw (.tmp 11) (.tmp 17) 27 44 (.agg #[(.int .i64 0), (.string ⟨#[]⟩), (.string ⟨#[]⟩)]) 40 ?ho Try.underlying27 info44 rfl (by decide) (by decide) (.slice A out.length c) out (⟨0, put, ⟨#[]⟩⟩ : S44) [.int .i64 0, .string put, .string ⟨#[]⟩] (fun _ => True) (fun _ => False) ?hs ?hx ?aP (fun _ h => h.elim) (fun _ _ => trivial) ?aO ?aB ?aS ?aL ?_; (case aL => have := HL.out; omega); (case hw => rfl); (case ho => rfl); (case hs => rfl); (case hx => rfl); (case aP => exact k44_mkM _ _ _ _); (case aB => exact HM.out.drew.2.2.1); (case aO => exact HM.out.drew.2.1); (case aS => exact HM.out.drew.2.2.1.size); intro v1 w1 ho1 hb1 hg1 hat1; obtain ⟨A1, c1, eo1, -, -⟩ := Kd.R_reads ho1; rw [List.length_append, aJ] at eo1; subst eo1; have hk1 := blk_grown HM.out.drew.1 hg1 (aA HM.out.drew.2.1 HM.out.drew.1 (by decide)); have d0 : w1.cell? ⟨g, 0, none⟩ = _ := bC hk1 0; have e0 := bF hk1 0; have HM1 := aM (Mk.app HM.out.drew ho1 hb1 hg1); have HT1 : Aside0 (MkTo w (w1.setCell ⟨g, 0, none⟩ (.slice A1 (out.length + 1) c1)) g (.slice A out.length c) (.slice A1 (out.length + 1) c1)) := ⟨MkTo.app hg1 hat1 _⟩; clear ho1 hb1 hg1 hk1 hat1)
   all_goals
    go_wp2_with fail
    go_meet
    rw [hi.out]
    exact ⟨_, HM1.out, HT1.out⟩
 case rest =>
  obtain ⟨v2, h2, ht2⟩ := hcut
  obtain ⟨out2, hout2⟩ : ∃ o2, out ++ (if put.toList = [] then [] else [⟨0, put, ⟨#[]⟩⟩]) = o2 := ⟨_, rfl⟩
  have nS := aM hout2
  rw [hout2] at h2
  have HL2 : Aside0 (out2.length + 1 ≤ 3518437208883) := ⟨by have := HL.out; rw [← hout2]; split <;> simp <;> omega⟩
  clear hout2 c0 c1 c2 f0 f1 f2 a0
  have HM2 := aM h2
  have HT2 := aM ht2
  obtain ⟨c0, c1, c2, f0, f1, f2⟩ := h2.cells
  obtain ⟨A2, cc2, rfl, -, -⟩ := Kd.R_reads h2.2.1
  have a0 : ∀ o, (wc.alloc o).cell? ⟨g, 0, none⟩ = some (.slice A2 out2.length cc2) := fun o => bC (am h2.1 o) 0
  clear h2 ht2
  go_upto_if 25 with fail
  go_cut [] (fun wx => Mid1 w0 w g (.slice A out.length c) (out ++ ends put drop) put drop wx)
  case first =>
   by_cases hp : drop.toList = []
   ·have e : (!drop.toList.isEmpty) = false := by simp [hp]
    have HM' : Aside0 (Mid1 w0 w g (.slice A out.length c) (out ++ ends put drop) put drop wc) := ⟨by unfold ends; rw [if_pos hp, List.append_nil, nS.out]; exact ⟨_, HM2.out, HT2.out⟩⟩
    clear hp
    rw [e]
    go_wp2_with fail
    go_meet
    exact HM'.out
   ·have e : (!drop.toList.isEmpty) = true := by simp [hp]
    have hi : Aside0 (out ++ ends put drop = out2 ++ [(⟨0, ⟨#[]⟩, drop⟩ : S44)]) := ⟨by unfold ends; rw [if_neg hp, ← List.append_assoc, nS.out]⟩
    clear hp
    rw [e]
    go_wp2_with fail
    go_region_law (refine Kd.R_append_step k44 (w0 := w0) (W := wc.drew) w0.heap.size ?hw (.tmp 30) (.tmp 36) 27 44 (.agg #[(.int .i64 0), (.string ⟨#[]⟩), (.string ⟨#[]⟩)]) 40 ?ho Try.underlying27 info44 rfl (by decide) (by decide) (.slice A2 out2.length cc2) out2 (⟨0, ⟨#[]⟩, drop⟩ : S44) [.int .i64 0, .string ⟨#[]⟩, .string drop] (fun _ => True) (fun _ => False) ?hs ?hx ?aP (fun _ h => h.elim) (fun _ _ => trivial) ?aO ?aB ?aS ?aL ?_; (case aL => have := HL2.out; omega); (case hw => rfl); (case ho => rfl); (case hs => rfl); (case hx => rfl); (case aP => exact k44_mkM _ _ _ _); (case aB => exact HM2.out.drew.2.2.1); (case aO => exact HM2.out.drew.2.1); (case aS => exact HM2.out.drew.2.2.1.size); intro v1 w1 ho1 hb1 hg1 hat1; obtain ⟨A1, c1, eo1, -, -⟩ := Kd.R_reads ho1; rw [List.length_append, aJ] at eo1; subst eo1; have hk1 := blk_grown HM2.out.drew.1 hg1 (aA HM2.out.drew.2.1 HM2.out.drew.1 (by decide)); have d0 : w1.cell? ⟨g, 0, none⟩ = _ := bC hk1 0; have e0 := bF hk1 0; have HM1 := aM (Mk.app HM2.out.drew ho1 hb1 hg1); have HT1 : Aside0 (MkTo wc (w1.setCell ⟨g, 0, none⟩ (.slice A1 (out2.length + 1) c1)) g (.slice A2 out2.length cc2) (.slice A1 (out2.length + 1) c1)) := ⟨MkTo.app hg1 hat1 _⟩; clear ho1 hb1 hg1 hk1 hat1)
    all_goals
     go_wp2_with fail
     go_meet
     rw [hi.out]
     exact ⟨_, HM1.out, HT2.out.trans HT1.out⟩
  case rest =>
   obtain ⟨v3, h3, ht3⟩ := hcut
   clear c0 c1 c2 f0 f1 f2 a0 HM2 HT2
   have HM3 := aM h3
   have HT3 := aM ht3
   obtain ⟨c0, c1, c2, f0, f1, f2⟩ := h3.cells
   clear h3 ht3
   go_wp2
   go_end0
   exact ⟨rfl, _, (HM3.out.set1 _).set2 _, (HT3.out.set _ _).set _ _⟩
/-- The field Keep of element i is written. -/
theorem k44_set0 {W : World} {base g2 n cap : Nat} {ok : Nat → Prop} {xs : List S44} (h : Kd.R k44 44 W base ok (.slice (some ⟨g2, 0, none⟩) n cap) xs) (i : Int) (h0 : 0 ≤ i) (h1 : i < n) (x : Int) :
  Kd.R k44 44 (W.setCell ⟨g2, i.toNat * 3, none⟩ (.int .i64 x)) base ok (.slice (some ⟨g2, 0, none⟩) n cap) (xs.set i.toNat ⟨x, (rd_T44 xs i).f1, (rd_T44 xs i).f2⟩) ∧ W.grownBy (W.setCell ⟨g2, i.toNat * 3, none⟩ (.int .i64 x)) (some g2) := by
 obtain ⟨c, hl, hM, hc, -⟩ := Kd.R_elem h z44 i h0 h1
 have hM' := hM
 obtain rfl := k44_openM hM'
 exact Kd.R_seg (d := k44) (seg := [.int .i64 x]) (j := 0) (okp := fun k => ok k ∧ k ≠ g2) h i h0 h1 hl hc (show 0 + 1 ≤ 3 by omega) (k44_mkM _ _ _ (⟨x, (rd_T44 xs i).f1, (rd_T44 xs i).f2⟩ : S44)) (fun _ hk => hk)
def keepO (o : List S44) (n : Int) : List S44 := if 0 < o.length ∧ (rd_T44 o ((o.length : Int) - 1)).f0 > 0 then o.set (o.length - 1) ⟨wrap64 ((rd_T44 o ((o.length : Int) - 1)).f0 + n), (rd_T44 o ((o.length : Int) - 1)).f1, (rd_T44 o ((o.length : Int) - 1)).f2⟩ else o ++ [⟨n, ⟨#[]⟩, ⟨#[]⟩⟩]
theorem ends_le (put drop : ByteArray) : (ends put drop).length ≤ 2 := by
 unfold ends
 split <;> split <;> simp
theorem mk_keep0 (w0 w : World) (g : Nat) (v : Value) (out : List S44) (put drop : ByteArray) (h : Mk w0 w g v out put drop) :
  Calls Try.prog 21 #[.pointer (some ⟨g, 0, none⟩), .int .i64 0] w fun e w' => e = .returned (.tuple #[]) ∧ Mid1 w0 w g v out put drop w' := by
 have HM := aM h
 clear h
 go_enter Try.func21, Try.ntmps21
 go_wp2
 refine bodyPost_ret (results_none rfl _ _ _) rfl ?_
 exact ⟨rfl, _, HM.out, MkTo.refl _ _ _⟩
set_option maxHeartbeats 1000000 in
theorem mk_keepA (w0 w : World) (g : Nat) (v : Value) (out : List S44) (put drop : ByteArray) (n : Int) (hn : n ≠ 0) (h : Mk w0 w g v out put drop) (hl : out.length + 3 ≤ 3518437208883)
  (hc : ¬ (0 < (out ++ ends put drop).length)) :
  Calls Try.prog 21 #[.pointer (some ⟨g, 0, none⟩), .int .i64 n] w fun e w' => e = .returned (.tuple #[]) ∧ Mid1 w0 w g v (keepO (out ++ ends put drop) n) ⟨#[]⟩ ⟨#[]⟩ w' := by
 have HL : Aside0 (out.length + 2 ≤ 3518437208883) := ⟨by omega⟩
 have HM := aM h
 have hnb : (n == 0) = false := qF hn
 have he : out ++ ends put drop = [] := List.eq_nil_of_length_eq_zero (by omega)
 have HE := aM he
 have HK : Aside0 (keepO (out ++ ends put drop) n = [] ++ [⟨n, ⟨#[]⟩, ⟨#[]⟩⟩]) := ⟨by unfold keepO; rw [if_neg (by omega), he]⟩
 clear h hl hn hc he
 go_enter Try.func21, Try.ntmps21
 go_wp2_with (first | (go_at_call 45; refine (mk_end w0 w g v out put drop HM.out HL.out).mono ?_; rintro e w1 ⟨rfl, v2, h2, ht2⟩; rw [HE.out] at h2; have HM2 := aM h2; have HT2 := aM ht2; obtain ⟨b0, b1, b2, f0, f1, f2⟩ := h2.cells; obtain ⟨A2, cc2, rfl, -, -⟩ := Kd.R_reads h2.2.1; clear h2 ht2; simp only [List.length_nil] at b0 HT2) | ((with_reducible refine gate_builtin (b := .append) (xs := #[.tmp 44, .tmp 47]) rfl ?_); at_builtin; refine Kd.R_append k44 (w0 := w0) (W := w1) w0.heap.size rfl (.tmp 44) (.tmp 47) 27 44 (.agg #[(.int .i64 0), (.string ⟨#[]⟩), (.string ⟨#[]⟩)]) 40 rfl Try.underlying27 info44 rfl (by decide) (by decide) (.slice A2 0 cc2) ([] : List S44) (⟨n, ⟨#[]⟩, ⟨#[]⟩⟩ : S44) [.int .i64 n, .string ⟨#[]⟩, .string ⟨#[]⟩] (fun _ => True) (fun _ => False) rfl rfl ?aP (fun _ h => h.elim) (fun _ _ => trivial) ?aO ?aB ?aS ?aL ?_; (case aP => exact k44_mkM _ _ _ _); (case aB => exact HM2.out.2.2.1); (case aO => exact HM2.out.2.1); (case aS => exact HM2.out.2.2.1.size); (case aL => have := HL.out; first | omega | (simp only [List.length_nil]; omega)); intro v1 wn ho1 hb1 hg1 hat1; obtain ⟨A1, c1, eo1, -, -⟩ := Kd.R_reads ho1; simp only [List.nil_append, aJ] at eo1; subst eo1; have hk1 := blk_grown HM2.out.1 hg1 (aA HM2.out.2.1 HM2.out.1 (by decide)); have d0 : wn.cell? ⟨g, 0, none⟩ = _ := bC hk1 0; have e0 := bF hk1 0; have HM1 := aM (Mk.app HM2.out ho1 hb1 hg1); have HT1 : Aside0 (MkTo w1 (wn.setCell ⟨g, 0, none⟩ (.slice A1 1 c1)) g (.slice A2 0 cc2) (.slice A1 1 c1)) := ⟨MkTo.app hg1 hat1 _⟩; clear ho1 hb1 hg1 hk1 hat1))
 go_end0
 rw [HK.out]
 exact ⟨rfl, _, HM1.out, HT2.out.trans HT1.out⟩
set_option maxHeartbeats 1000000 in
theorem mk_keepB (w0 w : World) (g : Nat) (v : Value) (out : List S44) (put drop : ByteArray) (n : Int) (hn : n ≠ 0) (h : Mk w0 w g v out put drop) (hl : out.length + 3 ≤ 3518437208883)
  (hc : 0 < (out ++ ends put drop).length) (hk : ¬ (rd_T44 (out ++ ends put drop) (((out ++ ends put drop).length : Int) - 1)).f0 > 0) :
  Calls Try.prog 21 #[.pointer (some ⟨g, 0, none⟩), .int .i64 n] w fun e w' => e = .returned (.tuple #[]) ∧ Mid1 w0 w g v (keepO (out ++ ends put drop) n) ⟨#[]⟩ ⟨#[]⟩ w' := by
 have HL : Aside0 (out.length + 2 ≤ 3518437208883) := ⟨by omega⟩
 have HM := aM h
 have hnb : (n == 0) = false := qF hn
 have hle := ends_le put drop
 obtain ⟨o, ho⟩ : ∃ o, out ++ ends put drop = o := ⟨_, rfl⟩
 have HE := aM ho
 have hol : o.length ≤ 3518437208882 := by rw [← ho, List.length_append]; omega
 have HOL := aM hol
 rw [ho] at hc hk
 have HC := aM hc
 have HI0 : Aside0 ((0 : Int) ≤ (o.length : Int) - 1) := ⟨by omega⟩
 have HIN : Aside0 (((o.length : Int) - 1).toNat = o.length - 1) := ⟨by omega⟩
 have HI1 : Aside0 ((o.length : Int) - 1 < (o.length : Nat)) := ⟨by omega⟩
 have HK : Aside0 (keepO (out ++ ends put drop) n = o ++ [⟨n, ⟨#[]⟩, ⟨#[]⟩⟩]) := ⟨by unfold keepO; rw [ho, if_neg (fun x => hk x.2)]⟩
 have hkb : decide ((rd_T44 o ((o.length : Int) - 1)).f0 > 0) = false := dF hk
 clear h hl hn ho hk hle
 go_enter Try.func21, Try.ntmps21
 go_wp2_with (first | (go_at_call 45; refine (mk_end w0 w g v out put drop HM.out HL.out).mono ?_; rintro e w1 ⟨rfl, v2, h2, ht2⟩; rw [HE.out] at h2; have HM2 := aM h2; have HT2 := aM ht2; obtain ⟨b0, b1, b2, f0, f1, f2⟩ := h2.cells; obtain ⟨g2, cc2, rfl, -, -, -⟩ := Kd.R_form h2.2.1 HC.out; obtain ⟨cl, -, hM2, hcl, hfr⟩ := Kd.R_elem h2.2.1 z44 ((o.length : Int) - 1) HI0.out HI1.out; obtain rfl := k44_openM hM2; have x0 : w1.cell? ⟨g2, (o.length - 1) * 3, none⟩ = some (.int .i64 (rd_T44 o ((o.length : Int) - 1)).f0) := (by rw [← HIN.out]; exact hcl 0 _ rfl); have y0 : w1.frozen? ⟨g2, (o.length - 1) * 3, none⟩ = false := (by rw [← HIN.out]; exact hfr 0); clear h2 ht2 hM2 hcl hfr) | ((with_reducible refine gate_builtin (b := .append) (xs := #[.tmp 44, .tmp 47]) rfl ?_); at_builtin; refine Kd.R_append k44 (w0 := w0) (W := w1) w0.heap.size rfl (.tmp 44) (.tmp 47) 27 44 (.agg #[(.int .i64 0), (.string ⟨#[]⟩), (.string ⟨#[]⟩)]) 40 rfl Try.underlying27 info44 rfl (by decide) (by decide) (.slice (some ⟨g2, 0, none⟩) o.length cc2) o (⟨n, ⟨#[]⟩, ⟨#[]⟩⟩ : S44) [.int .i64 n, .string ⟨#[]⟩, .string ⟨#[]⟩] (fun _ => True) (fun _ => False) rfl rfl ?aP (fun _ h => h.elim) (fun _ _ => trivial) ?aO ?aB ?aS ?aL ?_; (case aP => exact k44_mkM _ _ _ _); (case aB => exact HM2.out.2.2.1); (case aO => exact HM2.out.2.1); (case aS => exact HM2.out.2.2.1.size); (case aL => have := HOL.out; first | omega | (simp only [List.length_nil]; omega)); intro v1 wn ho1 hb1 hg1 hat1; obtain ⟨A1, c1, eo1, -, -⟩ := Kd.R_reads ho1; rw [List.length_append, aJ] at eo1; subst eo1; have hk1 := blk_grown HM2.out.1 hg1 (aA HM2.out.2.1 HM2.out.1 (by decide)); have d0 : wn.cell? ⟨g, 0, none⟩ = _ := bC hk1 0; have e0 := bF hk1 0; have HM1 := aM (Mk.app HM2.out ho1 hb1 hg1); have HT1 : Aside0 (MkTo w1 (wn.setCell ⟨g, 0, none⟩ (.slice A1 (o.length + 1) c1)) g (.slice (some ⟨g2, 0, none⟩) o.length cc2) (.slice A1 (o.length + 1) c1)) := ⟨MkTo.app hg1 hat1 _⟩; clear ho1 hb1 hg1 hk1 hat1))
 go_end0
 rw [HK.out]
 exact ⟨rfl, _, HM1.out, HT2.out.trans HT1.out⟩
set_option maxHeartbeats 1000000 in
theorem mk_keepC (w0 w : World) (g : Nat) (v : Value) (out : List S44) (put drop : ByteArray) (n : Int) (hn : n ≠ 0) (h : Mk w0 w g v out put drop) (hl : out.length + 3 ≤ 3518437208883)
  (hc : 0 < (out ++ ends put drop).length) (hk : (rd_T44 (out ++ ends put drop) (((out ++ ends put drop).length : Int) - 1)).f0 > 0) :
  Calls Try.prog 21 #[.pointer (some ⟨g, 0, none⟩), .int .i64 n] w fun e w' => e = .returned (.tuple #[]) ∧ Mid1 w0 w g v (keepO (out ++ ends put drop) n) ⟨#[]⟩ ⟨#[]⟩ w' := by
 have HL : Aside0 (out.length + 2 ≤ 3518437208883) := ⟨by omega⟩
 have HM := aM h
 have hnb : (n == 0) = false := qF hn
 have hle := ends_le put drop
 obtain ⟨o, ho⟩ : ∃ o, out ++ ends put drop = o := ⟨_, rfl⟩
 have HE := aM ho
 have hol : o.length ≤ 3518437208882 := by rw [← ho, List.length_append]; omega
 have HOL := aM hol
 rw [ho] at hc hk
 have HC := aM hc
 have HI0 : Aside0 ((0 : Int) ≤ (o.length : Int) - 1) := ⟨by omega⟩
 have HIN : Aside0 (((o.length : Int) - 1).toNat = o.length - 1) := ⟨by omega⟩
 have HI1 : Aside0 ((o.length : Int) - 1 < (o.length : Nat)) := ⟨by omega⟩
 have HK : Aside0 (keepO (out ++ ends put drop) n = o.set (o.length - 1) ⟨wrap64 ((rd_T44 o ((o.length : Int) - 1)).f0 + n), (rd_T44 o ((o.length : Int) - 1)).f1, (rd_T44 o ((o.length : Int) - 1)).f2⟩) := ⟨by unfold keepO; rw [ho, if_pos ⟨hc, hk⟩]⟩
 have hkb : decide ((rd_T44 o ((o.length : Int) - 1)).f0 > 0) = true := dT hk
 clear h hl hn ho hk hle
 go_enter Try.func21, Try.ntmps21
 go_wp2_with (first | (go_at_call 45; refine (mk_end w0 w g v out put drop HM.out HL.out).mono ?_; rintro e w1 ⟨rfl, v2, h2, ht2⟩; rw [HE.out] at h2; have HM2 := aM h2; have HT2 := aM ht2; obtain ⟨b0, b1, b2, f0, f1, f2⟩ := h2.cells; obtain ⟨g2, cc2, rfl, -, -, -⟩ := Kd.R_form h2.2.1 HC.out; obtain ⟨cl, -, hM2, hcl, hfr⟩ := Kd.R_elem h2.2.1 z44 ((o.length : Int) - 1) HI0.out HI1.out; obtain rfl := k44_openM hM2; have x0 : w1.cell? ⟨g2, (o.length - 1) * 3, none⟩ = some (.int .i64 (rd_T44 o ((o.length : Int) - 1)).f0) := (by rw [← HIN.out]; exact hcl 0 _ rfl); have y0 : w1.frozen? ⟨g2, (o.length - 1) * 3, none⟩ = false := (by rw [← HIN.out]; exact hfr 0); clear h2 ht2 hM2 hcl hfr))
 obtain ⟨hs, hg⟩ := k44_set0 HM2.out.2.1 ((o.length : Int) - 1) HI0.out HI1.out (wrap64 ((rd_T44 o ((o.length : Int) - 1)).f0 + n))
 rw [HIN.out] at hs hg
 have hne : g ≠ g2 := fun e => HM2.out.far g2 rfl e.symm
 have hb2 := blk_grown HM2.out.1 hg (fun e => hne (sI e))
 have hB2 : Below w0.heap.size w0 (w1.setCell ⟨g2, (o.length - 1) * 3, none⟩ (.int .i64 (wrap64 ((rd_T44 o ((o.length : Int) - 1)).f0 + n)))) := ao HM2.out.2.2.1 (ai HM2.out.2.1 g2 rfl)
 refine bodyPost_ret (results_none rfl _ _ _) rfl ?_
 rw [HK.out]
 refine ⟨rfl, _, ⟨hb2, hs, hB2, HM2.out.2.2.2⟩, HT2.out.trans ⟨?_, .inl rfl⟩⟩
 exact Kept.of_grown hg (Kept.refl _ _) (fun k hk => .inl (.inr hk.symm))
def kO (out : List S44) (put drop : ByteArray) (n : Int) : List S44 := if n = 0 then out else keepO (out ++ ends put drop) n
def kS (s : ByteArray) (n : Int) : ByteArray := if n = 0 then s else ⟨#[]⟩
theorem mk_keep (w0 w : World) (g : Nat) (v : Value) (out : List S44) (put drop : ByteArray) (n : Int) (h : Mk w0 w g v out put drop) (hl : out.length + 3 ≤ 3518437208883) :
  Calls Try.prog 21 #[.pointer (some ⟨g, 0, none⟩), .int .i64 n] w fun e w' => e = .returned (.tuple #[]) ∧ Mid1 w0 w g v (kO out put drop n) (kS put n) (kS drop n) w' := by
 unfold kO kS
 by_cases hn : n = 0
 ·subst hn
  simp only [if_true]
  exact mk_keep0 w0 w g v out put drop h
 ·simp only [if_neg hn]
  by_cases hc : 0 < (out ++ ends put drop).length
  ·by_cases hk : (rd_T44 (out ++ ends put drop) (((out ++ ends put drop).length : Int) - 1)).f0 > 0
   ·exact mk_keepC w0 w g v out put drop n hn h hl hc hk
   ·exact mk_keepB w0 w g v out put drop n hn h hl hc hk
  ·exact mk_keepA w0 w g v out put drop n hn h hl hc
theorem Mid1.le {w0 w w' : World} {g : Nat} {v : Value} {out : List S44} {put drop : ByteArray} (h : Mid1 w0 w g v out put drop w') : w.heap.size ≤ w'.heap.size := by
 obtain ⟨_, _, ht⟩ := h
 exact ht.1.1
set_option maxHeartbeats 1000000 in
theorem mk_take (w0 w : World) (g : Nat) (v : Value) (out : List S44) (put drop : ByteArray) (p : S44) (h : Mk w0 w g v out put drop) (hl : out.length + 3 ≤ 3518437208883)
  (h1 : (kS put p.f0).size + p.f1.size ≤ 9223372036854775807) (h2 : (kS drop p.f0).size + p.f2.size ≤ 9223372036854775807) :
  Calls Try.prog 22 #[.pointer (some ⟨g, 0, none⟩), .agg #[.int .i64 p.f0, .string p.f1, .string p.f2]] w fun e w' => e = .returned (.tuple #[]) ∧ Mid1 w0 w g v (kO out put drop p.f0) (kS put p.f0 ++ p.f1) (kS drop p.f0 ++ p.f2) w' := by
 have HL := aM hl
 have HM := aM h
 have HM0 := aM (h.alloc (.cells #[.int .i64 p.f0, .string p.f1, .string p.f2] 44))
 obtain ⟨o3, ho3⟩ : ∃ o, kO out put drop p.f0 = o := ⟨_, rfl⟩
 obtain ⟨s1, hs1⟩ : ∃ o, kS put p.f0 = o := ⟨_, rfl⟩
 obtain ⟨s2, hs2⟩ : ∃ o, kS drop p.f0 = o := ⟨_, rfl⟩
 rw [hs1] at h1
 rw [hs2] at h2
 have E3 := aM ho3
 have E1 := aM hs1
 have E2 := aM hs2
 rw [ho3, hs1, hs2]
 clear ho3 hs1 hs2 h hl
 go_enter Try.func22, Try.ntmps22
 go_wp2_with (first | (go_at_call 21; refine (mk_keep w0 _ g v out put drop p.f0 HM0.out HL.out).mono ?_; rintro e w1 ⟨rfl, v2, h2_, ht2⟩; rw [E3.out, E1.out, E2.out] at h2_; have HM2 := aM h2_; have HT2 := aM ht2; obtain ⟨b0, b1, b2, f0, f1, f2⟩ := h2_.cells; have hbx : w1.heap[w.heap.size]? = some (.cells #[.int .i64 p.f0, .string p.f1, .string p.f2] 44 (0, 0)) := blk_kept (heap_alloc_new w _) ht2.1 (fun hk => hk.elim (fun e => Nat.lt_irrefl _ (e ▸ blk_lt HM.out.1)) (fun e => Nat.lt_irrefl _ (aj HM.out.2.1 _ e.symm))); have x1 : w1.cell? ⟨w.heap.size, 1, none⟩ = some (.string p.f1) := bC hbx 1; have x2 : w1.cell? ⟨w.heap.size, 2, none⟩ = some (.string p.f2) := bC hbx 2; clear h2_ ht2 hbx))
 go_region
 go_wp2
 go_region
 go_end0
 exact ⟨rfl, _, ((HM2.out.set1 _).set2 _).drew.drew, (((((MkTo.refl w g v).alloc _).trans HT2.out).set _ _).set _ _).drew.drew⟩
set_option maxHeartbeats 1000000 in
theorem mk_made (w0 w : World) (g : Nat) (v : Value) (out : List S44) (put drop : ByteArray) (h : Mk w0 w g v out put drop) (hl : out.length + 3 ≤ 3518437208883) :
  Calls Try.prog 24 #[.pointer (some ⟨g, 0, none⟩)] w fun e w' => ∃ v', e = .returned v' ∧ Kd.R k44 44 w' w0.heap.size (fun _ => True) v' (out ++ ends put drop) ∧ Below w0.heap.size w0 w' ∧ MkTo w w' g v v' := by
 have HL : Aside0 (out.length + 2 ≤ 3518437208883) := ⟨by omega⟩
 have HM := aM h
 clear h hl
 go_enter Try.func24, Try.ntmps24
 go_wp2_with (first | (go_at_call 45; refine (mk_end w0 w g v out put drop HM.out HL.out).mono ?_; rintro e w1 ⟨rfl, v2, h2_, ht2⟩; have HM2 := aM h2_; have HT2 := aM ht2; obtain ⟨b0, b1, b2, f0, f1, f2⟩ := h2_.cells; clear h2_ ht2))
 go_ret
 exact ⟨_, rfl, HM2.out.2.1, HM2.out.2.2.1, HT2.out⟩

end Go.Proofs.Ytifllccpfiobfaa.AFnExactMergeThree
