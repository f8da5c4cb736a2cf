-- this session's own text: written by wip/tools/ownprint.py over the kit's print
import Derived.Test.YtpbelbckinpinaaAFnExactReplaceOpx0
import Derived.Test.YtpbelbckinpinaaAFnExactReplaceOpx6
namespace Go.Proofs.Ytpbelbckinpinaa.AFnExactReplaceOp
open Go.RowKit Go.Proofs.YtpbelbckinpinaaW.PrintWords Go.Proofs.YtpbelbckinpinaaW.PrintLast Go.Proofs.YtpbelbckinpinaaW.PrintMore
attribute [local go_sem] max2_int min2_int max_two min_two max_three min_three max_four min_four   -- for this text's walks alone
set_option linter.unusedVariables false
set_option linter.unusedSimpArgs false

/-! ### impl_sizes: function 61 -/
def impl_sizes.l0 : Nat → Int → Int → List (S74) → Int → Int → Option (Int × Int)
 | 0, _, _, _, _, _ => none
 | k + 1, x4, x5, x8, x9, x10 => if x10 < x9 then (if 0 ≤ x10 then (if x10 < (x8.length : Int) then (impl_sizes.l0 k (wrap64 (x4 + (wrap64 (((rd_T74 x8 x10).f0) + (((rd_T74 x8 x10).f2).size : Int))))) (wrap64 (x5 + (wrap64 (((rd_T74 x8 x10).f0) + (((rd_T74 x8 x10).f1).size : Int))))) x8 x9 (wrap64 (x10 + 1))) else (none)) else (none)) else (some (x4, x5))
def impl_sizes.f (k : Nat) (l0 : List (S74)) : Option (Int × Int) := impl_sizes.l0 k 0 0 l0 (l0.length : Int) 0
theorem impl_sizes.mono_l : ∀ k, (∀ y0 y1 y2 y3 y4, LeO (impl_sizes.l0 k y0 y1 y2 y3 y4) (impl_sizes.l0 (k + 1) y0 y1 y2 y3 y4))
 | 0 => fun _ _ _ _ _ r h => by simp [impl_sizes.l0] at h
 | k + 1 => by
  have ih0 := impl_sizes.mono_l k
  ·intro y0 y1 y2 y3 y4
   unfold impl_sizes.l0
   repeat' first
   | (with_reducible exact ih0 _ _ _ _ _)
   | (with_reducible exact LeO.refl _)
   | (with_reducible exact LeO.none _)
   | (with_reducible refine LeO.ite ?_ ?_)
   | (with_reducible refine LeO.bind ?_ (fun _ => ?_))
   | exact ih0 _ _ _ _ _
   | exact LeO.none _
   | refine LeO.ite ?_ ?_
   | refine LeO.bind ?_ (fun _ => ?_)
theorem impl_sizes.mono : ∀ a0 k, LeO (impl_sizes.f k a0) (impl_sizes.f (k + 1) a0) := by
 intro a0 k
 have ih0 := impl_sizes.mono_l k
 unfold impl_sizes.f
 repeat' first
   | (with_reducible exact ih0 _ _ _ _ _)
   | (with_reducible exact LeO.refl _)
   | (with_reducible exact LeO.none _)
   | (with_reducible refine LeO.ite ?_ ?_)
   | (with_reducible refine LeO.bind ?_ (fun _ => ?_))
   | exact ih0 _ _ _ _ _
   | exact LeO.none _
   | refine LeO.ite ?_ ?_
   | refine LeO.bind ?_ (fun _ => ?_)
set_option maxHeartbeats 8000000 in
set_option maxRecDepth 100000 in
theorem impl_sizes.calls (k : Nat) (A0 : Option Addr) (c0 : Nat) (l0 : List (S74)) (r1 : Int) (r2 : Int) (w : World) (hr0 : Kd.C k74 w A0 l0.length l0) (hc0 : l0.length ≤ c0) (h : impl_sizes.f k l0 = some (r1, r2)) :
  Calls Try.prog 61 #[.slice A0 l0.length c0] w fun e w' => e = .returned (.tuple #[.int .i64 r1, .int .i64 r2]) ∧ Below w.heap.size w w' := by
 have hu74 := Try.underlying74
 have HR0 := Aside0.mk hr0
 have HC0 := Aside0.mk hc0
 clear hr0 hc0
 have HB := Aside0.mk (Below.refl w.heap.size w)
 have H : (impl_sizes.l0 k 0 0 l0 (l0.length : Int) 0) = some (r1, r2) := h
 clear h
 have H' := Aside0.mk H
 clear H
 go_enter Try.func61, Try.ntmps61
 go_wp2
 go_loopg [4, 5, 10] k (fun kq v4 v5 v10 w' => ∃ (x4_1 : Int) (x5_1 : Int) (x10_1 : Int), v4 = .int .i64 x4_1 ∧ v5 = .int .i64 x5_1 ∧ v10 = .int .i64 x10_1 ∧ Aside0 (impl_sizes.l0 kq x4_1 x5_1 l0 (l0.length : Int) x10_1 = some (r1, r2)) ∧ Aside0 (kq ≤ k) ∧ Aside0 (Below w.heap.size w w'))
 case atStart => exact ⟨(0), (0), (0), (by first | rfl | (simp; done) | (simp [*]; done)), (by first | rfl | (simp; done) | (simp [*]; done)), (by first | rfl | (simp; done) | (simp [*]; done)), H', ⟨Nat.le_refl _⟩, ⟨by repeat (first | (with_reducible first | exact HB.out | apply below_alloc | apply pw_below_drewN | apply below_drew1) | exact HB.out)⟩⟩
 case round =>
  clear H'
  obtain ⟨x4_1, x5_1, x10_1, rfl, rfl, rfl, HA, HK1, HB⟩ := hrel
  cases gk with
  | zero => exact absurd HA.out (by simp [impl_sizes.l0])
  | succ k1 =>
   have H := HA.out
   clear HA
   simp only [impl_sizes.l0] at H
   by_cases c2 : x10_1 < (l0.length : Int)
   ·rw [if_pos c2] at H
    have c2b0 : decide (x10_1 < (l0.length : Int)) = true := decide_eq_true c2
    clear c2
    by_cases c3 : 0 ≤ x10_1
    ·rw [if_pos c3] at H
     have c3b0 : decide (0 ≤ x10_1) = true := decide_eq_true c3
     clear c3
     by_cases c4 : x10_1 < (l0.length : Int)
     ·rw [if_pos c4] at H
      have c4b0 : decide (x10_1 < (l0.length : Int)) = true := decide_eq_true c4
      clear c4
      have H' := Aside0.mk H
      clear H
      have p219 : 0 ≤ (x10_1 : Int) := of_decide_eq_true (by first | (with_reducible assumption) | assumption)
      have q219 : x10_1 < (l0.length : Int) := of_decide_eq_true (by first | (with_reducible assumption) | assumption)
      obtain ⟨ad219, e219, hx219_0, hx219_1, hx219_2⟩ := at_T74 HR0.out x10_1 p219 q219
      cases e219
      replace hx219_0 := (HB.out.cell (World.block_lt_of_cell? w _ hx219_0)).trans hx219_0
      replace hx219_1 := (HB.out.cell (World.block_lt_of_cell? w _ hx219_1)).trans hx219_1
      replace hx219_2 := (HB.out.cell (World.block_lt_of_cell? w _ hx219_2)).trans hx219_2
      replace p219 := eq_true p219
      replace q219 := eq_true q219
      go_wp2_with (first | ((with_reducible refine gate_dst (N := 7) rfl ?_); refine box_event ?hg (N := 7) ?hd (cs := #[.int .i64 0, .string (⟨#[]⟩ : ByteArray), .string (⟨#[]⟩ : ByteArray)]) (t := 74) ?hr ?_; (case hd => rfl); (case hg => rfl); (case hr => first | (go_simp; done) | (go_simp; rfl)); intro gb220 hg w5 hbox hb; have n0_ := Aside0.mk (below_step (by repeat (first | (with_reducible first | exact HB.out | apply below_alloc | apply pw_below_drewN | apply below_drew1) | exact HB.out)) hb); have n1_ := Aside0.mk (hbox); have n2_ := Aside0.mk ((by rw [hg]; exact (below_size (by repeat (first | (with_reducible first | exact HB.out | apply below_alloc | apply pw_below_drewN | apply below_drew1) | exact HB.out))) : w.heap.size ≤ gb220)); have n3_ := Aside0.mk ((by rw [hg]; exact (below_size (by repeat (first | (with_reducible first | exact HB.out | apply below_alloc | apply pw_below_drewN | apply below_drew1) | exact HB.out))) : w.heap.size ≤ gb220)); clear HB; have HB := n0_; have BK220 := n1_; have GW220 := n2_; have GE220 := n3_; clear n0_ n1_ n2_ n3_; clear hb hbox hg; have hcz6_0 : w5.cell? ⟨gb220, 0, none⟩ = some (.int .i64 0) := (blk_cell BK220.out 0).trans rfl; have hcz6_1 : w5.cell? ⟨gb220, 1, none⟩ = some (.string (⟨#[]⟩ : ByteArray)) := (blk_cell BK220.out 1).trans rfl; have hcz6_2 : w5.cell? ⟨gb220, 2, none⟩ = some (.string (⟨#[]⟩ : ByteArray)) := (blk_cell BK220.out 2).trans rfl; have hfz6_0 := blk_frozen BK220.out 0; have hfz6_1 := blk_frozen BK220.out 1; have hfz6_2 := blk_frozen BK220.out 2))
      go_roundg k1
      case measure => have := HK1.out; omega
      case rel => exact ⟨(wrap64 (x4_1 + (wrap64 (((rd_T74 l0 x10_1).f0) + (((rd_T74 l0 x10_1).f2).size : Int))))), (wrap64 (x5_1 + (wrap64 (((rd_T74 l0 x10_1).f0) + (((rd_T74 l0 x10_1).f1).size : Int))))), (wrap64 (x10_1 + 1)), (by first | rfl | (simp; done) | (simp [*]; done)), (by first | rfl | (simp; done) | (simp [*]; done)), (by first | rfl | (simp; done) | (simp [*]; done)), H', ⟨by have := HK1.out; omega⟩, ⟨by repeat (first | (with_reducible first | exact HB.out | apply below_alloc | apply pw_below_drewN | apply below_drew1 | refine below_set ?_ GE220.out) | exact HB.out)⟩⟩
     ·rw [if_neg c4] at H
      exact absurd H (by simp)
    ·rw [if_neg c3] at H
     exact absurd H (by simp)
   ·rw [if_neg c2] at H
    have c2b0 : decide (x10_1 < (l0.length : Int)) = false := decide_eq_false c2
    clear c2
    simp only [Option.some.injEq, Prod.mk.injEq] at H
    obtain ⟨rfl, rfl⟩ := H
    go_wp2
    go_ret2
    exact ⟨by first | rfl | (simp [errW_none, errW_some] <;> rfl) | (simp [*, errW_none, errW_some] <;> rfl), by repeat (first | (with_reducible first | exact HB.out | apply below_alloc | apply pw_below_drewN | apply below_drew1) | exact HB.out)⟩

/-! ### impl_Part_isPart: function 97 -/
def impl_Part_isPart.f (k : Nat) (a0_0 : Int) (a0_1 : ByteArray) (a0_2 : ByteArray) : Option (Bool) := if a0_0 = 0 then (if a0_1.toList = ([] : List UInt8) then (if a0_2.toList = ([] : List UInt8) then (some false) else ((impl_GoodText.f k a0_2).bind fun t222 => (some t222))) else (if a0_2.toList = ([] : List UInt8) then ((impl_GoodText.f k a0_1).bind fun t223 => (some t223)) else (some false))) else (if a0_0 ≥ 1 then (if a0_0 ≤ 300 then (if a0_1.toList = ([] : List UInt8) then (some (a0_2.toList == ([] : List UInt8))) else (some false)) else (some false)) else (some false))
theorem impl_Part_isPart.mono : ∀ a0 a1 a2 k, LeO (impl_Part_isPart.f k a0 a1 a2) (impl_Part_isPart.f (k + 1) a0 a1 a2) := by
 intro a0 a1 a2 k
 unfold impl_Part_isPart.f
 repeat' first
   | (with_reducible exact impl_GoodText.mono _ _)
   | (with_reducible exact LeO.refl _)
   | (with_reducible exact LeO.none _)
   | (with_reducible refine LeO.ite ?_ ?_)
   | (with_reducible refine LeO.bind ?_ (fun _ => ?_))
   | exact impl_GoodText.mono _ _
   | exact LeO.none _
   | refine LeO.ite ?_ ?_
   | refine LeO.bind ?_ (fun _ => ?_)
set_option maxHeartbeats 8000000 in
set_option maxRecDepth 100000 in
theorem impl_Part_isPart.calls (k : Nat) (a0_0 : Int) (a0_1 : ByteArray) (a0_2 : ByteArray) (r : Bool) (w : World) (h : impl_Part_isPart.f k a0_0 a0_1 a0_2 = some r) :
  Calls Try.prog 97 #[.agg #[.int .i64 a0_0, .string a0_1, .string a0_2]] w fun e w' => e = .returned (.bool r) ∧ Below w.heap.size w w' := by
 have hu74 := Try.underlying74
 have HB := Aside0.mk (Below.refl w.heap.size w)
 have H : (if a0_0 = 0 then (if a0_1.toList = ([] : List UInt8) then (if a0_2.toList = ([] : List UInt8) then (some false) else ((impl_GoodText.f k a0_2).bind fun t222 => (some t222))) else (if a0_2.toList = ([] : List UInt8) then ((impl_GoodText.f k a0_1).bind fun t223 => (some t223)) else (some false))) else (if a0_0 ≥ 1 then (if a0_0 ≤ 300 then (if a0_1.toList = ([] : List UInt8) then (some (a0_2.toList == ([] : List UInt8))) else (some false)) else (some false)) else (some false))) = some r := h
 clear h
 by_cases c2 : a0_0 = 0
 ·rw [if_pos c2] at H
  have c2b0 : (a0_0 == 0) = true := beq_iff_eq.mpr c2
  have c2b1 : (a0_0 != 0) = false := bne_eq_false_iff_eq.mpr c2
  clear c2
  by_cases c3 : a0_1.toList = ([] : List UInt8)
  ·rw [if_pos c3] at H
   have c3b0 : (a0_1.toList == ([] : List UInt8)) = true := beq_iff_eq.mpr c3
   have c3b1 : (a0_1.toList != ([] : List UInt8)) = false := bne_eq_false_iff_eq.mpr c3
   clear c3
   by_cases c4 : a0_2.toList = ([] : List UInt8)
   ·rw [if_pos c4] at H
    have c4b0 : (a0_2.toList == ([] : List UInt8)) = true := beq_iff_eq.mpr c4
    have c4b1 : (a0_2.toList != ([] : List UInt8)) = false := bne_eq_false_iff_eq.mpr c4
    clear c4
    obtain rfl := Option.some.inj H
    go_enter Try.func97, Try.ntmps97
    go_wp2_with (first | ((with_reducible refine gate_dst (N := 1) rfl ?_); refine box_event ?hg (N := 1) ?hd (cs := #[.int .i64 a0_0, .string a0_1, .string a0_2]) (t := 74) ?hr ?_; (case hd => rfl); (case hg => rfl); (case hr => first | (go_simp; done) | (go_simp; rfl)); intro gb221 hg w5 hbox hb; have n0_ := Aside0.mk (below_step (by repeat (first | (with_reducible first | exact HB.out | apply below_alloc | apply pw_below_drewN | apply below_drew1) | exact HB.out)) hb); have n1_ := Aside0.mk (hbox); have n2_ := Aside0.mk ((by rw [hg]; exact (below_size (by repeat (first | (with_reducible first | exact HB.out | apply below_alloc | apply pw_below_drewN | apply below_drew1) | exact HB.out))) : w.heap.size ≤ gb221)); have n3_ := Aside0.mk ((by rw [hg]; exact (below_size (by repeat (first | (with_reducible first | exact HB.out | apply below_alloc | apply pw_below_drewN | apply below_drew1) | exact HB.out))) : w.heap.size ≤ gb221)); clear HB; have HB := n0_; have BK221 := n1_; have GW221 := n2_; have GE221 := n3_; clear n0_ n1_ n2_ n3_; clear hb hbox hg; have hcz6_0 : w5.cell? ⟨gb221, 0, none⟩ = some (.int .i64 a0_0) := (blk_cell BK221.out 0).trans rfl; have hcz6_1 : w5.cell? ⟨gb221, 1, none⟩ = some (.string a0_1) := (blk_cell BK221.out 1).trans rfl; have hcz6_2 : w5.cell? ⟨gb221, 2, none⟩ = some (.string a0_2) := (blk_cell BK221.out 2).trans rfl; have hfz6_0 := blk_frozen BK221.out 0; have hfz6_1 := blk_frozen BK221.out 1; have hfz6_2 := blk_frozen BK221.out 2))
    all_goals (try (exfalso; rename_i h_; rw [c3b0] at h_; cases h_; done))
    all_goals (try (exfalso; rename_i h_; rw [c4b0] at h_; cases h_; done))
    go_ret
    exact ⟨by first | rfl | (simp [errW_none, errW_some] <;> rfl) | (simp [*, errW_none, errW_some] <;> rfl), by repeat (first | (with_reducible first | exact HB.out | apply below_alloc | apply pw_below_drewN | apply below_drew1 | refine below_set ?_ GE221.out) | exact HB.out)⟩
   ·rw [if_neg c4] at H
    have c4b0 : (a0_2.toList == ([] : List UInt8)) = false := beq_eq_false_iff_ne.mpr c4
    have c4b1 : (a0_2.toList != ([] : List UInt8)) = true := bne_iff_ne.mpr c4
    replace H := Option.bind_eq_some_iff.mp H
    obtain ⟨t222, A70, H⟩ := H
    replace H : (some t222) = some r := H
    have A7 := Aside0.mk A70
    clear A70
    obtain rfl := Option.some.inj H
    go_enter Try.func97, Try.ntmps97
    go_wp2_with (first | ((with_reducible refine gate_dst (N := 1) rfl ?_); refine box_event ?hg (N := 1) ?hd (cs := #[.int .i64 a0_0, .string a0_1, .string a0_2]) (t := 74) ?hr ?_; (case hd => rfl); (case hg => rfl); (case hr => first | (go_simp; done) | (go_simp; rfl)); intro gb221 hg w8 hbox hb; have n0_ := Aside0.mk (below_step (by repeat (first | (with_reducible first | exact HB.out | apply below_alloc | apply pw_below_drewN | apply below_drew1) | exact HB.out)) hb); have n1_ := Aside0.mk (hbox); have n2_ := Aside0.mk ((by rw [hg]; exact (below_size (by repeat (first | (with_reducible first | exact HB.out | apply below_alloc | apply pw_below_drewN | apply below_drew1) | exact HB.out))) : w.heap.size ≤ gb221)); have n3_ := Aside0.mk ((by rw [hg]; exact (below_size (by repeat (first | (with_reducible first | exact HB.out | apply below_alloc | apply pw_below_drewN | apply below_drew1) | exact HB.out))) : w.heap.size ≤ gb221)); clear HB; have HB := n0_; have BK221 := n1_; have GW221 := n2_; have GE221 := n3_; clear n0_ n1_ n2_ n3_; clear hb hbox hg; have hcz9_0 : w8.cell? ⟨gb221, 0, none⟩ = some (.int .i64 a0_0) := (blk_cell BK221.out 0).trans rfl; have hcz9_1 : w8.cell? ⟨gb221, 1, none⟩ = some (.string a0_1) := (blk_cell BK221.out 1).trans rfl; have hcz9_2 : w8.cell? ⟨gb221, 2, none⟩ = some (.string a0_2) := (blk_cell BK221.out 2).trans rfl; have hfz9_0 := blk_frozen BK221.out 0; have hfz9_1 := blk_frozen BK221.out 1; have hfz9_2 := blk_frozen BK221.out 2) | (go_at_call 60; (with_reducible refine (impl_GoodText.calls k a0_2 t222 _ A7.out).mono ?_); rintro e w' ⟨rfl, ⟨nd, rfl⟩⟩))
    all_goals (try (exfalso; rename_i h_; rw [c3b0] at h_; cases h_; done))
    all_goals (try (exfalso; rename_i h_; rw [c4b0] at h_; cases h_; done))
    go_ret
    exact ⟨by first | rfl | (simp [errW_none, errW_some] <;> rfl) | (simp [*, errW_none, errW_some] <;> rfl), by repeat (first | (with_reducible first | exact HB.out | apply below_alloc | apply pw_below_drewN | apply below_drew1 | refine below_set ?_ GE221.out) | exact HB.out)⟩
  ·rw [if_neg c3] at H
   have c3b0 : (a0_1.toList == ([] : List UInt8)) = false := beq_eq_false_iff_ne.mpr c3
   have c3b1 : (a0_1.toList != ([] : List UInt8)) = true := bne_iff_ne.mpr c3
   by_cases c10 : a0_2.toList = ([] : List UInt8)
   ·rw [if_pos c10] at H
    have c10b0 : (a0_2.toList == ([] : List UInt8)) = true := beq_iff_eq.mpr c10
    have c10b1 : (a0_2.toList != ([] : List UInt8)) = false := bne_eq_false_iff_eq.mpr c10
    clear c10
    replace H := Option.bind_eq_some_iff.mp H
    obtain ⟨t223, A110, H⟩ := H
    replace H : (some t223) = some r := H
    have A11 := Aside0.mk A110
    clear A110
    obtain rfl := Option.some.inj H
    go_enter Try.func97, Try.ntmps97
    go_wp2_with (first | ((with_reducible refine gate_dst (N := 1) rfl ?_); refine box_event ?hg (N := 1) ?hd (cs := #[.int .i64 a0_0, .string a0_1, .string a0_2]) (t := 74) ?hr ?_; (case hd => rfl); (case hg => rfl); (case hr => first | (go_simp; done) | (go_simp; rfl)); intro gb221 hg w12 hbox hb; have n0_ := Aside0.mk (below_step (by repeat (first | (with_reducible first | exact HB.out | apply below_alloc | apply pw_below_drewN | apply below_drew1) | exact HB.out)) hb); have n1_ := Aside0.mk (hbox); have n2_ := Aside0.mk ((by rw [hg]; exact (below_size (by repeat (first | (with_reducible first | exact HB.out | apply below_alloc | apply pw_below_drewN | apply below_drew1) | exact HB.out))) : w.heap.size ≤ gb221)); have n3_ := Aside0.mk ((by rw [hg]; exact (below_size (by repeat (first | (with_reducible first | exact HB.out | apply below_alloc | apply pw_below_drewN | apply below_drew1) | exact HB.out))) : w.heap.size ≤ gb221)); clear HB; have HB := n0_; have BK221 := n1_; have GW221 := n2_; have GE221 := n3_; clear n0_ n1_ n2_ n3_; clear hb hbox hg; have hcz13_0 : w12.cell? ⟨gb221, 0, none⟩ = some (.int .i64 a0_0) := (blk_cell BK221.out 0).trans rfl; have hcz13_1 : w12.cell? ⟨gb221, 1, none⟩ = some (.string a0_1) := (blk_cell BK221.out 1).trans rfl; have hcz13_2 : w12.cell? ⟨gb221, 2, none⟩ = some (.string a0_2) := (blk_cell BK221.out 2).trans rfl; have hfz13_0 := blk_frozen BK221.out 0; have hfz13_1 := blk_frozen BK221.out 1; have hfz13_2 := blk_frozen BK221.out 2) | (go_at_call 60; (with_reducible refine (impl_GoodText.calls k a0_1 t223 _ A11.out).mono ?_); rintro e w' ⟨rfl, ⟨nd, rfl⟩⟩))
    all_goals (try (exfalso; rename_i h_; rw [c3b0] at h_; cases h_; done))
    all_goals (try (exfalso; rename_i h_; rw [c10b0] at h_; cases h_; done))
    go_ret
    exact ⟨by first | rfl | (simp [errW_none, errW_some] <;> rfl) | (simp [*, errW_none, errW_some] <;> rfl), by repeat (first | (with_reducible first | exact HB.out | apply below_alloc | apply pw_below_drewN | apply below_drew1 | refine below_set ?_ GE221.out) | exact HB.out)⟩
   ·rw [if_neg c10] at H
    have c10b0 : (a0_2.toList == ([] : List UInt8)) = false := beq_eq_false_iff_ne.mpr c10
    have c10b1 : (a0_2.toList != ([] : List UInt8)) = true := bne_iff_ne.mpr c10
    obtain rfl := Option.some.inj H
    go_enter Try.func97, Try.ntmps97
    go_wp2_with (first | ((with_reducible refine gate_dst (N := 1) rfl ?_); refine box_event ?hg (N := 1) ?hd (cs := #[.int .i64 a0_0, .string a0_1, .string a0_2]) (t := 74) ?hr ?_; (case hd => rfl); (case hg => rfl); (case hr => first | (go_simp; done) | (go_simp; rfl)); intro gb221 hg w14 hbox hb; have n0_ := Aside0.mk (below_step (by repeat (first | (with_reducible first | exact HB.out | apply below_alloc | apply pw_below_drewN | apply below_drew1) | exact HB.out)) hb); have n1_ := Aside0.mk (hbox); have n2_ := Aside0.mk ((by rw [hg]; exact (below_size (by repeat (first | (with_reducible first | exact HB.out | apply below_alloc | apply pw_below_drewN | apply below_drew1) | exact HB.out))) : w.heap.size ≤ gb221)); have n3_ := Aside0.mk ((by rw [hg]; exact (below_size (by repeat (first | (with_reducible first | exact HB.out | apply below_alloc | apply pw_below_drewN | apply below_drew1) | exact HB.out))) : w.heap.size ≤ gb221)); clear HB; have HB := n0_; have BK221 := n1_; have GW221 := n2_; have GE221 := n3_; clear n0_ n1_ n2_ n3_; clear hb hbox hg; have hcz15_0 : w14.cell? ⟨gb221, 0, none⟩ = some (.int .i64 a0_0) := (blk_cell BK221.out 0).trans rfl; have hcz15_1 : w14.cell? ⟨gb221, 1, none⟩ = some (.string a0_1) := (blk_cell BK221.out 1).trans rfl; have hcz15_2 : w14.cell? ⟨gb221, 2, none⟩ = some (.string a0_2) := (blk_cell BK221.out 2).trans rfl; have hfz15_0 := blk_frozen BK221.out 0; have hfz15_1 := blk_frozen BK221.out 1; have hfz15_2 := blk_frozen BK221.out 2))
    all_goals (try (exfalso; rename_i h_; rw [c3b0] at h_; cases h_; done))
    all_goals (try (exfalso; rename_i h_; rw [c10b0] at h_; cases h_; done))
    go_ret
    exact ⟨by first | rfl | (simp [errW_none, errW_some] <;> rfl) | (simp [*, errW_none, errW_some] <;> rfl), by repeat (first | (with_reducible first | exact HB.out | apply below_alloc | apply pw_below_drewN | apply below_drew1 | refine below_set ?_ GE221.out) | exact HB.out)⟩
 ·rw [if_neg c2] at H
  have c2b0 : (a0_0 == 0) = false := beq_eq_false_iff_ne.mpr c2
  have c2b1 : (a0_0 != 0) = true := bne_iff_ne.mpr c2
  by_cases c16 : a0_0 ≥ 1
  ·rw [if_pos c16] at H
   have c16b0 : decide (1 ≤ a0_0) = true := decide_eq_true c16
   clear c16
   by_cases c17 : a0_0 ≤ 300
   ·rw [if_pos c17] at H
    have c17b0 : decide (a0_0 ≤ 300) = true := decide_eq_true c17
    clear c17
    by_cases c18 : a0_1.toList = ([] : List UInt8)
    ·rw [if_pos c18] at H
     have c18b0 : (a0_1.toList == ([] : List UInt8)) = true := beq_iff_eq.mpr c18
     have c18b1 : (a0_1.toList != ([] : List UInt8)) = false := bne_eq_false_iff_eq.mpr c18
     clear c18
     obtain rfl := Option.some.inj H
     go_enter Try.func97, Try.ntmps97
     go_wp2_with (first | ((with_reducible refine gate_dst (N := 1) rfl ?_); refine box_event ?hg (N := 1) ?hd (cs := #[.int .i64 a0_0, .string a0_1, .string a0_2]) (t := 74) ?hr ?_; (case hd => rfl); (case hg => rfl); (case hr => first | (go_simp; done) | (go_simp; rfl)); intro gb221 hg w19 hbox hb; have n0_ := Aside0.mk (below_step (by repeat (first | (with_reducible first | exact HB.out | apply below_alloc | apply pw_below_drewN | apply below_drew1) | exact HB.out)) hb); have n1_ := Aside0.mk (hbox); have n2_ := Aside0.mk ((by rw [hg]; exact (below_size (by repeat (first | (with_reducible first | exact HB.out | apply below_alloc | apply pw_below_drewN | apply below_drew1) | exact HB.out))) : w.heap.size ≤ gb221)); have n3_ := Aside0.mk ((by rw [hg]; exact (below_size (by repeat (first | (with_reducible first | exact HB.out | apply below_alloc | apply pw_below_drewN | apply below_drew1) | exact HB.out))) : w.heap.size ≤ gb221)); clear HB; have HB := n0_; have BK221 := n1_; have GW221 := n2_; have GE221 := n3_; clear n0_ n1_ n2_ n3_; clear hb hbox hg; have hcz20_0 : w19.cell? ⟨gb221, 0, none⟩ = some (.int .i64 a0_0) := (blk_cell BK221.out 0).trans rfl; have hcz20_1 : w19.cell? ⟨gb221, 1, none⟩ = some (.string a0_1) := (blk_cell BK221.out 1).trans rfl; have hcz20_2 : w19.cell? ⟨gb221, 2, none⟩ = some (.string a0_2) := (blk_cell BK221.out 2).trans rfl; have hfz20_0 := blk_frozen BK221.out 0; have hfz20_1 := blk_frozen BK221.out 1; have hfz20_2 := blk_frozen BK221.out 2))
     all_goals (try (exfalso; rename_i h_; rw [c18b0] at h_; cases h_; done))
     go_ret
     exact ⟨by first | rfl | (simp [errW_none, errW_some] <;> rfl) | (simp [*, errW_none, errW_some] <;> rfl), by repeat (first | (with_reducible first | exact HB.out | apply below_alloc | apply pw_below_drewN | apply below_drew1 | refine below_set ?_ GE221.out) | exact HB.out)⟩
    ·rw [if_neg c18] at H
     have c18b0 : (a0_1.toList == ([] : List UInt8)) = false := beq_eq_false_iff_ne.mpr c18
     have c18b1 : (a0_1.toList != ([] : List UInt8)) = true := bne_iff_ne.mpr c18
     obtain rfl := Option.some.inj H
     go_enter Try.func97, Try.ntmps97
     go_wp2_with (first | ((with_reducible refine gate_dst (N := 1) rfl ?_); refine box_event ?hg (N := 1) ?hd (cs := #[.int .i64 a0_0, .string a0_1, .string a0_2]) (t := 74) ?hr ?_; (case hd => rfl); (case hg => rfl); (case hr => first | (go_simp; done) | (go_simp; rfl)); intro gb221 hg w21 hbox hb; have n0_ := Aside0.mk (below_step (by repeat (first | (with_reducible first | exact HB.out | apply below_alloc | apply pw_below_drewN | apply below_drew1) | exact HB.out)) hb); have n1_ := Aside0.mk (hbox); have n2_ := Aside0.mk ((by rw [hg]; exact (below_size (by repeat (first | (with_reducible first | exact HB.out | apply below_alloc | apply pw_below_drewN | apply below_drew1) | exact HB.out))) : w.heap.size ≤ gb221)); have n3_ := Aside0.mk ((by rw [hg]; exact (below_size (by repeat (first | (with_reducible first | exact HB.out | apply below_alloc | apply pw_below_drewN | apply below_drew1) | exact HB.out))) : w.heap.size ≤ gb221)); clear HB; have HB := n0_; have BK221 := n1_; have GW221 := n2_; have GE221 := n3_; clear n0_ n1_ n2_ n3_; clear hb hbox hg; have hcz22_0 : w21.cell? ⟨gb221, 0, none⟩ = some (.int .i64 a0_0) := (blk_cell BK221.out 0).trans rfl; have hcz22_1 : w21.cell? ⟨gb221, 1, none⟩ = some (.string a0_1) := (blk_cell BK221.out 1).trans rfl; have hcz22_2 : w21.cell? ⟨gb221, 2, none⟩ = some (.string a0_2) := (blk_cell BK221.out 2).trans rfl; have hfz22_0 := blk_frozen BK221.out 0; have hfz22_1 := blk_frozen BK221.out 1; have hfz22_2 := blk_frozen BK221.out 2))
     all_goals (try (exfalso; rename_i h_; rw [c18b0] at h_; cases h_; done))
     go_ret
     exact ⟨by first | rfl | (simp [errW_none, errW_some] <;> rfl) | (simp [*, errW_none, errW_some] <;> rfl), by repeat (first | (with_reducible first | exact HB.out | apply below_alloc | apply pw_below_drewN | apply below_drew1 | refine below_set ?_ GE221.out) | exact HB.out)⟩
   ·rw [if_neg c17] at H
    have c17b0 : decide (a0_0 ≤ 300) = false := decide_eq_false c17
    clear c17
    obtain rfl := Option.some.inj H
    go_enter Try.func97, Try.ntmps97
    go_wp2_with (first | ((with_reducible refine gate_dst (N := 1) rfl ?_); refine box_event ?hg (N := 1) ?hd (cs := #[.int .i64 a0_0, .string a0_1, .string a0_2]) (t := 74) ?hr ?_; (case hd => rfl); (case hg => rfl); (case hr => first | (go_simp; done) | (go_simp; rfl)); intro gb221 hg w23 hbox hb; have n0_ := Aside0.mk (below_step (by repeat (first | (with_reducible first | exact HB.out | apply below_alloc | apply pw_below_drewN | apply below_drew1) | exact HB.out)) hb); have n1_ := Aside0.mk (hbox); have n2_ := Aside0.mk ((by rw [hg]; exact (below_size (by repeat (first | (with_reducible first | exact HB.out | apply below_alloc | apply pw_below_drewN | apply below_drew1) | exact HB.out))) : w.heap.size ≤ gb221)); have n3_ := Aside0.mk ((by rw [hg]; exact (below_size (by repeat (first | (with_reducible first | exact HB.out | apply below_alloc | apply pw_below_drewN | apply below_drew1) | exact HB.out))) : w.heap.size ≤ gb221)); clear HB; have HB := n0_; have BK221 := n1_; have GW221 := n2_; have GE221 := n3_; clear n0_ n1_ n2_ n3_; clear hb hbox hg; have hcz24_0 : w23.cell? ⟨gb221, 0, none⟩ = some (.int .i64 a0_0) := (blk_cell BK221.out 0).trans rfl; have hcz24_1 : w23.cell? ⟨gb221, 1, none⟩ = some (.string a0_1) := (blk_cell BK221.out 1).trans rfl; have hcz24_2 : w23.cell? ⟨gb221, 2, none⟩ = some (.string a0_2) := (blk_cell BK221.out 2).trans rfl; have hfz24_0 := blk_frozen BK221.out 0; have hfz24_1 := blk_frozen BK221.out 1; have hfz24_2 := blk_frozen BK221.out 2))
    go_ret
    exact ⟨by first | rfl | (simp [errW_none, errW_some] <;> rfl) | (simp [*, errW_none, errW_some] <;> rfl), by repeat (first | (with_reducible first | exact HB.out | apply below_alloc | apply pw_below_drewN | apply below_drew1 | refine below_set ?_ GE221.out) | exact HB.out)⟩
  ·rw [if_neg c16] at H
   have c16b0 : decide (1 ≤ a0_0) = false := decide_eq_false c16
   clear c16
   obtain rfl := Option.some.inj H
   go_enter Try.func97, Try.ntmps97
   go_wp2_with (first | ((with_reducible refine gate_dst (N := 1) rfl ?_); refine box_event ?hg (N := 1) ?hd (cs := #[.int .i64 a0_0, .string a0_1, .string a0_2]) (t := 74) ?hr ?_; (case hd => rfl); (case hg => rfl); (case hr => first | (go_simp; done) | (go_simp; rfl)); intro gb221 hg w25 hbox hb; have n0_ := Aside0.mk (below_step (by repeat (first | (with_reducible first | exact HB.out | apply below_alloc | apply pw_below_drewN | apply below_drew1) | exact HB.out)) hb); have n1_ := Aside0.mk (hbox); have n2_ := Aside0.mk ((by rw [hg]; exact (below_size (by repeat (first | (with_reducible first | exact HB.out | apply below_alloc | apply pw_below_drewN | apply below_drew1) | exact HB.out))) : w.heap.size ≤ gb221)); have n3_ := Aside0.mk ((by rw [hg]; exact (below_size (by repeat (first | (with_reducible first | exact HB.out | apply below_alloc | apply pw_below_drewN | apply below_drew1) | exact HB.out))) : w.heap.size ≤ gb221)); clear HB; have HB := n0_; have BK221 := n1_; have GW221 := n2_; have GE221 := n3_; clear n0_ n1_ n2_ n3_; clear hb hbox hg; have hcz26_0 : w25.cell? ⟨gb221, 0, none⟩ = some (.int .i64 a0_0) := (blk_cell BK221.out 0).trans rfl; have hcz26_1 : w25.cell? ⟨gb221, 1, none⟩ = some (.string a0_1) := (blk_cell BK221.out 1).trans rfl; have hcz26_2 : w25.cell? ⟨gb221, 2, none⟩ = some (.string a0_2) := (blk_cell BK221.out 2).trans rfl; have hfz26_0 := blk_frozen BK221.out 0; have hfz26_1 := blk_frozen BK221.out 1; have hfz26_2 := blk_frozen BK221.out 2))
   go_ret
   exact ⟨by first | rfl | (simp [errW_none, errW_some] <;> rfl) | (simp [*, errW_none, errW_some] <;> rfl), by repeat (first | (with_reducible first | exact HB.out | apply below_alloc | apply pw_below_drewN | apply below_drew1 | refine below_set ?_ GE221.out) | exact HB.out)⟩

/-! ### impl_GoodOp_1: function 96 -/
def impl_GoodOp_1.f (k : Nat) (a0_0 : Int) (a0_1 : ByteArray) (a0_2 : ByteArray) : Option (Bool) := (impl_Part_isPart.f k a0_0 a0_1 a0_2).bind fun t225 => (some (!t225))
theorem impl_GoodOp_1.mono : ∀ a0 a1 a2 k, LeO (impl_GoodOp_1.f k a0 a1 a2) (impl_GoodOp_1.f (k + 1) a0 a1 a2) := by
 intro a0 a1 a2 k
 unfold impl_GoodOp_1.f
 repeat' first
   | (with_reducible exact impl_Part_isPart.mono _ _ _ _)
   | (with_reducible exact LeO.refl _)
   | (with_reducible exact LeO.none _)
   | (with_reducible refine LeO.ite ?_ ?_)
   | (with_reducible refine LeO.bind ?_ (fun _ => ?_))
   | exact impl_Part_isPart.mono _ _ _ _
   | exact LeO.none _
   | refine LeO.ite ?_ ?_
   | refine LeO.bind ?_ (fun _ => ?_)
set_option maxHeartbeats 8000000 in
set_option maxRecDepth 100000 in
theorem impl_GoodOp_1.calls (k : Nat) (a0_0 : Int) (a0_1 : ByteArray) (a0_2 : ByteArray) (r : Bool) (w : World) (h : impl_GoodOp_1.f k a0_0 a0_1 a0_2 = some r) :
  Calls Try.prog 96 #[.agg #[.int .i64 a0_0, .string a0_1, .string a0_2]] w fun e w' => e = .returned (.bool r) ∧ Below w.heap.size w w' := by
 have hu74 := Try.underlying74
 have HB := Aside0.mk (Below.refl w.heap.size w)
 have H : ((impl_Part_isPart.f k a0_0 a0_1 a0_2).bind fun t225 => (some (!t225))) = some r := h
 clear h
 replace H := Option.bind_eq_some_iff.mp H
 obtain ⟨t225, A20, H⟩ := H
 replace H : (some (!t225)) = some r := H
 have A2 := Aside0.mk A20
 clear A20
 obtain rfl := Option.some.inj H
 go_enter Try.func96, Try.ntmps96
 go_wp2_with (first | ((with_reducible refine gate_dst (N := 1) rfl ?_); refine box_event ?hg (N := 1) ?hd (cs := #[.int .i64 a0_0, .string a0_1, .string a0_2]) (t := 74) ?hr ?_; (case hd => rfl); (case hg => rfl); (case hr => first | (go_simp; done) | (go_simp; rfl)); intro gb224 hg w3 hbox hb; have n0_ := Aside0.mk (below_step (by repeat (first | (with_reducible first | exact HB.out | apply below_alloc | apply pw_below_drewN | apply below_drew1) | exact HB.out)) hb); have n1_ := Aside0.mk (hbox); have n2_ := Aside0.mk ((by rw [hg]; exact (below_size (by repeat (first | (with_reducible first | exact HB.out | apply below_alloc | apply pw_below_drewN | apply below_drew1) | exact HB.out))) : w.heap.size ≤ gb224)); have n3_ := Aside0.mk ((by rw [hg]; exact (below_size (by repeat (first | (with_reducible first | exact HB.out | apply below_alloc | apply pw_below_drewN | apply below_drew1) | exact HB.out))) : w.heap.size ≤ gb224)); clear HB; have HB := n0_; have BK224 := n1_; have GW224 := n2_; have GE224 := n3_; clear n0_ n1_ n2_ n3_; clear hb hbox hg; have hcz4_0 : w3.cell? ⟨gb224, 0, none⟩ = some (.int .i64 a0_0) := (blk_cell BK224.out 0).trans rfl; have hcz4_1 : w3.cell? ⟨gb224, 1, none⟩ = some (.string a0_1) := (blk_cell BK224.out 1).trans rfl; have hcz4_2 : w3.cell? ⟨gb224, 2, none⟩ = some (.string a0_2) := (blk_cell BK224.out 2).trans rfl; have hfz4_0 := blk_frozen BK224.out 0; have hfz4_1 := blk_frozen BK224.out 1; have hfz4_2 := blk_frozen BK224.out 2) | ((with_reducible refine gate_callee (f := 97) rfl ?_); refine goesL_ (some 4) rfl rfl Try.func97 (by kernel_rfl) rfl #[.agg #[.int .i64 a0_0, .string a0_1, .string a0_2]] rfl (by (try simp only [List.map_toArray, List.map_cons, List.map_nil]); first | done | rfl | (simp only [List.length_drop, List.length_take]; rfl)) ?_; (with_reducible refine (impl_Part_isPart.calls k a0_0 a0_1 a0_2 t225 _ A2.out).mono ?_); rintro e w5 ⟨rfl, hb⟩; refine ⟨_, rfl, ?_⟩; have n0_ := Aside0.mk (blk_below (g := gb224) (o := .cells #[.int .i64 a0_0, .string a0_1, .string a0_2] 74 (0, 0)) (by (with_reducible repeat (first | refine blk_drewN ?_ _ | refine blk_drew ?_ | refine blk_alloc ?_ _)); exact BK224.out) hb); have n1_ := Aside0.mk (below_step (by repeat (first | (with_reducible first | exact HB.out | apply below_alloc | apply pw_below_drewN | apply below_drew1 | refine below_set ?_ GE224.out) | exact HB.out)) hb); clear BK224; clear HB; have BK224 := n0_; have HB := n1_; clear n0_ n1_; (try clear hb); (try clear hb2); (try clear hk); (try clear hi)))
 go_ret
 exact ⟨by first | rfl | (simp [errW_none, errW_some] <;> rfl) | (simp [*, errW_none, errW_some] <;> rfl), by repeat (first | (with_reducible first | exact HB.out | apply below_alloc | apply pw_below_drewN | apply below_drew1 | refine below_set ?_ GE224.out) | exact HB.out)⟩

/-! ### impl_Part_128: function 128 -/
def impl_Part_128.l0 : Nat → List (S74) → Int → Int → Option (Int)
 | 0, _, _, _ => none
 | k + 1, x0, x7, x8 => if x8 < x7 then (if 0 ≤ x8 then (if x8 < (x0.length : Int) then ((impl_GoodOp_1.f k ((rd_T74 x0 x8).f0) ((rd_T74 x0 x8).f1) ((rd_T74 x0 x8).f2)).bind fun t227 => (if t227 = true then (some x8) else (impl_Part_128.l0 k x0 x7 (wrap64 (x8 + 1))))) else (none)) else (none)) else (some (-1))
def impl_Part_128.f (k : Nat) (l0 : List (S74))  : Option (Int) := impl_Part_128.l0 k l0 (l0.length : Int) 0
theorem impl_Part_128.mono_l : ∀ k, (∀ y0 y1 y2, LeO (impl_Part_128.l0 k y0 y1 y2) (impl_Part_128.l0 (k + 1) y0 y1 y2))
 | 0 => fun _ _ _ r h => by simp [impl_Part_128.l0] at h
 | k + 1 => by
  have ih0 := impl_Part_128.mono_l k
  ·intro y0 y1 y2
   unfold impl_Part_128.l0
   repeat' first
   | (with_reducible exact ih0 _ _ _)
   | (with_reducible exact impl_GoodOp_1.mono _ _ _ _)
   | (with_reducible exact LeO.refl _)
   | (with_reducible exact LeO.none _)
   | (with_reducible refine LeO.ite ?_ ?_)
   | (with_reducible refine LeO.bind ?_ (fun _ => ?_))
   | exact ih0 _ _ _
   | exact impl_GoodOp_1.mono _ _ _ _
   | exact LeO.none _
   | refine LeO.ite ?_ ?_
   | refine LeO.bind ?_ (fun _ => ?_)
theorem impl_Part_128.mono : ∀ a0 k, LeO (impl_Part_128.f k a0) (impl_Part_128.f (k + 1) a0) := by
 intro a0 k
 have ih0 := impl_Part_128.mono_l k
 unfold impl_Part_128.f
 repeat' first
   | (with_reducible exact ih0 _ _ _)
   | (with_reducible exact impl_GoodOp_1.mono _ _ _ _)
   | (with_reducible exact LeO.refl _)
   | (with_reducible exact LeO.none _)
   | (with_reducible refine LeO.ite ?_ ?_)
   | (with_reducible refine LeO.bind ?_ (fun _ => ?_))
   | exact ih0 _ _ _
   | exact impl_GoodOp_1.mono _ _ _ _
   | exact LeO.none _
   | refine LeO.ite ?_ ?_
   | refine LeO.bind ?_ (fun _ => ?_)
set_option maxHeartbeats 8000000 in
set_option maxRecDepth 100000 in
theorem impl_Part_128.calls (k : Nat) (A0 : Option Addr) (c0 : Nat) (l0 : List (S74))  (r : Int) (w : World) (hr0 : Kd.C k74 w A0 l0.length l0) (hc0 : l0.length ≤ c0) (h : impl_Part_128.f k l0 = some r) :
  Calls Try.prog 128 #[.slice A0 l0.length c0, .func (.func 96) #[] #[]] w fun e w' => e = .returned (.int .i64 r) ∧ Below w.heap.size w w' := by
 have hu74 := Try.underlying74
 have HR0 := Aside0.mk hr0
 have HC0 := Aside0.mk hc0
 clear hr0 hc0
 have HB := Aside0.mk (Below.refl w.heap.size w)
 have H : (impl_Part_128.l0 k l0 (l0.length : Int) 0) = some r := h
 clear h
 have H' := Aside0.mk H
 clear H
 go_enter Try.func128, Try.ntmps128
 go_wp2
 go_loopg [8] k (fun kq v8 w' => ∃ (x8_1 : Int), v8 = .int .i64 x8_1 ∧ Aside0 (impl_Part_128.l0 kq l0 (l0.length : Int) x8_1 = some r) ∧ Aside0 (kq ≤ k) ∧ Aside0 (Below w.heap.size w w'))
 case atStart => exact ⟨(0), (by first | rfl | (simp; done) | (simp [*]; done)), H', ⟨Nat.le_refl _⟩, ⟨by repeat (first | (with_reducible first | exact HB.out | apply below_alloc | apply pw_below_drewN | apply below_drew1) | exact HB.out)⟩⟩
 case round =>
  clear H'
  try clear c1
  try clear p2
  obtain ⟨x8_1, rfl, HA, HK1, HB⟩ := hrel
  cases gk with
  | zero => exact absurd HA.out (by simp [impl_Part_128.l0])
  | succ k1 =>
   have H := HA.out
   clear HA
   simp only [impl_Part_128.l0] at H
   by_cases c3 : x8_1 < (l0.length : Int)
   ·rw [if_pos c3] at H
    have c3b0 : decide (x8_1 < (l0.length : Int)) = true := decide_eq_true c3
    clear c3
    by_cases c4 : 0 ≤ x8_1
    ·rw [if_pos c4] at H
     have c4b0 : decide (0 ≤ x8_1) = true := decide_eq_true c4
     clear c4
     by_cases c5 : x8_1 < (l0.length : Int)
     ·rw [if_pos c5] at H
      have c5b0 : decide (x8_1 < (l0.length : Int)) = true := decide_eq_true c5
      clear c5
      replace H := Option.bind_eq_some_iff.mp H
      obtain ⟨t227, A60, H⟩ := H
      replace H : (if t227 = true then (some x8_1) else (impl_Part_128.l0 k1 l0 (l0.length : Int) (wrap64 (x8_1 + 1)))) = some r := H
      have A6 := Aside0.mk A60
      clear A60
      by_cases c7 : t227 = true
      ·subst c7
       have H1 : (some x8_1) = some r := by rw [if_pos rfl] at H; exact H
       clear H
       have H := H1
       clear H1
       obtain rfl := Option.some.inj H
       have p226 : 0 ≤ (x8_1 : Int) := of_decide_eq_true (by first | (with_reducible assumption) | assumption)
       have q226 : x8_1 < (l0.length : Int) := of_decide_eq_true (by first | (with_reducible assumption) | assumption)
       obtain ⟨ad226, e226, hx226_0, hx226_1, hx226_2⟩ := at_T74 HR0.out x8_1 p226 q226
       cases e226
       replace hx226_0 := (HB.out.cell (World.block_lt_of_cell? w _ hx226_0)).trans hx226_0
       replace hx226_1 := (HB.out.cell (World.block_lt_of_cell? w _ hx226_1)).trans hx226_1
       replace hx226_2 := (HB.out.cell (World.block_lt_of_cell? w _ hx226_2)).trans hx226_2
       replace p226 := eq_true p226
       replace q226 := eq_true q226
       go_wp2_with (first | (go_at_call 96; (with_reducible refine (impl_GoodOp_1.calls k1 ((rd_T74 l0 x8_1).f0) ((rd_T74 l0 x8_1).f1) ((rd_T74 l0 x8_1).f2) true _ A6.out).mono ?_); rintro e w8 ⟨rfl, hb⟩; have n0_ := Aside0.mk (below_step (by repeat (first | (with_reducible first | exact HB.out | apply below_alloc | apply pw_below_drewN | apply below_drew1) | exact HB.out)) hb); clear HB; have HB := n0_; clear n0_; (try clear hb); (try clear hb2); (try clear hk); (try clear hi)))
       go_ret
       exact ⟨by first | rfl | (simp [errW_none, errW_some] <;> rfl) | (simp [*, errW_none, errW_some] <;> rfl), by repeat (first | (with_reducible first | exact HB.out | apply below_alloc | apply pw_below_drewN | apply below_drew1) | exact HB.out)⟩
      ·replace c7 := Bool.eq_false_iff.mpr c7
       subst c7
       have H1 : (impl_Part_128.l0 k1 l0 (l0.length : Int) (wrap64 (x8_1 + 1))) = some r := by rw [if_neg (show ¬ (false = true) by decide)] at H; exact H
       clear H
       have H := H1
       clear H1
       have H' := Aside0.mk H
       clear H
       have p226 : 0 ≤ (x8_1 : Int) := of_decide_eq_true (by first | (with_reducible assumption) | assumption)
       have q226 : x8_1 < (l0.length : Int) := of_decide_eq_true (by first | (with_reducible assumption) | assumption)
       obtain ⟨ad226, e226, hx226_0, hx226_1, hx226_2⟩ := at_T74 HR0.out x8_1 p226 q226
       cases e226
       replace hx226_0 := (HB.out.cell (World.block_lt_of_cell? w _ hx226_0)).trans hx226_0
       replace hx226_1 := (HB.out.cell (World.block_lt_of_cell? w _ hx226_1)).trans hx226_1
       replace hx226_2 := (HB.out.cell (World.block_lt_of_cell? w _ hx226_2)).trans hx226_2
       replace p226 := eq_true p226
       replace q226 := eq_true q226
       go_wp2_with (first | (go_at_call 96; (with_reducible refine (impl_GoodOp_1.calls k1 ((rd_T74 l0 x8_1).f0) ((rd_T74 l0 x8_1).f1) ((rd_T74 l0 x8_1).f2) false _ A6.out).mono ?_); rintro e w9 ⟨rfl, hb⟩; have n0_ := Aside0.mk (below_step (by repeat (first | (with_reducible first | exact HB.out | apply below_alloc | apply pw_below_drewN | apply below_drew1) | exact HB.out)) hb); clear HB; have HB := n0_; clear n0_; (try clear hb); (try clear hb2); (try clear hk); (try clear hi)))
       go_roundg k1
       case measure => have := HK1.out; omega
       case rel => exact ⟨(wrap64 (x8_1 + 1)), (by first | rfl | (simp; done) | (simp [*]; done)), H', ⟨by have := HK1.out; omega⟩, ⟨by repeat (first | (with_reducible first | exact HB.out | apply below_alloc | apply pw_below_drewN | apply below_drew1) | exact HB.out)⟩⟩
     ·rw [if_neg c5] at H
      exact absurd H (by simp)
    ·rw [if_neg c4] at H
     exact absurd H (by simp)
   ·rw [if_neg c3] at H
    have c3b0 : decide (x8_1 < (l0.length : Int)) = false := decide_eq_false c3
    clear c3
    obtain rfl := Option.some.inj H
    go_wp2
    go_ret
    exact ⟨by first | rfl | (simp [errW_none, errW_some] <;> rfl) | (simp [*, errW_none, errW_some] <;> rfl), by repeat (first | (with_reducible first | exact HB.out | apply below_alloc | apply pw_below_drewN | apply below_drew1) | exact HB.out)⟩

/-! ### impl_Part_95: function 95 -/
def impl_Part_95.f (k : Nat) (l0 : List (S74))  : Option (Bool) := (impl_Part_128.f k l0).bind fun t228 => (some (decide (t228 ≥ 0)))
theorem impl_Part_95.mono : ∀ a0 k, LeO (impl_Part_95.f k a0) (impl_Part_95.f (k + 1) a0) := by
 intro a0 k
 unfold impl_Part_95.f
 repeat' first
   | (with_reducible exact impl_Part_128.mono _ _)
   | (with_reducible exact LeO.refl _)
   | (with_reducible exact LeO.none _)
   | (with_reducible refine LeO.ite ?_ ?_)
   | (with_reducible refine LeO.bind ?_ (fun _ => ?_))
   | exact impl_Part_128.mono _ _
   | exact LeO.none _
   | refine LeO.ite ?_ ?_
   | refine LeO.bind ?_ (fun _ => ?_)
set_option maxHeartbeats 8000000 in
set_option maxRecDepth 100000 in
theorem impl_Part_95.calls (k : Nat) (A0 : Option Addr) (c0 : Nat) (l0 : List (S74))  (r : Bool) (w : World) (hr0 : Kd.C k74 w A0 l0.length l0) (hc0 : l0.length ≤ c0) (h : impl_Part_95.f k l0 = some r) :
  Calls Try.prog 95 #[.slice A0 l0.length c0, .func (.func 96) #[] #[]] w fun e w' => e = .returned (.bool r) ∧ Below w.heap.size w w' := by
 have HR0 := Aside0.mk hr0
 have HC0 := Aside0.mk hc0
 clear hr0 hc0
 have HB := Aside0.mk (Below.refl w.heap.size w)
 have H : ((impl_Part_128.f k l0).bind fun t228 => (some (decide (t228 ≥ 0)))) = some r := h
 clear h
 replace H := Option.bind_eq_some_iff.mp H
 obtain ⟨t228, A30, H⟩ := H
 replace H : (some (decide (t228 ≥ 0))) = some r := H
 have A3 := Aside0.mk A30
 clear A30
 obtain rfl := Option.some.inj H
 go_enter Try.func95, Try.ntmps95
 go_wp2_with (first | ((with_reducible refine gate_callee (f := 128) rfl ?_); refine goesL_ (some 7) rfl rfl Try.func128 (by kernel_rfl) rfl #[.slice A0 l0.length c0, .func (.func 96) #[] #[]] rfl (by (try simp only [List.map_toArray, List.map_cons, List.map_nil]); first | done | rfl | (simp only [List.length_drop, List.length_take]; rfl)) ?_; (with_reducible refine (impl_Part_128.calls k _ _ l0  t228 _ ?side1 ?side2 A3.out).mono ?_); (case side1 => repeat (first | exact HR0.out | (with_reducible refine Kd.C_alloc ?_ _) | (with_reducible refine Kd.C_drewN ?_ _) | (with_reducible refine Kd.C_drew ?_))); (case side2 => exact HC0.out); rintro e w4 ⟨rfl, hb⟩; refine ⟨_, rfl, ?_⟩; have n0_ := Aside0.mk (below_step (by repeat (first | (with_reducible first | exact HB.out | apply below_alloc | apply pw_below_drewN | apply below_drew1) | exact HB.out)) hb); clear HB; have HB := n0_; clear n0_; (try clear hb); (try clear hb2); (try clear hk); (try clear hi)))
 go_ret
 exact ⟨by first | rfl | (simp [errW_none, errW_some] <;> rfl) | (simp [*, errW_none, errW_some] <;> rfl), by repeat (first | (with_reducible first | exact HB.out | apply below_alloc | apply pw_below_drewN | apply below_drew1) | exact HB.out)⟩

/-! ### impl_GoodOp: function 48 -/
def impl_GoodOp.f (k : Nat) (l0 : List (S74)) : Option (Bool) := if (l0.length : Int) > 60 then (some false) else ((impl_Part_95.f k l0).bind fun t229 => (if t229 = true then (some false) else ((impl_sizes.f k l0).bind fun bt230 => (if bt230.1 ≤ 300 then (some (decide (bt230.2 ≤ 300))) else (some false)))))
theorem impl_GoodOp.mono : ∀ a0 k, LeO (impl_GoodOp.f k a0) (impl_GoodOp.f (k + 1) a0) := by
 intro a0 k
 unfold impl_GoodOp.f
 repeat' first
   | (with_reducible exact impl_Part_95.mono _ _)
   | (with_reducible exact impl_sizes.mono _ _)
   | (with_reducible exact LeO.refl _)
   | (with_reducible exact LeO.none _)
   | (with_reducible refine LeO.ite ?_ ?_)
   | (with_reducible refine LeO.bind ?_ (fun _ => ?_))
   | exact impl_Part_95.mono _ _
   | exact impl_sizes.mono _ _
   | exact LeO.none _
   | refine LeO.ite ?_ ?_
   | refine LeO.bind ?_ (fun _ => ?_)
set_option maxHeartbeats 8000000 in
set_option maxRecDepth 100000 in
theorem impl_GoodOp.calls (k : Nat) (A0 : Option Addr) (c0 : Nat) (l0 : List (S74)) (r : Bool) (w : World) (hr0 : Kd.C k74 w A0 l0.length l0) (hc0 : l0.length ≤ c0) (h : impl_GoodOp.f k l0 = some r) :
  Calls Try.prog 48 #[.slice A0 l0.length c0] w fun e w' => e = .returned (.bool r) ∧ Below w.heap.size w w' := by
 have HR0 := Aside0.mk hr0
 have HC0 := Aside0.mk hc0
 clear hr0 hc0
 have HB := Aside0.mk (Below.refl w.heap.size w)
 have H : (if (l0.length : Int) > 60 then (some false) else ((impl_Part_95.f k l0).bind fun t229 => (if t229 = true then (some false) else ((impl_sizes.f k l0).bind fun bt230 => (if bt230.1 ≤ 300 then (some (decide (bt230.2 ≤ 300))) else (some false)))))) = some r := h
 clear h
 by_cases c2 : (l0.length : Int) > 60
 ·rw [if_pos c2] at H
  have c2b0 : decide (60 < (l0.length : Int)) = true := decide_eq_true c2
  have c2b1 : decide (60 < l0.length) = true := decide_eq_true (by omega)
  clear c2
  obtain rfl := Option.some.inj H
  go_enter Try.func48, Try.ntmps48
  go_wp2
  go_ret
  exact ⟨by first | rfl | (simp [errW_none, errW_some] <;> rfl) | (simp [*, errW_none, errW_some] <;> rfl), by repeat (first | (with_reducible first | exact HB.out | apply below_alloc | apply pw_below_drewN | apply below_drew1) | exact HB.out)⟩
 ·rw [if_neg c2] at H
  have c2b0 : decide (60 < (l0.length : Int)) = false := decide_eq_false c2
  have c2b1 : decide (60 < l0.length) = false := decide_eq_false (by omega)
  clear c2
  replace H := Option.bind_eq_some_iff.mp H
  obtain ⟨t229, A30, H⟩ := H
  replace H : (if t229 = true then (some false) else ((impl_sizes.f k l0).bind fun bt230 => (if bt230.1 ≤ 300 then (some (decide (bt230.2 ≤ 300))) else (some false)))) = some r := H
  have A3 := Aside0.mk A30
  clear A30
  by_cases c4 : t229 = true
  ·subst c4
   have H1 : (some false) = some r := by rw [if_pos rfl] at H; exact H
   clear H
   have H := H1
   clear H1
   obtain rfl := Option.some.inj H
   go_enter Try.func48, Try.ntmps48
   go_wp2_with (first | (go_at_call 95; (with_reducible refine (impl_Part_95.calls k _ _ l0  true _ ?side1 ?side2 A3.out).mono ?_); (case side1 => repeat (first | exact HR0.out | (with_reducible refine Kd.C_alloc ?_ _) | (with_reducible refine Kd.C_drewN ?_ _) | (with_reducible refine Kd.C_drew ?_))); (case side2 => exact HC0.out); rintro e w5 ⟨rfl, hb⟩; have n0_ := Aside0.mk (below_step (by repeat (first | (with_reducible first | exact HB.out | apply below_alloc | apply pw_below_drewN | apply below_drew1) | exact HB.out)) hb); clear HB; have HB := n0_; clear n0_; (try clear hb); (try clear hb2); (try clear hk); (try clear hi)))
   go_ret
   exact ⟨by first | rfl | (simp [errW_none, errW_some] <;> rfl) | (simp [*, errW_none, errW_some] <;> rfl), by repeat (first | (with_reducible first | exact HB.out | apply below_alloc | apply pw_below_drewN | apply below_drew1) | exact HB.out)⟩
  ·replace c4 := Bool.eq_false_iff.mpr c4
   subst c4
   have H1 : ((impl_sizes.f k l0).bind fun bt230 => (if bt230.1 ≤ 300 then (some (decide (bt230.2 ≤ 300))) else (some false))) = some r := by rw [if_neg (show ¬ (false = true) by decide)] at H; exact H
   clear H
   have H := H1
   clear H1
   replace H := Option.bind_eq_some_iff.mp H
   obtain ⟨⟨t230, t231⟩, A60, H⟩ := H
   replace H : (if t230 ≤ 300 then (some (decide (t231 ≤ 300))) else (some false)) = some r := H
   have A6 := Aside0.mk A60
   clear A60
   by_cases c7 : t230 ≤ 300
   ·rw [if_pos c7] at H
    have c7b0 : decide (t230 ≤ 300) = true := decide_eq_true c7
    clear c7
    obtain rfl := Option.some.inj H
    go_enter Try.func48, Try.ntmps48
    go_wp2_with (first | (go_at_call 95; (with_reducible refine (impl_Part_95.calls k _ _ l0  false _ ?side1 ?side2 A3.out).mono ?_); (case side1 => repeat (first | exact HR0.out | (with_reducible refine Kd.C_alloc ?_ _) | (with_reducible refine Kd.C_drewN ?_ _) | (with_reducible refine Kd.C_drew ?_))); (case side2 => exact HC0.out); rintro e w8 ⟨rfl, hb⟩; have n0_ := Aside0.mk (below_step (by repeat (first | (with_reducible first | exact HB.out | apply below_alloc | apply pw_below_drewN | apply below_drew1) | exact HB.out)) hb); clear HB; have HB := n0_; clear n0_; (try clear hb); (try clear hb2); (try clear hk); (try clear hi)) | ((with_reducible refine gate_callee (f := 61) rfl ?_); refine goesL_ (some 14) rfl rfl Try.func61 (by kernel_rfl) rfl #[.slice A0 l0.length c0] rfl (by (try simp only [List.map_toArray, List.map_cons, List.map_nil]); first | done | rfl | (simp only [List.length_drop, List.length_take]; rfl)) ?_; (with_reducible refine (impl_sizes.calls k _ _ l0 t230 t231 _ ?side1 ?side2 A6.out).mono ?_); (case side1 => repeat (first | exact (Kd.C_below HR0.out HB.out) | (with_reducible refine Kd.C_alloc ?_ _) | (with_reducible refine Kd.C_drewN ?_ _) | (with_reducible refine Kd.C_drew ?_))); (case side2 => exact HC0.out); rintro e w9 ⟨rfl, hb⟩; refine ⟨_, rfl, ?_⟩; have n0_ := Aside0.mk (below_step (by repeat (first | (with_reducible first | exact HB.out | apply below_alloc | apply pw_below_drewN | apply below_drew1) | exact HB.out)) hb); clear HB; have HB := n0_; clear n0_; (try clear hb); (try clear hb2); (try clear hk); (try clear hi)))
    go_ret
    exact ⟨by first | rfl | (simp [errW_none, errW_some] <;> rfl) | (simp [*, errW_none, errW_some] <;> rfl), by repeat (first | (with_reducible first | exact HB.out | apply below_alloc | apply pw_below_drewN | apply below_drew1) | exact HB.out)⟩
   ·rw [if_neg c7] at H
    have c7b0 : decide (t230 ≤ 300) = false := decide_eq_false c7
    clear c7
    obtain rfl := Option.some.inj H
    go_enter Try.func48, Try.ntmps48
    go_wp2_with (first | (go_at_call 95; (with_reducible refine (impl_Part_95.calls k _ _ l0  false _ ?side1 ?side2 A3.out).mono ?_); (case side1 => repeat (first | exact HR0.out | (with_reducible refine Kd.C_alloc ?_ _) | (with_reducible refine Kd.C_drewN ?_ _) | (with_reducible refine Kd.C_drew ?_))); (case side2 => exact HC0.out); rintro e w10 ⟨rfl, hb⟩; have n0_ := Aside0.mk (below_step (by repeat (first | (with_reducible first | exact HB.out | apply below_alloc | apply pw_below_drewN | apply below_drew1) | exact HB.out)) hb); clear HB; have HB := n0_; clear n0_; (try clear hb); (try clear hb2); (try clear hk); (try clear hi)) | ((with_reducible refine gate_callee (f := 61) rfl ?_); refine goesL_ (some 14) rfl rfl Try.func61 (by kernel_rfl) rfl #[.slice A0 l0.length c0] rfl (by (try simp only [List.map_toArray, List.map_cons, List.map_nil]); first | done | rfl | (simp only [List.length_drop, List.length_take]; rfl)) ?_; (with_reducible refine (impl_sizes.calls k _ _ l0 t230 t231 _ ?side1 ?side2 A6.out).mono ?_); (case side1 => repeat (first | exact (Kd.C_below HR0.out HB.out) | (with_reducible refine Kd.C_alloc ?_ _) | (with_reducible refine Kd.C_drewN ?_ _) | (with_reducible refine Kd.C_drew ?_))); (case side2 => exact HC0.out); rintro e w11 ⟨rfl, hb⟩; refine ⟨_, rfl, ?_⟩; have n0_ := Aside0.mk (below_step (by repeat (first | (with_reducible first | exact HB.out | apply below_alloc | apply pw_below_drewN | apply below_drew1) | exact HB.out)) hb); clear HB; have HB := n0_; clear n0_; (try clear hb); (try clear hb2); (try clear hk); (try clear hi)))
    go_ret
    exact ⟨by first | rfl | (simp [errW_none, errW_some] <;> rfl) | (simp [*, errW_none, errW_some] <;> rfl), by repeat (first | (with_reducible first | exact HB.out | apply below_alloc | apply pw_below_drewN | apply below_drew1) | exact HB.out)⟩

/-! ### impl_goodOp: function 56 -/
def impl_goodOp.f (k : Nat) (l0 : List (S74)) : Option ((List (S74)) × Bool) := (impl_GoodOp.f k l0).bind fun t232 => (if t232 = true then (some (l0, true)) else (some (([] : List (S74)), false)))
theorem impl_goodOp.mono : ∀ a0 k, LeO (impl_goodOp.f k a0) (impl_goodOp.f (k + 1) a0) := by
 intro a0 k
 unfold impl_goodOp.f
 repeat' first
   | (with_reducible exact impl_GoodOp.mono _ _)
   | (with_reducible exact LeO.refl _)
   | (with_reducible exact LeO.none _)
   | (with_reducible refine LeO.ite ?_ ?_)
   | (with_reducible refine LeO.bind ?_ (fun _ => ?_))
   | exact impl_GoodOp.mono _ _
   | exact LeO.none _
   | refine LeO.ite ?_ ?_
   | refine LeO.bind ?_ (fun _ => ?_)
set_option maxHeartbeats 8000000 in
set_option maxRecDepth 100000 in
theorem impl_goodOp.calls (k : Nat) (P0_ : Nat → Prop) (u9000_ : Value) (l0 : List (S74)) (r1 : List (S74)) (r2 : Bool) (w0 w : World) (hB : Below w0.heap.size w0 w) (ho0 : Kd.R k74 74 w w0.heap.size P0_ u9000_ l0) (h : impl_goodOp.f k l0 = some (r1, r2)) :
  Calls Try.prog 56 #[u9000_] w fun e w' => ∃ v0_ : Value, e = .returned (.tuple #[v0_, .bool r2]) ∧ Kd.R k74 74 w' w0.heap.size (fun k_ => (P0_ k_ ∨ w.heap.size ≤ k_)) v0_ r1 ∧ Below w0.heap.size w0 w' ∧ Kept w w' (fun k_ => P0_ k_) := by
 have HO0 := Aside0.mk (show Kd.R k74 74 w w0.heap.size (fun k_ => (P0_ k_ ∨ w.heap.size ≤ k_)) u9000_ l0 from Kd.R_mono ho0 (fun k_ hk => (.inl hk)))
 have HK := Aside0.mk (Kept.refl w (fun k_ => P0_ k_))
 have HW0 := Aside0.mk hB.size
 have HB := Aside0.mk hB
 clear hB
 have H : ((impl_GoodOp.f k l0).bind fun t232 => (if t232 = true then (some (l0, true)) else (some (([] : List (S74)), false)))) = some (r1, r2) := h
 clear h
 replace H := Option.bind_eq_some_iff.mp H
 obtain ⟨t232, A20, H⟩ := H
 replace H : (if t232 = true then (some (l0, true)) else (some (([] : List (S74)), false))) = some (r1, r2) := H
 have A2 := Aside0.mk A20
 clear A20
 by_cases c3 : t232 = true
 ·subst c3
  have H1 : (some (l0, true)) = some (r1, r2) := by rw [if_pos rfl] at H; exact H
  clear H
  have H := H1
  clear H1
  simp only [Option.some.injEq, Prod.mk.injEq] at H
  obtain ⟨rfl, rfl⟩ := H
  obtain ⟨Ao4, co4, eo4⟩ := Kd.R_slice HO0.out
  subst eo4
  go_enter Try.func56, Try.ntmps56
  go_wp2_with (first | ((with_reducible refine gate_callee (f := 48) rfl ?_); refine goesL_ (some 5) rfl rfl Try.func48 (by kernel_rfl) rfl #[.slice Ao4 l0.length co4] rfl (by (try simp only [List.map_toArray, List.map_cons, List.map_nil]); first | done | rfl | (simp only [List.length_drop, List.length_take]; rfl)) ?_; (with_reducible refine (impl_GoodOp.calls k _ _ l0 true _ ?side1 ?side2 A2.out).mono ?_); (case side1 => repeat (first | exact (Kd.R_reads' HO0.out).2.2 | (with_reducible refine Kd.C_alloc ?_ _) | (with_reducible refine Kd.C_drewN ?_ _) | (with_reducible refine Kd.C_drew ?_))); (case side2 => exact (Kd.R_reads' HO0.out).2.1); rintro e w5 ⟨rfl, hb⟩; refine ⟨_, rfl, ?_⟩; have n0_ := Aside0.mk (Kd.R_below (by (with_reducible repeat (first | apply Kd.R_alloc | apply Kd.R_drewN | apply Kd.R_drew)); exact HO0.out) hb); have n1_ := Aside0.mk (Kept.below (S := (fun k_ => P0_ k_)) (by repeat (first | (with_reducible first | exact HK.out | apply Kept.alloc | apply Kept.drewN | apply Kept.drew) | exact HK.out)) hb); have n2_ := Aside0.mk (below_step (by repeat (first | (with_reducible first | exact HB.out | apply below_alloc | apply pw_below_drewN | apply below_drew1) | exact HB.out)) hb); clear HO0; clear HK; clear HB; have HO0 := n0_; have HK := n1_; have HB := n2_; clear n0_ n1_ n2_; (try clear hb); (try clear hb2); (try clear hk); (try clear hi)))
  go_ret2
  exact ⟨_, by first | rfl | (simp [errW_none, errW_some] <;> rfl) | (simp [*, errW_none, errW_some] <;> rfl), by (with_reducible repeat (first | apply Kd.R_alloc | apply Kd.R_drewN | apply Kd.R_drew)); exact HO0.out, by repeat (first | (with_reducible first | exact HB.out | apply below_alloc | apply pw_below_drewN | apply below_drew1) | exact HB.out), by repeat (first | (with_reducible first | exact HK.out | apply Kept.alloc | apply Kept.drewN | apply Kept.drew) | exact HK.out)⟩
 ·replace c3 := Bool.eq_false_iff.mpr c3
  subst c3
  have H1 : (some (([] : List (S74)), false)) = some (r1, r2) := by rw [if_neg (show ¬ (false = true) by decide)] at H; exact H
  clear H
  have H := H1
  clear H1
  simp only [Option.some.injEq, Prod.mk.injEq] at H
  obtain ⟨rfl, rfl⟩ := H
  obtain ⟨Ao6, co6, eo6⟩ := Kd.R_slice HO0.out
  subst eo6
  go_enter Try.func56, Try.ntmps56
  go_wp2_with (first | ((with_reducible refine gate_callee (f := 48) rfl ?_); refine goesL_ (some 5) rfl rfl Try.func48 (by kernel_rfl) rfl #[.slice Ao6 l0.length co6] rfl (by (try simp only [List.map_toArray, List.map_cons, List.map_nil]); first | done | rfl | (simp only [List.length_drop, List.length_take]; rfl)) ?_; (with_reducible refine (impl_GoodOp.calls k _ _ l0 false _ ?side1 ?side2 A2.out).mono ?_); (case side1 => repeat (first | exact (Kd.R_reads' HO0.out).2.2 | (with_reducible refine Kd.C_alloc ?_ _) | (with_reducible refine Kd.C_drewN ?_ _) | (with_reducible refine Kd.C_drew ?_))); (case side2 => exact (Kd.R_reads' HO0.out).2.1); rintro e w7 ⟨rfl, hb⟩; refine ⟨_, rfl, ?_⟩; have n0_ := Aside0.mk (Kd.R_below (by (with_reducible repeat (first | apply Kd.R_alloc | apply Kd.R_drewN | apply Kd.R_drew)); exact HO0.out) hb); have n1_ := Aside0.mk (Kept.below (S := (fun k_ => P0_ k_)) (by repeat (first | (with_reducible first | exact HK.out | apply Kept.alloc | apply Kept.drewN | apply Kept.drew) | exact HK.out)) hb); have n2_ := Aside0.mk (below_step (by repeat (first | (with_reducible first | exact HB.out | apply below_alloc | apply pw_below_drewN | apply below_drew1) | exact HB.out)) hb); clear HO0; clear HK; clear HB; have HO0 := n0_; have HK := n1_; have HB := n2_; clear n0_ n1_ n2_; (try clear hb); (try clear hb2); (try clear hk); (try clear hi)))
  go_ret2
  exact ⟨_, by first | rfl | (simp [errW_none, errW_some] <;> rfl) | (simp [*, errW_none, errW_some] <;> rfl), by first | exact Kd.R_nil _ _ _ _ _ | exact Kd.N_nil _ _ _ _ _ | exact Kd.V_nil _ _ _ _ _ | exact Kd.Q_nil _ _ _ _ _ | exact Kd.S_nil _ _ _ _ _, by repeat (first | (with_reducible first | exact HB.out | apply below_alloc | apply pw_below_drewN | apply below_drew1) | exact HB.out), by repeat (first | (with_reducible first | exact HK.out | apply Kept.alloc | apply Kept.drewN | apply Kept.drew) | exact HK.out)⟩

/-! ### impl_isSought: function 70 -/
def impl_isSought.f (k : Nat) (a0 : ByteArray) : Option (Bool) := if a0.toList = ([] : List UInt8) then (some false) else ((impl_GoodText.f k a0).bind fun t233 => (some t233))
theorem impl_isSought.mono : ∀ a0 k, LeO (impl_isSought.f k a0) (impl_isSought.f (k + 1) a0) := by
 intro a0 k
 unfold impl_isSought.f
 repeat' first
   | (with_reducible exact impl_GoodText.mono _ _)
   | (with_reducible exact LeO.refl _)
   | (with_reducible exact LeO.none _)
   | (with_reducible refine LeO.ite ?_ ?_)
   | (with_reducible refine LeO.bind ?_ (fun _ => ?_))
   | exact impl_GoodText.mono _ _
   | exact LeO.none _
   | refine LeO.ite ?_ ?_
   | refine LeO.bind ?_ (fun _ => ?_)
set_option maxHeartbeats 8000000 in
set_option maxRecDepth 100000 in
theorem impl_isSought.calls (k : Nat) (a0 : ByteArray) (r : Bool) (w : World) (h : impl_isSought.f k a0 = some r) :
  Calls Try.prog 70 #[.string a0] w fun e w' => e = .returned (.bool r) ∧ Drawn0 w w' := by
 have H : (if a0.toList = ([] : List UInt8) then (some false) else ((impl_GoodText.f k a0).bind fun t233 => (some t233))) = some r := h
 clear h
 by_cases c2 : a0.toList = ([] : List UInt8)
 ·rw [if_pos c2] at H
  have c2b0 : (a0.toList == ([] : List UInt8)) = true := beq_iff_eq.mpr c2
  have c2b1 : (a0.toList != ([] : List UInt8)) = false := bne_eq_false_iff_eq.mpr c2
  clear c2
  obtain rfl := Option.some.inj H
  go_enter Try.func70, Try.ntmps70
  go_wp2
  all_goals (try (exfalso; rename_i h_; rw [c2b0] at h_; cases h_; done))
  go_ret
  exact ⟨by first | rfl | (simp; done) | (simp [*]; done), by repeat (first | exact Drawn0.refl _ | apply Drawn0.step)⟩
 ·rw [if_neg c2] at H
  have c2b0 : (a0.toList == ([] : List UInt8)) = false := beq_eq_false_iff_ne.mpr c2
  have c2b1 : (a0.toList != ([] : List UInt8)) = true := bne_iff_ne.mpr c2
  replace H := Option.bind_eq_some_iff.mp H
  obtain ⟨t233, A30, H⟩ := H
  replace H : (some t233) = some r := H
  have A3 := Aside0.mk A30
  clear A30
  obtain rfl := Option.some.inj H
  go_enter Try.func70, Try.ntmps70
  go_wp2_with (first | (go_at_call 60; (with_reducible refine (impl_GoodText.calls k a0 t233 _ A3.out).mono ?_); rintro e w' ⟨rfl, ⟨nd, rfl⟩⟩))
  all_goals (try (exfalso; rename_i h_; rw [c2b0] at h_; cases h_; done))
  go_ret
  exact ⟨by first | rfl | (simp; done) | (simp [*]; done), by repeat (first | exact Drawn0.refl _ | apply Drawn0.step)⟩

/-! ### impl_maker_end: function 100, by hand -/

/-! ### impl_maker_keep: function 54, by hand -/

/-! ### impl_maker_take: function 55, by hand -/

/-! ### impl_maker_made: function 57, by hand -/
def Mk (w0 w : World) (g : Nat) (v : Value) (out : List S74) (put drop : ByteArray) : Prop :=
 w.heap[g]? = some (.cells #[v, .string put, .string drop] 81 (0, 0)) ∧ Kd.R k74 74 w w0.heap.size (fun _ => True) v out ∧ Below w0.heap.size w0 w ∧ w0.heap.size ≤ g
def MkTo (w w' : World) (g : Nat) (v v' : Value) : Prop := Kept w w' (fun k => k = g ∨ some k = v.ownBlock) ∧ (v'.ownBlock = v.ownBlock ∨ ∃ b, v'.ownBlock = some b ∧ w.heap.size ≤ b)
theorem MkTo.refl (w : World) (g : Nat) (v : Value) : MkTo w w g v v := ⟨Kept.refl _ _, .inl rfl⟩
theorem MkTo.trans {w w1 w2 : World} {g : Nat} {v v1 v2 : Value} (h : MkTo w w1 g v v1) (k : MkTo w1 w2 g v1 v2) : MkTo w w2 g v v2 := by
 obtain ⟨h1, h2⟩ := h
 obtain ⟨k1, k2⟩ := k
 refine ⟨h1.then_ k1 (fun b hb => ?_), ?_⟩
 ·rcases hb with rfl | hb
  ·exact .inl (.inl rfl)
  ·rcases h2 with h2 | ⟨b', h2, hle⟩
   ·rw [h2] at hb; exact .inl (.inr hb)
   ·rw [h2] at hb; injection hb with hb; exact .inr (by omega)
 ·rcases k2 with k2 | ⟨b', k2, hle⟩
  ·rw [k2]; exact h2
  ·exact .inr ⟨b', k2, Nat.le_trans h1.1 hle⟩
theorem Mk.alloc {w0 w : World} {g : Nat} {v : Value} {out : List S74} {put drop : ByteArray} (h : Mk w0 w g v out put drop) (o : Obj) : Mk w0 (w.alloc o) g v out put drop :=
 ⟨blk_alloc h.1 o, Kd.R_alloc h.2.1 o, h.2.2.1.alloc h.2.2.1.size o, h.2.2.2⟩
theorem Mk.drew {w0 w : World} {g : Nat} {v : Value} {out : List S74} {put drop : ByteArray} (h : Mk w0 w g v out put drop) : Mk w0 w.drew g v out put drop :=
 ⟨blk_drew h.1, Kd.R_drew h.2.1, below_drew h.2.2.1, h.2.2.2⟩
theorem Mk.drewN {w0 w : World} {g : Nat} {v : Value} {out : List S74} {put drop : ByteArray} (h : Mk w0 w g v out put drop) (n : Nat) : Mk w0 (w.drewN n) g v out put drop :=
 ⟨blk_drewN h.1 n, Kd.R_drewN h.2.1 n, pw_below_drewN h.2.2.1 n, h.2.2.2⟩
theorem Mk.below {w0 w w' : World} {g : Nat} {v : Value} {out : List S74} {put drop : ByteArray} (h : Mk w0 w g v out put drop) (hb : Below w.heap.size w w') : Mk w0 w' g v out put drop :=
 ⟨blk_below h.1 hb, Kd.R_below h.2.1 hb, below_then h.2.2.1 h.2.2.1.size hb, h.2.2.2⟩
theorem MkTo.alloc {w w' : World} {g : Nat} {v v' : Value} (h : MkTo w w' g v v') (o : Obj) : MkTo w (w'.alloc o) g v v' := ⟨h.1.alloc o, h.2⟩
theorem MkTo.drew {w w' : World} {g : Nat} {v v' : Value} (h : MkTo w w' g v v') : MkTo w w'.drew g v v' := ⟨h.1.drew, h.2⟩
theorem MkTo.drewN {w w' : World} {g : Nat} {v v' : Value} (h : MkTo w w' g v v') (n : Nat) : MkTo w (w'.drewN n) g v v' := ⟨h.1.drewN n, h.2⟩
theorem MkTo.below {w w' w2 : World} {g : Nat} {v v' : Value} (h : MkTo w w' g v v') (hb : Below w'.heap.size w' w2) : MkTo w w2 g v v' := ⟨h.1.below hb, h.2⟩
theorem Mk.far {w0 w : World} {g : Nat} {v : Value} {out : List S74} {put drop : ByteArray} (h : Mk w0 w g v out put drop) : ∀ k, v.ownBlock = some k → k ≠ g := fun k hk e => Kd.R_ne h.2.1 h.1 (by decide) (by rw [hk, e])
theorem Mk.set1 {w0 w : World} {g : Nat} {v : Value} {out : List S74} {put drop : ByteArray} (h : Mk w0 w g v out put drop) (s : ByteArray) : Mk w0 (w.setCell ⟨g, 1, none⟩ (.string s)) g v out s drop :=
 ⟨by simpa using blk_set h.1 1 (.string s), Kd.R_set h.2.1 h.1 (by decide) 1 _, below_set h.2.2.1 h.2.2.2, h.2.2.2⟩
theorem Mk.set2 {w0 w : World} {g : Nat} {v : Value} {out : List S74} {put drop : ByteArray} (h : Mk w0 w g v out put drop) (s : ByteArray) : Mk w0 (w.setCell ⟨g, 2, none⟩ (.string s)) g v out put s :=
 ⟨by simpa using blk_set h.1 2 (.string s), Kd.R_set h.2.1 h.1 (by decide) 2 _, below_set h.2.2.1 h.2.2.2, h.2.2.2⟩
theorem MkTo.set {w w' : World} {g : Nat} {v v' : Value} (h : MkTo w w' g v v') (j : Nat) (u : Value) : MkTo w (w'.setCell ⟨g, j, none⟩ u) g v v' := ⟨h.1.setCell (.inl (.inl rfl)) u, h.2⟩
/-- an append, and its store into the field -/
theorem Mk.app {w0 w w1 : World} {g : Nat} {v v1 : Value} {out out1 : List S74} {put drop : ByteArray} (h : Mk w0 w g v out put drop) (hr : Kd.R k74 74 w1 w0.heap.size (fun _ => True) v1 out1) (hb : Below w0.heap.size w0 w1) (hg : w.grownBy w1 v.ownBlock) : Mk w0 (w1.setCell ⟨g, 0, none⟩ v1) g v1 out1 put drop := by
 have hk := blk_grown h.1 hg (Kd.R_ne h.2.1 h.1 (by decide))
 exact ⟨by simpa using blk_set hk 0 v1, Kd.R_set hr hk (by decide) 0 _, below_set hb h.2.2.2, h.2.2.2⟩
theorem MkTo.app {w w1 : World} {g : Nat} {v v1 : Value} (hg : w.grownBy w1 v.ownBlock) (hat : v1.ownBlock = v.ownBlock ∨ ∃ b, v1.ownBlock = some b ∧ w.heap.size ≤ b) (u : Value) : MkTo w (w1.setCell ⟨g, 0, none⟩ u) g v v1 :=
 ⟨(Kept.of_grown hg (Kept.refl w _) (fun k hk => .inl (.inr hk.symm))).setCell (.inl (.inl rfl)) u, hat⟩
theorem Mk.cells {w0 w : World} {g : Nat} {v : Value} {out : List S74} {put drop : ByteArray} (h : Mk w0 w g v out put drop) :
  w.cell? ⟨g, 0, none⟩ = some v ∧ w.cell? ⟨g, 1, none⟩ = some (.string put) ∧ w.cell? ⟨g, 2, none⟩ = some (.string drop) ∧ w.frozen? ⟨g, 0, none⟩ = false ∧ w.frozen? ⟨g, 1, none⟩ = false ∧ w.frozen? ⟨g, 2, none⟩ = false :=
 ⟨blk_cell h.1 0, blk_cell h.1 1, blk_cell h.1 2, blk_frozen h.1 0, blk_frozen h.1 1, blk_frozen h.1 2⟩
def ends (put drop : ByteArray) : List S74 := (if put.toList = [] then [] else [⟨0, put, ⟨#[]⟩⟩]) ++ (if drop.toList = [] then [] else [⟨0, ⟨#[]⟩, drop⟩])
def Mid1 (w0 w : World) (g : Nat) (v : Value) (out : List S74) (put drop : ByteArray) (wx : World) : Prop := ∃ v', Mk w0 wx g v' out put drop ∧ MkTo w wx g v v'
set_option maxHeartbeats 1000000 in
theorem mk_end (w0 w : World) (g : Nat) (v : Value) (out : List S74) (put drop : ByteArray) (h : Mk w0 w g v out put drop) (hl : out.length + 2 ≤ 3518437208883) :
  Calls Try.prog 100 #[.pointer (some ⟨g, 0, none⟩)] w fun e w' => e = .returned (.tuple #[]) ∧ Mid1 w0 w g v (out ++ ends put drop) ⟨#[]⟩ ⟨#[]⟩ w' := by
 have HL := Aside0.mk hl
 have HM := Aside0.mk h
 obtain ⟨c0, c1, c2, f0, f1, f2⟩ := h.cells
 obtain ⟨A, c, rfl, -, -⟩ := Kd.R_reads h.2.1
 have a0 : ∀ o, (w.alloc o).cell? ⟨g, 0, none⟩ = some (.slice A out.length c) := fun o => blk_cell (blk_alloc h.1 o) 0
 clear h hl
 go_enter Try.func100, Try.ntmps100
 go_upto_if 6 with fail
 go_cut [] (fun wx => Mid1 w0 w g (.slice A out.length c) (out ++ (if put.toList = [] then [] else [⟨0, put, ⟨#[]⟩⟩])) put drop wx)
 case first =>
  by_cases hp : put.toList = []
  ·have e : (!put.toList.isEmpty) = false := by simp [hp]
   have e2 : put.toList.isEmpty = true := by simp [hp]
   have HM' : Aside0 (Mid1 w0 w g (.slice A out.length c) (out ++ (if put.toList = [] then [] else [⟨0, put, ⟨#[]⟩⟩])) put drop w) := ⟨by rw [if_pos hp, List.append_nil]; exact ⟨_, HM.out, MkTo.refl _ _ _⟩⟩
   clear hp
   rw [e]
   go_wp2_with fail
   go_meet
   exact HM'.out
  ·have e : (!put.toList.isEmpty) = true := by simp [hp]
   have e2 : put.toList.isEmpty = false := by simp [hp]
   have hi : Aside0 ((if put.toList = [] then [] else [(⟨0, put, ⟨#[]⟩⟩ : S74)]) = [⟨0, put, ⟨#[]⟩⟩]) := ⟨if_neg hp⟩
   clear hp
   rw [e]
   go_wp2_with fail
   go_region_law? (refine Kd.R_append_step k74 (w0 := w0) (W := w.drew) w0.heap.size ?hw (.tmp 11) (.tmp 17) 26 74 (.agg #[(.int .i64 0), (.string ⟨#[]⟩), (.string ⟨#[]⟩)]) 40 ?ho Try.underlying26 info74 rfl (by decide) (by decide) (.slice A out.length c) out (⟨0, put, ⟨#[]⟩⟩ : S74) [.int .i64 0, .string put, .string ⟨#[]⟩] (fun _ => True) (fun _ => False) ?hs ?hx ?aP (fun _ h => h.elim) (fun _ _ => trivial) ?aO ?aB ?aS ?aL ?_; (case aL => have := HL.out; omega); (case hw => rfl); (case ho => rfl); (case hs => rfl); (case hx => rfl); (case aP => exact k74_mkM _ _ _ _); (case aB => exact HM.out.drew.2.2.1); (case aO => exact HM.out.drew.2.1); (case aS => exact HM.out.drew.2.2.1.size); intro v1 w1 ho1 hb1 hg1 hat1; obtain ⟨A1, c1, eo1, -, -⟩ := Kd.R_reads ho1; rw [List.length_append, List.length_singleton] at eo1; subst eo1; have hk1 := blk_grown HM.out.drew.1 hg1 (Kd.R_ne HM.out.drew.2.1 HM.out.drew.1 (by decide)); have d0 : w1.cell? ⟨g, 0, none⟩ = _ := blk_cell hk1 0; have e0 := blk_frozen hk1 0; have HM1 := Aside0.mk (Mk.app HM.out.drew ho1 hb1 hg1); have HT1 : Aside0 (MkTo w (w1.setCell ⟨g, 0, none⟩ (.slice A1 (out.length + 1) c1)) g (.slice A out.length c) (.slice A1 (out.length + 1) c1)) := ⟨MkTo.app hg1 hat1 _⟩; clear ho1 hb1 hg1 hk1 hat1)
   all_goals
    go_wp2_with fail
    go_meet
    rw [hi.out]
    exact ⟨_, HM1.out, HT1.out⟩
 case rest =>
  obtain ⟨v2, h2, ht2⟩ := hcut
  obtain ⟨out2, hout2⟩ : ∃ o2, out ++ (if put.toList = [] then [] else [⟨0, put, ⟨#[]⟩⟩]) = o2 := ⟨_, rfl⟩
  have HO2 := Aside0.mk hout2
  rw [hout2] at h2
  have HL2 : Aside0 (out2.length + 1 ≤ 3518437208883) := ⟨by have := HL.out; rw [← hout2]; split <;> simp <;> omega⟩
  clear hout2 c0 c1 c2 f0 f1 f2 a0
  have HM2 := Aside0.mk h2
  have HT2 := Aside0.mk ht2
  obtain ⟨c0, c1, c2, f0, f1, f2⟩ := h2.cells
  obtain ⟨A2, cc2, rfl, -, -⟩ := Kd.R_reads h2.2.1
  have a0 : ∀ o, (wc.alloc o).cell? ⟨g, 0, none⟩ = some (.slice A2 out2.length cc2) := fun o => blk_cell (blk_alloc h2.1 o) 0
  clear h2 ht2
  go_upto_if 25 with fail
  go_cut [] (fun wx => Mid1 w0 w g (.slice A out.length c) (out ++ ends put drop) put drop wx)
  case first =>
   by_cases hp : drop.toList = []
   ·have e : (!drop.toList.isEmpty) = false := by simp [hp]
    have HM' : Aside0 (Mid1 w0 w g (.slice A out.length c) (out ++ ends put drop) put drop wc) := ⟨by unfold ends; rw [if_pos hp, List.append_nil, HO2.out]; exact ⟨_, HM2.out, HT2.out⟩⟩
    clear hp
    rw [e]
    go_wp2_with fail
    go_meet
    exact HM'.out
   ·have e : (!drop.toList.isEmpty) = true := by simp [hp]
    have hi : Aside0 (out ++ ends put drop = out2 ++ [(⟨0, ⟨#[]⟩, drop⟩ : S74)]) := ⟨by unfold ends; rw [if_neg hp, ← List.append_assoc, HO2.out]⟩
    clear hp
    rw [e]
    go_wp2_with fail
    go_region_law (refine Kd.R_append_step k74 (w0 := w0) (W := wc.drew) w0.heap.size ?hw (.tmp 30) (.tmp 36) 26 74 (.agg #[(.int .i64 0), (.string ⟨#[]⟩), (.string ⟨#[]⟩)]) 40 ?ho Try.underlying26 info74 rfl (by decide) (by decide) (.slice A2 out2.length cc2) out2 (⟨0, ⟨#[]⟩, drop⟩ : S74) [.int .i64 0, .string ⟨#[]⟩, .string drop] (fun _ => True) (fun _ => False) ?hs ?hx ?aP (fun _ h => h.elim) (fun _ _ => trivial) ?aO ?aB ?aS ?aL ?_; (case aL => have := HL2.out; omega); (case hw => rfl); (case ho => rfl); (case hs => rfl); (case hx => rfl); (case aP => exact k74_mkM _ _ _ _); (case aB => exact HM2.out.drew.2.2.1); (case aO => exact HM2.out.drew.2.1); (case aS => exact HM2.out.drew.2.2.1.size); intro v1 w1 ho1 hb1 hg1 hat1; obtain ⟨A1, c1, eo1, -, -⟩ := Kd.R_reads ho1; rw [List.length_append, List.length_singleton] at eo1; subst eo1; have hk1 := blk_grown HM2.out.drew.1 hg1 (Kd.R_ne HM2.out.drew.2.1 HM2.out.drew.1 (by decide)); have d0 : w1.cell? ⟨g, 0, none⟩ = _ := blk_cell hk1 0; have e0 := blk_frozen hk1 0; have HM1 := Aside0.mk (Mk.app HM2.out.drew ho1 hb1 hg1); have HT1 : Aside0 (MkTo wc (w1.setCell ⟨g, 0, none⟩ (.slice A1 (out2.length + 1) c1)) g (.slice A2 out2.length cc2) (.slice A1 (out2.length + 1) c1)) := ⟨MkTo.app hg1 hat1 _⟩; clear ho1 hb1 hg1 hk1 hat1)
    all_goals
     go_wp2_with fail
     go_meet
     rw [hi.out]
     exact ⟨_, HM1.out, HT2.out.trans HT1.out⟩
  case rest =>
   obtain ⟨v3, h3, ht3⟩ := hcut
   clear c0 c1 c2 f0 f1 f2 a0 HM2 HT2
   have HM3 := Aside0.mk h3
   have HT3 := Aside0.mk ht3
   obtain ⟨c0, c1, c2, f0, f1, f2⟩ := h3.cells
   clear h3 ht3
   go_wp2
   go_end0
   exact ⟨rfl, _, (HM3.out.set1 _).set2 _, (HT3.out.set _ _).set _ _⟩
/-- The field Keep of element i is written. -/
theorem k74_set0 {W : World} {base g2 n cap : Nat} {ok : Nat → Prop} {xs : List S74} (h : Kd.R k74 74 W base ok (.slice (some ⟨g2, 0, none⟩) n cap) xs) (i : Int) (h0 : 0 ≤ i) (h1 : i < n) (x : Int) :
  Kd.R k74 74 (W.setCell ⟨g2, i.toNat * 3, none⟩ (.int .i64 x)) base ok (.slice (some ⟨g2, 0, none⟩) n cap) (xs.set i.toNat ⟨x, (rd_T74 xs i).f1, (rd_T74 xs i).f2⟩) ∧ W.grownBy (W.setCell ⟨g2, i.toNat * 3, none⟩ (.int .i64 x)) (some g2) := by
 obtain ⟨c, hl, hM, hc, -⟩ := Kd.R_elem h z74 i h0 h1
 have hM' := hM
 obtain rfl := k74_openM hM'
 exact Kd.R_seg (d := k74) (seg := [.int .i64 x]) (j := 0) (okp := fun k => ok k ∧ k ≠ g2) h i h0 h1 hl hc (show 0 + 1 ≤ 3 by omega) (k74_mkM _ _ _ (⟨x, (rd_T74 xs i).f1, (rd_T74 xs i).f2⟩ : S74)) (fun _ hk => hk)
def keepO (o : List S74) (n : Int) : List S74 := if 0 < o.length ∧ (rd_T74 o ((o.length : Int) - 1)).f0 > 0 then o.set (o.length - 1) ⟨wrap64 ((rd_T74 o ((o.length : Int) - 1)).f0 + n), (rd_T74 o ((o.length : Int) - 1)).f1, (rd_T74 o ((o.length : Int) - 1)).f2⟩ else o ++ [⟨n, ⟨#[]⟩, ⟨#[]⟩⟩]
theorem ends_le (put drop : ByteArray) : (ends put drop).length ≤ 2 := by
 unfold ends
 split <;> split <;> simp
theorem mk_keep0 (w0 w : World) (g : Nat) (v : Value) (out : List S74) (put drop : ByteArray) (h : Mk w0 w g v out put drop) :
  Calls Try.prog 54 #[.pointer (some ⟨g, 0, none⟩), .int .i64 0] w fun e w' => e = .returned (.tuple #[]) ∧ Mid1 w0 w g v out put drop w' := by
 have HM := Aside0.mk h
 clear h
 go_enter Try.func54, Try.ntmps54
 go_wp2
 refine bodyPost_ret (results_none rfl _ _ _) rfl ?_
 exact ⟨rfl, _, HM.out, MkTo.refl _ _ _⟩
set_option maxHeartbeats 1000000 in
theorem mk_keepA (w0 w : World) (g : Nat) (v : Value) (out : List S74) (put drop : ByteArray) (n : Int) (hn : n ≠ 0) (h : Mk w0 w g v out put drop) (hl : out.length + 3 ≤ 3518437208883)
  (hc : ¬ (0 < (out ++ ends put drop).length)) :
  Calls Try.prog 54 #[.pointer (some ⟨g, 0, none⟩), .int .i64 n] w fun e w' => e = .returned (.tuple #[]) ∧ Mid1 w0 w g v (keepO (out ++ ends put drop) n) ⟨#[]⟩ ⟨#[]⟩ w' := by
 have HL : Aside0 (out.length + 2 ≤ 3518437208883) := ⟨by omega⟩
 have HM := Aside0.mk h
 have hnb : (n == 0) = false := beq_eq_false_iff_ne.mpr hn
 have he : out ++ ends put drop = [] := List.eq_nil_of_length_eq_zero (by omega)
 have HE := Aside0.mk he
 have HK : Aside0 (keepO (out ++ ends put drop) n = [] ++ [⟨n, ⟨#[]⟩, ⟨#[]⟩⟩]) := ⟨by unfold keepO; rw [if_neg (by omega), he]⟩
 clear h hl hn hc he
 go_enter Try.func54, Try.ntmps54
 go_wp2_with (first | (go_at_call 100; refine (mk_end w0 w g v out put drop HM.out HL.out).mono ?_; rintro e w1 ⟨rfl, v2, h2, ht2⟩; rw [HE.out] at h2; have HM2 := Aside0.mk h2; have HT2 := Aside0.mk ht2; obtain ⟨b0, b1, b2, f0, f1, f2⟩ := h2.cells; obtain ⟨A2, cc2, rfl, -, -⟩ := Kd.R_reads h2.2.1; clear h2 ht2; simp only [List.length_nil] at b0 HT2) | ((with_reducible refine gate_builtin (b := .append) (xs := #[.tmp 44, .tmp 47]) rfl ?_); at_builtin; refine Kd.R_append k74 (w0 := w0) (W := w1) w0.heap.size rfl (.tmp 44) (.tmp 47) 26 74 (.agg #[(.int .i64 0), (.string ⟨#[]⟩), (.string ⟨#[]⟩)]) 40 rfl Try.underlying26 info74 rfl (by decide) (by decide) (.slice A2 0 cc2) ([] : List S74) (⟨n, ⟨#[]⟩, ⟨#[]⟩⟩ : S74) [.int .i64 n, .string ⟨#[]⟩, .string ⟨#[]⟩] (fun _ => True) (fun _ => False) rfl rfl ?aP (fun _ h => h.elim) (fun _ _ => trivial) ?aO ?aB ?aS ?aL ?_; (case aP => exact k74_mkM _ _ _ _); (case aB => exact HM2.out.2.2.1); (case aO => exact HM2.out.2.1); (case aS => exact HM2.out.2.2.1.size); (case aL => have := HL.out; first | omega | (simp only [List.length_nil]; omega)); intro v1 wn ho1 hb1 hg1 hat1; obtain ⟨A1, c1, eo1, -, -⟩ := Kd.R_reads ho1; simp only [List.nil_append, List.length_singleton] at eo1; subst eo1; have hk1 := blk_grown HM2.out.1 hg1 (Kd.R_ne HM2.out.2.1 HM2.out.1 (by decide)); have d0 : wn.cell? ⟨g, 0, none⟩ = _ := blk_cell hk1 0; have e0 := blk_frozen hk1 0; have HM1 := Aside0.mk (Mk.app HM2.out ho1 hb1 hg1); have HT1 : Aside0 (MkTo w1 (wn.setCell ⟨g, 0, none⟩ (.slice A1 1 c1)) g (.slice A2 0 cc2) (.slice A1 1 c1)) := ⟨MkTo.app hg1 hat1 _⟩; clear ho1 hb1 hg1 hk1 hat1))
 go_end0
 rw [HK.out]
 exact ⟨rfl, _, HM1.out, HT2.out.trans HT1.out⟩
set_option maxHeartbeats 1000000 in
theorem mk_keepB (w0 w : World) (g : Nat) (v : Value) (out : List S74) (put drop : ByteArray) (n : Int) (hn : n ≠ 0) (h : Mk w0 w g v out put drop) (hl : out.length + 3 ≤ 3518437208883)
  (hc : 0 < (out ++ ends put drop).length) (hk : ¬ (rd_T74 (out ++ ends put drop) (((out ++ ends put drop).length : Int) - 1)).f0 > 0) :
  Calls Try.prog 54 #[.pointer (some ⟨g, 0, none⟩), .int .i64 n] w fun e w' => e = .returned (.tuple #[]) ∧ Mid1 w0 w g v (keepO (out ++ ends put drop) n) ⟨#[]⟩ ⟨#[]⟩ w' := by
 have HL : Aside0 (out.length + 2 ≤ 3518437208883) := ⟨by omega⟩
 have HM := Aside0.mk h
 have hnb : (n == 0) = false := beq_eq_false_iff_ne.mpr hn
 have hle := ends_le put drop
 obtain ⟨o, ho⟩ : ∃ o, out ++ ends put drop = o := ⟨_, rfl⟩
 have HE := Aside0.mk ho
 have hol : o.length ≤ 3518437208882 := by rw [← ho, List.length_append]; omega
 have HOL := Aside0.mk hol
 rw [ho] at hc hk
 have HC := Aside0.mk hc
 have HI0 : Aside0 ((0 : Int) ≤ (o.length : Int) - 1) := ⟨by omega⟩
 have HIN : Aside0 (((o.length : Int) - 1).toNat = o.length - 1) := ⟨by omega⟩
 have HI1 : Aside0 ((o.length : Int) - 1 < (o.length : Nat)) := ⟨by omega⟩
 have HK : Aside0 (keepO (out ++ ends put drop) n = o ++ [⟨n, ⟨#[]⟩, ⟨#[]⟩⟩]) := ⟨by unfold keepO; rw [ho, if_neg (fun x => hk x.2)]⟩
 have hkb : decide ((rd_T74 o ((o.length : Int) - 1)).f0 > 0) = false := decide_eq_false hk
 clear h hl hn ho hk hle
 go_enter Try.func54, Try.ntmps54
 go_wp2_with (first | (go_at_call 100; refine (mk_end w0 w g v out put drop HM.out HL.out).mono ?_; rintro e w1 ⟨rfl, v2, h2, ht2⟩; rw [HE.out] at h2; have HM2 := Aside0.mk h2; have HT2 := Aside0.mk ht2; obtain ⟨b0, b1, b2, f0, f1, f2⟩ := h2.cells; obtain ⟨g2, cc2, rfl, -, -, -⟩ := Kd.R_form h2.2.1 HC.out; obtain ⟨cl, -, hM2, hcl, hfr⟩ := Kd.R_elem h2.2.1 z74 ((o.length : Int) - 1) HI0.out HI1.out; obtain rfl := k74_openM hM2; have x0 : w1.cell? ⟨g2, (o.length - 1) * 3, none⟩ = some (.int .i64 (rd_T74 o ((o.length : Int) - 1)).f0) := (by rw [← HIN.out]; exact hcl 0 _ rfl); have y0 : w1.frozen? ⟨g2, (o.length - 1) * 3, none⟩ = false := (by rw [← HIN.out]; exact hfr 0); clear h2 ht2 hM2 hcl hfr) | ((with_reducible refine gate_builtin (b := .append) (xs := #[.tmp 44, .tmp 47]) rfl ?_); at_builtin; refine Kd.R_append k74 (w0 := w0) (W := w1) w0.heap.size rfl (.tmp 44) (.tmp 47) 26 74 (.agg #[(.int .i64 0), (.string ⟨#[]⟩), (.string ⟨#[]⟩)]) 40 rfl Try.underlying26 info74 rfl (by decide) (by decide) (.slice (some ⟨g2, 0, none⟩) o.length cc2) o (⟨n, ⟨#[]⟩, ⟨#[]⟩⟩ : S74) [.int .i64 n, .string ⟨#[]⟩, .string ⟨#[]⟩] (fun _ => True) (fun _ => False) rfl rfl ?aP (fun _ h => h.elim) (fun _ _ => trivial) ?aO ?aB ?aS ?aL ?_; (case aP => exact k74_mkM _ _ _ _); (case aB => exact HM2.out.2.2.1); (case aO => exact HM2.out.2.1); (case aS => exact HM2.out.2.2.1.size); (case aL => have := HOL.out; first | omega | (simp only [List.length_nil]; omega)); intro v1 wn ho1 hb1 hg1 hat1; obtain ⟨A1, c1, eo1, -, -⟩ := Kd.R_reads ho1; rw [List.length_append, List.length_singleton] at eo1; subst eo1; have hk1 := blk_grown HM2.out.1 hg1 (Kd.R_ne HM2.out.2.1 HM2.out.1 (by decide)); have d0 : wn.cell? ⟨g, 0, none⟩ = _ := blk_cell hk1 0; have e0 := blk_frozen hk1 0; have HM1 := Aside0.mk (Mk.app HM2.out ho1 hb1 hg1); have HT1 : Aside0 (MkTo w1 (wn.setCell ⟨g, 0, none⟩ (.slice A1 (o.length + 1) c1)) g (.slice (some ⟨g2, 0, none⟩) o.length cc2) (.slice A1 (o.length + 1) c1)) := ⟨MkTo.app hg1 hat1 _⟩; clear ho1 hb1 hg1 hk1 hat1))
 go_end0
 rw [HK.out]
 exact ⟨rfl, _, HM1.out, HT2.out.trans HT1.out⟩
set_option maxHeartbeats 1000000 in
theorem mk_keepC (w0 w : World) (g : Nat) (v : Value) (out : List S74) (put drop : ByteArray) (n : Int) (hn : n ≠ 0) (h : Mk w0 w g v out put drop) (hl : out.length + 3 ≤ 3518437208883)
  (hc : 0 < (out ++ ends put drop).length) (hk : (rd_T74 (out ++ ends put drop) (((out ++ ends put drop).length : Int) - 1)).f0 > 0) :
  Calls Try.prog 54 #[.pointer (some ⟨g, 0, none⟩), .int .i64 n] w fun e w' => e = .returned (.tuple #[]) ∧ Mid1 w0 w g v (keepO (out ++ ends put drop) n) ⟨#[]⟩ ⟨#[]⟩ w' := by
 have HL : Aside0 (out.length + 2 ≤ 3518437208883) := ⟨by omega⟩
 have HM := Aside0.mk h
 have hnb : (n == 0) = false := beq_eq_false_iff_ne.mpr hn
 have hle := ends_le put drop
 obtain ⟨o, ho⟩ : ∃ o, out ++ ends put drop = o := ⟨_, rfl⟩
 have HE := Aside0.mk ho
 have hol : o.length ≤ 3518437208882 := by rw [← ho, List.length_append]; omega
 have HOL := Aside0.mk hol
 rw [ho] at hc hk
 have HC := Aside0.mk hc
 have HI0 : Aside0 ((0 : Int) ≤ (o.length : Int) - 1) := ⟨by omega⟩
 have HIN : Aside0 (((o.length : Int) - 1).toNat = o.length - 1) := ⟨by omega⟩
 have HI1 : Aside0 ((o.length : Int) - 1 < (o.length : Nat)) := ⟨by omega⟩
 have HK : Aside0 (keepO (out ++ ends put drop) n = o.set (o.length - 1) ⟨wrap64 ((rd_T74 o ((o.length : Int) - 1)).f0 + n), (rd_T74 o ((o.length : Int) - 1)).f1, (rd_T74 o ((o.length : Int) - 1)).f2⟩) := ⟨by unfold keepO; rw [ho, if_pos ⟨hc, hk⟩]⟩
 have hkb : decide ((rd_T74 o ((o.length : Int) - 1)).f0 > 0) = true := decide_eq_true hk
 clear h hl hn ho hk hle
 go_enter Try.func54, Try.ntmps54
 go_wp2_with (first | (go_at_call 100; refine (mk_end w0 w g v out put drop HM.out HL.out).mono ?_; rintro e w1 ⟨rfl, v2, h2, ht2⟩; rw [HE.out] at h2; have HM2 := Aside0.mk h2; have HT2 := Aside0.mk ht2; obtain ⟨b0, b1, b2, f0, f1, f2⟩ := h2.cells; obtain ⟨g2, cc2, rfl, -, -, -⟩ := Kd.R_form h2.2.1 HC.out; obtain ⟨cl, -, hM2, hcl, hfr⟩ := Kd.R_elem h2.2.1 z74 ((o.length : Int) - 1) HI0.out HI1.out; obtain rfl := k74_openM hM2; have x0 : w1.cell? ⟨g2, (o.length - 1) * 3, none⟩ = some (.int .i64 (rd_T74 o ((o.length : Int) - 1)).f0) := (by rw [← HIN.out]; exact hcl 0 _ rfl); have y0 : w1.frozen? ⟨g2, (o.length - 1) * 3, none⟩ = false := (by rw [← HIN.out]; exact hfr 0); clear h2 ht2 hM2 hcl hfr))
 obtain ⟨hs, hg⟩ := k74_set0 HM2.out.2.1 ((o.length : Int) - 1) HI0.out HI1.out (wrap64 ((rd_T74 o ((o.length : Int) - 1)).f0 + n))
 rw [HIN.out] at hs hg
 have hne : g ≠ g2 := fun e => HM2.out.far g2 rfl e.symm
 have hb2 := blk_grown HM2.out.1 hg (fun e => hne (Option.some.inj e))
 have hB2 : Below w0.heap.size w0 (w1.setCell ⟨g2, (o.length - 1) * 3, none⟩ (.int .i64 (wrap64 ((rd_T74 o ((o.length : Int) - 1)).f0 + n)))) := below_set HM2.out.2.2.1 (Kd.R_base HM2.out.2.1 g2 rfl)
 refine bodyPost_ret (results_none rfl _ _ _) rfl ?_
 rw [HK.out]
 refine ⟨rfl, _, ⟨hb2, hs, hB2, HM2.out.2.2.2⟩, HT2.out.trans ⟨?_, .inl rfl⟩⟩
 exact Kept.of_grown hg (Kept.refl _ _) (fun k hk => .inl (.inr hk.symm))
def kO (out : List S74) (put drop : ByteArray) (n : Int) : List S74 := if n = 0 then out else keepO (out ++ ends put drop) n
def kS (s : ByteArray) (n : Int) : ByteArray := if n = 0 then s else ⟨#[]⟩
theorem mk_keep (w0 w : World) (g : Nat) (v : Value) (out : List S74) (put drop : ByteArray) (n : Int) (h : Mk w0 w g v out put drop) (hl : out.length + 3 ≤ 3518437208883) :
  Calls Try.prog 54 #[.pointer (some ⟨g, 0, none⟩), .int .i64 n] w fun e w' => e = .returned (.tuple #[]) ∧ Mid1 w0 w g v (kO out put drop n) (kS put n) (kS drop n) w' := by
 unfold kO kS
 by_cases hn : n = 0
 ·subst hn
  simp only [if_true]
  exact mk_keep0 w0 w g v out put drop h
 ·simp only [if_neg hn]
  by_cases hc : 0 < (out ++ ends put drop).length
  ·by_cases hk : (rd_T74 (out ++ ends put drop) (((out ++ ends put drop).length : Int) - 1)).f0 > 0
   ·exact mk_keepC w0 w g v out put drop n hn h hl hc hk
   ·exact mk_keepB w0 w g v out put drop n hn h hl hc hk
  ·exact mk_keepA w0 w g v out put drop n hn h hl hc
theorem Mid1.le {w0 w w' : World} {g : Nat} {v : Value} {out : List S74} {put drop : ByteArray} (h : Mid1 w0 w g v out put drop w') : w.heap.size ≤ w'.heap.size := by
 obtain ⟨_, _, ht⟩ := h
 exact ht.1.1
set_option maxHeartbeats 1000000 in
theorem mk_take (w0 w : World) (g : Nat) (v : Value) (out : List S74) (put drop : ByteArray) (p : S74) (h : Mk w0 w g v out put drop) (hl : out.length + 3 ≤ 3518437208883)
  (h1 : (kS put p.f0).size + p.f1.size ≤ 9223372036854775807) (h2 : (kS drop p.f0).size + p.f2.size ≤ 9223372036854775807) :
  Calls Try.prog 55 #[.pointer (some ⟨g, 0, none⟩), .agg #[.int .i64 p.f0, .string p.f1, .string p.f2]] w fun e w' => e = .returned (.tuple #[]) ∧ Mid1 w0 w g v (kO out put drop p.f0) (kS put p.f0 ++ p.f1) (kS drop p.f0 ++ p.f2) w' := by
 have HL := Aside0.mk hl
 have HM := Aside0.mk h
 have HM0 := Aside0.mk (h.alloc (.cells #[.int .i64 p.f0, .string p.f1, .string p.f2] 74))
 obtain ⟨o3, ho3⟩ : ∃ o, kO out put drop p.f0 = o := ⟨_, rfl⟩
 obtain ⟨s1, hs1⟩ : ∃ o, kS put p.f0 = o := ⟨_, rfl⟩
 obtain ⟨s2, hs2⟩ : ∃ o, kS drop p.f0 = o := ⟨_, rfl⟩
 rw [hs1] at h1
 rw [hs2] at h2
 have E3 := Aside0.mk ho3
 have E1 := Aside0.mk hs1
 have E2 := Aside0.mk hs2
 rw [ho3, hs1, hs2]
 clear ho3 hs1 hs2 h hl
 go_enter Try.func55, Try.ntmps55
 go_wp2_with (first | (go_at_call 54; refine (mk_keep w0 _ g v out put drop p.f0 HM0.out HL.out).mono ?_; rintro e w1 ⟨rfl, v2, h2_, ht2⟩; rw [E3.out, E1.out, E2.out] at h2_; have HM2 := Aside0.mk h2_; have HT2 := Aside0.mk ht2; obtain ⟨b0, b1, b2, f0, f1, f2⟩ := h2_.cells; have hbx : w1.heap[w.heap.size]? = some (.cells #[.int .i64 p.f0, .string p.f1, .string p.f2] 74 (0, 0)) := blk_kept (heap_alloc_new w _) ht2.1 (fun hk => hk.elim (fun e => Nat.lt_irrefl _ (e ▸ blk_lt HM.out.1)) (fun e => Nat.lt_irrefl _ (Kd.R_lt HM.out.2.1 _ e.symm))); have x1 : w1.cell? ⟨w.heap.size, 1, none⟩ = some (.string p.f1) := blk_cell hbx 1; have x2 : w1.cell? ⟨w.heap.size, 2, none⟩ = some (.string p.f2) := blk_cell hbx 2; clear h2_ ht2 hbx))
 go_region
 go_wp2
 go_region
 go_end0
 exact ⟨rfl, _, ((HM2.out.set1 _).set2 _).drew.drew, (((((MkTo.refl w g v).alloc _).trans HT2.out).set _ _).set _ _).drew.drew⟩
set_option maxHeartbeats 1000000 in
theorem mk_made (w0 w : World) (g : Nat) (v : Value) (out : List S74) (put drop : ByteArray) (h : Mk w0 w g v out put drop) (hl : out.length + 3 ≤ 3518437208883) :
  Calls Try.prog 57 #[.pointer (some ⟨g, 0, none⟩)] w fun e w' => ∃ v', e = .returned v' ∧ Kd.R k74 74 w' w0.heap.size (fun _ => True) v' (out ++ ends put drop) ∧ Below w0.heap.size w0 w' ∧ MkTo w w' g v v' := by
 have HL : Aside0 (out.length + 2 ≤ 3518437208883) := ⟨by omega⟩
 have HM := Aside0.mk h
 clear h hl
 go_enter Try.func57, Try.ntmps57
 go_wp2_with (first | (go_at_call 100; refine (mk_end w0 w g v out put drop HM.out HL.out).mono ?_; rintro e w1 ⟨rfl, v2, h2_, ht2⟩; have HM2 := Aside0.mk h2_; have HT2 := Aside0.mk ht2; obtain ⟨b0, b1, b2, f0, f1, f2⟩ := h2_.cells; clear h2_ ht2))
 go_ret
 exact ⟨_, rfl, HM2.out.2.1, HM2.out.2.2.1, HT2.out⟩

end Go.Proofs.Ytpbelbckinpinaa.AFnExactReplaceOp
