-- this session's own text: written by wip/tools/ownprint.py over the kit's print
import Derived.Test.YtpbelbckinpinaaAFnDiffx0
import Derived.Test.YtpbelbckinpinaaAFnDiffx1
import Derived.Test.YtpbelbckinpinaaAFnDiffx9
import Derived.Test.YtpbelbckinpinaaAFnDiffx12
namespace Go.Proofs.Ytpbelbckinpinaa.AFnDiff
open Go.RowKit Go.Proofs.YtpbelbckinpinaaW.PrintWords Go.Proofs.YtpbelbckinpinaaW.PrintLast Go.Proofs.YtpbelbckinpinaaW.PrintMore
attribute [local go_sem] max2_int min2_int max_two min_two max_three min_three max_four min_four   -- for this text's walks alone
set_option linter.unusedVariables false
set_option linter.unusedSimpArgs false

attribute [local go_sem high] eqA74
/-! ### spec_l3Apply: function 67 -/
mutual
def spec_l3Apply.l0 : Nat → ByteArray → ByteArray → List (S74) → Int → Int → Option (ByteArray × Bool)
 | 0, _, _, _, _, _ => none
 | k + 1, x1, x6, x10, x11, x12 => if x12 < x11 then (if 0 ≤ x12 then (if x12 < (x10.length : Int) then (if (wrap64 (((rd_T74 x10 x12).f0) + (((rd_T74 x10 x12).f2).size : Int))) > (x1.size : Int) then (spec_l3Apply.j1 k x1 x6 (wrap64 (((rd_T74 x10 x12).f0) + (((rd_T74 x10 x12).f2).size : Int))) x10 x11 x12 true ((rd_T74 x10 x12).f0) ((rd_T74 x10 x12).f1) ((rd_T74 x10 x12).f2)) else (if ((rd_T74 x10 x12).f2).toList = ([] : List UInt8) then (spec_l3Apply.j1 k x1 x6 (wrap64 (((rd_T74 x10 x12).f0) + (((rd_T74 x10 x12).f2).size : Int))) x10 x11 x12 false ((rd_T74 x10 x12).f0) ((rd_T74 x10 x12).f1) ((rd_T74 x10 x12).f2)) else (if 0 ≤ (wrap64 (((rd_T74 x10 x12).f0) + (((rd_T74 x10 x12).f2).size : Int))) then (if (wrap64 (((rd_T74 x10 x12).f0) + (((rd_T74 x10 x12).f2).size : Int))) ≤ (x1.size : Int) then (spec_l3Apply.j1 k x1 x6 (wrap64 (((rd_T74 x10 x12).f0) + (((rd_T74 x10 x12).f2).size : Int))) x10 x11 x12 ((x1.extract 0 ((wrap64 (((rd_T74 x10 x12).f0) + (((rd_T74 x10 x12).f2).size : Int))) : Int).toNat).toList != ((rd_T74 x10 x12).f2).toList) ((rd_T74 x10 x12).f0) ((rd_T74 x10 x12).f1) ((rd_T74 x10 x12).f2)) else (none)) else (none)))) else (none)) else (none)) else (some (x6, (x1.toList == ([] : List UInt8))))
def spec_l3Apply.j1 : Nat → ByteArray → ByteArray → Int → List (S74) → Int → Int → Bool → Int → ByteArray → ByteArray → Option (ByteArray × Bool)
 | 0, _, _, _, _, _, _, _, _, _, _ => none
 | k + 1, x1, x6, x9, x10, x11, x12, x38, x362000, x362001, x362002 => if x38 = true then (some ((⟨#[]⟩ : ByteArray), false)) else (if x362000 > 0 then (if 0 ≤ x9 then (if x9 ≤ (x1.size : Int) then (if x6.size + (x1.extract 0 (x9 : Int).toNat).size ≤ 9223372036854775807 then (if (x6 ++ (x1.extract 0 (x9 : Int).toNat)).size + x362001.size ≤ 9223372036854775807 then (spec_l3Apply.l0 k (x1.extract (x9 : Int).toNat x1.size) ((x6 ++ (x1.extract 0 (x9 : Int).toNat)) ++ x362001) x10 x11 (wrap64 (x12 + 1))) else (none)) else (none)) else (none)) else (none)) else (if x6.size + x362001.size ≤ 9223372036854775807 then (if 0 ≤ x9 then (if x9 ≤ (x1.size : Int) then (spec_l3Apply.l0 k (x1.extract (x9 : Int).toNat x1.size) (x6 ++ x362001) x10 x11 (wrap64 (x12 + 1))) else (none)) else (none)) else (none)))
end
def spec_l3Apply.f (k : Nat) (l0 : List (S74)) (a1 : ByteArray) : Option (ByteArray × Bool) := spec_l3Apply.l0 k a1 (⟨#[]⟩ : ByteArray) l0 (l0.length : Int) 0
theorem spec_l3Apply.mono_l : ∀ k, (∀ y0 y1 y2 y3 y4, LeO (spec_l3Apply.l0 k y0 y1 y2 y3 y4) (spec_l3Apply.l0 (k + 1) y0 y1 y2 y3 y4)) ∧ (∀ y0 y1 y2 y3 y4 y5 y6 y7 y8 y9, LeO (spec_l3Apply.j1 k y0 y1 y2 y3 y4 y5 y6 y7 y8 y9) (spec_l3Apply.j1 (k + 1) y0 y1 y2 y3 y4 y5 y6 y7 y8 y9))
 | 0 => ⟨fun _ _ _ _ _ r h => by simp [spec_l3Apply.l0] at h, fun _ _ _ _ _ _ _ _ _ _ r h => by simp [spec_l3Apply.j1] at h⟩
 | k + 1 => by
  obtain ⟨ih0, ih1⟩ := spec_l3Apply.mono_l k
  refine ⟨?_, ?_⟩
  ·intro y0 y1 y2 y3 y4
   unfold spec_l3Apply.l0
   repeat' first
   | (with_reducible exact ih0 _ _ _ _ _)
   | (with_reducible exact ih1 _ _ _ _ _ _ _ _ _ _)
   | (with_reducible exact LeO.refl _)
   | (with_reducible exact LeO.none _)
   | (with_reducible refine LeO.ite ?_ ?_)
   | (with_reducible refine LeO.bind ?_ (fun _ => ?_))
   | exact ih0 _ _ _ _ _
   | exact ih1 _ _ _ _ _ _ _ _ _ _
   | exact LeO.none _
   | refine LeO.ite ?_ ?_
   | refine LeO.bind ?_ (fun _ => ?_)
  ·intro y0 y1 y2 y3 y4 y5 y6 y7 y8 y9
   unfold spec_l3Apply.j1
   repeat' first
   | (with_reducible exact ih0 _ _ _ _ _)
   | (with_reducible exact ih1 _ _ _ _ _ _ _ _ _ _)
   | (with_reducible exact LeO.refl _)
   | (with_reducible exact LeO.none _)
   | (with_reducible refine LeO.ite ?_ ?_)
   | (with_reducible refine LeO.bind ?_ (fun _ => ?_))
   | exact ih0 _ _ _ _ _
   | exact ih1 _ _ _ _ _ _ _ _ _ _
   | exact LeO.none _
   | refine LeO.ite ?_ ?_
   | refine LeO.bind ?_ (fun _ => ?_)
theorem spec_l3Apply.mono : ∀ a0 a1 k, LeO (spec_l3Apply.f k a0 a1) (spec_l3Apply.f (k + 1) a0 a1) := by
 intro a0 a1 k
 obtain ⟨ih0, ih1⟩ := spec_l3Apply.mono_l k
 unfold spec_l3Apply.f
 repeat' first
   | (with_reducible exact ih0 _ _ _ _ _)
   | (with_reducible exact ih1 _ _ _ _ _ _ _ _ _ _)
   | (with_reducible exact LeO.refl _)
   | (with_reducible exact LeO.none _)
   | (with_reducible refine LeO.ite ?_ ?_)
   | (with_reducible refine LeO.bind ?_ (fun _ => ?_))
   | exact ih0 _ _ _ _ _
   | exact ih1 _ _ _ _ _ _ _ _ _ _
   | exact LeO.none _
   | refine LeO.ite ?_ ?_
   | refine LeO.bind ?_ (fun _ => ?_)
set_option maxHeartbeats 8000000 in
set_option maxRecDepth 100000 in
theorem spec_l3Apply.calls (k : Nat) (A0 : Option Addr) (c0 : Nat) (l0 : List (S74)) (a1 : ByteArray) (r1 : ByteArray) (r2 : Bool) (w : World) (hr0 : Kd.C k74 w A0 l0.length l0) (hc0 : l0.length ≤ c0) (h : spec_l3Apply.f k l0 a1 = some (r1, r2)) :
  Calls Try.prog 67 #[.slice A0 l0.length c0, .string a1] w fun e w' => e = .returned (.tuple #[.string r1, .bool r2]) ∧ Below w.heap.size w w' := by
 have hu74 := Try.underlying74
 have HR0 := Aside0.mk hr0
 have HC0 := Aside0.mk hc0
 clear hr0 hc0
 have HB := Aside0.mk (Below.refl w.heap.size w)
 have H : (spec_l3Apply.l0 k a1 (⟨#[]⟩ : ByteArray) l0 (l0.length : Int) 0) = some (r1, r2) := h
 clear h
 have H' := Aside0.mk H
 clear H
 go_enter Try.func67, Try.ntmps67
 go_wp2
 repeat (go_quiet (fail); try go_wp2)
 go_loopg [1, 6, 12] k (fun kq v1 v6 v12 w' => ∃ (x1_1 : ByteArray) (x6_1 : ByteArray) (x12_1 : Int), v1 = .string x1_1 ∧ v6 = .string x6_1 ∧ v12 = .int .i64 x12_1 ∧ Aside0 (spec_l3Apply.l0 kq x1_1 x6_1 l0 (l0.length : Int) x12_1 = some (r1, r2)) ∧ Aside0 (kq ≤ k) ∧ Aside0 (Below w.heap.size w w'))
 case atStart => exact ⟨(a1), ((⟨#[]⟩ : ByteArray)), (0), z1, z1, z1, H', ⟨Nat.le_refl _⟩, ⟨by repeat (first | (with_reducible first | exact HB.out | apply below_alloc | apply pw_below_drewN | apply below_drew1) | exact HB.out)⟩⟩
 case round =>
  clear H'
  try clear p2
  obtain ⟨x1_1, x6_1, x12_1, rfl, rfl, rfl, HA, HK1, HB⟩ := hrel
  cases gk with
  | zero => exact absurd HA.out (by simp [spec_l3Apply.l0])
  | succ k1 =>
   have H := HA.out
   clear HA
   simp only [spec_l3Apply.l0] at H
   by_cases c3 : x12_1 < (l0.length : Int)
   ·rw [if_pos c3] at H
    have c3b0 : decide (x12_1 < (l0.length : Int)) = true := decide_eq_true c3
    clear c3
    by_cases c4 : 0 ≤ x12_1
    ·rw [if_pos c4] at H
     have c4b0 : decide (0 ≤ x12_1) = true := decide_eq_true c4
     clear c4
     by_cases c5 : x12_1 < (l0.length : Int)
     ·rw [if_pos c5] at H
      have c5b0 : decide (x12_1 < (l0.length : Int)) = true := decide_eq_true c5
      clear c5
      have HC6 := Aside0.mk H
      clear H
      have p360 : 0 ≤ (x12_1 : Int) := of_decide_eq_true z2
      have q360 : x12_1 < (l0.length : Int) := of_decide_eq_true z2
      obtain ⟨ad360, e360, hx360_0, hx360_1, hx360_2⟩ := at_T74 HR0.out x12_1 p360 q360
      cases e360
      replace hx360_0 := (HB.out.cell (World.block_lt_of_cell? w _ hx360_0)).trans hx360_0
      replace hx360_1 := (HB.out.cell (World.block_lt_of_cell? w _ hx360_1)).trans hx360_1
      replace hx360_2 := (HB.out.cell (World.block_lt_of_cell? w _ hx360_2)).trans hx360_2
      replace p360 := eq_true p360
      replace q360 := eq_true q360
      go_upto_region 6 with (first | ((with_reducible refine gate_dst (N := 8) rfl ?_); refine box_event ?hg (N := 8) ?hd (cs := #[.int .i64 0, .string (⟨#[]⟩ : ByteArray), .string (⟨#[]⟩ : ByteArray)]) (t := 74) ?hr ?_; (case hd => rfl); (case hg => rfl); (case hr => first | (go_simp; done) | (go_simp; rfl)); intro gb361 hg w7 hbox hb; have n0_ := Aside0.mk (below_step z6 hb); have n1_ := Aside0.mk (hbox); have n2_ := Aside0.mk ((by rw [hg]; exact (below_size z6) : w.heap.size ≤ gb361)); have n3_ := Aside0.mk ((by rw [hg]; exact (below_size z6) : w.heap.size ≤ gb361)); clear HB; have HB := n0_; have BK361 := n1_; have GW361 := n2_; have GE361 := n3_; clear n0_ n1_ n2_ n3_; clear hb hbox hg; have hcz8_0 : w7.cell? ⟨gb361, 0, none⟩ = some (.int .i64 0) := (blk_cell BK361.out 0).trans rfl; have hcz8_1 : w7.cell? ⟨gb361, 1, none⟩ = some (.string (⟨#[]⟩ : ByteArray)) := (blk_cell BK361.out 1).trans rfl; have hcz8_2 : w7.cell? ⟨gb361, 2, none⟩ = some (.string (⟨#[]⟩ : ByteArray)) := (blk_cell BK361.out 2).trans rfl; have hfz8_0 := blk_frozen BK361.out 0; have hfz8_1 := blk_frozen BK361.out 1; have hfz8_2 := blk_frozen BK361.out 2))
      repeat (go_quiet (first | ((with_reducible refine gate_dst (N := 8) rfl ?_); refine box_event ?hg (N := 8) ?hd (cs := #[.int .i64 0, .string (⟨#[]⟩ : ByteArray), .string (⟨#[]⟩ : ByteArray)]) (t := 74) ?hr ?_; (case hd => rfl); (case hg => rfl); (case hr => first | (go_simp; done) | (go_simp; rfl)); intro gb361 hg w7 hbox hb; have n0_ := Aside0.mk (below_step z6 hb); have n1_ := Aside0.mk (hbox); have n2_ := Aside0.mk ((by rw [hg]; exact (below_size z6) : w.heap.size ≤ gb361)); have n3_ := Aside0.mk ((by rw [hg]; exact (below_size z6) : w.heap.size ≤ gb361)); clear HB; have HB := n0_; have BK361 := n1_; have GW361 := n2_; have GE361 := n3_; clear n0_ n1_ n2_ n3_; clear hb hbox hg; have hcz8_0 : w7.cell? ⟨gb361, 0, none⟩ = some (.int .i64 0) := (blk_cell BK361.out 0).trans rfl; have hcz8_1 : w7.cell? ⟨gb361, 1, none⟩ = some (.string (⟨#[]⟩ : ByteArray)) := (blk_cell BK361.out 1).trans rfl; have hcz8_2 : w7.cell? ⟨gb361, 2, none⟩ = some (.string (⟨#[]⟩ : ByteArray)) := (blk_cell BK361.out 2).trans rfl; have hfz8_0 := blk_frozen BK361.out 0; have hfz8_1 := blk_frozen BK361.out 1; have hfz8_2 := blk_frozen BK361.out 2)); go_upto_region 6 with (first | ((with_reducible refine gate_dst (N := 8) rfl ?_); refine box_event ?hg (N := 8) ?hd (cs := #[.int .i64 0, .string (⟨#[]⟩ : ByteArray), .string (⟨#[]⟩ : ByteArray)]) (t := 74) ?hr ?_; (case hd => rfl); (case hg => rfl); (case hr => first | (go_simp; done) | (go_simp; rfl)); intro gb361 hg w7 hbox hb; have n0_ := Aside0.mk (below_step z6 hb); have n1_ := Aside0.mk (hbox); have n2_ := Aside0.mk ((by rw [hg]; exact (below_size z6) : w.heap.size ≤ gb361)); have n3_ := Aside0.mk ((by rw [hg]; exact (below_size z6) : w.heap.size ≤ gb361)); clear HB; have HB := n0_; have BK361 := n1_; have GW361 := n2_; have GE361 := n3_; clear n0_ n1_ n2_ n3_; clear hb hbox hg; have hcz8_0 : w7.cell? ⟨gb361, 0, none⟩ = some (.int .i64 0) := (blk_cell BK361.out 0).trans rfl; have hcz8_1 : w7.cell? ⟨gb361, 1, none⟩ = some (.string (⟨#[]⟩ : ByteArray)) := (blk_cell BK361.out 1).trans rfl; have hcz8_2 : w7.cell? ⟨gb361, 2, none⟩ = some (.string (⟨#[]⟩ : ByteArray)) := (blk_cell BK361.out 2).trans rfl; have hfz8_0 := blk_frozen BK361.out 0; have hfz8_1 := blk_frozen BK361.out 1; have hfz8_2 := blk_frozen BK361.out 2)))
      (try simp only [Act.put, List.setIfInBounds_toArray, List.set_cons_zero, List.set_cons_succ])
      go_cut [38] (fun v38 wc => ∃ (kq : Nat) (x38_5 : Bool), v38 = .bool x38_5 ∧ Aside0 (spec_l3Apply.j1 kq x1_1 x6_1 (wrap64 (((rd_T74 l0 x12_1).f0) + (((rd_T74 l0 x12_1).f2).size : Int))) l0 (l0.length : Int) x12_1 x38_5 ((rd_T74 l0 x12_1).f0) ((rd_T74 l0 x12_1).f1) ((rd_T74 l0 x12_1).f2) = some (r1, r2)) ∧ Aside0 (kq ≤ k1) ∧ Aside0 (wc.heap[gb361]? = some (.cells #[.int .i64 ((rd_T74 l0 x12_1).f0), .string ((rd_T74 l0 x12_1).f1), .string ((rd_T74 l0 x12_1).f2)] 74 (0, 0))) ∧ Aside0 (Below w.heap.size w wc))
      case first =>
       have H := HC6.out
       clear HC6
       by_cases c9 : (wrap64 (((rd_T74 l0 x12_1).f0) + (((rd_T74 l0 x12_1).f2).size : Int))) > (x1_1.size : Int)
       ·rw [if_pos c9] at H
        have c9b0 : decide ((x1_1.size : Int) < (wrap64 (((rd_T74 l0 x12_1).f0) + (((rd_T74 l0 x12_1).f2).size : Int)))) = true := decide_eq_true c9
        clear c9
        (first | rw [c9b0] | (simp only [i64_w, i32_w]; rw [c9b0]) | skip)
        have H' := Aside0.mk H
        clear H
        go_wp2
        repeat (go_quiet (fail); try go_wp2)
        go_meet
        case rel => exact ⟨_, (true), z1, H', ⟨by have := HK1.out; first | omega | exact Nat.le_refl _⟩, ⟨by (with_reducible repeat (first | refine blk_drewN ?_ _ | refine blk_drew ?_ | refine blk_alloc ?_ _)); refine blk_put (cs := #[.int .i64 ((rd_T74 l0 x12_1).f0), .string ((rd_T74 l0 x12_1).f1), .string (⟨#[]⟩ : ByteArray)]) ?_ 2 _ rfl; (with_reducible repeat (first | refine blk_drewN ?_ _ | refine blk_drew ?_ | refine blk_alloc ?_ _)); refine blk_put (cs := #[.int .i64 ((rd_T74 l0 x12_1).f0), .string (⟨#[]⟩ : ByteArray), .string (⟨#[]⟩ : ByteArray)]) ?_ 1 _ rfl; (with_reducible repeat (first | refine blk_drewN ?_ _ | refine blk_drew ?_ | refine blk_alloc ?_ _)); refine blk_put (cs := #[.int .i64 0, .string (⟨#[]⟩ : ByteArray), .string (⟨#[]⟩ : ByteArray)]) ?_ 0 _ rfl; (with_reducible repeat (first | refine blk_drewN ?_ _ | refine blk_drew ?_ | refine blk_alloc ?_ _)); exact BK361.out⟩, ⟨by repeat (first | (with_reducible first | exact HB.out | apply below_alloc | apply pw_below_drewN | apply below_drew1 | refine below_set ?_ GE361.out) | exact HB.out)⟩⟩
       ·rw [if_neg c9] at H
        have c9b0 : decide ((x1_1.size : Int) < (wrap64 (((rd_T74 l0 x12_1).f0) + (((rd_T74 l0 x12_1).f2).size : Int)))) = false := decide_eq_false c9
        clear c9
        (first | rw [c9b0] | (simp only [i64_w, i32_w]; rw [c9b0]) | skip)
        by_cases c10 : ((rd_T74 l0 x12_1).f2).toList = ([] : List UInt8)
        ·rw [if_pos c10] at H
         have c10b0 : (((rd_T74 l0 x12_1).f2).toList == ([] : List UInt8)) = true := beq_iff_eq.mpr c10
         have c10b1 : (((rd_T74 l0 x12_1).f2).toList != ([] : List UInt8)) = false := bne_eq_false_iff_eq.mpr c10
         clear c10
         have H' := Aside0.mk H
         clear H
         have hcz11_0 : w7.cell? ⟨gb361, 0, none⟩ = some (.int .i64 0) := (blk_cell BK361.out 0).trans rfl
         have hcz11_1 : w7.cell? ⟨gb361, 1, none⟩ = some (.string (⟨#[]⟩ : ByteArray)) := (blk_cell BK361.out 1).trans rfl
         have hcz11_2 : w7.cell? ⟨gb361, 2, none⟩ = some (.string (⟨#[]⟩ : ByteArray)) := (blk_cell BK361.out 2).trans rfl
         have hfz11_0 := blk_frozen BK361.out 0
         have hfz11_1 := blk_frozen BK361.out 1
         have hfz11_2 := blk_frozen BK361.out 2
         go_wp2
         all_goals (try (exfalso; rename_i h_; rw [c10b0] at h_; cases h_; done))
         repeat (go_quiet (fail); try go_wp2)
         all_goals (try (exfalso; rename_i h_; rw [c10b0] at h_; cases h_; done))
         go_meet
         case rel => exact ⟨_, (false), z1, H', ⟨by have := HK1.out; first | omega | exact Nat.le_refl _⟩, ⟨by (with_reducible repeat (first | refine blk_drewN ?_ _ | refine blk_drew ?_ | refine blk_alloc ?_ _)); refine blk_put (cs := #[.int .i64 ((rd_T74 l0 x12_1).f0), .string ((rd_T74 l0 x12_1).f1), .string (⟨#[]⟩ : ByteArray)]) ?_ 2 _ rfl; (with_reducible repeat (first | refine blk_drewN ?_ _ | refine blk_drew ?_ | refine blk_alloc ?_ _)); refine blk_put (cs := #[.int .i64 ((rd_T74 l0 x12_1).f0), .string (⟨#[]⟩ : ByteArray), .string (⟨#[]⟩ : ByteArray)]) ?_ 1 _ rfl; (with_reducible repeat (first | refine blk_drewN ?_ _ | refine blk_drew ?_ | refine blk_alloc ?_ _)); refine blk_put (cs := #[.int .i64 0, .string (⟨#[]⟩ : ByteArray), .string (⟨#[]⟩ : ByteArray)]) ?_ 0 _ rfl; (with_reducible repeat (first | refine blk_drewN ?_ _ | refine blk_drew ?_ | refine blk_alloc ?_ _)); exact BK361.out⟩, ⟨by repeat (first | (with_reducible first | exact HB.out | apply below_alloc | apply pw_below_drewN | apply below_drew1 | refine below_set ?_ GE361.out) | exact HB.out)⟩⟩
        ·rw [if_neg c10] at H
         have c10b0 : (((rd_T74 l0 x12_1).f2).toList == ([] : List UInt8)) = false := beq_eq_false_iff_ne.mpr c10
         have c10b1 : (((rd_T74 l0 x12_1).f2).toList != ([] : List UInt8)) = true := bne_iff_ne.mpr c10
         obtain ⟨ji12, hji12⟩ : ∃ j_ : Int, (wrap64 (((rd_T74 l0 x12_1).f0) + (((rd_T74 l0 x12_1).f2).size : Int))) = j_ := ⟨_, rfl⟩
         replace H : (if 0 ≤ (ji12) then (if (ji12) ≤ (x1_1.size : Int) then (spec_l3Apply.j1 k1 x1_1 x6_1 ji12 l0 (l0.length : Int) x12_1 ((x1_1.extract 0 ((ji12) : Int).toNat).toList != ((rd_T74 l0 x12_1).f2).toList) ((rd_T74 l0 x12_1).f0) ((rd_T74 l0 x12_1).f1) ((rd_T74 l0 x12_1).f2)) else (none)) else (none)) = some (r1, r2) := by first | (rw [hji12] at H; exact H) | (simp only [hji12] at H ⊢; exact H)
         (try rw [hji12] at c9b0)
         have hji12w : (IntKind.i64.wrap (((rd_T74 l0 x12_1).f0) + (((rd_T74 l0 x12_1).f2).size : Int))) = ji12 := (i64_w _).trans hji12
         by_cases c13 : 0 ≤ (ji12)
         ·rw [if_pos c13] at H
          have c13b0 := eq_true c13
          have c13b1 : decide (0 ≤ (ji12)) = true := decide_eq_true c13
          clear c13
          by_cases c14 : (ji12) ≤ (x1_1.size : Int)
          ·rw [if_pos c14] at H
           have c14b0 := eq_true c14
           have c14b1 : decide ((ji12) ≤ (x1_1.size : Int)) = true := decide_eq_true c14
           clear c14
           have H' := Aside0.mk H
           clear H
           have hcz15_0 : w7.cell? ⟨gb361, 0, none⟩ = some (.int .i64 0) := (blk_cell BK361.out 0).trans rfl
           have hcz15_1 : w7.cell? ⟨gb361, 1, none⟩ = some (.string (⟨#[]⟩ : ByteArray)) := (blk_cell BK361.out 1).trans rfl
           have hcz15_2 : w7.cell? ⟨gb361, 2, none⟩ = some (.string (⟨#[]⟩ : ByteArray)) := (blk_cell BK361.out 2).trans rfl
           have hfz15_0 := blk_frozen BK361.out 0
           have hfz15_1 := blk_frozen BK361.out 1
           have hfz15_2 := blk_frozen BK361.out 2
           go_wp2
           all_goals (try (exfalso; rename_i h_; rw [c10b0] at h_; cases h_; done))
           repeat (go_quiet (fail); try go_wp2)
           all_goals (try (exfalso; rename_i h_; rw [c10b0] at h_; cases h_; done))
           go_meet
           case rel => exact ⟨_, (((x1_1.extract 0 ((ji12) : Int).toNat).toList != ((rd_T74 l0 x12_1).f2).toList)), (by first | rfl | (simp; done) | (simp only [← hji12] <;> (first | rfl | (simp; done) | (simp; generalize ByteArray.toList _ = u_; cases u_ <;> (first | rfl | (simp; done))))) | (simp [*]; done)), (by first | exact H' | (simp only [hji12]; exact H') | (simp only [← hji12]; exact H')), ⟨by have := HK1.out; first | omega | exact Nat.le_refl _⟩, ⟨by (with_reducible repeat (first | refine blk_drewN ?_ _ | refine blk_drew ?_ | refine blk_alloc ?_ _)); refine blk_put (cs := #[.int .i64 ((rd_T74 l0 x12_1).f0), .string ((rd_T74 l0 x12_1).f1), .string (⟨#[]⟩ : ByteArray)]) ?_ 2 _ rfl; (with_reducible repeat (first | refine blk_drewN ?_ _ | refine blk_drew ?_ | refine blk_alloc ?_ _)); refine blk_put (cs := #[.int .i64 ((rd_T74 l0 x12_1).f0), .string (⟨#[]⟩ : ByteArray), .string (⟨#[]⟩ : ByteArray)]) ?_ 1 _ rfl; (with_reducible repeat (first | refine blk_drewN ?_ _ | refine blk_drew ?_ | refine blk_alloc ?_ _)); refine blk_put (cs := #[.int .i64 0, .string (⟨#[]⟩ : ByteArray), .string (⟨#[]⟩ : ByteArray)]) ?_ 0 _ rfl; (with_reducible repeat (first | refine blk_drewN ?_ _ | refine blk_drew ?_ | refine blk_alloc ?_ _)); exact BK361.out⟩, ⟨by repeat (first | (with_reducible first | exact HB.out | apply below_alloc | apply pw_below_drewN | apply below_drew1 | refine below_set ?_ GE361.out) | exact HB.out)⟩⟩
          ·rw [if_neg c14] at H
           exact absurd H (by simp)
         ·rw [if_neg c13] at H
          exact absurd H (by simp)
      case rest =>
       clear HC6
       try clear c1
       try clear p2
       try clear c3
       try clear c3b0
       try clear p3
       try clear q3
       try clear hx3
       try clear c4
       try clear c4b0
       try clear c5
       try clear c5b0
       try clear c6
       try clear p6
       try clear c9
       try clear c9b0
       try clear c10
       try clear c10b0
       try clear c10b1
       try clear c13
       try clear c13b0
       try clear c13b1
       try clear c14
       try clear c14b0
       try clear c14b1
       try clear hcz11_0
       try clear hcz11_1
       try clear hcz11_2
       try clear hcz15_0
       try clear hcz15_1
       try clear hcz15_2
       try clear hcz8_0
       try clear hcz8_1
       try clear hcz8_2
       try clear hfz11_0
       try clear hfz11_1
       try clear hfz11_2
       try clear hfz15_0
       try clear hfz15_1
       try clear hfz15_2
       try clear hfz8_0
       try clear hfz8_1
       try clear hfz8_2
       try clear hx360_0
       try clear hx360_1
       try clear hx360_2
       try clear p2
       try clear p360
       try clear q360
       obtain ⟨kq, x38_5, rfl, HA, HJ5, BK361, HB⟩ := hcut
       cases kq with
       | zero => exact absurd HA.out (by simp [spec_l3Apply.j1])
       | succ kj5 =>
        have H := HA.out
        clear HA
        simp only [spec_l3Apply.j1] at H
        by_cases c16 : x38_5 = true
        ·subst c16
         rw [if_pos rfl] at H
         simp only [Option.some.injEq, Prod.mk.injEq] at H
         obtain ⟨rfl, rfl⟩ := H
         go_wp2
         repeat (go_quiet (fail); try go_wp2)
         go_ret2
         exact ⟨by first | rfl | (simp [errW_none, errW_some] <;> rfl) | (simp [*, errW_none, errW_some] <;> rfl), by repeat (first | (with_reducible first | exact HB.out | apply below_alloc | apply pw_below_drewN | apply below_drew1 | refine below_set ?_ GE361.out) | exact HB.out)⟩
        ·replace c16 := Bool.eq_false_iff.mpr c16
         subst c16
         rw [if_neg (show ¬ (false = true) by decide)] at H
         by_cases c17 : ((rd_T74 l0 x12_1).f0) > 0
         ·rw [if_pos c17] at H
          have c17b0 : decide (0 < ((rd_T74 l0 x12_1).f0)) = true := decide_eq_true c17
          clear c17
          obtain ⟨ji18, hji18⟩ : ∃ j_ : Int, (wrap64 (((rd_T74 l0 x12_1).f0) + (((rd_T74 l0 x12_1).f2).size : Int))) = j_ := ⟨_, rfl⟩
          replace H : (if 0 ≤ (ji18) then (if (ji18) ≤ (x1_1.size : Int) then (if x6_1.size + (x1_1.extract 0 ((ji18) : Int).toNat).size ≤ 9223372036854775807 then (if (x6_1 ++ (x1_1.extract 0 ((ji18) : Int).toNat)).size + ((rd_T74 l0 x12_1).f1).size ≤ 9223372036854775807 then (spec_l3Apply.l0 kj5 (x1_1.extract ((ji18) : Int).toNat x1_1.size) ((x6_1 ++ (x1_1.extract 0 ((ji18) : Int).toNat)) ++ ((rd_T74 l0 x12_1).f1)) l0 (l0.length : Int) (wrap64 (x12_1 + 1))) else (none)) else (none)) else (none)) else (none)) = some (r1, r2) := by first | (rw [hji18] at H; exact H) | (simp only [hji18] at H ⊢; exact H)
          have hji18w : (IntKind.i64.wrap (((rd_T74 l0 x12_1).f0) + (((rd_T74 l0 x12_1).f2).size : Int))) = ji18 := (i64_w _).trans hji18
          by_cases c19 : 0 ≤ (ji18)
          ·rw [if_pos c19] at H
           have c19b0 := eq_true c19
           have c19b1 : decide (0 ≤ (ji18)) = true := decide_eq_true c19
           clear c19
           by_cases c20 : (ji18) ≤ (x1_1.size : Int)
           ·rw [if_pos c20] at H
            have c20b0 := eq_true c20
            have c20b1 : decide ((ji18) ≤ (x1_1.size : Int)) = true := decide_eq_true c20
            clear c20
            by_cases c21 : x6_1.size + (x1_1.extract 0 ((ji18) : Int).toNat).size ≤ 9223372036854775807
            ·rw [if_pos c21] at H
             have c21b0 := eq_true c21
             have c21b1 : decide (x6_1.size + (x1_1.extract 0 ((ji18) : Int).toNat).size ≤ 9223372036854775807) = true := decide_eq_true c21
             (try (have c21b1m := c21b1; simp only [ByteArray.size_extract, Nat.sub_zero] at c21b1m))
             (try (have c21b0m := c21b0; simp only [ByteArray.size_extract, Nat.sub_zero] at c21b0m))
             try have c21b2 : (9223372036854775807 < x6_1.size + (x1_1.extract 0 ((ji18) : Int).toNat).size) = False := eq_false (Nat.not_lt.2 c21)
             (try (have c21x : (9223372036854775807 < x6_1.size + (ji18).toNat) = False := eq_false (fun h_ => by have e_ := of_eq_true c21b0; simp only [ByteArray.size_extract, ByteArray.size_append] at e_; have f0_ : (ji18) ≤ (x1_1.size : Int) := (by first | assumption | exact of_eq_true (by assumption) | exact of_decide_eq_true (by assumption)); omega)))
             by_cases c22 : (x6_1 ++ (x1_1.extract 0 ((ji18) : Int).toNat)).size + ((rd_T74 l0 x12_1).f1).size ≤ 9223372036854775807
             ·rw [if_pos c22] at H
              have c22b0 := eq_true c22
              have c22b1 : decide ((x6_1 ++ (x1_1.extract 0 ((ji18) : Int).toNat)).size + ((rd_T74 l0 x12_1).f1).size ≤ 9223372036854775807) = true := decide_eq_true c22
              try have c22b2 : (9223372036854775807 < (x6_1 ++ (x1_1.extract 0 ((ji18) : Int).toNat)).size + ((rd_T74 l0 x12_1).f1).size) = False := eq_false (Nat.not_lt.2 c22)
              (try (have c22x : (9223372036854775807 < (x6_1.size + (ji18).toNat) + ((rd_T74 l0 x12_1).f1).size) = False := eq_false (fun h_ => by have e_ := of_eq_true c22b0; simp only [ByteArray.size_extract, ByteArray.size_append] at e_; have f0_ : (ji18) ≤ (x1_1.size : Int) := (by first | assumption | exact of_eq_true (by assumption) | exact of_decide_eq_true (by assumption)); omega)))
              (try (have c22b2s := c22b2; simp only [ByteArray.size_append] at c22b2s))
              have c23b0 := eq_true (of_decide_eq_true z2 : 0 ≤ (ji18))
              have c24b0 := eq_true (of_decide_eq_true z2 : (ji18) ≤ (x1_1.size : Int))
              have H' := Aside0.mk H
              clear H
              have hcz25_0 : wc.cell? ⟨gb361, 0, none⟩ = some (.int .i64 ((rd_T74 l0 x12_1).f0)) := (blk_cell BK361.out 0).trans rfl
              have hcz25_1 : wc.cell? ⟨gb361, 1, none⟩ = some (.string ((rd_T74 l0 x12_1).f1)) := (blk_cell BK361.out 1).trans rfl
              have hcz25_2 : wc.cell? ⟨gb361, 2, none⟩ = some (.string ((rd_T74 l0 x12_1).f2)) := (blk_cell BK361.out 2).trans rfl
              have hfz25_0 := blk_frozen BK361.out 0
              have hfz25_1 := blk_frozen BK361.out 1
              have hfz25_2 := blk_frozen BK361.out 2
              go_wp2
              repeat (go_quiet (fail); try go_wp2)
              go_roundg kj5
              case measure => have := HK1.out; have := HJ5.out; omega
              case rel => exact ⟨(x1_1.extract ((ji18) : Int).toNat x1_1.size), ((x6_1 ++ (x1_1.extract 0 ((ji18) : Int).toNat)) ++ ((rd_T74 l0 x12_1).f1)), (wrap64 (x12_1 + 1)), (by first | rfl | (simp; done) | (simp only [← hji18] <;> (first | rfl | (simp; done) | (simp; generalize ByteArray.toList _ = u_; cases u_ <;> (first | rfl | (simp; done))))) | (simp [*]; done)), (by first | rfl | (simp; done) | (simp only [← hji18] <;> (first | rfl | (simp; done) | (simp; generalize ByteArray.toList _ = u_; cases u_ <;> (first | rfl | (simp; done))))) | (simp [*]; done)), z1, (by first | exact H' | (simp only [hji18]; exact H') | (simp only [← hji18]; exact H')), ⟨by have := HK1.out; have := HJ5.out; omega⟩, ⟨by repeat (first | (with_reducible first | exact HB.out | apply below_alloc | apply pw_below_drewN | apply below_drew1 | refine below_set ?_ GE361.out) | exact HB.out)⟩⟩
             ·rw [if_neg c22] at H
              exact absurd H (by simp)
            ·rw [if_neg c21] at H
             exact absurd H (by simp)
           ·rw [if_neg c20] at H
            exact absurd H (by simp)
          ·rw [if_neg c19] at H
           exact absurd H (by simp)
         ·rw [if_neg c17] at H
          have c17b0 : decide (0 < ((rd_T74 l0 x12_1).f0)) = false := decide_eq_false c17
          clear c17
          by_cases c26 : x6_1.size + ((rd_T74 l0 x12_1).f1).size ≤ 9223372036854775807
          ·rw [if_pos c26] at H
           have c26b0 := eq_true c26
           have c26b1 : decide (x6_1.size + ((rd_T74 l0 x12_1).f1).size ≤ 9223372036854775807) = true := decide_eq_true c26
           try have c26b2 : (9223372036854775807 < x6_1.size + ((rd_T74 l0 x12_1).f1).size) = False := eq_false (Nat.not_lt.2 c26)
           obtain ⟨ji27, hji27⟩ : ∃ j_ : Int, (wrap64 (((rd_T74 l0 x12_1).f0) + (((rd_T74 l0 x12_1).f2).size : Int))) = j_ := ⟨_, rfl⟩
           replace H : (if 0 ≤ (ji27) then (if (ji27) ≤ (x1_1.size : Int) then (spec_l3Apply.l0 kj5 (x1_1.extract ((ji27) : Int).toNat x1_1.size) (x6_1 ++ ((rd_T74 l0 x12_1).f1)) l0 (l0.length : Int) (wrap64 (x12_1 + 1))) else (none)) else (none)) = some (r1, r2) := by first | (rw [hji27] at H; exact H) | (simp only [hji27] at H ⊢; exact H)
           have hji27w : (IntKind.i64.wrap (((rd_T74 l0 x12_1).f0) + (((rd_T74 l0 x12_1).f2).size : Int))) = ji27 := (i64_w _).trans hji27
           by_cases c28 : 0 ≤ (ji27)
           ·rw [if_pos c28] at H
            have c28b0 := eq_true c28
            have c28b1 : decide (0 ≤ (ji27)) = true := decide_eq_true c28
            clear c28
            by_cases c29 : (ji27) ≤ (x1_1.size : Int)
            ·rw [if_pos c29] at H
             have c29b0 := eq_true c29
             have c29b1 : decide ((ji27) ≤ (x1_1.size : Int)) = true := decide_eq_true c29
             clear c29
             have H' := Aside0.mk H
             clear H
             have hcz30_0 : wc.cell? ⟨gb361, 0, none⟩ = some (.int .i64 ((rd_T74 l0 x12_1).f0)) := (blk_cell BK361.out 0).trans rfl
             have hcz30_1 : wc.cell? ⟨gb361, 1, none⟩ = some (.string ((rd_T74 l0 x12_1).f1)) := (blk_cell BK361.out 1).trans rfl
             have hcz30_2 : wc.cell? ⟨gb361, 2, none⟩ = some (.string ((rd_T74 l0 x12_1).f2)) := (blk_cell BK361.out 2).trans rfl
             have hfz30_0 := blk_frozen BK361.out 0
             have hfz30_1 := blk_frozen BK361.out 1
             have hfz30_2 := blk_frozen BK361.out 2
             go_wp2
             repeat (go_quiet (fail); try go_wp2)
             go_roundg kj5
             case measure => have := HK1.out; have := HJ5.out; omega
             case rel => exact ⟨(x1_1.extract ((ji27) : Int).toNat x1_1.size), (x6_1 ++ ((rd_T74 l0 x12_1).f1)), (wrap64 (x12_1 + 1)), (by first | rfl | (simp; done) | (simp only [← hji27] <;> (first | rfl | (simp; done) | (simp; generalize ByteArray.toList _ = u_; cases u_ <;> (first | rfl | (simp; done))))) | (simp [*]; done)), z1, z1, (by first | exact H' | (simp only [hji27]; exact H') | (simp only [← hji27]; exact H')), ⟨by have := HK1.out; have := HJ5.out; omega⟩, ⟨by repeat (first | (with_reducible first | exact HB.out | apply below_alloc | apply pw_below_drewN | apply below_drew1 | refine below_set ?_ GE361.out) | exact HB.out)⟩⟩
            ·rw [if_neg c29] at H
             exact absurd H (by simp)
           ·rw [if_neg c28] at H
            exact absurd H (by simp)
          ·rw [if_neg c26] at H
           exact absurd H (by simp)
     ·rw [if_neg c5] at H
      exact absurd H (by simp)
    ·rw [if_neg c4] at H
     exact absurd H (by simp)
   ·rw [if_neg c3] at H
    have c3b0 : decide (x12_1 < (l0.length : Int)) = false := decide_eq_false c3
    clear c3
    simp only [Option.some.injEq, Prod.mk.injEq] at H
    obtain ⟨rfl, rfl⟩ := H
    go_wp2
    repeat (go_quiet (fail); try go_wp2)
    go_ret2
    exact ⟨by first | rfl | (simp [errW_none, errW_some] <;> rfl) | (simp [*, errW_none, errW_some] <;> rfl), by repeat (first | (with_reducible first | exact HB.out | apply below_alloc | apply pw_below_drewN | apply below_drew1) | exact HB.out)⟩

/-! ### spec_l1Cur_changed: function 129 -/
def spec_l1Cur_changed.f (k : Nat) (s0_0 : List Int) (s0_1 : Int) (s0_2 : Int) (a1 : ByteArray) : Option (ByteArray × Int × Int) := (spec_l1Cur_opOn.f k s0_0 s0_1 s0_2 a1).bind fun bt362 => ((spec_l3Apply.f k bt362.1 a1).bind fun bt367 => (some (bt367.1, bt362.2.1, bt362.2.2)))
theorem spec_l1Cur_changed.mono : ∀ a0 a1 a2 a3 k, LeO (spec_l1Cur_changed.f k a0 a1 a2 a3) (spec_l1Cur_changed.f (k + 1) a0 a1 a2 a3) := by
 intro a0 a1 a2 a3 k
 unfold spec_l1Cur_changed.f
 repeat' first
   | (with_reducible exact spec_l1Cur_opOn.mono _ _ _ _ _)
   | (with_reducible exact spec_l3Apply.mono _ _ _)
   | (with_reducible exact LeO.refl _)
   | (with_reducible exact LeO.none _)
   | (with_reducible refine LeO.ite ?_ ?_)
   | (with_reducible refine LeO.bind ?_ (fun _ => ?_))
   | exact spec_l1Cur_opOn.mono _ _ _ _ _
   | exact spec_l3Apply.mono _ _ _
   | exact LeO.none _
   | refine LeO.ite ?_ ?_
   | refine LeO.bind ?_ (fun _ => ?_)
set_option maxHeartbeats 8000000 in
set_option maxRecDepth 100000 in
theorem spec_l1Cur_changed.calls (k : Nat) (g : Nat) (s0_0 : List Int) (s0_1 : Int) (s0_2 : Int) (a1 : ByteArray) (r1 : ByteArray) (r2 : Int) (r3 : Int) (w0 w : World) (hI : IsS94 w0 w g s0_0 s0_1 s0_2) (hB : Below w0.heap.size w0 w) (h : spec_l1Cur_changed.f k s0_0 s0_1 s0_2 a1 = some (r1, r2, r3)) :
  Calls Try.prog 129 #[.pointer (some ⟨g, 0, none⟩), .string a1] w fun e w' => e = .returned (.string r1) ∧ IsS94 w0 w' g s0_0 r2 r3 ∧ Below w0.heap.size w0 w' ∧ KeepBut w w' g none := by
 have HI0 := Aside0.mk hI
 have HK := Aside0.mk (KeepBut.refl w g none)
 have HL := Aside0.mk hB.size
 clear hI
 have HW0 := Aside0.mk hB.size
 have HB := Aside0.mk hB
 clear hB
 have H : ((spec_l1Cur_opOn.f k s0_0 s0_1 s0_2 a1).bind fun bt362 => ((spec_l3Apply.f k bt362.1 a1).bind fun bt367 => (some (bt367.1, bt362.2.1, bt362.2.2)))) = some (r1, r2, r3) := h
 clear h
 replace H := Option.bind_eq_some_iff.mp H
 obtain ⟨⟨t362, t365, t366⟩, A30, H⟩ := H
 try dsimp only at H
 have A3 := Aside0.mk A30
 clear A30
 replace H := Option.bind_eq_some_iff.mp H
 obtain ⟨⟨t367, t368⟩, A40, H⟩ := H
 try dsimp only at H
 have A4 := Aside0.mk A40
 clear A40
 simp only [Option.some.injEq, Prod.mk.injEq] at H
 obtain ⟨rfl, rfl, rfl⟩ := H
 go_enter Try.func129, Try.ntmps129
 go_wp2_with (first | ((with_reducible refine gate_callee (f := 63) rfl ?_); refine goesL_ (some 10) rfl rfl Try.func63 z0 rfl #[.pointer (some ⟨g, 0, none⟩), .string a1] rfl z7 ?_; (with_reducible refine (spec_l1Cur_opOn.calls k g s0_0 s0_1 s0_2 a1 t362 t365 t366 w0 _ ?side1 ?side2 A3.out).mono ?_); (case side1 => repeat (first | (with_reducible first | exact HI0.out | apply IsS94.alloc | apply IsS94.drewN | apply IsS94.drew | apply IsS94.set_1 | apply IsS94.set_2) | exact HI0.out)); (case side2 => repeat (first | (with_reducible first | exact HB.out | apply below_alloc | apply pw_below_drewN | apply below_drew1 | refine below_set ?_ (IsS94.ge HI0.out)) | exact HB.out)); rintro e w5 ⟨v363, rfl, ho0, hi, hb, hk⟩; refine ⟨_, rfl, ?_⟩; have n0_ := Aside0.mk (Kd.R_lower ho0 (keep_size (w := w) (g := g) (row := none) z8)); have n1_ := Aside0.mk (KeepBut.trans z8 hk (.inl rfl)); have n2_ := Aside0.mk (hb); have n3_ := Aside0.mk (hi); clear HK; clear HB; clear HI0; have HO364 := n0_; have HK := n1_; have HB := n2_; have HI0 := n3_; clear n0_ n1_ n2_ n3_; (try clear hb); (try clear hb2); (try clear hk); (try clear hi); (try clear ho0); (try clear BK0); obtain ⟨Ao6, co6, eo6⟩ := Kd.R_slice HO364.out; subst eo6) | ((with_reducible refine gate_callee (f := 67) rfl ?_); refine goesL_ (some 12) rfl rfl Try.func67 z0 rfl #[.slice Ao6 t362.length co6, .string a1] rfl z7 ?_; (with_reducible refine (spec_l3Apply.calls k _ _ t362 a1 t367 t368 _ ?side1 ?side2 A4.out).mono ?_); (case side1 => repeat (first | exact (Kd.R_reads' HO364.out).2.2 | (with_reducible refine Kd.C_alloc ?_ _) | (with_reducible refine Kd.C_drewN ?_ _) | (with_reducible refine Kd.C_drew ?_))); (case side2 => exact (Kd.R_reads' HO364.out).2.1); rintro e w7 ⟨rfl, hb⟩; refine ⟨_, rfl, ?_⟩; have n0_ := Aside0.mk (Kd.R_below (by (with_reducible repeat (first | apply Kd.R_alloc | apply Kd.R_drewN | apply Kd.R_drew)); exact HO364.out) hb); have n1_ := Aside0.mk (IsS94.below z10 hb); have n2_ := Aside0.mk (KeepBut.trans z8 (KeepBut.of_below hb g none) (.inl rfl)); have n3_ := Aside0.mk (below_step z9 hb); clear HO364; clear HI0; clear HK; clear HB; have HO364 := n0_; have HI0 := n1_; have HK := n2_; have HB := n3_; clear n0_ n1_ n2_ n3_; (try clear hb); (try clear hb2); (try clear hk); (try clear hi)))
 go_ret
 exact ⟨by first | rfl | (simp [errW_none, errW_some] <;> rfl) | (simp [*, errW_none, errW_some] <;> rfl), by (try simp only [Int.add_zero]); repeat (first | (with_reducible first | exact HI0.out | apply IsS94.alloc | apply IsS94.drewN | apply IsS94.drew | apply IsS94.set_1 | apply IsS94.set_2) | exact HI0.out), by repeat (first | (with_reducible first | exact HB.out | apply below_alloc | apply pw_below_drewN | apply below_drew1 | refine below_set ?_ (IsS94.ge HI0.out)) | exact HB.out), by repeat (first | (with_reducible first | exact HK.out | apply KeepBut.set_ | apply keep_drewN | apply keep_drew | apply keep_alloc) | exact HK.out)⟩

/-! ### spec_l1Cur_twoTexts: function 101 -/
def spec_l1Cur_twoTexts.f (k : Nat) (s0_0 : List Int) (s0_1 : Int) (s0_2 : Int) : Option (ByteArray × ByteArray × Int × Int) := (spec_l1Cur_plainText.f k s0_0 s0_1 s0_2).bind fun bt369 => ((spec_l1Cur_pick.f s0_0 bt369.2.1 bt369.2.2 4).bind fun bt372 => (if bt372.1 = 0 then ((spec_l1Cur_plainText.f k s0_0 bt372.2.1 bt372.2.2).bind fun bt375 => (some (bt369.1, bt375.1, bt375.2.1, bt375.2.2))) else (if bt372.1 = 1 then (some (bt369.1, bt369.1, bt372.2.1, bt372.2.2)) else ((spec_l1Cur_changed.f k s0_0 bt372.2.1 bt372.2.2 bt369.1).bind fun bt378 => (some (bt369.1, bt378.1, bt378.2.1, bt378.2.2))))))
theorem spec_l1Cur_twoTexts.mono : ∀ a0 a1 a2 k, LeO (spec_l1Cur_twoTexts.f k a0 a1 a2) (spec_l1Cur_twoTexts.f (k + 1) a0 a1 a2) := by
 intro a0 a1 a2 k
 unfold spec_l1Cur_twoTexts.f
 repeat' first
   | (with_reducible exact spec_l1Cur_changed.mono _ _ _ _ _)
   | (with_reducible exact spec_l1Cur_plainText.mono _ _ _ _)
   | (with_reducible exact LeO.refl _)
   | (with_reducible exact LeO.none _)
   | (with_reducible refine LeO.ite ?_ ?_)
   | (with_reducible refine LeO.bind ?_ (fun _ => ?_))
   | exact spec_l1Cur_changed.mono _ _ _ _ _
   | exact spec_l1Cur_plainText.mono _ _ _ _
   | exact LeO.none _
   | refine LeO.ite ?_ ?_
   | refine LeO.bind ?_ (fun _ => ?_)
set_option maxHeartbeats 8000000 in
set_option maxRecDepth 100000 in
theorem spec_l1Cur_twoTexts.calls (k : Nat) (g : Nat) (s0_0 : List Int) (s0_1 : Int) (s0_2 : Int) (r1 : ByteArray) (r2 : ByteArray) (r3 : Int) (r4 : Int) (w0 w : World) (hI : IsS94 w0 w g s0_0 s0_1 s0_2) (hB : Below w0.heap.size w0 w) (h : spec_l1Cur_twoTexts.f k s0_0 s0_1 s0_2 = some (r1, r2, r3, r4)) :
  Calls Try.prog 101 #[.pointer (some ⟨g, 0, none⟩)] w fun e w' => e = .returned (.tuple #[.string r1, .string r2]) ∧ IsS94 w0 w' g s0_0 r3 r4 ∧ Below w0.heap.size w0 w' ∧ KeepBut w w' g none := by
 have HI0 := Aside0.mk hI
 have HK := Aside0.mk (KeepBut.refl w g none)
 have HL := Aside0.mk hB.size
 clear hI
 have HW0 := Aside0.mk hB.size
 have HB := Aside0.mk hB
 clear hB
 have H : ((spec_l1Cur_plainText.f k s0_0 s0_1 s0_2).bind fun bt369 => ((spec_l1Cur_pick.f s0_0 bt369.2.1 bt369.2.2 4).bind fun bt372 => (if bt372.1 = 0 then ((spec_l1Cur_plainText.f k s0_0 bt372.2.1 bt372.2.2).bind fun bt375 => (some (bt369.1, bt375.1, bt375.2.1, bt375.2.2))) else (if bt372.1 = 1 then (some (bt369.1, bt369.1, bt372.2.1, bt372.2.2)) else ((spec_l1Cur_changed.f k s0_0 bt372.2.1 bt372.2.2 bt369.1).bind fun bt378 => (some (bt369.1, bt378.1, bt378.2.1, bt378.2.2))))))) = some (r1, r2, r3, r4) := h
 clear h
 replace H := Option.bind_eq_some_iff.mp H
 obtain ⟨⟨t369, t370, t371⟩, A20, H⟩ := H
 try dsimp only at H
 have A2 := Aside0.mk A20
 clear A20
 replace H := Option.bind_eq_some_iff.mp H
 obtain ⟨⟨t372, t373, t374⟩, A30, H⟩ := H
 try dsimp only at H
 have A3 := Aside0.mk A30
 clear A30
 by_cases c4 : t372 = 0
 ·rw [if_pos c4] at H
  have c4b0 : (t372 == 0) = true := beq_iff_eq.mpr c4
  have c4b1 : (t372 != 0) = false := bne_eq_false_iff_eq.mpr c4
  clear c4
  replace H := Option.bind_eq_some_iff.mp H
  obtain ⟨⟨t375, t376, t377⟩, A50, H⟩ := H
  try dsimp only at H
  have A5 := Aside0.mk A50
  clear A50
  simp only [Option.some.injEq, Prod.mk.injEq] at H
  obtain ⟨rfl, rfl, rfl, rfl⟩ := H
  go_enter Try.func101, Try.ntmps101
  go_wp2_with (first | ((with_reducible refine gate_callee (f := 62) rfl ?_); refine goesL_ (some 6) rfl rfl Try.func62 z0 rfl #[.pointer (some ⟨g, 0, none⟩)] rfl z7 ?_; (with_reducible refine (spec_l1Cur_plainText.calls k g s0_0 s0_1 s0_2 t369 t370 t371 w0 _ ?side1 ?side2 A2.out).mono ?_); (case side1 => repeat (first | (with_reducible first | exact HI0.out | apply IsS94.alloc | apply IsS94.drewN | apply IsS94.drew | apply IsS94.set_1 | apply IsS94.set_2) | exact HI0.out)); (case side2 => repeat (first | (with_reducible first | exact HB.out | apply below_alloc | apply pw_below_drewN | apply below_drew1 | refine below_set ?_ (IsS94.ge HI0.out)) | exact HB.out)); rintro e w6 ⟨rfl, hi, hb, hk⟩; refine ⟨_, rfl, ?_⟩; have n0_ := Aside0.mk (KeepBut.trans z8 hk (.inl rfl)); have n1_ := Aside0.mk (hb); have n2_ := Aside0.mk (hi); clear HK; clear HB; clear HI0; have HK := n0_; have HB := n1_; have HI0 := n2_; clear n0_ n1_ n2_; (try clear hb); (try clear hb2); (try clear hk); (try clear hi); (try clear BK0)) | ((with_reducible refine gate_callee (f := 90) rfl ?_); refine goesL_ (some 8) rfl rfl Try.func90 z0 rfl #[.pointer (some ⟨g, 0, none⟩), .int .i64 4] rfl z7 ?_; (with_reducible refine (spec_l1Cur_pick.calls g s0_0 t370 t371 4 t372 t373 t374 w0 _ ?side1 ?side2 A3.out).mono ?_); (case side1 => repeat (first | (with_reducible first | exact HI0.out | apply IsS94.alloc | apply IsS94.drewN | apply IsS94.drew | apply IsS94.set_1 | apply IsS94.set_2) | exact HI0.out)); (case side2 => repeat (first | (with_reducible first | exact HB.out | apply below_alloc | apply pw_below_drewN | apply below_drew1 | refine below_set ?_ (IsS94.ge HI0.out)) | exact HB.out)); rintro e w7 ⟨rfl, hi, hb, hk⟩; refine ⟨_, rfl, ?_⟩; have n0_ := Aside0.mk (KeepBut.trans z8 hk (.inl rfl)); have n1_ := Aside0.mk (hb); have n2_ := Aside0.mk (hi); clear HK; clear HB; clear HI0; have HK := n0_; have HB := n1_; have HI0 := n2_; clear n0_ n1_ n2_; (try clear hb); (try clear hb2); (try clear hk); (try clear hi); (try clear BK0)) | ((with_reducible refine gate_callee (f := 62) rfl ?_); refine goesL_ (some 13) rfl rfl Try.func62 z0 rfl #[.pointer (some ⟨g, 0, none⟩)] rfl z7 ?_; (with_reducible refine (spec_l1Cur_plainText.calls k g s0_0 t373 t374 t375 t376 t377 w0 _ ?side1 ?side2 A5.out).mono ?_); (case side1 => repeat (first | (with_reducible first | exact HI0.out | apply IsS94.alloc | apply IsS94.drewN | apply IsS94.drew | apply IsS94.set_1 | apply IsS94.set_2) | exact HI0.out)); (case side2 => repeat (first | (with_reducible first | exact HB.out | apply below_alloc | apply pw_below_drewN | apply below_drew1 | refine below_set ?_ (IsS94.ge HI0.out)) | exact HB.out)); rintro e w8 ⟨rfl, hi, hb, hk⟩; refine ⟨_, rfl, ?_⟩; have n0_ := Aside0.mk (KeepBut.trans z8 hk (.inl rfl)); have n1_ := Aside0.mk (hb); have n2_ := Aside0.mk (hi); clear HK; clear HB; clear HI0; have HK := n0_; have HB := n1_; have HI0 := n2_; clear n0_ n1_ n2_; (try clear hb); (try clear hb2); (try clear hk); (try clear hi); (try clear BK0)))
  go_ret2
  exact ⟨by first | rfl | (simp [errW_none, errW_some] <;> rfl) | (simp [*, errW_none, errW_some] <;> rfl), by (try simp only [Int.add_zero]); repeat (first | (with_reducible first | exact HI0.out | apply IsS94.alloc | apply IsS94.drewN | apply IsS94.drew | apply IsS94.set_1 | apply IsS94.set_2) | exact HI0.out), by repeat (first | (with_reducible first | exact HB.out | apply below_alloc | apply pw_below_drewN | apply below_drew1 | refine below_set ?_ (IsS94.ge HI0.out)) | exact HB.out), by repeat (first | (with_reducible first | exact HK.out | apply KeepBut.set_ | apply keep_drewN | apply keep_drew | apply keep_alloc) | exact HK.out)⟩
 ·rw [if_neg c4] at H
  have c4b0 : (t372 == 0) = false := beq_eq_false_iff_ne.mpr c4
  have c4b1 : (t372 != 0) = true := bne_iff_ne.mpr c4
  by_cases c9 : t372 = 1
  ·rw [if_pos c9] at H
   have c9b0 : (t372 == 1) = true := beq_iff_eq.mpr c9
   have c9b1 : (t372 != 1) = false := bne_eq_false_iff_eq.mpr c9
   clear c9
   simp only [Option.some.injEq, Prod.mk.injEq] at H
   obtain ⟨rfl, rfl, rfl, rfl⟩ := H
   go_enter Try.func101, Try.ntmps101
   go_wp2_with (first | ((with_reducible refine gate_callee (f := 62) rfl ?_); refine goesL_ (some 6) rfl rfl Try.func62 z0 rfl #[.pointer (some ⟨g, 0, none⟩)] rfl z7 ?_; (with_reducible refine (spec_l1Cur_plainText.calls k g s0_0 s0_1 s0_2 t369 t370 t371 w0 _ ?side1 ?side2 A2.out).mono ?_); (case side1 => repeat (first | (with_reducible first | exact HI0.out | apply IsS94.alloc | apply IsS94.drewN | apply IsS94.drew | apply IsS94.set_1 | apply IsS94.set_2) | exact HI0.out)); (case side2 => repeat (first | (with_reducible first | exact HB.out | apply below_alloc | apply pw_below_drewN | apply below_drew1 | refine below_set ?_ (IsS94.ge HI0.out)) | exact HB.out)); rintro e w10 ⟨rfl, hi, hb, hk⟩; refine ⟨_, rfl, ?_⟩; have n0_ := Aside0.mk (KeepBut.trans z8 hk (.inl rfl)); have n1_ := Aside0.mk (hb); have n2_ := Aside0.mk (hi); clear HK; clear HB; clear HI0; have HK := n0_; have HB := n1_; have HI0 := n2_; clear n0_ n1_ n2_; (try clear hb); (try clear hb2); (try clear hk); (try clear hi); (try clear BK0)) | ((with_reducible refine gate_callee (f := 90) rfl ?_); refine goesL_ (some 8) rfl rfl Try.func90 z0 rfl #[.pointer (some ⟨g, 0, none⟩), .int .i64 4] rfl z7 ?_; (with_reducible refine (spec_l1Cur_pick.calls g s0_0 t370 t371 4 t372 t373 t374 w0 _ ?side1 ?side2 A3.out).mono ?_); (case side1 => repeat (first | (with_reducible first | exact HI0.out | apply IsS94.alloc | apply IsS94.drewN | apply IsS94.drew | apply IsS94.set_1 | apply IsS94.set_2) | exact HI0.out)); (case side2 => repeat (first | (with_reducible first | exact HB.out | apply below_alloc | apply pw_below_drewN | apply below_drew1 | refine below_set ?_ (IsS94.ge HI0.out)) | exact HB.out)); rintro e w11 ⟨rfl, hi, hb, hk⟩; refine ⟨_, rfl, ?_⟩; have n0_ := Aside0.mk (KeepBut.trans z8 hk (.inl rfl)); have n1_ := Aside0.mk (hb); have n2_ := Aside0.mk (hi); clear HK; clear HB; clear HI0; have HK := n0_; have HB := n1_; have HI0 := n2_; clear n0_ n1_ n2_; (try clear hb); (try clear hb2); (try clear hk); (try clear hi); (try clear BK0)))
   go_ret2
   exact ⟨by first | rfl | (simp [errW_none, errW_some] <;> rfl) | (simp [*, errW_none, errW_some] <;> rfl), by (try simp only [Int.add_zero]); repeat (first | (with_reducible first | exact HI0.out | apply IsS94.alloc | apply IsS94.drewN | apply IsS94.drew | apply IsS94.set_1 | apply IsS94.set_2) | exact HI0.out), by repeat (first | (with_reducible first | exact HB.out | apply below_alloc | apply pw_below_drewN | apply below_drew1 | refine below_set ?_ (IsS94.ge HI0.out)) | exact HB.out), by repeat (first | (with_reducible first | exact HK.out | apply KeepBut.set_ | apply keep_drewN | apply keep_drew | apply keep_alloc) | exact HK.out)⟩
  ·rw [if_neg c9] at H
   have c9b0 : (t372 == 1) = false := beq_eq_false_iff_ne.mpr c9
   have c9b1 : (t372 != 1) = true := bne_iff_ne.mpr c9
   replace H := Option.bind_eq_some_iff.mp H
   obtain ⟨⟨t378, t379, t380⟩, A120, H⟩ := H
   try dsimp only at H
   have A12 := Aside0.mk A120
   clear A120
   simp only [Option.some.injEq, Prod.mk.injEq] at H
   obtain ⟨rfl, rfl, rfl, rfl⟩ := H
   go_enter Try.func101, Try.ntmps101
   go_wp2_with (first | ((with_reducible refine gate_callee (f := 62) rfl ?_); refine goesL_ (some 6) rfl rfl Try.func62 z0 rfl #[.pointer (some ⟨g, 0, none⟩)] rfl z7 ?_; (with_reducible refine (spec_l1Cur_plainText.calls k g s0_0 s0_1 s0_2 t369 t370 t371 w0 _ ?side1 ?side2 A2.out).mono ?_); (case side1 => repeat (first | (with_reducible first | exact HI0.out | apply IsS94.alloc | apply IsS94.drewN | apply IsS94.drew | apply IsS94.set_1 | apply IsS94.set_2) | exact HI0.out)); (case side2 => repeat (first | (with_reducible first | exact HB.out | apply below_alloc | apply pw_below_drewN | apply below_drew1 | refine below_set ?_ (IsS94.ge HI0.out)) | exact HB.out)); rintro e w13 ⟨rfl, hi, hb, hk⟩; refine ⟨_, rfl, ?_⟩; have n0_ := Aside0.mk (KeepBut.trans z8 hk (.inl rfl)); have n1_ := Aside0.mk (hb); have n2_ := Aside0.mk (hi); clear HK; clear HB; clear HI0; have HK := n0_; have HB := n1_; have HI0 := n2_; clear n0_ n1_ n2_; (try clear hb); (try clear hb2); (try clear hk); (try clear hi); (try clear BK0)) | ((with_reducible refine gate_callee (f := 90) rfl ?_); refine goesL_ (some 8) rfl rfl Try.func90 z0 rfl #[.pointer (some ⟨g, 0, none⟩), .int .i64 4] rfl z7 ?_; (with_reducible refine (spec_l1Cur_pick.calls g s0_0 t370 t371 4 t372 t373 t374 w0 _ ?side1 ?side2 A3.out).mono ?_); (case side1 => repeat (first | (with_reducible first | exact HI0.out | apply IsS94.alloc | apply IsS94.drewN | apply IsS94.drew | apply IsS94.set_1 | apply IsS94.set_2) | exact HI0.out)); (case side2 => repeat (first | (with_reducible first | exact HB.out | apply below_alloc | apply pw_below_drewN | apply below_drew1 | refine below_set ?_ (IsS94.ge HI0.out)) | exact HB.out)); rintro e w14 ⟨rfl, hi, hb, hk⟩; refine ⟨_, rfl, ?_⟩; have n0_ := Aside0.mk (KeepBut.trans z8 hk (.inl rfl)); have n1_ := Aside0.mk (hb); have n2_ := Aside0.mk (hi); clear HK; clear HB; clear HI0; have HK := n0_; have HB := n1_; have HI0 := n2_; clear n0_ n1_ n2_; (try clear hb); (try clear hb2); (try clear hk); (try clear hi); (try clear BK0)) | ((with_reducible refine gate_callee (f := 129) rfl ?_); refine goesL_ (some 21) rfl rfl Try.func129 z0 rfl #[.pointer (some ⟨g, 0, none⟩), .string t369] rfl z7 ?_; (with_reducible refine (spec_l1Cur_changed.calls k g s0_0 t373 t374 t369 t378 t379 t380 w0 _ ?side1 ?side2 A12.out).mono ?_); (case side1 => repeat (first | (with_reducible first | exact HI0.out | apply IsS94.alloc | apply IsS94.drewN | apply IsS94.drew | apply IsS94.set_1 | apply IsS94.set_2) | exact HI0.out)); (case side2 => repeat (first | (with_reducible first | exact HB.out | apply below_alloc | apply pw_below_drewN | apply below_drew1 | refine below_set ?_ (IsS94.ge HI0.out)) | exact HB.out)); rintro e w15 ⟨rfl, hi, hb, hk⟩; refine ⟨_, rfl, ?_⟩; have n0_ := Aside0.mk (KeepBut.trans z8 hk (.inl rfl)); have n1_ := Aside0.mk (hb); have n2_ := Aside0.mk (hi); clear HK; clear HB; clear HI0; have HK := n0_; have HB := n1_; have HI0 := n2_; clear n0_ n1_ n2_; (try clear hb); (try clear hb2); (try clear hk); (try clear hi); (try clear BK0)))
   go_ret2
   exact ⟨by first | rfl | (simp [errW_none, errW_some] <;> rfl) | (simp [*, errW_none, errW_some] <;> rfl), by (try simp only [Int.add_zero]); repeat (first | (with_reducible first | exact HI0.out | apply IsS94.alloc | apply IsS94.drewN | apply IsS94.drew | apply IsS94.set_1 | apply IsS94.set_2) | exact HI0.out), by repeat (first | (with_reducible first | exact HB.out | apply below_alloc | apply pw_below_drewN | apply below_drew1 | refine below_set ?_ (IsS94.ge HI0.out)) | exact HB.out), by repeat (first | (with_reducible first | exact HK.out | apply KeepBut.set_ | apply keep_drewN | apply keep_drew | apply keep_alloc) | exact HK.out)⟩

/-! ### spec_DrawDistanceOf: function 59 -/
def spec_DrawDistanceOf.f (k : Nat) (l0 : List Int) : Option (ByteArray × ByteArray) := (spec_l1Cur_twoTexts.f k l0 0 0).bind fun bt382 => (some (bt382.1, bt382.2.1))
theorem spec_DrawDistanceOf.mono : ∀ a0 k, LeO (spec_DrawDistanceOf.f k a0) (spec_DrawDistanceOf.f (k + 1) a0) := by
 intro a0 k
 unfold spec_DrawDistanceOf.f
 repeat' first
   | (with_reducible exact spec_l1Cur_twoTexts.mono _ _ _ _)
   | (with_reducible exact LeO.refl _)
   | (with_reducible exact LeO.none _)
   | (with_reducible refine LeO.ite ?_ ?_)
   | (with_reducible refine LeO.bind ?_ (fun _ => ?_))
   | exact spec_l1Cur_twoTexts.mono _ _ _ _
   | exact LeO.none _
   | refine LeO.ite ?_ ?_
   | refine LeO.bind ?_ (fun _ => ?_)
set_option maxHeartbeats 8000000 in
set_option maxRecDepth 100000 in
theorem spec_DrawDistanceOf.calls (k : Nat) (A0 : Option Addr) (c0 : Nat) (l0 : List Int) (r1 : ByteArray) (r2 : ByteArray) (w : World) (hr0 : Kd.C (Kd.int .u8) w A0 l0.length l0) (hc0 : l0.length ≤ c0) (h : spec_DrawDistanceOf.f k l0 = some (r1, r2)) :
  Calls Try.prog 59 #[.slice A0 l0.length c0] w fun e w' => e = .returned (.tuple #[.string r1, .string r2]) ∧ Below w.heap.size w w' := by
 have hu94 := Try.underlying94
 have HR0 := Aside0.mk hr0
 have HC0 := Aside0.mk hc0
 clear hr0 hc0
 have HB := Aside0.mk (Below.refl w.heap.size w)
 have H : ((spec_l1Cur_twoTexts.f k l0 0 0).bind fun bt382 => (some (bt382.1, bt382.2.1))) = some (r1, r2) := h
 clear h
 replace H := Option.bind_eq_some_iff.mp H
 obtain ⟨⟨t382, t383, t384, t385⟩, A20, H⟩ := H
 try dsimp only at H
 have A2 := Aside0.mk A20
 clear A20
 simp only [Option.some.injEq, Prod.mk.injEq] at H
 obtain ⟨rfl, rfl⟩ := H
 go_enter Try.func59, Try.ntmps59
 go_wp2_with (first | ((with_reducible refine gate_dst (N := 7) rfl ?_); refine box_event ?hg (N := 7) ?hd (cs := #[.slice A0 l0.length c0, .int .i64 0, .int .u64 0]) (t := 94) ?hr ?_; (case hd => rfl); (case hg => rfl); (case hr => first | (go_simp; done) | (go_simp; rfl)); intro gb381 hg w3 hbox hb; have n0_ := Aside0.mk (below_step z6 hb); have n1_ := Aside0.mk (hbox); have n2_ := Aside0.mk ((by rw [hg]; exact (below_size z6) : w.heap.size ≤ gb381)); have n3_ := Aside0.mk ((by rw [hg]; exact (below_size z6) : w.heap.size ≤ gb381)); clear HB; have HB := n0_; have BK381 := n1_; have GW381 := n2_; have GE381 := n3_; clear n0_ n1_ n2_ n3_; clear hb hbox hg) | ((with_reducible refine gate_callee (f := 101) rfl ?_); refine goesL_ (some 9) rfl rfl Try.func101 z0 rfl #[.pointer (some ⟨gb381, 0, none⟩)] rfl z7 ?_; (with_reducible refine (spec_l1Cur_twoTexts.calls k gb381 l0 0 0 t382 t383 t384 t385 w _ ?side1 ?side2 A2.out).mono ?_); (case side1 => exact ⟨_, _, by (with_reducible repeat (first | refine blk_drewN ?_ _ | refine blk_drew ?_ | refine blk_alloc ?_ _)); exact BK381.out, GE381.out, HR0.out⟩); (case side2 => repeat (first | (with_reducible first | exact HB.out | apply below_alloc | apply pw_below_drewN | apply below_drew1 | refine below_set ?_ (IsS94.ge HI381.out)) | exact HB.out)); rintro e w4 ⟨rfl, hi, hb, hk⟩; refine ⟨_, rfl, ?_⟩; have n0_ := Aside0.mk (hb); have n1_ := Aside0.mk (hi); clear HB; have HB := n0_; have HI381 := n1_; clear n0_ n1_; (try clear hb); (try clear hb2); (try clear hk); (try clear hi); (try clear BK381)))
 go_ret2
 exact ⟨by first | rfl | (simp [errW_none, errW_some] <;> rfl) | (simp [*, errW_none, errW_some] <;> rfl), by repeat (first | (with_reducible first | exact HB.out | apply below_alloc | apply pw_below_drewN | apply below_drew1 | refine below_set ?_ (IsS94.ge HI381.out)) | exact HB.out)⟩

/-! ### spec_DrawDiffOps: function 19 -/
def spec_DrawDiffOps.f (k : Nat) (l0 : List Int) : Option (ByteArray × ByteArray) := (spec_DrawDistanceOf.f k l0).bind fun bt386 => (some (bt386.1, bt386.2))
theorem spec_DrawDiffOps.mono : ∀ a0 k, LeO (spec_DrawDiffOps.f k a0) (spec_DrawDiffOps.f (k + 1) a0) := by
 intro a0 k
 unfold spec_DrawDiffOps.f
 repeat' first
   | (with_reducible exact spec_DrawDistanceOf.mono _ _)
   | (with_reducible exact LeO.refl _)
   | (with_reducible exact LeO.none _)
   | (with_reducible refine LeO.ite ?_ ?_)
   | (with_reducible refine LeO.bind ?_ (fun _ => ?_))
   | exact spec_DrawDistanceOf.mono _ _
   | exact LeO.none _
   | refine LeO.ite ?_ ?_
   | refine LeO.bind ?_ (fun _ => ?_)
set_option maxHeartbeats 8000000 in
set_option maxRecDepth 100000 in
theorem spec_DrawDiffOps.calls (k : Nat) (A0 : Option Addr) (c0 : Nat) (l0 : List Int) (r1 : ByteArray) (r2 : ByteArray) (w : World) (hr0 : Kd.C (Kd.int .u8) w A0 l0.length l0) (hc0 : l0.length ≤ c0) (h : spec_DrawDiffOps.f k l0 = some (r1, r2)) :
  Calls Try.prog 19 #[.slice A0 l0.length c0] w fun e w' => e = .returned (.tuple #[.string r1, .string r2]) ∧ Below w.heap.size w w' := by
 have HR0 := Aside0.mk hr0
 have HC0 := Aside0.mk hc0
 clear hr0 hc0
 have HB := Aside0.mk (Below.refl w.heap.size w)
 have H : ((spec_DrawDistanceOf.f k l0).bind fun bt386 => (some (bt386.1, bt386.2))) = some (r1, r2) := h
 clear h
 replace H := Option.bind_eq_some_iff.mp H
 obtain ⟨⟨t386, t387⟩, A20, H⟩ := H
 try dsimp only at H
 have A2 := Aside0.mk A20
 clear A20
 simp only [Option.some.injEq, Prod.mk.injEq] at H
 obtain ⟨rfl, rfl⟩ := H
 go_enter Try.func19, Try.ntmps19
 go_wp2_with (first | ((with_reducible refine gate_callee (f := 59) rfl ?_); refine goesL_ (some 5) rfl rfl Try.func59 z0 rfl #[.slice A0 l0.length c0] rfl z7 ?_; (with_reducible refine (spec_DrawDistanceOf.calls k _ _ l0 t386 t387 _ ?side1 ?side2 A2.out).mono ?_); (case side1 => repeat (first | exact HR0.out | (with_reducible refine Kd.C_alloc ?_ _) | (with_reducible refine Kd.C_drewN ?_ _) | (with_reducible refine Kd.C_drew ?_))); (case side2 => exact HC0.out); rintro e w3 ⟨rfl, hb⟩; refine ⟨_, rfl, ?_⟩; have n0_ := Aside0.mk (below_step z6 hb); clear HB; have HB := n0_; clear n0_; (try clear hb); (try clear hb2); (try clear hk); (try clear hi)))
 go_ret2
 exact ⟨by first | rfl | (simp [errW_none, errW_some] <;> rfl) | (simp [*, errW_none, errW_some] <;> rfl), by repeat (first | (with_reducible first | exact HB.out | apply below_alloc | apply pw_below_drewN | apply below_drew1) | exact HB.out)⟩

/-! ### laws_sameOps: function 20 -/
def laws_sameOps.l0 : Nat → List (S74) → List (S74) → Int → Int → Option (Bool)
 | 0, _, _, _, _ => none
 | k + 1, x0, x1, x12, x13 => if x13 < x12 then (if 0 ≤ x13 then (if x13 < (x0.length : Int) then (if x13 < (x1.length : Int) then (if (!(((rd_T74 x0 x13).f0) == ((rd_T74 x1 x13).f0)) || (!((((rd_T74 x0 x13).f1).toList) == (((rd_T74 x1 x13).f1).toList)) || (!((((rd_T74 x0 x13).f2).toList) == (((rd_T74 x1 x13).f2).toList))))) = true then (some false) else (laws_sameOps.l0 k x0 x1 x12 (wrap64 (x13 + 1)))) else (none)) else (none)) else (none)) else (some true)
def laws_sameOps.f (k : Nat) (l0 : List (S74)) (l1 : List (S74)) : Option (Bool) := if (l0.length : Int) = (l1.length : Int) then (laws_sameOps.l0 k l0 l1 (l0.length : Int) 0) else (some false)
theorem laws_sameOps.mono_l : ∀ k, (∀ y0 y1 y2 y3, LeO (laws_sameOps.l0 k y0 y1 y2 y3) (laws_sameOps.l0 (k + 1) y0 y1 y2 y3))
 | 0 => fun _ _ _ _ r h => by simp [laws_sameOps.l0] at h
 | k + 1 => by
  have ih0 := laws_sameOps.mono_l k
  ·intro y0 y1 y2 y3
   unfold laws_sameOps.l0
   repeat' first
   | (with_reducible exact ih0 _ _ _ _)
   | (with_reducible exact LeO.refl _)
   | (with_reducible exact LeO.none _)
   | (with_reducible refine LeO.ite ?_ ?_)
   | (with_reducible refine LeO.bind ?_ (fun _ => ?_))
   | exact ih0 _ _ _ _
   | exact LeO.none _
   | refine LeO.ite ?_ ?_
   | refine LeO.bind ?_ (fun _ => ?_)
theorem laws_sameOps.mono : ∀ a0 a1 k, LeO (laws_sameOps.f k a0 a1) (laws_sameOps.f (k + 1) a0 a1) := by
 intro a0 a1 k
 have ih0 := laws_sameOps.mono_l k
 unfold laws_sameOps.f
 repeat' first
   | (with_reducible exact ih0 _ _ _ _)
   | (with_reducible exact LeO.refl _)
   | (with_reducible exact LeO.none _)
   | (with_reducible refine LeO.ite ?_ ?_)
   | (with_reducible refine LeO.bind ?_ (fun _ => ?_))
   | exact ih0 _ _ _ _
   | exact LeO.none _
   | refine LeO.ite ?_ ?_
   | refine LeO.bind ?_ (fun _ => ?_)
set_option maxHeartbeats 8000000 in
set_option maxRecDepth 100000 in
theorem laws_sameOps.calls (k : Nat) (A0 : Option Addr) (c0 : Nat) (l0 : List (S74)) (A1 : Option Addr) (c1 : Nat) (l1 : List (S74)) (r : Bool) (w : World) (hr0 : Kd.C k74 w A0 l0.length l0) (hc0 : l0.length ≤ c0) (hr1 : Kd.C k74 w A1 l1.length l1) (hc1 : l1.length ≤ c1) (h : laws_sameOps.f k l0 l1 = some r) :
  Calls Try.prog 20 #[.slice A0 l0.length c0, .slice A1 l1.length c1] w fun e w' => e = .returned (.bool r) ∧ Drawn0 w w' := by
 have hu74 := Try.underlying74
 have HR0 := Aside0.mk hr0
 have HC0 := Aside0.mk hc0
 clear hr0 hc0
 have HR1 := Aside0.mk hr1
 have HC1 := Aside0.mk hc1
 clear hr1 hc1
 have H : (if (l0.length : Int) = (l1.length : Int) then (laws_sameOps.l0 k l0 l1 (l0.length : Int) 0) else (some false)) = some r := h
 clear h
 by_cases c3 : (l0.length : Int) = (l1.length : Int)
 ·rw [if_pos c3] at H
  have c3b0 : ((l0.length : Int) == (l1.length : Int)) = true := beq_iff_eq.mpr c3
  have c3b1 : ((l0.length : Int) != (l1.length : Int)) = false := bne_eq_false_iff_eq.mpr c3
  have c3b2 : (l0.length == l1.length) = true := by first | simpa using c3 | (simp at c3 ⊢; omega)
  clear c3
  have H' := Aside0.mk H
  clear H
  go_enter Try.func20, Try.ntmps20
  go_wp2
  repeat (go_quiet (fail); try go_wp2)
  go_loopg [13] k (fun kq v13 w' => ∃ (x13_1 : Int), v13 = .int .i64 x13_1 ∧ Aside0 (laws_sameOps.l0 kq l0 l1 (l0.length : Int) x13_1 = some r) ∧ Aside0 (kq ≤ k) ∧ Drawn0 w w')
  case atStart => exact ⟨(0), z1, H', ⟨Nat.le_refl _⟩, by repeat (first | exact Drawn0.refl _ | apply Drawn0.step)⟩
  case round =>
   clear H'
   try clear c1
   try clear c2
   try clear p2
   try clear c3
   try clear c3b0
   try clear c3b1
   try clear c3b2
   obtain ⟨x13_1, rfl, HA, HK1, ⟨m1, rfl⟩⟩ := hrel
   cases gk with
   | zero => exact absurd HA.out (by simp [laws_sameOps.l0])
   | succ k1 =>
    have H := HA.out
    clear HA
    simp only [laws_sameOps.l0] at H
    by_cases c4 : x13_1 < (l0.length : Int)
    ·rw [if_pos c4] at H
     have c4b0 : decide (x13_1 < (l0.length : Int)) = true := decide_eq_true c4
     clear c4
     by_cases c5 : 0 ≤ x13_1
     ·rw [if_pos c5] at H
      have c5b0 : decide (0 ≤ x13_1) = true := decide_eq_true c5
      clear c5
      by_cases c6 : x13_1 < (l0.length : Int)
      ·rw [if_pos c6] at H
       have c6b0 : decide (x13_1 < (l0.length : Int)) = true := decide_eq_true c6
       clear c6
       by_cases c7 : x13_1 < (l1.length : Int)
       ·rw [if_pos c7] at H
        have c7b0 : decide (x13_1 < (l1.length : Int)) = true := decide_eq_true c7
        clear c7
        by_cases c8 : (!(((rd_T74 l0 x13_1).f0) == ((rd_T74 l1 x13_1).f0)) || (!((((rd_T74 l0 x13_1).f1).toList) == (((rd_T74 l1 x13_1).f1).toList)) || (!((((rd_T74 l0 x13_1).f2).toList) == (((rd_T74 l1 x13_1).f2).toList))))) = true
        ·rw [if_pos c8] at H
         have c8b0 : (!(((rd_T74 l0 x13_1).f0) == ((rd_T74 l1 x13_1).f0)) || (!((((rd_T74 l0 x13_1).f1).toList) == (((rd_T74 l1 x13_1).f1).toList)) || (!((((rd_T74 l0 x13_1).f2).toList) == (((rd_T74 l1 x13_1).f2).toList))))) = true := c8
         clear c8
         obtain rfl := Option.some.inj H
         have p388 : 0 ≤ (x13_1 : Int) := of_decide_eq_true z2
         have q388 : x13_1 < (l0.length : Int) := of_decide_eq_true z2
         obtain ⟨ad388, e388, hx388_0, hx388_1, hx388_2⟩ := at_T74 HR0.out x13_1 p388 q388
         cases e388
         replace p388 := eq_true p388
         replace q388 := eq_true q388
         have p389 : 0 ≤ (x13_1 : Int) := of_decide_eq_true z2
         have q389 : x13_1 < (l1.length : Int) := of_decide_eq_true z2
         obtain ⟨ad389, e389, hx389_0, hx389_1, hx389_2⟩ := at_T74 HR1.out x13_1 p389 q389
         cases e389
         replace p389 := eq_true p389
         replace q389 := eq_true q389
         go_wp2
         all_goals (try (exfalso; rename_i h_; rw [c8b0] at h_; cases h_; done))
         repeat (go_quiet (fail); try go_wp2)
         all_goals (try (exfalso; rename_i h_; rw [c8b0] at h_; cases h_; done))
         go_ret
         exact ⟨by first | rfl | (simp; done) | (simp [*]; done), by repeat (first | exact Drawn0.refl _ | apply Drawn0.step)⟩
        ·rw [if_neg c8] at H
         have c8b0 : (!(((rd_T74 l0 x13_1).f0) == ((rd_T74 l1 x13_1).f0)) || (!((((rd_T74 l0 x13_1).f1).toList) == (((rd_T74 l1 x13_1).f1).toList)) || (!((((rd_T74 l0 x13_1).f2).toList) == (((rd_T74 l1 x13_1).f2).toList))))) = false := by simpa using c8
         clear c8
         have H' := Aside0.mk H
         clear H
         have p388 : 0 ≤ (x13_1 : Int) := of_decide_eq_true z2
         have q388 : x13_1 < (l0.length : Int) := of_decide_eq_true z2
         obtain ⟨ad388, e388, hx388_0, hx388_1, hx388_2⟩ := at_T74 HR0.out x13_1 p388 q388
         cases e388
         replace p388 := eq_true p388
         replace q388 := eq_true q388
         have p389 : 0 ≤ (x13_1 : Int) := of_decide_eq_true z2
         have q389 : x13_1 < (l1.length : Int) := of_decide_eq_true z2
         obtain ⟨ad389, e389, hx389_0, hx389_1, hx389_2⟩ := at_T74 HR1.out x13_1 p389 q389
         cases e389
         replace p389 := eq_true p389
         replace q389 := eq_true q389
         go_wp2
         all_goals (try (exfalso; rename_i h_; rw [c8b0] at h_; cases h_; done))
         repeat (go_quiet (fail); try go_wp2)
         all_goals (try (exfalso; rename_i h_; rw [c8b0] at h_; cases h_; done))
         go_roundg k1
         case measure => have := HK1.out; omega
         case rel => exact ⟨(wrap64 (x13_1 + 1)), z1, H', ⟨by have := HK1.out; omega⟩, by repeat (first | exact Drawn0.refl _ | apply Drawn0.step)⟩
       ·rw [if_neg c7] at H
        exact absurd H (by simp)
      ·rw [if_neg c6] at H
       exact absurd H (by simp)
     ·rw [if_neg c5] at H
      exact absurd H (by simp)
    ·rw [if_neg c4] at H
     have c4b0 : decide (x13_1 < (l0.length : Int)) = false := decide_eq_false c4
     clear c4
     obtain rfl := Option.some.inj H
     go_wp2
     repeat (go_quiet (fail); try go_wp2)
     go_ret
     exact ⟨by first | rfl | (simp; done) | (simp [*]; done), by repeat (first | exact Drawn0.refl _ | apply Drawn0.step)⟩
 ·rw [if_neg c3] at H
  have c3b0 : ((l0.length : Int) == (l1.length : Int)) = false := beq_eq_false_iff_ne.mpr c3
  have c3b1 : ((l0.length : Int) != (l1.length : Int)) = true := bne_iff_ne.mpr c3
  have c3b2 : (l0.length == l1.length) = false := by first | simpa using c3 | (simp at c3 ⊢; omega)
  obtain rfl := Option.some.inj H
  go_enter Try.func20, Try.ntmps20
  go_wp2
  repeat (go_quiet (fail); try go_wp2)
  go_ret
  exact ⟨by first | rfl | (simp; done) | (simp [*]; done), by repeat (first | exact Drawn0.refl _ | apply Drawn0.step)⟩

end Go.Proofs.Ytpbelbckinpinaa.AFnDiff
