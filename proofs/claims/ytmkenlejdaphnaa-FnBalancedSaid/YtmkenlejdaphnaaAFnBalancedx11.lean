-- this session's own text: written by wip/tools/ownprint.py over the kit's print
import Derived.Test.YtmkenlejdaphnaaAFnBalancedx0
import Derived.Test.YtmkenlejdaphnaaAFnBalancedx10
namespace Go.Proofs.Ytmkenlejdaphnaa.AFnBalanced
open Go.RowKit Go.Proofs.YtmkenlejdaphnaaW.PrintWords Go.Proofs.YtmkenlejdaphnaaW.PrintLast Go.Proofs.YtmkenlejdaphnaaW.PrintMore
attribute [local go_sem] max2_int min2_int max_two min_two max_three min_three max_four min_four   -- for this text's walks alone
set_option linter.unusedVariables false
set_option linter.unusedSimpArgs false

/-! ### spec_l3Sizes: function 99 -/
def spec_l3Sizes.l0 : Nat → Int → Int → List (S120) → Int → Int → Option (Int × Int)
 | 0, _, _, _, _, _ => none
 | k + 1, x4, x5, x8, x9, x10 => if x10 < x9 then (if 0 ≤ x10 then (if x10 < (x8.length : Int) then (spec_l3Sizes.l0 k (wrap64 (x4 + (wrap64 (((rd_T120 x8 x10).f0) + (((rd_T120 x8 x10).f2).size : Int))))) (wrap64 (x5 + (wrap64 (((rd_T120 x8 x10).f0) + (((rd_T120 x8 x10).f1).size : Int))))) x8 x9 (wrap64 (x10 + 1))) else (none)) else (none)) else (some (x4, x5))
def spec_l3Sizes.f (k : Nat) (l0 : List (S120)) : Option (Int × Int) := spec_l3Sizes.l0 k 0 0 l0 (l0.length : Int) 0
theorem spec_l3Sizes.mono_l : ∀ k, (∀ y0 y1 y2 y3 y4, LeO (spec_l3Sizes.l0 k y0 y1 y2 y3 y4) (spec_l3Sizes.l0 (k + 1) y0 y1 y2 y3 y4))
 | 0 => fun _ _ _ _ _ r h => by simp [spec_l3Sizes.l0] at h
 | k + 1 => by
  have ih0 := spec_l3Sizes.mono_l k
  ·intro y0 y1 y2 y3 y4
   unfold spec_l3Sizes.l0
   repeat' first
   | (with_reducible exact ih0 _ _ _ _ _)
   | (with_reducible exact LeO.refl _)
   | (with_reducible exact LeO.none _)
   | (with_reducible refine LeO.ite ?_ ?_)
   | (with_reducible refine LeO.bind ?_ (fun _ => ?_))
theorem spec_l3Sizes.mono : ∀ a0 k, LeO (spec_l3Sizes.f k a0) (spec_l3Sizes.f (k + 1) a0) := by
 intro a0 k
 have ih0 := spec_l3Sizes.mono_l k
 unfold spec_l3Sizes.f
 repeat' first
   | (with_reducible exact ih0 _ _ _ _ _)
   | (with_reducible exact LeO.refl _)
   | (with_reducible exact LeO.none _)
   | (with_reducible refine LeO.ite ?_ ?_)
   | (with_reducible refine LeO.bind ?_ (fun _ => ?_))
set_option maxHeartbeats 8000000 in
set_option maxRecDepth 100000 in
theorem spec_l3Sizes.calls (k : Nat) (A0 : Option Addr) (c0 : Nat) (l0 : List (S120)) (r1 : Int) (r2 : Int) (w : World) (hr0 : Kd.C k120 w A0 l0.length l0) (hc0 : l0.length ≤ c0) (h : spec_l3Sizes.f k l0 = some (r1, r2)) :
  Calls Try.prog 99 #[.slice A0 l0.length c0] w fun e w' => e = .returned (.tuple #[.int .i64 r1, .int .i64 r2]) ∧ Below w.heap.size w w' := by
 have hu120 := Try.underlying120
 have cN := aM hr0
 have dy := aM hc0
 clear hr0 hc0
 have HB := aM (Below.refl w.heap.size w)
 have H : (spec_l3Sizes.l0 k 0 0 l0 (l0.length : Int) 0) = some (r1, r2) := h
 clear h
 have H' := aM H
 clear H
 go_enter Try.func99, Try.ntmps99
 go_wp2
 go_loopg [4, 5, 10] k (fun kq v4 v5 v10 w' => ∃ (x4_1 : Int) (x5_1 : Int) (x10_1 : Int), v4 = .int .i64 x4_1 ∧ v5 = .int .i64 x5_1 ∧ v10 = .int .i64 x10_1 ∧ Aside0 (spec_l3Sizes.l0 kq x4_1 x5_1 l0 (l0.length : Int) x10_1 = some (r1, r2)) ∧ Aside0 (kq ≤ k) ∧ Aside0 (Below w.heap.size w w'))
 case atStart => exact ⟨(0), (0), (0), z1, z1, z1, H', ⟨Nat.le_refl _⟩, ⟨y5⟩⟩
 case round =>
  clear H'
  obtain ⟨x4_1, x5_1, x10_1, rfl, rfl, rfl, HA, HK1, HB⟩ := hrel
  cases gk with
  | zero => exact absurd HA.out (by simp [spec_l3Sizes.l0])
  | succ k1 =>
   have H := HA.out
   clear HA
   simp only [spec_l3Sizes.l0] at H
   by_cases c2 : x10_1 < (l0.length : Int)
   ·rw [if_pos c2] at H
    have c2b0 : decide (x10_1 < (l0.length : Int)) = true := dT c2
    clear c2
    by_cases c3 : 0 ≤ x10_1
    ·rw [if_pos c3] at H
     have c3b0 : decide (0 ≤ x10_1) = true := dT c3
     clear c3
     by_cases c4 : x10_1 < (l0.length : Int)
     ·rw [if_pos c4] at H
      have c4b0 : decide (x10_1 < (l0.length : Int)) = true := dT c4
      clear c4
      have H' := aM H
      clear H
      have p257 : 0 ≤ (x10_1 : Int) := oD z2
      have q257 : x10_1 < (l0.length : Int) := oD z2
      obtain ⟨ad257, e257, hx257_0, hx257_1, hx257_2⟩ := at_T120 cN.out x10_1 p257 q257
      cases e257
      replace hx257_0 := (HB.out.cell (World.block_lt_of_cell? w _ hx257_0)).trans hx257_0
      replace hx257_1 := (HB.out.cell (World.block_lt_of_cell? w _ hx257_1)).trans hx257_1
      replace hx257_2 := (HB.out.cell (World.block_lt_of_cell? w _ hx257_2)).trans hx257_2
      replace p257 := eq_true p257
      replace q257 := eq_true q257
      go_wp2_with (first | ((with_reducible refine aK (N := 7) rfl ?_); refine aN ?hg (N := 7) ?hd (cs := #[.int .i64 0, .string ⟨#[]⟩, .string ⟨#[]⟩]) (t := 120) ?hr ?_; (case hd => rfl); (case hg => rfl); (case hr => first | (go_simp; done) | (go_simp; rfl)); intro jz hg w5 hbox hb; have iL := aM (hbox); have GW258 := aM ((by rw [hg]; exact (aA z16) : w.heap.size ≤ jz)); have GE258 := aM ((by rw [hg]; exact (aA z16) : w.heap.size ≤ jz)); replace HB := aM (az z16 hb); clear hb hbox hg; obtain ⟨j5, mt, ms, mr, mq, mo⟩ := cc3 iL.out))
      go_roundg k1
      case measure => have := HK1.out; omega
      case rel => exact ⟨(wrap64 (x4_1 + (wrap64 (((rd_T120 l0 x10_1).f0) + (((rd_T120 l0 x10_1).f2).size : Int))))), (wrap64 (x5_1 + (wrap64 (((rd_T120 l0 x10_1).f0) + (((rd_T120 l0 x10_1).f1).size : Int))))), (wrap64 (x10_1 + 1)), z1, z1, z1, H', ⟨y0⟩, ⟨by repeat (first | (with_reducible first | exact HB.out | apply bA | apply pD | apply bD | refine ay ?_ GE258.out) | exact HB.out)⟩⟩
     ·rw [if_neg c4] at H
      exact absurd H (by simp)
    ·rw [if_neg c3] at H
     exact absurd H (by simp)
   ·rw [if_neg c2] at H
    have c2b0 : decide (x10_1 < (l0.length : Int)) = false := dF c2
    clear c2
    simp only [Option.some.injEq, Prod.mk.injEq] at H
    obtain ⟨rfl, rfl⟩ := H
    go_wp2
    go_ret2
    exact ⟨y4, y5⟩

/-! ### spec_GoodOp: function 96 -/
def spec_GoodOp.l0 : Nat → List (S120) → List (S120) → Int → Int → Option (Bool)
 | 0, _, _, _, _ => none
 | k + 1, x0, x10, x11, x12 => if x12 < x11 then (if 0 ≤ x12 then (if x12 < (x10.length : Int) then ((spec_l3Part.f k ((rd_T120 x10 x12).f0) ((rd_T120 x10 x12).f1) ((rd_T120 x10 x12).f2)).bind fun oK => (if oK = true then (spec_GoodOp.l0 k x0 x10 x11 (wrap64 (x12 + 1))) else (some false))) else (none)) else (none)) else ((spec_l3Sizes.f k x0).bind fun nQ => (if nQ.1 ≤ 300 then (some (decide (nQ.2 ≤ 300))) else (some false)))
def spec_GoodOp.f (k : Nat) (l0 : List (S120)) : Option (Bool) := if (l0.length : Int) > 60 then (some false) else (spec_GoodOp.l0 k l0 l0 (l0.length : Int) 0)
theorem spec_GoodOp.mono_l : ∀ k, (∀ y0 y1 y2 y3, LeO (spec_GoodOp.l0 k y0 y1 y2 y3) (spec_GoodOp.l0 (k + 1) y0 y1 y2 y3))
 | 0 => fun _ _ _ _ r h => by simp [spec_GoodOp.l0] at h
 | k + 1 => by
  have ih0 := spec_GoodOp.mono_l k
  ·intro y0 y1 y2 y3
   unfold spec_GoodOp.l0
   repeat' first
   | (with_reducible exact ih0 _ _ _ _)
   | (with_reducible exact spec_l3Part.mono _ _ _ _)
   | (with_reducible exact spec_l3Sizes.mono _ _)
   | (with_reducible exact LeO.refl _)
   | (with_reducible exact LeO.none _)
   | (with_reducible refine LeO.ite ?_ ?_)
   | (with_reducible refine LeO.bind ?_ (fun _ => ?_))
theorem spec_GoodOp.mono : ∀ a0 k, LeO (spec_GoodOp.f k a0) (spec_GoodOp.f (k + 1) a0) := by
 intro a0 k
 have ih0 := spec_GoodOp.mono_l k
 unfold spec_GoodOp.f
 repeat' first
   | (with_reducible exact ih0 _ _ _ _)
   | (with_reducible exact spec_l3Part.mono _ _ _ _)
   | (with_reducible exact spec_l3Sizes.mono _ _)
   | (with_reducible exact LeO.refl _)
   | (with_reducible exact LeO.none _)
   | (with_reducible refine LeO.ite ?_ ?_)
   | (with_reducible refine LeO.bind ?_ (fun _ => ?_))
set_option maxHeartbeats 8000000 in
set_option maxRecDepth 100000 in
theorem spec_GoodOp.calls (k : Nat) (A0 : Option Addr) (c0 : Nat) (l0 : List (S120)) (r : Bool) (w : World) (hr0 : Kd.C k120 w A0 l0.length l0) (hc0 : l0.length ≤ c0) (h : spec_GoodOp.f k l0 = some r) :
  Calls Try.prog 96 #[.slice A0 l0.length c0] w fun e w' => e = .returned (.bool r) ∧ Below w.heap.size w w' := by
 have hu120 := Try.underlying120
 have cN := aM hr0
 have dy := aM hc0
 clear hr0 hc0
 have HB := aM (Below.refl w.heap.size w)
 have H : (if (l0.length : Int) > 60 then (some false) else (spec_GoodOp.l0 k l0 l0 (l0.length : Int) 0)) = some r := h
 clear h
 by_cases c2 : (l0.length : Int) > 60
 ·rw [if_pos c2] at H
  have c2b0 : decide (60 < (l0.length : Int)) = true := dT c2
  have c2b1 : decide (60 < l0.length) = true := dT (by omega)
  clear c2
  obtain rfl := sI H
  go_enter Try.func96, Try.ntmps96
  go_wp2
  go_ret
  exact ⟨y4, y5⟩
 ·rw [if_neg c2] at H
  have c2b0 : decide (60 < (l0.length : Int)) = false := dF c2
  have c2b1 : decide (60 < l0.length) = false := dF (by omega)
  clear c2
  have H' := aM H
  clear H
  go_enter Try.func96, Try.ntmps96
  go_wp2
  go_loopg [12] k (fun kq v12 w' => ∃ (x12_1 : Int), v12 = .int .i64 x12_1 ∧ Aside0 (spec_GoodOp.l0 kq l0 l0 (l0.length : Int) x12_1 = some r) ∧ Aside0 (kq ≤ k) ∧ Aside0 (Below w.heap.size w w'))
  case atStart => exact ⟨(0), z1, H', ⟨Nat.le_refl _⟩, ⟨y5⟩⟩
  case round =>
   clear H'
   try clear c2
   try clear c2b0
   try clear c2b1
   obtain ⟨x12_1, rfl, HA, HK1, HB⟩ := hrel
   cases gk with
   | zero => exact absurd HA.out (by simp [spec_GoodOp.l0])
   | succ k1 =>
    have H := HA.out
    clear HA
    simp only [spec_GoodOp.l0] at H
    by_cases c3 : x12_1 < (l0.length : Int)
    ·rw [if_pos c3] at H
     have c3b0 : decide (x12_1 < (l0.length : Int)) = true := dT c3
     clear c3
     by_cases c4 : 0 ≤ x12_1
     ·rw [if_pos c4] at H
      have c4b0 : decide (0 ≤ x12_1) = true := dT c4
      clear c4
      by_cases c5 : x12_1 < (l0.length : Int)
      ·rw [if_pos c5] at H
       have c5b0 : decide (x12_1 < (l0.length : Int)) = true := dT c5
       clear c5
       obtain ⟨oK, A6, H⟩ := oA_ H
       try dsimp only at H
       by_cases c7 : oK = true
       ·subst c7
        rw [if_pos rfl] at H
        have H' := aM H
        clear H
        have p259 : 0 ≤ (x12_1 : Int) := oD z2
        have q259 : x12_1 < (l0.length : Int) := oD z2
        obtain ⟨ad259, e259, hx259_0, hx259_1, hx259_2⟩ := at_T120 cN.out x12_1 p259 q259
        cases e259
        replace hx259_0 := (HB.out.cell (World.block_lt_of_cell? w _ hx259_0)).trans hx259_0
        replace hx259_1 := (HB.out.cell (World.block_lt_of_cell? w _ hx259_1)).trans hx259_1
        replace hx259_2 := (HB.out.cell (World.block_lt_of_cell? w _ hx259_2)).trans hx259_2
        replace p259 := eq_true p259
        replace q259 := eq_true q259
        go_wp2_with (first | ((with_reducible refine aK (N := 4) rfl ?_); refine aN ?hg (N := 4) ?hd (cs := #[.int .i64 0, .string ⟨#[]⟩, .string ⟨#[]⟩]) (t := 120) ?hr ?_; (case hd => rfl); (case hg => rfl); (case hr => first | (go_simp; done) | (go_simp; rfl)); intro dW hg w8 hbox hb; have di := aM (hbox); have GW260 := aM ((by rw [hg]; exact (aA z16) : w.heap.size ≤ dW)); have jM := aM ((by rw [hg]; exact (aA z16) : w.heap.size ≤ dW)); replace HB := aM (az z16 hb); clear hb hbox hg; obtain ⟨fd, fU, fT, fS, fQ, fP⟩ := cc3 di.out) | ((with_reducible refine aJ (f := 98) rfl ?_); refine aQ (some 17) rfl rfl Try.func98 z0 rfl #[.agg #[.int .i64 ((rd_T120 l0 x12_1).f0), .string ((rd_T120 l0 x12_1).f1), .string ((rd_T120 l0 x12_1).f2)]] rfl z17 ?_; (with_reducible refine (spec_l3Part.calls k1 ((rd_T120 l0 x12_1).f0) ((rd_T120 l0 x12_1).f1) ((rd_T120 l0 x12_1).f2) true _ A6.out).mono ?_); rintro e w10 ⟨rfl, hb⟩; refine ⟨_, rfl, ?_⟩; replace di := aM (af (g := dW) (o := .cells #[.int .i64 ((rd_T120 l0 x12_1).f0), .string ((rd_T120 l0 x12_1).f1), .string ((rd_T120 l0 x12_1).f2)] 120 (0, 0)) (by (with_reducible repeat (first | refine ar ?_ _ | refine aq ?_ | refine au ?_ _)); refine aw (cs := #[.int .i64 ((rd_T120 l0 x12_1).f0), .string ((rd_T120 l0 x12_1).f1), .string ⟨#[]⟩]) ?_ 2 _ rfl; (with_reducible repeat (first | refine ar ?_ _ | refine aq ?_ | refine au ?_ _)); refine aw (cs := #[.int .i64 ((rd_T120 l0 x12_1).f0), .string ⟨#[]⟩, .string ⟨#[]⟩]) ?_ 1 _ rfl; (with_reducible repeat (first | refine ar ?_ _ | refine aq ?_ | refine au ?_ _)); refine aw (cs := #[.int .i64 0, .string ⟨#[]⟩, .string ⟨#[]⟩]) ?_ 0 _ rfl; (with_reducible repeat (first | refine ar ?_ _ | refine aq ?_ | refine au ?_ _)); exact di.out) hb); replace HB := aM (az (by repeat (first | (with_reducible first | exact HB.out | apply bA | apply pD | apply bD | refine ay ?_ jM.out) | exact HB.out)) hb); (try clear hb)))
        go_roundg k1
        case measure => have := HK1.out; omega
        case rel => exact ⟨(wrap64 (x12_1 + 1)), z1, H', ⟨y0⟩, ⟨by repeat (first | (with_reducible first | exact HB.out | apply bA | apply pD | apply bD | refine ay ?_ jM.out) | exact HB.out)⟩⟩
       ·replace c7 := Bool.eq_false_iff.mpr c7
        subst c7
        rw [if_neg nF_] at H
        obtain rfl := sI H
        have p259 : 0 ≤ (x12_1 : Int) := oD z2
        have q259 : x12_1 < (l0.length : Int) := oD z2
        obtain ⟨ad259, e259, hx259_0, hx259_1, hx259_2⟩ := at_T120 cN.out x12_1 p259 q259
        cases e259
        replace hx259_0 := (HB.out.cell (World.block_lt_of_cell? w _ hx259_0)).trans hx259_0
        replace hx259_1 := (HB.out.cell (World.block_lt_of_cell? w _ hx259_1)).trans hx259_1
        replace hx259_2 := (HB.out.cell (World.block_lt_of_cell? w _ hx259_2)).trans hx259_2
        replace p259 := eq_true p259
        replace q259 := eq_true q259
        go_wp2_with (first | ((with_reducible refine aK (N := 4) rfl ?_); refine aN ?hg (N := 4) ?hd (cs := #[.int .i64 0, .string ⟨#[]⟩, .string ⟨#[]⟩]) (t := 120) ?hr ?_; (case hd => rfl); (case hg => rfl); (case hr => first | (go_simp; done) | (go_simp; rfl)); intro dW hg w11 hbox hb; have di := aM (hbox); have GW260 := aM ((by rw [hg]; exact (aA z16) : w.heap.size ≤ dW)); have jM := aM ((by rw [hg]; exact (aA z16) : w.heap.size ≤ dW)); replace HB := aM (az z16 hb); clear hb hbox hg; obtain ⟨fz, hcz12_1, hcz12_2, fv, hfz12_1, hfz12_2⟩ := cc3 di.out) | ((with_reducible refine aJ (f := 98) rfl ?_); refine aQ (some 17) rfl rfl Try.func98 z0 rfl #[.agg #[.int .i64 ((rd_T120 l0 x12_1).f0), .string ((rd_T120 l0 x12_1).f1), .string ((rd_T120 l0 x12_1).f2)]] rfl z17 ?_; (with_reducible refine (spec_l3Part.calls k1 ((rd_T120 l0 x12_1).f0) ((rd_T120 l0 x12_1).f1) ((rd_T120 l0 x12_1).f2) false _ A6.out).mono ?_); rintro e w13 ⟨rfl, hb⟩; refine ⟨_, rfl, ?_⟩; replace di := aM (af (g := dW) (o := .cells #[.int .i64 ((rd_T120 l0 x12_1).f0), .string ((rd_T120 l0 x12_1).f1), .string ((rd_T120 l0 x12_1).f2)] 120 (0, 0)) (by (with_reducible repeat (first | refine ar ?_ _ | refine aq ?_ | refine au ?_ _)); refine aw (cs := #[.int .i64 ((rd_T120 l0 x12_1).f0), .string ((rd_T120 l0 x12_1).f1), .string ⟨#[]⟩]) ?_ 2 _ rfl; (with_reducible repeat (first | refine ar ?_ _ | refine aq ?_ | refine au ?_ _)); refine aw (cs := #[.int .i64 ((rd_T120 l0 x12_1).f0), .string ⟨#[]⟩, .string ⟨#[]⟩]) ?_ 1 _ rfl; (with_reducible repeat (first | refine ar ?_ _ | refine aq ?_ | refine au ?_ _)); refine aw (cs := #[.int .i64 0, .string ⟨#[]⟩, .string ⟨#[]⟩]) ?_ 0 _ rfl; (with_reducible repeat (first | refine ar ?_ _ | refine aq ?_ | refine au ?_ _)); exact di.out) hb); replace HB := aM (az (by repeat (first | (with_reducible first | exact HB.out | apply bA | apply pD | apply bD | refine ay ?_ jM.out) | exact HB.out)) hb); (try clear hb)))
        go_ret
        exact ⟨y4, by repeat (first | (with_reducible first | exact HB.out | apply bA | apply pD | apply bD | refine ay ?_ jM.out) | exact HB.out)⟩
      ·rw [if_neg c5] at H
       exact absurd H (by simp)
     ·rw [if_neg c4] at H
      exact absurd H (by simp)
    ·rw [if_neg c3] at H
     have c3b0 : decide (x12_1 < (l0.length : Int)) = false := dF c3
     clear c3
     obtain ⟨⟨l3, pv⟩, fL, H⟩ := oA_ H
     try dsimp only at H
     by_cases dC : l3 ≤ 300
     ·rw [if_pos dC] at H
      have c15b0 : decide (l3 ≤ 300) = true := dT dC
      clear dC
      obtain rfl := sI H
      go_wp2_with (first | ((with_reducible refine aJ (f := 99) rfl ?_); refine aQ (some 22) rfl rfl Try.func99 z0 rfl #[.slice A0 l0.length c0] rfl z17 ?_; (with_reducible refine (spec_l3Sizes.calls k1 _ _ l0 l3 pv _ ?side1 ?side2 fL.out).mono ?_); (case side1 => exact y37); (case side2 => exact dy.out); rintro e w16 ⟨rfl, hb⟩; refine ⟨_, rfl, ?_⟩; replace HB := aM (az z16 hb); (try clear hb)))
      go_ret
      exact ⟨y4, y5⟩
     ·rw [if_neg dC] at H
      have c15b0 : decide (l3 ≤ 300) = false := dF dC
      clear dC
      obtain rfl := sI H
      go_wp2_with (first | ((with_reducible refine aJ (f := 99) rfl ?_); refine aQ (some 22) rfl rfl Try.func99 z0 rfl #[.slice A0 l0.length c0] rfl z17 ?_; (with_reducible refine (spec_l3Sizes.calls k1 _ _ l0 l3 pv _ ?side1 ?side2 fL.out).mono ?_); (case side1 => exact y37); (case side2 => exact dy.out); rintro e w17 ⟨rfl, hb⟩; refine ⟨_, rfl, ?_⟩; replace HB := aM (az z16 hb); (try clear hb)))
      go_ret
      exact ⟨y4, y5⟩

/-! ### spec_l3Apply: function 97 -/
mutual
def spec_l3Apply.l0 : Nat → ByteArray → ByteArray → List (S120) → Int → Int → Option (ByteArray × Bool)
 | 0, _, _, _, _, _ => none
 | k + 1, x1, x6, x10, x11, x12 => if x12 < x11 then (if 0 ≤ x12 then (if x12 < (x10.length : Int) then (if (wrap64 (((rd_T120 x10 x12).f0) + (((rd_T120 x10 x12).f2).size : Int))) > (x1.size : Int) then (spec_l3Apply.j1 k x1 x6 (wrap64 (((rd_T120 x10 x12).f0) + (((rd_T120 x10 x12).f2).size : Int))) x10 x11 x12 true ((rd_T120 x10 x12).f0) ((rd_T120 x10 x12).f1) ((rd_T120 x10 x12).f2)) else (if ((rd_T120 x10 x12).f2).toList = ([] : List UInt8) then (spec_l3Apply.j1 k x1 x6 (wrap64 (((rd_T120 x10 x12).f0) + (((rd_T120 x10 x12).f2).size : Int))) x10 x11 x12 false ((rd_T120 x10 x12).f0) ((rd_T120 x10 x12).f1) ((rd_T120 x10 x12).f2)) else (if 0 ≤ (wrap64 (((rd_T120 x10 x12).f0) + (((rd_T120 x10 x12).f2).size : Int))) then (if (wrap64 (((rd_T120 x10 x12).f0) + (((rd_T120 x10 x12).f2).size : Int))) ≤ (x1.size : Int) then (spec_l3Apply.j1 k x1 x6 (wrap64 (((rd_T120 x10 x12).f0) + (((rd_T120 x10 x12).f2).size : Int))) x10 x11 x12 ((x1.extract 0 ((wrap64 (((rd_T120 x10 x12).f0) + (((rd_T120 x10 x12).f2).size : Int))) : Int).toNat).toList != ((rd_T120 x10 x12).f2).toList) ((rd_T120 x10 x12).f0) ((rd_T120 x10 x12).f1) ((rd_T120 x10 x12).f2)) else (none)) else (none)))) else (none)) else (none)) else (some (x6, (x1.toList == ([] : List UInt8))))
def spec_l3Apply.j1 : Nat → ByteArray → ByteArray → Int → List (S120) → Int → Int → Bool → Int → ByteArray → ByteArray → Option (ByteArray × Bool)
 | 0, _, _, _, _, _, _, _, _, _, _ => none
 | k + 1, x1, x6, x9, x10, x11, x12, x38, x266000, x266001, x266002 => if x38 = true then (some ((⟨#[]⟩ : ByteArray), false)) else (if x266000 > 0 then (if 0 ≤ x9 then (if x9 ≤ (x1.size : Int) then (if x6.size + (x1.extract 0 (x9 : Int).toNat).size ≤ 9223372036854775807 then (if (x6 ++ (x1.extract 0 (x9 : Int).toNat)).size + x266001.size ≤ 9223372036854775807 then (spec_l3Apply.l0 k (x1.extract (x9 : Int).toNat x1.size) ((x6 ++ (x1.extract 0 (x9 : Int).toNat)) ++ x266001) x10 x11 (wrap64 (x12 + 1))) else (none)) else (none)) else (none)) else (none)) else (if x6.size + x266001.size ≤ 9223372036854775807 then (if 0 ≤ x9 then (if x9 ≤ (x1.size : Int) then (spec_l3Apply.l0 k (x1.extract (x9 : Int).toNat x1.size) (x6 ++ x266001) x10 x11 (wrap64 (x12 + 1))) else (none)) else (none)) else (none)))
end
def spec_l3Apply.f (k : Nat) (l0 : List (S120)) (a1 : ByteArray) : Option (ByteArray × Bool) := spec_l3Apply.l0 k a1 (⟨#[]⟩ : ByteArray) l0 (l0.length : Int) 0
theorem spec_l3Apply.mono_l : ∀ k, (∀ y0 y1 y2 y3 y4, LeO (spec_l3Apply.l0 k y0 y1 y2 y3 y4) (spec_l3Apply.l0 (k + 1) y0 y1 y2 y3 y4)) ∧ (∀ y0 y1 y2 y3 y4 y5 y6 y7 y8 y9, LeO (spec_l3Apply.j1 k y0 y1 y2 y3 y4 y5 y6 y7 y8 y9) (spec_l3Apply.j1 (k + 1) y0 y1 y2 y3 y4 y5 y6 y7 y8 y9))
 | 0 => ⟨fun _ _ _ _ _ r h => by simp [spec_l3Apply.l0] at h, fun _ _ _ _ _ _ _ _ _ _ r h => by simp [spec_l3Apply.j1] at h⟩
 | k + 1 => by
  obtain ⟨ih0, ih1⟩ := spec_l3Apply.mono_l k
  refine ⟨?_, ?_⟩
  ·intro y0 y1 y2 y3 y4
   unfold spec_l3Apply.l0
   repeat' first
   | (with_reducible exact ih0 _ _ _ _ _)
   | (with_reducible exact ih1 _ _ _ _ _ _ _ _ _ _)
   | (with_reducible exact LeO.refl _)
   | (with_reducible exact LeO.none _)
   | (with_reducible refine LeO.ite ?_ ?_)
   | (with_reducible refine LeO.bind ?_ (fun _ => ?_))
  ·intro y0 y1 y2 y3 y4 y5 y6 y7 y8 y9
   unfold spec_l3Apply.j1
   repeat' first
   | (with_reducible exact ih0 _ _ _ _ _)
   | (with_reducible exact ih1 _ _ _ _ _ _ _ _ _ _)
   | (with_reducible exact LeO.refl _)
   | (with_reducible exact LeO.none _)
   | (with_reducible refine LeO.ite ?_ ?_)
   | (with_reducible refine LeO.bind ?_ (fun _ => ?_))
theorem spec_l3Apply.mono : ∀ a0 a1 k, LeO (spec_l3Apply.f k a0 a1) (spec_l3Apply.f (k + 1) a0 a1) := by
 intro a0 a1 k
 obtain ⟨ih0, ih1⟩ := spec_l3Apply.mono_l k
 unfold spec_l3Apply.f
 repeat' first
   | (with_reducible exact ih0 _ _ _ _ _)
   | (with_reducible exact ih1 _ _ _ _ _ _ _ _ _ _)
   | (with_reducible exact LeO.refl _)
   | (with_reducible exact LeO.none _)
   | (with_reducible refine LeO.ite ?_ ?_)
   | (with_reducible refine LeO.bind ?_ (fun _ => ?_))
set_option maxHeartbeats 8000000 in
set_option maxRecDepth 100000 in
theorem spec_l3Apply.calls (k : Nat) (A0 : Option Addr) (c0 : Nat) (l0 : List (S120)) (a1 : ByteArray) (r1 : ByteArray) (r2 : Bool) (w : World) (hr0 : Kd.C k120 w A0 l0.length l0) (hc0 : l0.length ≤ c0) (h : spec_l3Apply.f k l0 a1 = some (r1, r2)) :
  Calls Try.prog 97 #[.slice A0 l0.length c0, .string a1] w fun e w' => e = .returned (.tuple #[.string r1, .bool r2]) ∧ Below w.heap.size w w' := by
 have hu120 := Try.underlying120
 have cN := aM hr0
 have dy := aM hc0
 clear hr0 hc0
 have HB := aM (Below.refl w.heap.size w)
 have H : (spec_l3Apply.l0 k a1 (⟨#[]⟩ : ByteArray) l0 (l0.length : Int) 0) = some (r1, r2) := h
 clear h
 have H' := aM H
 clear H
 go_enter Try.func97, Try.ntmps97
 go_wp2
 repeat (go_quiet (fail); try go_wp2)
 go_loopg [1, 6, 12] k (fun kq v1 v6 v12 w' => ∃ (x1_1 : ByteArray) (x6_1 : ByteArray) (x12_1 : Int), v1 = .string x1_1 ∧ v6 = .string x6_1 ∧ v12 = .int .i64 x12_1 ∧ Aside0 (spec_l3Apply.l0 kq x1_1 x6_1 l0 (l0.length : Int) x12_1 = some (r1, r2)) ∧ Aside0 (kq ≤ k) ∧ Aside0 (Below w.heap.size w w'))
 case atStart => exact ⟨(a1), ((⟨#[]⟩ : ByteArray)), (0), z1, z1, z1, H', ⟨Nat.le_refl _⟩, ⟨y5⟩⟩
 case round =>
  clear H'
  obtain ⟨x1_1, x6_1, x12_1, rfl, rfl, rfl, HA, HK1, HB⟩ := hrel
  cases gk with
  | zero => exact absurd HA.out (by simp [spec_l3Apply.l0])
  | succ k1 =>
   have H := HA.out
   clear HA
   simp only [spec_l3Apply.l0] at H
   by_cases c3 : x12_1 < (l0.length : Int)
   ·rw [if_pos c3] at H
    have c3b0 : decide (x12_1 < (l0.length : Int)) = true := dT c3
    clear c3
    by_cases c4 : 0 ≤ x12_1
    ·rw [if_pos c4] at H
     have c4b0 : decide (0 ≤ x12_1) = true := dT c4
     clear c4
     by_cases c5 : x12_1 < (l0.length : Int)
     ·rw [if_pos c5] at H
      have c5b0 : decide (x12_1 < (l0.length : Int)) = true := dT c5
      clear c5
      have iH := aM H
      clear H
      have p264 : 0 ≤ (x12_1 : Int) := oD z2
      have q264 : x12_1 < (l0.length : Int) := oD z2
      obtain ⟨ad264, e264, hx264_0, hx264_1, hx264_2⟩ := at_T120 cN.out x12_1 p264 q264
      cases e264
      replace hx264_0 := (HB.out.cell (World.block_lt_of_cell? w _ hx264_0)).trans hx264_0
      replace hx264_1 := (HB.out.cell (World.block_lt_of_cell? w _ hx264_1)).trans hx264_1
      replace hx264_2 := (HB.out.cell (World.block_lt_of_cell? w _ hx264_2)).trans hx264_2
      replace p264 := eq_true p264
      replace q264 := eq_true q264
      go_upto_region 6 with (first | ((with_reducible refine aK (N := 8) rfl ?_); refine aN ?hg (N := 8) ?hd (cs := #[.int .i64 0, .string ⟨#[]⟩, .string ⟨#[]⟩]) (t := 120) ?hr ?_; (case hd => rfl); (case hg => rfl); (case hr => first | (go_simp; done) | (go_simp; rfl)); intro cz hg w7 hbox hb; have b4 := aM (hbox); have n9 := aM ((by rw [hg]; exact (aA z16) : w.heap.size ≤ cz)); have ob := aM ((by rw [hg]; exact (aA z16) : w.heap.size ≤ cz)); replace HB := aM (az z16 hb); clear hb hbox hg; obtain ⟨fV, gV, gU, gP, gO, gN⟩ := cc3 b4.out))
      repeat (go_quiet (fail); go_upto_region 6 with (first | ((with_reducible refine aK (N := 8) rfl ?_); refine aN ?hg (N := 8) ?hd (cs := #[.int .i64 0, .string ⟨#[]⟩, .string ⟨#[]⟩]) (t := 120) ?hr ?_; (case hd => rfl); (case hg => rfl); (case hr => first | (go_simp; done) | (go_simp; rfl)); intro cz hg w7 hbox hb; have b4 := aM (hbox); have n9 := aM ((by rw [hg]; exact (aA z16) : w.heap.size ≤ cz)); have ob := aM ((by rw [hg]; exact (aA z16) : w.heap.size ≤ cz)); replace HB := aM (az z16 hb); clear hb hbox hg; obtain ⟨fV, gV, gU, gP, gO, gN⟩ := cc3 b4.out)))
      (try simp only [Act.put, sA, sB, sC])
      go_cut [38] (fun v38 wc => ∃ (kq : Nat) (x38_5 : Bool), v38 = .bool x38_5 ∧ Aside0 (spec_l3Apply.j1 kq x1_1 x6_1 (wrap64 (((rd_T120 l0 x12_1).f0) + (((rd_T120 l0 x12_1).f2).size : Int))) l0 (l0.length : Int) x12_1 x38_5 ((rd_T120 l0 x12_1).f0) ((rd_T120 l0 x12_1).f1) ((rd_T120 l0 x12_1).f2) = some (r1, r2)) ∧ Aside0 (kq ≤ k1) ∧ Aside0 (wc.heap[cz]? = some (.cells #[.int .i64 ((rd_T120 l0 x12_1).f0), .string ((rd_T120 l0 x12_1).f1), .string ((rd_T120 l0 x12_1).f2)] 120 (0, 0))) ∧ Aside0 (Below w.heap.size w wc))
      case first =>
       have H := iH.out
       clear iH
       by_cases c9 : (wrap64 (((rd_T120 l0 x12_1).f0) + (((rd_T120 l0 x12_1).f2).size : Int))) > (x1_1.size : Int)
       ·rw [if_pos c9] at H
        have c9b0 : decide ((x1_1.size : Int) < (wrap64 (((rd_T120 l0 x12_1).f0) + (((rd_T120 l0 x12_1).f2).size : Int)))) = true := dT c9
        clear c9
        (first | rw [c9b0] | (simp only [i64_w, i32_w]; rw [c9b0]) | skip)
        have H' := aM H
        clear H
        go_wp2
        repeat (go_quiet (fail); try go_wp2)
        go_meet
        case rel => exact ⟨_, (true), z1, H', ⟨y2⟩, ⟨y27⟩, ⟨y8⟩⟩
       ·rw [if_neg c9] at H
        have c9b0 : decide ((x1_1.size : Int) < (wrap64 (((rd_T120 l0 x12_1).f0) + (((rd_T120 l0 x12_1).f2).size : Int)))) = false := dF c9
        clear c9
        (first | rw [c9b0] | (simp only [i64_w, i32_w]; rw [c9b0]) | skip)
        by_cases cS : ((rd_T120 l0 x12_1).f2).toList = ([] : List UInt8)
        ·rw [if_pos cS] at H
         have c10b0 : (((rd_T120 l0 x12_1).f2).toList == ([] : List UInt8)) = true := qT cS
         have c10b1 : (((rd_T120 l0 x12_1).f2).toList != ([] : List UInt8)) = false := nF cS
         clear cS
         have H' := aM H
         clear H
         obtain ⟨ji, lu, ls, i3, kM, kL⟩ := cc3 b4.out
         go_wp2
         all_goals (try (exfalso; rename_i h_; rw [c10b0] at h_; cases h_; done))
         repeat (go_quiet (fail); try go_wp2)
         all_goals (try (exfalso; rename_i h_; rw [c10b0] at h_; cases h_; done))
         go_meet
         case rel => exact ⟨_, (false), z1, H', ⟨y2⟩, ⟨y27⟩, ⟨y8⟩⟩
        ·rw [if_neg cS] at H
         have c10b0 : (((rd_T120 l0 x12_1).f2).toList == ([] : List UInt8)) = false := qF cS
         have c10b1 : (((rd_T120 l0 x12_1).f2).toList != ([] : List UInt8)) = true := nT cS
         obtain ⟨ix, gM⟩ : ∃ j_ : Int, (wrap64 (((rd_T120 l0 x12_1).f0) + (((rd_T120 l0 x12_1).f2).size : Int))) = j_ := ⟨_, rfl⟩
         replace H : (if 0 ≤ (ix) then (if (ix) ≤ (x1_1.size : Int) then (spec_l3Apply.j1 k1 x1_1 x6_1 ix l0 (l0.length : Int) x12_1 ((x1_1.extract 0 ((ix) : Int).toNat).toList != ((rd_T120 l0 x12_1).f2).toList) ((rd_T120 l0 x12_1).f0) ((rd_T120 l0 x12_1).f1) ((rd_T120 l0 x12_1).f2)) else (none)) else (none)) = some (r1, r2) := by first | (rw [gM] at H; exact H) | (simp only [gM] at H ⊢; exact H)
         (try rw [gM] at c9b0)
         have hji12w : (IntKind.i64.wrap (((rd_T120 l0 x12_1).f0) + (((rd_T120 l0 x12_1).f2).size : Int))) = ix := (i64_w _).trans gM
         by_cases dH : 0 ≤ (ix)
         ·rw [if_pos dH] at H
          have c13b0 := eq_true dH
          have c13b1 : decide (0 ≤ (ix)) = true := dT dH
          clear dH
          by_cases ex : (ix) ≤ (x1_1.size : Int)
          ·rw [if_pos ex] at H
           have c14b0 := eq_true ex
           have c14b1 : decide ((ix) ≤ (x1_1.size : Int)) = true := dT ex
           clear ex
           have H' := aM H
           clear H
           obtain ⟨jg, jf, je, i1, iZ, iY⟩ := cc3 b4.out
           go_wp2
           all_goals (try (exfalso; rename_i h_; rw [c10b0] at h_; cases h_; done))
           repeat (go_quiet (fail); try go_wp2)
           all_goals (try (exfalso; rename_i h_; rw [c10b0] at h_; cases h_; done))
           go_meet
           case rel => exact ⟨_, (((x1_1.extract 0 ((ix) : Int).toNat).toList != ((rd_T120 l0 x12_1).f2).toList)), (by first | rfl | (simp; done) | (simp only [← gM] <;> (first | rfl | (simp; done) | (simp; generalize ByteArray.toList _ = u_; cases u_ <;> (first | rfl | (simp; done))))) | (simp [*]; done)), (by first | exact H' | (simp only [gM]; exact H') | (simp only [← gM]; exact H')), ⟨y2⟩, ⟨y27⟩, ⟨y8⟩⟩
          ·rw [if_neg ex] at H
           exact absurd H (by simp)
         ·rw [if_neg dH] at H
          exact absurd H (by simp)
      case rest =>
       clear iH
       try clear p2
       try clear c3
       try clear c3b0
       try clear c4
       try clear c4b0
       try clear c5
       try clear c5b0
       try clear fV
       try clear gV
       try clear gU
       try clear gP
       try clear gO
       try clear gN
       try clear hx264_0
       try clear hx264_1
       try clear hx264_2
       try clear p2
       try clear p264
       try clear q264
       obtain ⟨kq, x38_5, rfl, HA, mG, b4, HB⟩ := hcut
       cases kq with
       | zero => exact absurd HA.out (by simp [spec_l3Apply.j1])
       | succ kj5 =>
        have H := HA.out
        clear HA
        simp only [spec_l3Apply.j1] at H
        by_cases dM : x38_5 = true
        ·subst dM
         rw [if_pos rfl] at H
         simp only [Option.some.injEq, Prod.mk.injEq] at H
         obtain ⟨rfl, rfl⟩ := H
         go_wp2
         repeat (go_quiet (fail); try go_wp2)
         go_ret2
         exact ⟨y4, y8⟩
        ·replace dM := Bool.eq_false_iff.mpr dM
         subst dM
         rw [if_neg nF_] at H
         by_cases e6 : ((rd_T120 l0 x12_1).f0) > 0
         ·rw [if_pos e6] at H
          have c17b0 : decide (0 < ((rd_T120 l0 x12_1).f0)) = true := dT e6
          clear e6
          obtain ⟨dx, gL⟩ : ∃ j_ : Int, (wrap64 (((rd_T120 l0 x12_1).f0) + (((rd_T120 l0 x12_1).f2).size : Int))) = j_ := ⟨_, rfl⟩
          replace H : (if 0 ≤ (dx) then (if (dx) ≤ (x1_1.size : Int) then (if x6_1.size + (x1_1.extract 0 ((dx) : Int).toNat).size ≤ 9223372036854775807 then (if (x6_1 ++ (x1_1.extract 0 ((dx) : Int).toNat)).size + ((rd_T120 l0 x12_1).f1).size ≤ 9223372036854775807 then (spec_l3Apply.l0 kj5 (x1_1.extract ((dx) : Int).toNat x1_1.size) ((x6_1 ++ (x1_1.extract 0 ((dx) : Int).toNat)) ++ ((rd_T120 l0 x12_1).f1)) l0 (l0.length : Int) (wrap64 (x12_1 + 1))) else (none)) else (none)) else (none)) else (none)) = some (r1, r2) := by first | (rw [gL] at H; exact H) | (simp only [gL] at H ⊢; exact H)
          have hji18w : (IntKind.i64.wrap (((rd_T120 l0 x12_1).f0) + (((rd_T120 l0 x12_1).f2).size : Int))) = dx := (i64_w _).trans gL
          by_cases mW : 0 ≤ (dx)
          ·rw [if_pos mW] at H
           have c19b0 := eq_true mW
           have c19b1 : decide (0 ≤ (dx)) = true := dT mW
           clear mW
           by_cases mV : (dx) ≤ (x1_1.size : Int)
           ·rw [if_pos mV] at H
            have c20b0 := eq_true mV
            have c20b1 : decide ((dx) ≤ (x1_1.size : Int)) = true := dT mV
            clear mV
            by_cases lU : x6_1.size + (x1_1.extract 0 ((dx) : Int).toNat).size ≤ 9223372036854775807
            ·rw [if_pos lU] at H
             have c21b0 := eq_true lU
             have c21b1 : decide (x6_1.size + (x1_1.extract 0 ((dx) : Int).toNat).size ≤ 9223372036854775807) = true := dT lU
             (try (have c21b1m := c21b1; simp only [a5, Nat.sub_zero] at c21b1m))
             (try (have c21b0m := c21b0; simp only [a5, Nat.sub_zero] at c21b0m))
             try have c21b2 : (9223372036854775807 < x6_1.size + (x1_1.extract 0 ((dx) : Int).toNat).size) = False := eq_false (Nat.not_lt.2 lU)
             (try (have c21x : (9223372036854775807 < x6_1.size + (dx).toNat) = False := eq_false (fun h_ => by have e_ := of_eq_true c21b0; simp only [a5, aZ] at e_; have f0_ : (dx) ≤ (x1_1.size : Int) := (by first | assumption | exact of_eq_true (by assumption) | exact oD (by assumption)); omega)))
             by_cases nJ : (x6_1 ++ (x1_1.extract 0 ((dx) : Int).toNat)).size + ((rd_T120 l0 x12_1).f1).size ≤ 9223372036854775807
             ·rw [if_pos nJ] at H
              have c22b0 := eq_true nJ
              have c22b1 : decide ((x6_1 ++ (x1_1.extract 0 ((dx) : Int).toNat)).size + ((rd_T120 l0 x12_1).f1).size ≤ 9223372036854775807) = true := dT nJ
              try have c22b2 : (9223372036854775807 < (x6_1 ++ (x1_1.extract 0 ((dx) : Int).toNat)).size + ((rd_T120 l0 x12_1).f1).size) = False := eq_false (Nat.not_lt.2 nJ)
              (try (have c22x : (9223372036854775807 < (x6_1.size + (dx).toNat) + ((rd_T120 l0 x12_1).f1).size) = False := eq_false (fun h_ => by have e_ := of_eq_true c22b0; simp only [a5, aZ] at e_; have f0_ : (dx) ≤ (x1_1.size : Int) := (by first | assumption | exact of_eq_true (by assumption) | exact oD (by assumption)); omega)))
              (try (have c22b2s := c22b2; simp only [aZ] at c22b2s))
              have c23b0 := eq_true (oD z2 : 0 ≤ (dx))
              have c24b0 := eq_true (oD z2 : (dx) ≤ (x1_1.size : Int))
              have H' := aM H
              clear H
              obtain ⟨k6, hcz25_1, hcz25_2, kt, hfz25_1, hfz25_2⟩ := cc3 b4.out
              go_wp2
              repeat (go_quiet (fail); try go_wp2)
              go_roundg kj5
              case measure => have := HK1.out; have := mG.out; omega
              case rel => exact ⟨(x1_1.extract ((dx) : Int).toNat x1_1.size), ((x6_1 ++ (x1_1.extract 0 ((dx) : Int).toNat)) ++ ((rd_T120 l0 x12_1).f1)), (wrap64 (x12_1 + 1)), (by first | rfl | (simp; done) | (simp only [← gL] <;> (first | rfl | (simp; done) | (simp; generalize ByteArray.toList _ = u_; cases u_ <;> (first | rfl | (simp; done))))) | (simp [*]; done)), (by first | rfl | (simp; done) | (simp only [← gL] <;> (first | rfl | (simp; done) | (simp; generalize ByteArray.toList _ = u_; cases u_ <;> (first | rfl | (simp; done))))) | (simp [*]; done)), z1, (by first | exact H' | (simp only [gL]; exact H') | (simp only [← gL]; exact H')), ⟨by have := HK1.out; have := mG.out; omega⟩, ⟨y8⟩⟩
             ·rw [if_neg nJ] at H
              exact absurd H (by simp)
            ·rw [if_neg lU] at H
             exact absurd H (by simp)
           ·rw [if_neg mV] at H
            exact absurd H (by simp)
          ·rw [if_neg mW] at H
           exact absurd H (by simp)
         ·rw [if_neg e6] at H
          have c17b0 : decide (0 < ((rd_T120 l0 x12_1).f0)) = false := dF e6
          clear e6
          by_cases p0 : x6_1.size + ((rd_T120 l0 x12_1).f1).size ≤ 9223372036854775807
          ·rw [if_pos p0] at H
           have c26b0 := eq_true p0
           have c26b1 : decide (x6_1.size + ((rd_T120 l0 x12_1).f1).size ≤ 9223372036854775807) = true := dT p0
           try have c26b2 : (9223372036854775807 < x6_1.size + ((rd_T120 l0 x12_1).f1).size) = False := eq_false (Nat.not_lt.2 p0)
           obtain ⟨iV, iA⟩ : ∃ j_ : Int, (wrap64 (((rd_T120 l0 x12_1).f0) + (((rd_T120 l0 x12_1).f2).size : Int))) = j_ := ⟨_, rfl⟩
           replace H : (if 0 ≤ (iV) then (if (iV) ≤ (x1_1.size : Int) then (spec_l3Apply.l0 kj5 (x1_1.extract ((iV) : Int).toNat x1_1.size) (x6_1 ++ ((rd_T120 l0 x12_1).f1)) l0 (l0.length : Int) (wrap64 (x12_1 + 1))) else (none)) else (none)) = some (r1, r2) := by first | (rw [iA] at H; exact H) | (simp only [iA] at H ⊢; exact H)
           have hji27w : (IntKind.i64.wrap (((rd_T120 l0 x12_1).f0) + (((rd_T120 l0 x12_1).f2).size : Int))) = iV := (i64_w _).trans iA
           by_cases lN : 0 ≤ (iV)
           ·rw [if_pos lN] at H
            have c28b0 := eq_true lN
            have c28b1 : decide (0 ≤ (iV)) = true := dT lN
            clear lN
            by_cases eA : (iV) ≤ (x1_1.size : Int)
            ·rw [if_pos eA] at H
             have c29b0 := eq_true eA
             have c29b1 : decide ((iV) ≤ (x1_1.size : Int)) = true := dT eA
             clear eA
             have H' := aM H
             clear H
             obtain ⟨hcz30_0, hcz30_1, hcz30_2, hfz30_0, hfz30_1, hfz30_2⟩ := cc3 b4.out
             go_wp2
             repeat (go_quiet (fail); try go_wp2)
             go_roundg kj5
             case measure => have := HK1.out; have := mG.out; omega
             case rel => exact ⟨(x1_1.extract ((iV) : Int).toNat x1_1.size), (x6_1 ++ ((rd_T120 l0 x12_1).f1)), (wrap64 (x12_1 + 1)), (by first | rfl | (simp; done) | (simp only [← iA] <;> (first | rfl | (simp; done) | (simp; generalize ByteArray.toList _ = u_; cases u_ <;> (first | rfl | (simp; done))))) | (simp [*]; done)), z1, z1, (by first | exact H' | (simp only [iA]; exact H') | (simp only [← iA]; exact H')), ⟨by have := HK1.out; have := mG.out; omega⟩, ⟨y8⟩⟩
            ·rw [if_neg eA] at H
             exact absurd H (by simp)
           ·rw [if_neg lN] at H
            exact absurd H (by simp)
          ·rw [if_neg p0] at H
           exact absurd H (by simp)
     ·rw [if_neg c5] at H
      exact absurd H (by simp)
    ·rw [if_neg c4] at H
     exact absurd H (by simp)
   ·rw [if_neg c3] at H
    have c3b0 : decide (x12_1 < (l0.length : Int)) = false := dF c3
    clear c3
    simp only [Option.some.injEq, Prod.mk.injEq] at H
    obtain ⟨rfl, rfl⟩ := H
    go_wp2
    repeat (go_quiet (fail); try go_wp2)
    go_ret2
    exact ⟨y4, y5⟩

end Go.Proofs.Ytmkenlejdaphnaa.AFnBalanced
