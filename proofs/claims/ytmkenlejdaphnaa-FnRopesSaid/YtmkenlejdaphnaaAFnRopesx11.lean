-- this session's own text: written by wip/tools/ownprint.py over the kit's print
import Derived.Test.YtmkenlejdaphnaaAFnRopesx0
import Derived.Test.YtmkenlejdaphnaaAFnRopesx10
namespace Go.Proofs.Ytmkenlejdaphnaa.AFnRopes
open Go.RowKit Go.Proofs.YtmkenlejdaphnaaW.PrintWords Go.Proofs.YtmkenlejdaphnaaW.PrintLast Go.Proofs.YtmkenlejdaphnaaW.PrintMore
attribute [local go_sem] max2_int min2_int max_two min_two max_three min_three max_four min_four   -- for this text's walks alone
set_option linter.unusedVariables false
set_option linter.unusedSimpArgs false

/-! ### spec_l3Sizes: function 99 -/
def spec_l3Sizes.l0 : Nat → Int → Int → List (S120) → Int → Int → Option (Int × Int)
 | 0, _, _, _, _, _ => none
 | k + 1, x4, x5, x8, x9, x10 => if x10 < x9 then (if 0 ≤ x10 then (if x10 < (x8.length : Int) then (spec_l3Sizes.l0 k (wrap64 (x4 + (wrap64 (((rd_T120 x8 x10).f0) + (((rd_T120 x8 x10).f2).size : Int))))) (wrap64 (x5 + (wrap64 (((rd_T120 x8 x10).f0) + (((rd_T120 x8 x10).f1).size : Int))))) x8 x9 (wrap64 (x10 + 1))) else (none)) else (none)) else (some (x4, x5))
def spec_l3Sizes.f (k : Nat) (l0 : List (S120)) : Option (Int × Int) := spec_l3Sizes.l0 k 0 0 l0 (l0.length : Int) 0
theorem spec_l3Sizes.mono_l : ∀ k, (∀ y0 y1 y2 y3 y4, LeO (spec_l3Sizes.l0 k y0 y1 y2 y3 y4) (spec_l3Sizes.l0 (k + 1) y0 y1 y2 y3 y4))
 | 0 => fun _ _ _ _ _ r h => by simp [spec_l3Sizes.l0] at h
 | k + 1 => by
  have ih0 := spec_l3Sizes.mono_l k
  ·intro y0 y1 y2 y3 y4
   unfold spec_l3Sizes.l0
   repeat' first
   | (with_reducible exact ih0 _ _ _ _ _)
   | (with_reducible exact LeO.refl _)
   | (with_reducible exact LeO.none _)
   | (with_reducible refine LeO.ite ?_ ?_)
   | (with_reducible refine LeO.bind ?_ (fun _ => ?_))
theorem spec_l3Sizes.mono : ∀ a0 k, LeO (spec_l3Sizes.f k a0) (spec_l3Sizes.f (k + 1) a0) := by
 intro a0 k
 have ih0 := spec_l3Sizes.mono_l k
 unfold spec_l3Sizes.f
 repeat' first
   | (with_reducible exact ih0 _ _ _ _ _)
   | (with_reducible exact LeO.refl _)
   | (with_reducible exact LeO.none _)
   | (with_reducible refine LeO.ite ?_ ?_)
   | (with_reducible refine LeO.bind ?_ (fun _ => ?_))
set_option maxHeartbeats 8000000 in
set_option maxRecDepth 100000 in
theorem spec_l3Sizes.calls (k : Nat) (A0 : Option Addr) (c0 : Nat) (l0 : List (S120)) (r1 : Int) (r2 : Int) (w : World) (hr0 : Kd.C k120 w A0 l0.length l0) (hc0 : l0.length ≤ c0) (h : spec_l3Sizes.f k l0 = some (r1, r2)) :
  Calls Try.prog 99 #[.slice A0 l0.length c0] w fun e w' => e = .returned (.tuple #[.int .i64 r1, .int .i64 r2]) ∧ Below w.heap.size w w' := by
 have hu120 := Try.underlying120
 have em := aM hr0
 have eV := aM hc0
 clear hr0 hc0
 have HB := aM (Below.refl w.heap.size w)
 have H : (spec_l3Sizes.l0 k 0 0 l0 (l0.length : Int) 0) = some (r1, r2) := h
 clear h
 have H' := aM H
 clear H
 go_enter Try.func99, Try.ntmps99
 go_wp2
 go_loopg [4, 5, 10] k (fun kq v4 v5 v10 w' => ∃ (x4_1 : Int) (x5_1 : Int) (x10_1 : Int), v4 = .int .i64 x4_1 ∧ v5 = .int .i64 x5_1 ∧ v10 = .int .i64 x10_1 ∧ Aside0 (spec_l3Sizes.l0 kq x4_1 x5_1 l0 (l0.length : Int) x10_1 = some (r1, r2)) ∧ Aside0 (kq ≤ k) ∧ Aside0 (Below w.heap.size w w'))
 case atStart => exact ⟨(0), (0), (0), z2, z2, z2, H', ⟨Nat.le_refl _⟩, ⟨y5⟩⟩
 case round =>
  clear H'
  obtain ⟨x4_1, x5_1, x10_1, rfl, rfl, rfl, HA, HK1, HB⟩ := hrel
  cases gk with
  | zero => exact absurd HA.out (by simp [spec_l3Sizes.l0])
  | succ k1 =>
   have H := HA.out
   clear HA
   simp only [spec_l3Sizes.l0] at H
   by_cases c2 : x10_1 < (l0.length : Int)
   ·rw [if_pos c2] at H
    have c2b0 : decide (x10_1 < (l0.length : Int)) = true := dT c2
    clear c2
    by_cases c3 : 0 ≤ x10_1
    ·rw [if_pos c3] at H
     have c3b0 : decide (0 ≤ x10_1) = true := dT c3
     clear c3
     by_cases c4 : x10_1 < (l0.length : Int)
     ·rw [if_pos c4] at H
      have c4b0 : decide (x10_1 < (l0.length : Int)) = true := dT c4
      clear c4
      have H' := aM H
      clear H
      have p254 : 0 ≤ (x10_1 : Int) := oD z3
      have q254 : x10_1 < (l0.length : Int) := oD z3
      obtain ⟨ad254, e254, hx254_0, hx254_1, hx254_2⟩ := at_T120 em.out x10_1 p254 q254
      cases e254
      replace hx254_0 := (HB.out.cell (World.block_lt_of_cell? w _ hx254_0)).trans hx254_0
      replace hx254_1 := (HB.out.cell (World.block_lt_of_cell? w _ hx254_1)).trans hx254_1
      replace hx254_2 := (HB.out.cell (World.block_lt_of_cell? w _ hx254_2)).trans hx254_2
      replace p254 := eq_true p254
      replace q254 := eq_true q254
      go_wp2_with (first | ((with_reducible refine aN (N := 7) rfl ?_); refine aQ ?hg (N := 7) ?hd (cs := #[.int .i64 0, .string ⟨#[]⟩, .string ⟨#[]⟩]) (t := 120) ?hr ?_; (case hd => rfl); (case hg => rfl); (case hr => first | (go_simp; done) | (go_simp; rfl)); intro ls hg w5 hbox hb; have ka := aM (hbox); have GW255 := aM ((by rw [hg]; exact (aC z20) : w.heap.size ≤ ls)); have GE255 := aM ((by rw [hg]; exact (aC z20) : w.heap.size ≤ ls)); replace HB := aM (aA z20 hb); clear hb hbox hg; obtain ⟨oE, oC, oA, hfz6_0, oz, oy⟩ := cc3 ka.out))
      go_roundg k1
      case measure => have := HK1.out; omega
      case rel => exact ⟨(wrap64 (x4_1 + (wrap64 (((rd_T120 l0 x10_1).f0) + (((rd_T120 l0 x10_1).f2).size : Int))))), (wrap64 (x5_1 + (wrap64 (((rd_T120 l0 x10_1).f0) + (((rd_T120 l0 x10_1).f1).size : Int))))), (wrap64 (x10_1 + 1)), z2, z2, z2, H', ⟨y0⟩, ⟨by repeat (first | (with_reducible first | exact HB.out | apply bA | apply pD | apply bD | refine az ?_ GE255.out) | exact HB.out)⟩⟩
     ·rw [if_neg c4] at H
      exact absurd H (by simp)
    ·rw [if_neg c3] at H
     exact absurd H (by simp)
   ·rw [if_neg c2] at H
    have c2b0 : decide (x10_1 < (l0.length : Int)) = false := dF c2
    clear c2
    simp only [Option.some.injEq, Prod.mk.injEq] at H
    obtain ⟨rfl, rfl⟩ := H
    go_wp2
    go_ret2
    exact ⟨y4, y5⟩

/-! ### spec_GoodOp: function 96 -/
def spec_GoodOp.l0 : Nat → List (S120) → List (S120) → Int → Int → Option (Bool)
 | 0, _, _, _, _ => none
 | k + 1, x0, x10, x11, x12 => if x12 < x11 then (if 0 ≤ x12 then (if x12 < (x10.length : Int) then ((spec_l3Part.f k ((rd_T120 x10 x12).f0) ((rd_T120 x10 x12).f1) ((rd_T120 x10 x12).f2)).bind fun qR => (if qR = true then (spec_GoodOp.l0 k x0 x10 x11 (wrap64 (x12 + 1))) else (some false))) else (none)) else (none)) else ((spec_l3Sizes.f k x0).bind fun qc => (if qc.1 ≤ 300 then (some (decide (qc.2 ≤ 300))) else (some false)))
def spec_GoodOp.f (k : Nat) (l0 : List (S120)) : Option (Bool) := if (l0.length : Int) > 60 then (some false) else (spec_GoodOp.l0 k l0 l0 (l0.length : Int) 0)
theorem spec_GoodOp.mono_l : ∀ k, (∀ y0 y1 y2 y3, LeO (spec_GoodOp.l0 k y0 y1 y2 y3) (spec_GoodOp.l0 (k + 1) y0 y1 y2 y3))
 | 0 => fun _ _ _ _ r h => by simp [spec_GoodOp.l0] at h
 | k + 1 => by
  have ih0 := spec_GoodOp.mono_l k
  ·intro y0 y1 y2 y3
   unfold spec_GoodOp.l0
   repeat' first
   | (with_reducible exact ih0 _ _ _ _)
   | (with_reducible exact spec_l3Part.mono _ _ _ _)
   | (with_reducible exact spec_l3Sizes.mono _ _)
   | (with_reducible exact LeO.refl _)
   | (with_reducible exact LeO.none _)
   | (with_reducible refine LeO.ite ?_ ?_)
   | (with_reducible refine LeO.bind ?_ (fun _ => ?_))
theorem spec_GoodOp.mono : ∀ a0 k, LeO (spec_GoodOp.f k a0) (spec_GoodOp.f (k + 1) a0) := by
 intro a0 k
 have ih0 := spec_GoodOp.mono_l k
 unfold spec_GoodOp.f
 repeat' first
   | (with_reducible exact ih0 _ _ _ _)
   | (with_reducible exact spec_l3Part.mono _ _ _ _)
   | (with_reducible exact spec_l3Sizes.mono _ _)
   | (with_reducible exact LeO.refl _)
   | (with_reducible exact LeO.none _)
   | (with_reducible refine LeO.ite ?_ ?_)
   | (with_reducible refine LeO.bind ?_ (fun _ => ?_))
set_option maxHeartbeats 8000000 in
set_option maxRecDepth 100000 in
theorem spec_GoodOp.calls (k : Nat) (A0 : Option Addr) (c0 : Nat) (l0 : List (S120)) (r : Bool) (w : World) (hr0 : Kd.C k120 w A0 l0.length l0) (hc0 : l0.length ≤ c0) (h : spec_GoodOp.f k l0 = some r) :
  Calls Try.prog 96 #[.slice A0 l0.length c0] w fun e w' => e = .returned (.bool r) ∧ Below w.heap.size w w' := by
 have hu120 := Try.underlying120
 have em := aM hr0
 have eV := aM hc0
 clear hr0 hc0
 have HB := aM (Below.refl w.heap.size w)
 have H : (if (l0.length : Int) > 60 then (some false) else (spec_GoodOp.l0 k l0 l0 (l0.length : Int) 0)) = some r := h
 clear h
 by_cases c2 : (l0.length : Int) > 60
 ·rw [if_pos c2] at H
  have c2b0 : decide (60 < (l0.length : Int)) = true := dT c2
  have c2b1 : decide (60 < l0.length) = true := dT (by omega)
  clear c2
  obtain rfl := sI H
  go_enter Try.func96, Try.ntmps96
  go_wp2
  go_ret
  exact ⟨y4, y5⟩
 ·rw [if_neg c2] at H
  have c2b0 : decide (60 < (l0.length : Int)) = false := dF c2
  have c2b1 : decide (60 < l0.length) = false := dF (by omega)
  clear c2
  have H' := aM H
  clear H
  go_enter Try.func96, Try.ntmps96
  go_wp2
  go_loopg [12] k (fun kq v12 w' => ∃ (x12_1 : Int), v12 = .int .i64 x12_1 ∧ Aside0 (spec_GoodOp.l0 kq l0 l0 (l0.length : Int) x12_1 = some r) ∧ Aside0 (kq ≤ k) ∧ Aside0 (Below w.heap.size w w'))
  case atStart => exact ⟨(0), z2, H', ⟨Nat.le_refl _⟩, ⟨y5⟩⟩
  case round =>
   clear H'
   try clear c2
   try clear c2b0
   try clear c2b1
   obtain ⟨x12_1, rfl, HA, HK1, HB⟩ := hrel
   cases gk with
   | zero => exact absurd HA.out (by simp [spec_GoodOp.l0])
   | succ k1 =>
    have H := HA.out
    clear HA
    simp only [spec_GoodOp.l0] at H
    by_cases c3 : x12_1 < (l0.length : Int)
    ·rw [if_pos c3] at H
     have c3b0 : decide (x12_1 < (l0.length : Int)) = true := dT c3
     clear c3
     by_cases c4 : 0 ≤ x12_1
     ·rw [if_pos c4] at H
      have c4b0 : decide (0 ≤ x12_1) = true := dT c4
      clear c4
      by_cases c5 : x12_1 < (l0.length : Int)
      ·rw [if_pos c5] at H
       have c5b0 : decide (x12_1 < (l0.length : Int)) = true := dT c5
       clear c5
       obtain ⟨qR, A6, H⟩ := oA_ H
       try dsimp only at H
       by_cases c7 : qR = true
       ·subst c7
        rw [if_pos rfl] at H
        have H' := aM H
        clear H
        have p256 : 0 ≤ (x12_1 : Int) := oD z3
        have q256 : x12_1 < (l0.length : Int) := oD z3
        obtain ⟨ad256, e256, hx256_0, hx256_1, hx256_2⟩ := at_T120 em.out x12_1 p256 q256
        cases e256
        replace hx256_0 := (HB.out.cell (World.block_lt_of_cell? w _ hx256_0)).trans hx256_0
        replace hx256_1 := (HB.out.cell (World.block_lt_of_cell? w _ hx256_1)).trans hx256_1
        replace hx256_2 := (HB.out.cell (World.block_lt_of_cell? w _ hx256_2)).trans hx256_2
        replace p256 := eq_true p256
        replace q256 := eq_true q256
        go_wp2_with (first | ((with_reducible refine aN (N := 4) rfl ?_); refine aQ ?hg (N := 4) ?hd (cs := #[.int .i64 0, .string ⟨#[]⟩, .string ⟨#[]⟩]) (t := 120) ?hr ?_; (case hd => rfl); (case hg => rfl); (case hr => first | (go_simp; done) | (go_simp; rfl)); intro fA hg w8 hbox hb; have eO := aM (hbox); have GW257 := aM ((by rw [hg]; exact (aC z20) : w.heap.size ≤ fA)); have lF := aM ((by rw [hg]; exact (aC z20) : w.heap.size ≤ fA)); replace HB := aM (aA z20 hb); clear hb hbox hg; obtain ⟨ic, ib, ia, iX, hV, hU⟩ := cc3 eO.out) | ((with_reducible refine aK (f := 98) rfl ?_); refine aT (some 17) rfl rfl Try.func98 z1 rfl #[.agg #[.int .i64 ((rd_T120 l0 x12_1).f0), .string ((rd_T120 l0 x12_1).f1), .string ((rd_T120 l0 x12_1).f2)]] rfl z21 ?_; (with_reducible refine (spec_l3Part.calls k1 ((rd_T120 l0 x12_1).f0) ((rd_T120 l0 x12_1).f1) ((rd_T120 l0 x12_1).f2) true _ A6.out).mono ?_); rintro e w10 ⟨rfl, hb⟩; refine ⟨_, rfl, ?_⟩; replace eO := aM (af (g := fA) (o := .cells #[.int .i64 ((rd_T120 l0 x12_1).f0), .string ((rd_T120 l0 x12_1).f1), .string ((rd_T120 l0 x12_1).f2)] 120 (0, 0)) (by (with_reducible repeat (first | refine au ?_ _ | refine ar ?_ | refine av ?_ _)); refine ax (cs := #[.int .i64 ((rd_T120 l0 x12_1).f0), .string ((rd_T120 l0 x12_1).f1), .string ⟨#[]⟩]) ?_ 2 _ rfl; (with_reducible repeat (first | refine au ?_ _ | refine ar ?_ | refine av ?_ _)); refine ax (cs := #[.int .i64 ((rd_T120 l0 x12_1).f0), .string ⟨#[]⟩, .string ⟨#[]⟩]) ?_ 1 _ rfl; (with_reducible repeat (first | refine au ?_ _ | refine ar ?_ | refine av ?_ _)); refine ax (cs := #[.int .i64 0, .string ⟨#[]⟩, .string ⟨#[]⟩]) ?_ 0 _ rfl; (with_reducible repeat (first | refine au ?_ _ | refine ar ?_ | refine av ?_ _)); exact eO.out) hb); replace HB := aM (aA (by repeat (first | (with_reducible first | exact HB.out | apply bA | apply pD | apply bD | refine az ?_ lF.out) | exact HB.out)) hb); (try clear hb)))
        go_roundg k1
        case measure => have := HK1.out; omega
        case rel => exact ⟨(wrap64 (x12_1 + 1)), z2, H', ⟨y0⟩, ⟨by repeat (first | (with_reducible first | exact HB.out | apply bA | apply pD | apply bD | refine az ?_ lF.out) | exact HB.out)⟩⟩
       ·replace c7 := Bool.eq_false_iff.mpr c7
        subst c7
        rw [if_neg nF_] at H
        obtain rfl := sI H
        have p256 : 0 ≤ (x12_1 : Int) := oD z3
        have q256 : x12_1 < (l0.length : Int) := oD z3
        obtain ⟨ad256, e256, hx256_0, hx256_1, hx256_2⟩ := at_T120 em.out x12_1 p256 q256
        cases e256
        replace hx256_0 := (HB.out.cell (World.block_lt_of_cell? w _ hx256_0)).trans hx256_0
        replace hx256_1 := (HB.out.cell (World.block_lt_of_cell? w _ hx256_1)).trans hx256_1
        replace hx256_2 := (HB.out.cell (World.block_lt_of_cell? w _ hx256_2)).trans hx256_2
        replace p256 := eq_true p256
        replace q256 := eq_true q256
        go_wp2_with (first | ((with_reducible refine aN (N := 4) rfl ?_); refine aQ ?hg (N := 4) ?hd (cs := #[.int .i64 0, .string ⟨#[]⟩, .string ⟨#[]⟩]) (t := 120) ?hr ?_; (case hd => rfl); (case hg => rfl); (case hr => first | (go_simp; done) | (go_simp; rfl)); intro fA hg w11 hbox hb; have eO := aM (hbox); have GW257 := aM ((by rw [hg]; exact (aC z20) : w.heap.size ≤ fA)); have lF := aM ((by rw [hg]; exact (aC z20) : w.heap.size ≤ fA)); replace HB := aM (aA z20 hb); clear hb hbox hg; obtain ⟨fN, hcz12_1, hcz12_2, fM, hfz12_1, hfz12_2⟩ := cc3 eO.out) | ((with_reducible refine aK (f := 98) rfl ?_); refine aT (some 17) rfl rfl Try.func98 z1 rfl #[.agg #[.int .i64 ((rd_T120 l0 x12_1).f0), .string ((rd_T120 l0 x12_1).f1), .string ((rd_T120 l0 x12_1).f2)]] rfl z21 ?_; (with_reducible refine (spec_l3Part.calls k1 ((rd_T120 l0 x12_1).f0) ((rd_T120 l0 x12_1).f1) ((rd_T120 l0 x12_1).f2) false _ A6.out).mono ?_); rintro e w13 ⟨rfl, hb⟩; refine ⟨_, rfl, ?_⟩; replace eO := aM (af (g := fA) (o := .cells #[.int .i64 ((rd_T120 l0 x12_1).f0), .string ((rd_T120 l0 x12_1).f1), .string ((rd_T120 l0 x12_1).f2)] 120 (0, 0)) (by (with_reducible repeat (first | refine au ?_ _ | refine ar ?_ | refine av ?_ _)); refine ax (cs := #[.int .i64 ((rd_T120 l0 x12_1).f0), .string ((rd_T120 l0 x12_1).f1), .string ⟨#[]⟩]) ?_ 2 _ rfl; (with_reducible repeat (first | refine au ?_ _ | refine ar ?_ | refine av ?_ _)); refine ax (cs := #[.int .i64 ((rd_T120 l0 x12_1).f0), .string ⟨#[]⟩, .string ⟨#[]⟩]) ?_ 1 _ rfl; (with_reducible repeat (first | refine au ?_ _ | refine ar ?_ | refine av ?_ _)); refine ax (cs := #[.int .i64 0, .string ⟨#[]⟩, .string ⟨#[]⟩]) ?_ 0 _ rfl; (with_reducible repeat (first | refine au ?_ _ | refine ar ?_ | refine av ?_ _)); exact eO.out) hb); replace HB := aM (aA (by repeat (first | (with_reducible first | exact HB.out | apply bA | apply pD | apply bD | refine az ?_ lF.out) | exact HB.out)) hb); (try clear hb)))
        go_ret
        exact ⟨y4, by repeat (first | (with_reducible first | exact HB.out | apply bA | apply pD | apply bD | refine az ?_ lF.out) | exact HB.out)⟩
      ·rw [if_neg c5] at H
       exact absurd H (by simp)
     ·rw [if_neg c4] at H
      exact absurd H (by simp)
    ·rw [if_neg c3] at H
     have c3b0 : decide (x12_1 < (l0.length : Int)) = false := dF c3
     clear c3
     obtain ⟨⟨oe, rQ⟩, g9, H⟩ := oA_ H
     try dsimp only at H
     by_cases fe : oe ≤ 300
     ·rw [if_pos fe] at H
      have c15b0 : decide (oe ≤ 300) = true := dT fe
      clear fe
      obtain rfl := sI H
      go_wp2_with (first | ((with_reducible refine aK (f := 99) rfl ?_); refine aT (some 22) rfl rfl Try.func99 z1 rfl #[.slice A0 l0.length c0] rfl z21 ?_; (with_reducible refine (spec_l3Sizes.calls k1 _ _ l0 oe rQ _ ?side1 ?side2 g9.out).mono ?_); (case side1 => exact y41); (case side2 => exact eV.out); rintro e w16 ⟨rfl, hb⟩; refine ⟨_, rfl, ?_⟩; replace HB := aM (aA z20 hb); (try clear hb)))
      go_ret
      exact ⟨y4, y5⟩
     ·rw [if_neg fe] at H
      have c15b0 : decide (oe ≤ 300) = false := dF fe
      clear fe
      obtain rfl := sI H
      go_wp2_with (first | ((with_reducible refine aK (f := 99) rfl ?_); refine aT (some 22) rfl rfl Try.func99 z1 rfl #[.slice A0 l0.length c0] rfl z21 ?_; (with_reducible refine (spec_l3Sizes.calls k1 _ _ l0 oe rQ _ ?side1 ?side2 g9.out).mono ?_); (case side1 => exact y41); (case side2 => exact eV.out); rintro e w17 ⟨rfl, hb⟩; refine ⟨_, rfl, ?_⟩; replace HB := aM (aA z20 hb); (try clear hb)))
      go_ret
      exact ⟨y4, y5⟩

/-! ### spec_l3Apply: function 97 -/
mutual
def spec_l3Apply.l0 : Nat → ByteArray → ByteArray → List (S120) → Int → Int → Option (ByteArray × Bool)
 | 0, _, _, _, _, _ => none
 | k + 1, x1, x6, x10, x11, x12 => if x12 < x11 then (if 0 ≤ x12 then (if x12 < (x10.length : Int) then (if (wrap64 (((rd_T120 x10 x12).f0) + (((rd_T120 x10 x12).f2).size : Int))) > (x1.size : Int) then (spec_l3Apply.j1 k x1 x6 (wrap64 (((rd_T120 x10 x12).f0) + (((rd_T120 x10 x12).f2).size : Int))) x10 x11 x12 true ((rd_T120 x10 x12).f0) ((rd_T120 x10 x12).f1) ((rd_T120 x10 x12).f2)) else (if ((rd_T120 x10 x12).f2).toList = ([] : List UInt8) then (spec_l3Apply.j1 k x1 x6 (wrap64 (((rd_T120 x10 x12).f0) + (((rd_T120 x10 x12).f2).size : Int))) x10 x11 x12 false ((rd_T120 x10 x12).f0) ((rd_T120 x10 x12).f1) ((rd_T120 x10 x12).f2)) else (if 0 ≤ (wrap64 (((rd_T120 x10 x12).f0) + (((rd_T120 x10 x12).f2).size : Int))) then (if (wrap64 (((rd_T120 x10 x12).f0) + (((rd_T120 x10 x12).f2).size : Int))) ≤ (x1.size : Int) then (spec_l3Apply.j1 k x1 x6 (wrap64 (((rd_T120 x10 x12).f0) + (((rd_T120 x10 x12).f2).size : Int))) x10 x11 x12 ((x1.extract 0 ((wrap64 (((rd_T120 x10 x12).f0) + (((rd_T120 x10 x12).f2).size : Int))) : Int).toNat).toList != ((rd_T120 x10 x12).f2).toList) ((rd_T120 x10 x12).f0) ((rd_T120 x10 x12).f1) ((rd_T120 x10 x12).f2)) else (none)) else (none)))) else (none)) else (none)) else (some (x6, (x1.toList == ([] : List UInt8))))
def spec_l3Apply.j1 : Nat → ByteArray → ByteArray → Int → List (S120) → Int → Int → Bool → Int → ByteArray → ByteArray → Option (ByteArray × Bool)
 | 0, _, _, _, _, _, _, _, _, _, _ => none
 | k + 1, x1, x6, x9, x10, x11, x12, x38, x263000, x263001, x263002 => if x38 = true then (some ((⟨#[]⟩ : ByteArray), false)) else (if x263000 > 0 then (if 0 ≤ x9 then (if x9 ≤ (x1.size : Int) then (if x6.size + (x1.extract 0 (x9 : Int).toNat).size ≤ 9223372036854775807 then (if (x6 ++ (x1.extract 0 (x9 : Int).toNat)).size + x263001.size ≤ 9223372036854775807 then (spec_l3Apply.l0 k (x1.extract (x9 : Int).toNat x1.size) ((x6 ++ (x1.extract 0 (x9 : Int).toNat)) ++ x263001) x10 x11 (wrap64 (x12 + 1))) else (none)) else (none)) else (none)) else (none)) else (if x6.size + x263001.size ≤ 9223372036854775807 then (if 0 ≤ x9 then (if x9 ≤ (x1.size : Int) then (spec_l3Apply.l0 k (x1.extract (x9 : Int).toNat x1.size) (x6 ++ x263001) x10 x11 (wrap64 (x12 + 1))) else (none)) else (none)) else (none)))
end
def spec_l3Apply.f (k : Nat) (l0 : List (S120)) (a1 : ByteArray) : Option (ByteArray × Bool) := spec_l3Apply.l0 k a1 (⟨#[]⟩ : ByteArray) l0 (l0.length : Int) 0
theorem spec_l3Apply.mono_l : ∀ k, (∀ y0 y1 y2 y3 y4, LeO (spec_l3Apply.l0 k y0 y1 y2 y3 y4) (spec_l3Apply.l0 (k + 1) y0 y1 y2 y3 y4)) ∧ (∀ y0 y1 y2 y3 y4 y5 y6 y7 y8 y9, LeO (spec_l3Apply.j1 k y0 y1 y2 y3 y4 y5 y6 y7 y8 y9) (spec_l3Apply.j1 (k + 1) y0 y1 y2 y3 y4 y5 y6 y7 y8 y9))
 | 0 => ⟨fun _ _ _ _ _ r h => by simp [spec_l3Apply.l0] at h, fun _ _ _ _ _ _ _ _ _ _ r h => by simp [spec_l3Apply.j1] at h⟩
 | k + 1 => by
  obtain ⟨ih0, ih1⟩ := spec_l3Apply.mono_l k
  refine ⟨?_, ?_⟩
  ·intro y0 y1 y2 y3 y4
   unfold spec_l3Apply.l0
   repeat' first
   | (with_reducible exact ih0 _ _ _ _ _)
   | (with_reducible exact ih1 _ _ _ _ _ _ _ _ _ _)
   | (with_reducible exact LeO.refl _)
   | (with_reducible exact LeO.none _)
   | (with_reducible refine LeO.ite ?_ ?_)
   | (with_reducible refine LeO.bind ?_ (fun _ => ?_))
  ·intro y0 y1 y2 y3 y4 y5 y6 y7 y8 y9
   unfold spec_l3Apply.j1
   repeat' first
   | (with_reducible exact ih0 _ _ _ _ _)
   | (with_reducible exact ih1 _ _ _ _ _ _ _ _ _ _)
   | (with_reducible exact LeO.refl _)
   | (with_reducible exact LeO.none _)
   | (with_reducible refine LeO.ite ?_ ?_)
   | (with_reducible refine LeO.bind ?_ (fun _ => ?_))
theorem spec_l3Apply.mono : ∀ a0 a1 k, LeO (spec_l3Apply.f k a0 a1) (spec_l3Apply.f (k + 1) a0 a1) := by
 intro a0 a1 k
 obtain ⟨ih0, ih1⟩ := spec_l3Apply.mono_l k
 unfold spec_l3Apply.f
 repeat' first
   | (with_reducible exact ih0 _ _ _ _ _)
   | (with_reducible exact ih1 _ _ _ _ _ _ _ _ _ _)
   | (with_reducible exact LeO.refl _)
   | (with_reducible exact LeO.none _)
   | (with_reducible refine LeO.ite ?_ ?_)
   | (with_reducible refine LeO.bind ?_ (fun _ => ?_))
set_option maxHeartbeats 8000000 in
set_option maxRecDepth 100000 in
theorem spec_l3Apply.calls (k : Nat) (A0 : Option Addr) (c0 : Nat) (l0 : List (S120)) (a1 : ByteArray) (r1 : ByteArray) (r2 : Bool) (w : World) (hr0 : Kd.C k120 w A0 l0.length l0) (hc0 : l0.length ≤ c0) (h : spec_l3Apply.f k l0 a1 = some (r1, r2)) :
  Calls Try.prog 97 #[.slice A0 l0.length c0, .string a1] w fun e w' => e = .returned (.tuple #[.string r1, .bool r2]) ∧ Below w.heap.size w w' := by
 have hu120 := Try.underlying120
 have em := aM hr0
 have eV := aM hc0
 clear hr0 hc0
 have HB := aM (Below.refl w.heap.size w)
 have H : (spec_l3Apply.l0 k a1 (⟨#[]⟩ : ByteArray) l0 (l0.length : Int) 0) = some (r1, r2) := h
 clear h
 have H' := aM H
 clear H
 go_enter Try.func97, Try.ntmps97
 go_wp2
 repeat (go_quiet (fail); try go_wp2)
 go_loopg [1, 6, 12] k (fun kq v1 v6 v12 w' => ∃ (x1_1 : ByteArray) (x6_1 : ByteArray) (x12_1 : Int), v1 = .string x1_1 ∧ v6 = .string x6_1 ∧ v12 = .int .i64 x12_1 ∧ Aside0 (spec_l3Apply.l0 kq x1_1 x6_1 l0 (l0.length : Int) x12_1 = some (r1, r2)) ∧ Aside0 (kq ≤ k) ∧ Aside0 (Below w.heap.size w w'))
 case atStart => exact ⟨(a1), ((⟨#[]⟩ : ByteArray)), (0), z2, z2, z2, H', ⟨Nat.le_refl _⟩, ⟨y5⟩⟩
 case round =>
  clear H'
  obtain ⟨x1_1, x6_1, x12_1, rfl, rfl, rfl, HA, HK1, HB⟩ := hrel
  cases gk with
  | zero => exact absurd HA.out (by simp [spec_l3Apply.l0])
  | succ k1 =>
   have H := HA.out
   clear HA
   simp only [spec_l3Apply.l0] at H
   by_cases c3 : x12_1 < (l0.length : Int)
   ·rw [if_pos c3] at H
    have c3b0 : decide (x12_1 < (l0.length : Int)) = true := dT c3
    clear c3
    by_cases c4 : 0 ≤ x12_1
    ·rw [if_pos c4] at H
     have c4b0 : decide (0 ≤ x12_1) = true := dT c4
     clear c4
     by_cases c5 : x12_1 < (l0.length : Int)
     ·rw [if_pos c5] at H
      have c5b0 : decide (x12_1 < (l0.length : Int)) = true := dT c5
      clear c5
      have jV := aM H
      clear H
      have p261 : 0 ≤ (x12_1 : Int) := oD z3
      have q261 : x12_1 < (l0.length : Int) := oD z3
      obtain ⟨ad261, e261, hx261_0, hx261_1, hx261_2⟩ := at_T120 em.out x12_1 p261 q261
      cases e261
      replace hx261_0 := (HB.out.cell (World.block_lt_of_cell? w _ hx261_0)).trans hx261_0
      replace hx261_1 := (HB.out.cell (World.block_lt_of_cell? w _ hx261_1)).trans hx261_1
      replace hx261_2 := (HB.out.cell (World.block_lt_of_cell? w _ hx261_2)).trans hx261_2
      replace p261 := eq_true p261
      replace q261 := eq_true q261
      go_upto_region 6 with (first | ((with_reducible refine aN (N := 8) rfl ?_); refine aQ ?hg (N := 8) ?hd (cs := #[.int .i64 0, .string ⟨#[]⟩, .string ⟨#[]⟩]) (t := 120) ?hr ?_; (case hd => rfl); (case hg => rfl); (case hr => first | (go_simp; done) | (go_simp; rfl)); intro dL hg w7 hbox hb; have cz := aM (hbox); have ql := aM ((by rw [hg]; exact (aC z20) : w.heap.size ≤ dL)); have qn := aM ((by rw [hg]; exact (aC z20) : w.heap.size ≤ dL)); replace HB := aM (aA z20 hb); clear hb hbox hg; obtain ⟨ja, i7, i6, kk, iZ, iY⟩ := cc3 cz.out))
      repeat (go_quiet (fail); go_upto_region 6 with (first | ((with_reducible refine aN (N := 8) rfl ?_); refine aQ ?hg (N := 8) ?hd (cs := #[.int .i64 0, .string ⟨#[]⟩, .string ⟨#[]⟩]) (t := 120) ?hr ?_; (case hd => rfl); (case hg => rfl); (case hr => first | (go_simp; done) | (go_simp; rfl)); intro dL hg w7 hbox hb; have cz := aM (hbox); have ql := aM ((by rw [hg]; exact (aC z20) : w.heap.size ≤ dL)); have qn := aM ((by rw [hg]; exact (aC z20) : w.heap.size ≤ dL)); replace HB := aM (aA z20 hb); clear hb hbox hg; obtain ⟨ja, i7, i6, kk, iZ, iY⟩ := cc3 cz.out)))
      (try simp only [Act.put, sA, sB, sC])
      go_cut [38] (fun v38 wc => ∃ (kq : Nat) (x38_5 : Bool), v38 = .bool x38_5 ∧ Aside0 (spec_l3Apply.j1 kq x1_1 x6_1 (wrap64 (((rd_T120 l0 x12_1).f0) + (((rd_T120 l0 x12_1).f2).size : Int))) l0 (l0.length : Int) x12_1 x38_5 ((rd_T120 l0 x12_1).f0) ((rd_T120 l0 x12_1).f1) ((rd_T120 l0 x12_1).f2) = some (r1, r2)) ∧ Aside0 (kq ≤ k1) ∧ Aside0 (wc.heap[dL]? = some (.cells #[.int .i64 ((rd_T120 l0 x12_1).f0), .string ((rd_T120 l0 x12_1).f1), .string ((rd_T120 l0 x12_1).f2)] 120 (0, 0))) ∧ Aside0 (Below w.heap.size w wc))
      case first =>
       have H := jV.out
       clear jV
       by_cases c9 : (wrap64 (((rd_T120 l0 x12_1).f0) + (((rd_T120 l0 x12_1).f2).size : Int))) > (x1_1.size : Int)
       ·rw [if_pos c9] at H
        have c9b0 : decide ((x1_1.size : Int) < (wrap64 (((rd_T120 l0 x12_1).f0) + (((rd_T120 l0 x12_1).f2).size : Int)))) = true := dT c9
        clear c9
        (first | rw [c9b0] | (simp only [i64_w, i32_w]; rw [c9b0]) | skip)
        have H' := aM H
        clear H
        go_wp2
        repeat (go_quiet (fail); try go_wp2)
        go_meet
        case rel => exact ⟨_, (true), z2, H', ⟨y2⟩, ⟨y30⟩, ⟨y10⟩⟩
       ·rw [if_neg c9] at H
        have c9b0 : decide ((x1_1.size : Int) < (wrap64 (((rd_T120 l0 x12_1).f0) + (((rd_T120 l0 x12_1).f2).size : Int)))) = false := dF c9
        clear c9
        (first | rw [c9b0] | (simp only [i64_w, i32_w]; rw [c9b0]) | skip)
        by_cases eH : ((rd_T120 l0 x12_1).f2).toList = ([] : List UInt8)
        ·rw [if_pos eH] at H
         have c10b0 : (((rd_T120 l0 x12_1).f2).toList == ([] : List UInt8)) = true := qT eH
         have c10b1 : (((rd_T120 l0 x12_1).f2).toList != ([] : List UInt8)) = false := nF eH
         clear eH
         have H' := aM H
         clear H
         obtain ⟨nx, nw, nv, mK, mJ, mI⟩ := cc3 cz.out
         go_wp2
         all_goals (try (exfalso; rename_i h_; rw [c10b0] at h_; cases h_; done))
         repeat (go_quiet (fail); try go_wp2)
         all_goals (try (exfalso; rename_i h_; rw [c10b0] at h_; cases h_; done))
         go_meet
         case rel => exact ⟨_, (false), z2, H', ⟨y2⟩, ⟨y30⟩, ⟨y10⟩⟩
        ·rw [if_neg eH] at H
         have c10b0 : (((rd_T120 l0 x12_1).f2).toList == ([] : List UInt8)) = false := qF eH
         have c10b1 : (((rd_T120 l0 x12_1).f2).toList != ([] : List UInt8)) = true := nT eH
         obtain ⟨jM, iW⟩ : ∃ j_ : Int, (wrap64 (((rd_T120 l0 x12_1).f0) + (((rd_T120 l0 x12_1).f2).size : Int))) = j_ := ⟨_, rfl⟩
         replace H : (if 0 ≤ (jM) then (if (jM) ≤ (x1_1.size : Int) then (spec_l3Apply.j1 k1 x1_1 x6_1 jM l0 (l0.length : Int) x12_1 ((x1_1.extract 0 ((jM) : Int).toNat).toList != ((rd_T120 l0 x12_1).f2).toList) ((rd_T120 l0 x12_1).f0) ((rd_T120 l0 x12_1).f1) ((rd_T120 l0 x12_1).f2)) else (none)) else (none)) = some (r1, r2) := by first | (rw [iW] at H; exact H) | (simp only [iW] at H ⊢; exact H)
         (try rw [iW] at c9b0)
         have hji12w : (IntKind.i64.wrap (((rd_T120 l0 x12_1).f0) + (((rd_T120 l0 x12_1).f2).size : Int))) = jM := (i64_w _).trans iW
         by_cases fj : 0 ≤ (jM)
         ·rw [if_pos fj] at H
          have c13b0 := eq_true fj
          have c13b1 : decide (0 ≤ (jM)) = true := dT fj
          clear fj
          by_cases f5 : (jM) ≤ (x1_1.size : Int)
          ·rw [if_pos f5] at H
           have c14b0 := eq_true f5
           have c14b1 : decide ((jM) ≤ (x1_1.size : Int)) = true := dT f5
           clear f5
           have H' := aM H
           clear H
           obtain ⟨iJ, kY, kX, iH, kC, kB⟩ := cc3 cz.out
           go_wp2
           all_goals (try (exfalso; rename_i h_; rw [c10b0] at h_; cases h_; done))
           repeat (go_quiet (fail); try go_wp2)
           all_goals (try (exfalso; rename_i h_; rw [c10b0] at h_; cases h_; done))
           go_meet
           case rel => exact ⟨_, (((x1_1.extract 0 ((jM) : Int).toNat).toList != ((rd_T120 l0 x12_1).f2).toList)), (by first | rfl | (simp; done) | (simp only [← iW] <;> (first | rfl | (simp; done) | (simp; generalize ByteArray.toList _ = u_; cases u_ <;> (first | rfl | (simp; done))))) | (simp [*]; done)), (by first | exact H' | (simp only [iW]; exact H') | (simp only [← iW]; exact H')), ⟨y2⟩, ⟨y30⟩, ⟨y10⟩⟩
          ·rw [if_neg f5] at H
           exact absurd H (by simp)
         ·rw [if_neg fj] at H
          exact absurd H (by simp)
      case rest =>
       clear jV
       try clear p2
       try clear c3
       try clear c3b0
       try clear c4
       try clear c4b0
       try clear c5
       try clear c5b0
       try clear ja
       try clear i7
       try clear i6
       try clear kk
       try clear iZ
       try clear iY
       try clear hx261_0
       try clear hx261_1
       try clear hx261_2
       try clear p2
       try clear p261
       try clear q261
       obtain ⟨kq, x38_5, rfl, HA, o4, cz, HB⟩ := hcut
       cases kq with
       | zero => exact absurd HA.out (by simp [spec_l3Apply.j1])
       | succ kj5 =>
        have H := HA.out
        clear HA
        simp only [spec_l3Apply.j1] at H
        by_cases fS : x38_5 = true
        ·subst fS
         rw [if_pos rfl] at H
         simp only [Option.some.injEq, Prod.mk.injEq] at H
         obtain ⟨rfl, rfl⟩ := H
         go_wp2
         repeat (go_quiet (fail); try go_wp2)
         go_ret2
         exact ⟨y4, y10⟩
        ·replace fS := Bool.eq_false_iff.mpr fS
         subst fS
         rw [if_neg nF_] at H
         by_cases gE : ((rd_T120 l0 x12_1).f0) > 0
         ·rw [if_pos gE] at H
          have c17b0 : decide (0 < ((rd_T120 l0 x12_1).f0)) = true := dT gE
          clear gE
          obtain ⟨e6, iV⟩ : ∃ j_ : Int, (wrap64 (((rd_T120 l0 x12_1).f0) + (((rd_T120 l0 x12_1).f2).size : Int))) = j_ := ⟨_, rfl⟩
          replace H : (if 0 ≤ (e6) then (if (e6) ≤ (x1_1.size : Int) then (if x6_1.size + (x1_1.extract 0 ((e6) : Int).toNat).size ≤ 9223372036854775807 then (if (x6_1 ++ (x1_1.extract 0 ((e6) : Int).toNat)).size + ((rd_T120 l0 x12_1).f1).size ≤ 9223372036854775807 then (spec_l3Apply.l0 kj5 (x1_1.extract ((e6) : Int).toNat x1_1.size) ((x6_1 ++ (x1_1.extract 0 ((e6) : Int).toNat)) ++ ((rd_T120 l0 x12_1).f1)) l0 (l0.length : Int) (wrap64 (x12_1 + 1))) else (none)) else (none)) else (none)) else (none)) = some (r1, r2) := by first | (rw [iV] at H; exact H) | (simp only [iV] at H ⊢; exact H)
          have hji18w : (IntKind.i64.wrap (((rd_T120 l0 x12_1).f0) + (((rd_T120 l0 x12_1).f2).size : Int))) = e6 := (i64_w _).trans iV
          by_cases pm : 0 ≤ (e6)
          ·rw [if_pos pm] at H
           have c19b0 := eq_true pm
           have c19b1 : decide (0 ≤ (e6)) = true := dT pm
           clear pm
           by_cases oK : (e6) ≤ (x1_1.size : Int)
           ·rw [if_pos oK] at H
            have c20b0 := eq_true oK
            have c20b1 : decide ((e6) ≤ (x1_1.size : Int)) = true := dT oK
            clear oK
            by_cases oJ : x6_1.size + (x1_1.extract 0 ((e6) : Int).toNat).size ≤ 9223372036854775807
            ·rw [if_pos oJ] at H
             have c21b0 := eq_true oJ
             have c21b1 : decide (x6_1.size + (x1_1.extract 0 ((e6) : Int).toNat).size ≤ 9223372036854775807) = true := dT oJ
             (try (have c21b1m := c21b1; simp only [a7, Nat.sub_zero] at c21b1m))
             (try (have c21b0m := c21b0; simp only [a7, Nat.sub_zero] at c21b0m))
             try have c21b2 : (9223372036854775807 < x6_1.size + (x1_1.extract 0 ((e6) : Int).toNat).size) = False := eq_false (Nat.not_lt.2 oJ)
             (try (have c21x : (9223372036854775807 < x6_1.size + (e6).toNat) = False := eq_false (fun h_ => by have e_ := of_eq_true c21b0; simp only [a7, a6] at e_; have f0_ : (e6) ≤ (x1_1.size : Int) := (by first | assumption | exact of_eq_true (by assumption) | exact oD (by assumption)); omega)))
             by_cases ri : (x6_1 ++ (x1_1.extract 0 ((e6) : Int).toNat)).size + ((rd_T120 l0 x12_1).f1).size ≤ 9223372036854775807
             ·rw [if_pos ri] at H
              have c22b0 := eq_true ri
              have c22b1 : decide ((x6_1 ++ (x1_1.extract 0 ((e6) : Int).toNat)).size + ((rd_T120 l0 x12_1).f1).size ≤ 9223372036854775807) = true := dT ri
              try have c22b2 : (9223372036854775807 < (x6_1 ++ (x1_1.extract 0 ((e6) : Int).toNat)).size + ((rd_T120 l0 x12_1).f1).size) = False := eq_false (Nat.not_lt.2 ri)
              (try (have c22x : (9223372036854775807 < (x6_1.size + (e6).toNat) + ((rd_T120 l0 x12_1).f1).size) = False := eq_false (fun h_ => by have e_ := of_eq_true c22b0; simp only [a7, a6] at e_; have f0_ : (e6) ≤ (x1_1.size : Int) := (by first | assumption | exact of_eq_true (by assumption) | exact oD (by assumption)); omega)))
              (try (have c22b2s := c22b2; simp only [a6] at c22b2s))
              have c23b0 := eq_true (oD z3 : 0 ≤ (e6))
              have c24b0 := eq_true (oD z3 : (e6) ≤ (x1_1.size : Int))
              have H' := aM H
              clear H
              obtain ⟨hcz25_0, hcz25_1, hcz25_2, hfz25_0, hfz25_1, hfz25_2⟩ := cc3 cz.out
              go_wp2
              repeat (go_quiet (fail); try go_wp2)
              go_roundg kj5
              case measure => have := HK1.out; have := o4.out; omega
              case rel => exact ⟨(x1_1.extract ((e6) : Int).toNat x1_1.size), ((x6_1 ++ (x1_1.extract 0 ((e6) : Int).toNat)) ++ ((rd_T120 l0 x12_1).f1)), (wrap64 (x12_1 + 1)), (by first | rfl | (simp; done) | (simp only [← iV] <;> (first | rfl | (simp; done) | (simp; generalize ByteArray.toList _ = u_; cases u_ <;> (first | rfl | (simp; done))))) | (simp [*]; done)), (by first | rfl | (simp; done) | (simp only [← iV] <;> (first | rfl | (simp; done) | (simp; generalize ByteArray.toList _ = u_; cases u_ <;> (first | rfl | (simp; done))))) | (simp [*]; done)), z2, (by first | exact H' | (simp only [iV]; exact H') | (simp only [← iV]; exact H')), ⟨by have := HK1.out; have := o4.out; omega⟩, ⟨y10⟩⟩
             ·rw [if_neg ri] at H
              exact absurd H (by simp)
            ·rw [if_neg oJ] at H
             exact absurd H (by simp)
           ·rw [if_neg oK] at H
            exact absurd H (by simp)
          ·rw [if_neg pm] at H
           exact absurd H (by simp)
         ·rw [if_neg gE] at H
          have c17b0 : decide (0 < ((rd_T120 l0 x12_1).f0)) = false := dF gE
          clear gE
          by_cases rh : x6_1.size + ((rd_T120 l0 x12_1).f1).size ≤ 9223372036854775807
          ·rw [if_pos rh] at H
           have c26b0 := eq_true rh
           have c26b1 : decide (x6_1.size + ((rd_T120 l0 x12_1).f1).size ≤ 9223372036854775807) = true := dT rh
           try have c26b2 : (9223372036854775807 < x6_1.size + ((rd_T120 l0 x12_1).f1).size) = False := eq_false (Nat.not_lt.2 rh)
           obtain ⟨kj, jP⟩ : ∃ j_ : Int, (wrap64 (((rd_T120 l0 x12_1).f0) + (((rd_T120 l0 x12_1).f2).size : Int))) = j_ := ⟨_, rfl⟩
           replace H : (if 0 ≤ (kj) then (if (kj) ≤ (x1_1.size : Int) then (spec_l3Apply.l0 kj5 (x1_1.extract ((kj) : Int).toNat x1_1.size) (x6_1 ++ ((rd_T120 l0 x12_1).f1)) l0 (l0.length : Int) (wrap64 (x12_1 + 1))) else (none)) else (none)) = some (r1, r2) := by first | (rw [jP] at H; exact H) | (simp only [jP] at H ⊢; exact H)
           have hji27w : (IntKind.i64.wrap (((rd_T120 l0 x12_1).f0) + (((rd_T120 l0 x12_1).f2).size : Int))) = kj := (i64_w _).trans jP
           by_cases nW : 0 ≤ (kj)
           ·rw [if_pos nW] at H
            have c28b0 := eq_true nW
            have c28b1 : decide (0 ≤ (kj)) = true := dT nW
            clear nW
            by_cases gY : (kj) ≤ (x1_1.size : Int)
            ·rw [if_pos gY] at H
             have c29b0 := eq_true gY
             have c29b1 : decide ((kj) ≤ (x1_1.size : Int)) = true := dT gY
             clear gY
             have H' := aM H
             clear H
             obtain ⟨hcz30_0, hcz30_1, hcz30_2, hfz30_0, hfz30_1, hfz30_2⟩ := cc3 cz.out
             go_wp2
             repeat (go_quiet (fail); try go_wp2)
             go_roundg kj5
             case measure => have := HK1.out; have := o4.out; omega
             case rel => exact ⟨(x1_1.extract ((kj) : Int).toNat x1_1.size), (x6_1 ++ ((rd_T120 l0 x12_1).f1)), (wrap64 (x12_1 + 1)), (by first | rfl | (simp; done) | (simp only [← jP] <;> (first | rfl | (simp; done) | (simp; generalize ByteArray.toList _ = u_; cases u_ <;> (first | rfl | (simp; done))))) | (simp [*]; done)), z2, z2, (by first | exact H' | (simp only [jP]; exact H') | (simp only [← jP]; exact H')), ⟨by have := HK1.out; have := o4.out; omega⟩, ⟨y10⟩⟩
            ·rw [if_neg gY] at H
             exact absurd H (by simp)
           ·rw [if_neg nW] at H
            exact absurd H (by simp)
          ·rw [if_neg rh] at H
           exact absurd H (by simp)
     ·rw [if_neg c5] at H
      exact absurd H (by simp)
    ·rw [if_neg c4] at H
     exact absurd H (by simp)
   ·rw [if_neg c3] at H
    have c3b0 : decide (x12_1 < (l0.length : Int)) = false := dF c3
    clear c3
    simp only [Option.some.injEq, Prod.mk.injEq] at H
    obtain ⟨rfl, rfl⟩ := H
    go_wp2
    repeat (go_quiet (fail); try go_wp2)
    go_ret2
    exact ⟨y4, y5⟩

end Go.Proofs.Ytmkenlejdaphnaa.AFnRopes
