-- this session's own text: written by wip/tools/ownprint.py over the kit's print
import Derived.Test.YtmigfgcpdelnfaaAFnCommandsx0
import Derived.Test.YtmigfgcpdelnfaaAFnCommandsx2
import Derived.Test.YtmigfgcpdelnfaaAFnCommandsx7
import Derived.Test.YtmigfgcpdelnfaaAFnCommandsx12
import Derived.Test.YtmigfgcpdelnfaaAFnCommandsx13
namespace Go.Proofs.Ytmigfgcpdelnfaa.AFnCommands
open Go.RowKit Go.Proofs.YtmigfgcpdelnfaaW.PrintWords Go.Proofs.YtmigfgcpdelnfaaW.PrintLast Go.Proofs.YtmigfgcpdelnfaaW.PrintMore
attribute [local go_sem] max2_int min2_int max_two min_two max_three min_three max_four min_four   -- for this text's walks alone
set_option linter.unusedVariables false
set_option linter.unusedSimpArgs false

/-! ### spec_CompileCommand: function 19 -/
def spec_CompileCommand.f (k : Nat) (a0 : ByteArray) (a1_0 : Int) (a1_1 : Int) (a1_2 : Int) (a1_3 : ByteArray) : Option ((List (S61)) × Bool) := (spec_GoodDoc.f k a0).bind fun pJ => (if pJ = true then ((spec_l8Do.f k a0 a1_0 a1_1 a1_2 a1_3).bind fun jh => (if jh.2.2 = true then ((spec_GoodOp.f k jh.1).bind fun pH => (if pH = true then (some (jh.1, true)) else (some (([] : List (S61)), false)))) else (some (([] : List (S61)), false)))) else (some (([] : List (S61)), false)))
theorem spec_CompileCommand.mono : ∀ a0 a1 a2 a3 a4 k, LeO (spec_CompileCommand.f k a0 a1 a2 a3 a4) (spec_CompileCommand.f (k + 1) a0 a1 a2 a3 a4) := by
 intro a0 a1 a2 a3 a4 k
 unfold spec_CompileCommand.f
 repeat' first
   | (with_reducible exact spec_GoodDoc.mono _ _)
   | (with_reducible exact spec_GoodOp.mono _ _)
   | (with_reducible exact spec_l8Do.mono _ _ _ _ _ _)
   | (with_reducible exact LeO.refl _)
   | (with_reducible exact LeO.none _)
   | (with_reducible refine LeO.ite ?_ ?_)
   | (with_reducible refine LeO.bind ?_ (fun _ => ?_))
set_option maxHeartbeats 8000000 in
set_option maxRecDepth 100000 in
theorem spec_CompileCommand.calls (k : Nat) (a0 : ByteArray) (a1_0 : Int) (a1_1 : Int) (a1_2 : Int) (a1_3 : ByteArray) (r1 : List (S61)) (r2 : Bool) (w : World) (h : spec_CompileCommand.f k a0 a1_0 a1_1 a1_2 a1_3 = some (r1, r2)) :
  Calls Try.prog 19 #[.string a0, .agg #[.int .i64 a1_0, .int .i64 a1_1, .int .i64 a1_2, .string a1_3]] w fun e w' => ∃ v0_ : Value, e = .returned (.tuple #[v0_, .bool r2]) ∧ Kd.R k61 61 w' w.heap.size (fun _ => True) v0_ r1 ∧ Below w.heap.size w w' := by
 have hu29 := Try.underlying29
 have HB := aM (Below.refl w.heap.size w)
 have H : ((spec_GoodDoc.f k a0).bind fun pJ => (if pJ = true then ((spec_l8Do.f k a0 a1_0 a1_1 a1_2 a1_3).bind fun jh => (if jh.2.2 = true then ((spec_GoodOp.f k jh.1).bind fun pH => (if pH = true then (some (jh.1, true)) else (some (([] : List (S61)), false)))) else (some (([] : List (S61)), false)))) else (some (([] : List (S61)), false)))) = some (r1, r2) := h
 clear h
 obtain ⟨pJ, A3, H⟩ := oA_ H
 try dsimp only at H
 by_cases c4 : pJ = true
 ·subst c4
  rw [if_pos rfl] at H
  obtain ⟨⟨pI, sT, t399⟩, A5, H⟩ := oA_ H
  try dsimp only at H
  by_cases c6 : t399 = true
  ·subst c6
   rw [if_pos rfl] at H
   obtain ⟨pH, A7, H⟩ := oA_ H
   try dsimp only at H
   by_cases c8 : pH = true
   ·subst c8
    rw [if_pos rfl] at H
    simp only [Option.some.injEq, Prod.mk.injEq] at H
    obtain ⟨rfl, rfl⟩ := H
    go_enter Try.func19, Try.ntmps19
    go_wp2_with (first | ((with_reducible refine aw (N := 3) rfl ?_); refine ax ?hg (N := 3) ?hd (cs := #[.int .i64 a1_0, .int .i64 a1_1, .int .i64 a1_2, .string a1_3]) (t := 29) ?hr ?_; (case hd => rfl); (case hg => rfl); (case hr => first | (go_simp; done) | (go_simp; rfl)); intro ck hg w9 hbox hb; have bE := aM (hbox); have qQ := aM ((by rw [hg]; exact (ap z14) : w.heap.size ≤ ck)); have er := aM ((by rw [hg]; exact (ap z14) : w.heap.size ≤ ck)); replace HB := aM (ao z14 hb); clear hb hbox hg) | ((with_reducible refine av (f := 28) rfl ?_); refine ay (some 10) rfl rfl Try.func28 z0 rfl #[.string a0] rfl z15 ?_; (with_reducible refine (spec_GoodDoc.calls k a0 true _ A3.out).mono ?_); rintro e w' ⟨rfl, ⟨nd, rfl⟩⟩; refine ⟨_, rfl, ?_⟩; obtain ⟨fW, fV, fU, hcz10_3, fP, fO, fN, hfz10_3⟩ := cc4 bE.out) | ((with_reducible refine av (f := 34) rfl ?_); refine ay (some 15) rfl rfl Try.func34 z0 rfl #[.string a0, .agg #[.int .i64 a1_0, .int .i64 a1_1, .int .i64 a1_2, .string a1_3]] rfl z15 ?_; (with_reducible refine (spec_l8Do.calls k a0 a1_0 a1_1 a1_2 a1_3 pI sT true _ A5.out).mono ?_); rintro e w11 ⟨v396, rfl, ho0, hb⟩; refine ⟨_, rfl, ?_⟩; have ep := aM (az ho0 (ap (by repeat (first | (with_reducible first | exact HB.out | apply bA | apply pD | apply bD | refine am ?_ er.out) | exact HB.out)))); replace bE := aM (ae (g := ck) (o := .cells #[.int .i64 a1_0, .int .i64 a1_1, .int .i64 a1_2, .string a1_3] 29 (0, 0)) (kB_ bE.out) hb); replace HB := aM (ao (by repeat (first | (with_reducible first | exact HB.out | apply bA | apply pD | apply bD | refine am ?_ er.out) | exact HB.out)) hb); (try clear hb); (try clear ho0); obtain ⟨vv, u1, eo12⟩ := Kd.R_slice ep.out; subst eo12) | (go_at_call 38; (with_reducible refine (spec_GoodOp.calls k _ _ pI true _ ?side1 ?side2 A7.out).mono ?_); (case side1 => exact y46); (case side2 => exact (ah ep.out).2.1); rintro e w13 ⟨rfl, hb⟩; replace ep := aM (af (kR_ ep.out) hb); replace bE := aM (ae (g := ck) (o := .cells #[.int .i64 a1_0, .int .i64 a1_1, .int .i64 a1_2, .string a1_3] 29 (0, 0)) (kB_ bE.out) hb); replace HB := aM (ao (by repeat (first | (with_reducible first | exact HB.out | apply bA | apply pD | apply bD | refine am ?_ er.out) | exact HB.out)) hb); (try clear hb)))
    go_ret2
    exact ⟨_, y4, by (with_reducible repeat (first | apply ac | apply ab | apply aa)); exact ep.out, by repeat (first | (with_reducible first | exact HB.out | apply bA | apply pD | apply bD | refine am ?_ er.out) | exact HB.out)⟩
   ·replace c8 := Bool.eq_false_iff.mpr c8
    subst c8
    rw [if_neg nF_] at H
    simp only [Option.some.injEq, Prod.mk.injEq] at H
    obtain ⟨rfl, rfl⟩ := H
    go_enter Try.func19, Try.ntmps19
    go_wp2_with (first | ((with_reducible refine aw (N := 3) rfl ?_); refine ax ?hg (N := 3) ?hd (cs := #[.int .i64 a1_0, .int .i64 a1_1, .int .i64 a1_2, .string a1_3]) (t := 29) ?hr ?_; (case hd => rfl); (case hg => rfl); (case hr => first | (go_simp; done) | (go_simp; rfl)); intro ck hg w14 hbox hb; have bE := aM (hbox); have qQ := aM ((by rw [hg]; exact (ap z14) : w.heap.size ≤ ck)); have er := aM ((by rw [hg]; exact (ap z14) : w.heap.size ≤ ck)); replace HB := aM (ao z14 hb); clear hb hbox hg) | ((with_reducible refine av (f := 28) rfl ?_); refine ay (some 10) rfl rfl Try.func28 z0 rfl #[.string a0] rfl z15 ?_; (with_reducible refine (spec_GoodDoc.calls k a0 true _ A3.out).mono ?_); rintro e w' ⟨rfl, ⟨nd, rfl⟩⟩; refine ⟨_, rfl, ?_⟩; obtain ⟨iP, iO, iN, hcz15_3, iA, iz, iy, hfz15_3⟩ := cc4 bE.out) | ((with_reducible refine av (f := 34) rfl ?_); refine ay (some 15) rfl rfl Try.func34 z0 rfl #[.string a0, .agg #[.int .i64 a1_0, .int .i64 a1_1, .int .i64 a1_2, .string a1_3]] rfl z15 ?_; (with_reducible refine (spec_l8Do.calls k a0 a1_0 a1_1 a1_2 a1_3 pI sT true _ A5.out).mono ?_); rintro e w16 ⟨v396, rfl, ho0, hb⟩; refine ⟨_, rfl, ?_⟩; have ep := aM (az ho0 (ap (by repeat (first | (with_reducible first | exact HB.out | apply bA | apply pD | apply bD | refine am ?_ er.out) | exact HB.out)))); replace bE := aM (ae (g := ck) (o := .cells #[.int .i64 a1_0, .int .i64 a1_1, .int .i64 a1_2, .string a1_3] 29 (0, 0)) (kB_ bE.out) hb); replace HB := aM (ao (by repeat (first | (with_reducible first | exact HB.out | apply bA | apply pD | apply bD | refine am ?_ er.out) | exact HB.out)) hb); (try clear hb); (try clear ho0); obtain ⟨vu, u0, eo17⟩ := Kd.R_slice ep.out; subst eo17) | (go_at_call 38; (with_reducible refine (spec_GoodOp.calls k _ _ pI false _ ?side1 ?side2 A7.out).mono ?_); (case side1 => exact y46); (case side2 => exact (ah ep.out).2.1); rintro e w18 ⟨rfl, hb⟩; replace ep := aM (af (kR_ ep.out) hb); replace bE := aM (ae (g := ck) (o := .cells #[.int .i64 a1_0, .int .i64 a1_1, .int .i64 a1_2, .string a1_3] 29 (0, 0)) (kB_ bE.out) hb); replace HB := aM (ao (by repeat (first | (with_reducible first | exact HB.out | apply bA | apply pD | apply bD | refine am ?_ er.out) | exact HB.out)) hb); (try clear hb)))
    go_ret2
    exact ⟨_, y4, y28, by repeat (first | (with_reducible first | exact HB.out | apply bA | apply pD | apply bD | refine am ?_ er.out) | exact HB.out)⟩
  ·replace c6 := Bool.eq_false_iff.mpr c6
   subst c6
   rw [if_neg nF_] at H
   simp only [Option.some.injEq, Prod.mk.injEq] at H
   obtain ⟨rfl, rfl⟩ := H
   go_enter Try.func19, Try.ntmps19
   go_wp2_with (first | ((with_reducible refine aw (N := 3) rfl ?_); refine ax ?hg (N := 3) ?hd (cs := #[.int .i64 a1_0, .int .i64 a1_1, .int .i64 a1_2, .string a1_3]) (t := 29) ?hr ?_; (case hd => rfl); (case hg => rfl); (case hr => first | (go_simp; done) | (go_simp; rfl)); intro ck hg w19 hbox hb; have bE := aM (hbox); have qQ := aM ((by rw [hg]; exact (ap z14) : w.heap.size ≤ ck)); have er := aM ((by rw [hg]; exact (ap z14) : w.heap.size ≤ ck)); replace HB := aM (ao z14 hb); clear hb hbox hg) | ((with_reducible refine av (f := 28) rfl ?_); refine ay (some 10) rfl rfl Try.func28 z0 rfl #[.string a0] rfl z15 ?_; (with_reducible refine (spec_GoodDoc.calls k a0 true _ A3.out).mono ?_); rintro e w' ⟨rfl, ⟨nd, rfl⟩⟩; refine ⟨_, rfl, ?_⟩; obtain ⟨d2, d1, dZ, e8, dQ, dP, dO, eX⟩ := cc4 bE.out) | ((with_reducible refine av (f := 34) rfl ?_); refine ay (some 15) rfl rfl Try.func34 z0 rfl #[.string a0, .agg #[.int .i64 a1_0, .int .i64 a1_1, .int .i64 a1_2, .string a1_3]] rfl z15 ?_; (with_reducible refine (spec_l8Do.calls k a0 a1_0 a1_1 a1_2 a1_3 pI sT false _ A5.out).mono ?_); rintro e w21 ⟨v396, rfl, ho0, hb⟩; refine ⟨_, rfl, ?_⟩; have ep := aM (az ho0 (ap (by repeat (first | (with_reducible first | exact HB.out | apply bA | apply pD | apply bD | refine am ?_ er.out) | exact HB.out)))); replace bE := aM (ae (g := ck) (o := .cells #[.int .i64 a1_0, .int .i64 a1_1, .int .i64 a1_2, .string a1_3] 29 (0, 0)) (kB_ bE.out) hb); replace HB := aM (ao (by repeat (first | (with_reducible first | exact HB.out | apply bA | apply pD | apply bD | refine am ?_ er.out) | exact HB.out)) hb); (try clear hb); (try clear ho0)))
   go_ret2
   exact ⟨_, y4, y28, by repeat (first | (with_reducible first | exact HB.out | apply bA | apply pD | apply bD | refine am ?_ er.out) | exact HB.out)⟩
 ·replace c4 := Bool.eq_false_iff.mpr c4
  subst c4
  rw [if_neg nF_] at H
  simp only [Option.some.injEq, Prod.mk.injEq] at H
  obtain ⟨rfl, rfl⟩ := H
  go_enter Try.func19, Try.ntmps19
  go_wp2_with (first | ((with_reducible refine aw (N := 3) rfl ?_); refine ax ?hg (N := 3) ?hd (cs := #[.int .i64 a1_0, .int .i64 a1_1, .int .i64 a1_2, .string a1_3]) (t := 29) ?hr ?_; (case hd => rfl); (case hg => rfl); (case hr => first | (go_simp; done) | (go_simp; rfl)); intro ck hg w22 hbox hb; have bE := aM (hbox); have qQ := aM ((by rw [hg]; exact (ap z14) : w.heap.size ≤ ck)); have er := aM ((by rw [hg]; exact (ap z14) : w.heap.size ≤ ck)); replace HB := aM (ao z14 hb); clear hb hbox hg) | ((with_reducible refine av (f := 28) rfl ?_); refine ay (some 10) rfl rfl Try.func28 z0 rfl #[.string a0] rfl z15 ?_; (with_reducible refine (spec_GoodDoc.calls k a0 false _ A3.out).mono ?_); rintro e w' ⟨rfl, ⟨nd, rfl⟩⟩; refine ⟨_, rfl, ?_⟩))
  go_ret2
  exact ⟨_, y4, y28, by repeat (first | (with_reducible first | exact HB.out | apply bA | apply pD | apply bD | refine am ?_ er.out) | exact HB.out)⟩

/-! ### impl_sizes: function 46 -/
def impl_sizes.l0 : Nat → Int → Int → List (S61) → Int → Int → Option (Int × Int)
 | 0, _, _, _, _, _ => none
 | k + 1, x4, x5, x8, x9, x10 => if x10 < x9 then (if 0 ≤ x10 then (if x10 < (x8.length : Int) then (impl_sizes.l0 k (wrap64 (x4 + (wrap64 (((rd_T61 x8 x10).f0) + (((rd_T61 x8 x10).f2).size : Int))))) (wrap64 (x5 + (wrap64 (((rd_T61 x8 x10).f0) + (((rd_T61 x8 x10).f1).size : Int))))) x8 x9 (wrap64 (x10 + 1))) else (none)) else (none)) else (some (x4, x5))
def impl_sizes.f (k : Nat) (l0 : List (S61)) : Option (Int × Int) := impl_sizes.l0 k 0 0 l0 (l0.length : Int) 0
theorem impl_sizes.mono_l : ∀ k, (∀ y0 y1 y2 y3 y4, LeO (impl_sizes.l0 k y0 y1 y2 y3 y4) (impl_sizes.l0 (k + 1) y0 y1 y2 y3 y4))
 | 0 => fun _ _ _ _ _ r h => by simp [impl_sizes.l0] at h
 | k + 1 => by
  have ih0 := impl_sizes.mono_l k
  ·intro y0 y1 y2 y3 y4
   unfold impl_sizes.l0
   repeat' first
   | (with_reducible exact ih0 _ _ _ _ _)
   | (with_reducible exact LeO.refl _)
   | (with_reducible exact LeO.none _)
   | (with_reducible refine LeO.ite ?_ ?_)
   | (with_reducible refine LeO.bind ?_ (fun _ => ?_))
theorem impl_sizes.mono : ∀ a0 k, LeO (impl_sizes.f k a0) (impl_sizes.f (k + 1) a0) := by
 intro a0 k
 have ih0 := impl_sizes.mono_l k
 unfold impl_sizes.f
 repeat' first
   | (with_reducible exact ih0 _ _ _ _ _)
   | (with_reducible exact LeO.refl _)
   | (with_reducible exact LeO.none _)
   | (with_reducible refine LeO.ite ?_ ?_)
   | (with_reducible refine LeO.bind ?_ (fun _ => ?_))
set_option maxHeartbeats 8000000 in
set_option maxRecDepth 100000 in
theorem impl_sizes.calls (k : Nat) (A0 : Option Addr) (c0 : Nat) (l0 : List (S61)) (r1 : Int) (r2 : Int) (w : World) (hr0 : Kd.C k61 w A0 l0.length l0) (hc0 : l0.length ≤ c0) (h : impl_sizes.f k l0 = some (r1, r2)) :
  Calls Try.prog 46 #[.slice A0 l0.length c0] w fun e w' => e = .returned (.tuple #[.int .i64 r1, .int .i64 r2]) ∧ Below w.heap.size w w' := by
 have hu61 := Try.underlying61
 have d9 := aM hr0
 have fq := aM hc0
 clear hr0 hc0
 have HB := aM (Below.refl w.heap.size w)
 have H : (impl_sizes.l0 k 0 0 l0 (l0.length : Int) 0) = some (r1, r2) := h
 clear h
 have H' := aM H
 clear H
 go_enter Try.func46, Try.ntmps46
 go_wp2
 go_loopg [4, 5, 10] k (fun kq v4 v5 v10 w' => ∃ (x4_1 : Int) (x5_1 : Int) (x10_1 : Int), v4 = .int .i64 x4_1 ∧ v5 = .int .i64 x5_1 ∧ v10 = .int .i64 x10_1 ∧ Aside0 (impl_sizes.l0 kq x4_1 x5_1 l0 (l0.length : Int) x10_1 = some (r1, r2)) ∧ Aside0 (kq ≤ k) ∧ Aside0 (Below w.heap.size w w'))
 case atStart => exact ⟨(0), (0), (0), z1, z1, z1, H', ⟨Nat.le_refl _⟩, ⟨y5⟩⟩
 case round =>
  clear H'
  obtain ⟨x4_1, x5_1, x10_1, rfl, rfl, rfl, HA, HK1, HB⟩ := hrel
  cases gk with
  | zero => exact absurd HA.out (by simp [impl_sizes.l0])
  | succ k1 =>
   have H := HA.out
   clear HA
   simp only [impl_sizes.l0] at H
   by_cases c2 : x10_1 < (l0.length : Int)
   ·rw [if_pos c2] at H
    have c2b0 : decide (x10_1 < (l0.length : Int)) = true := dT c2
    clear c2
    by_cases c3 : 0 ≤ x10_1
    ·rw [if_pos c3] at H
     have c3b0 : decide (0 ≤ x10_1) = true := dT c3
     clear c3
     by_cases c4 : x10_1 < (l0.length : Int)
     ·rw [if_pos c4] at H
      have c4b0 : decide (x10_1 < (l0.length : Int)) = true := dT c4
      clear c4
      have H' := aM H
      clear H
      have p401 : 0 ≤ (x10_1 : Int) := oD z2
      have q401 : x10_1 < (l0.length : Int) := oD z2
      obtain ⟨ad401, e401, hx401_0, hx401_1, hx401_2⟩ := at_T61 d9.out x10_1 p401 q401
      cases e401
      replace hx401_0 := (HB.out.cell (World.block_lt_of_cell? w _ hx401_0)).trans hx401_0
      replace hx401_1 := (HB.out.cell (World.block_lt_of_cell? w _ hx401_1)).trans hx401_1
      replace hx401_2 := (HB.out.cell (World.block_lt_of_cell? w _ hx401_2)).trans hx401_2
      replace p401 := eq_true p401
      replace q401 := eq_true q401
      go_wp2_with (first | ((with_reducible refine aw (N := 7) rfl ?_); refine ax ?hg (N := 7) ?hd (cs := #[.int .i64 0, .string ⟨#[]⟩, .string ⟨#[]⟩]) (t := 61) ?hr ?_; (case hd => rfl); (case hg => rfl); (case hr => first | (go_simp; done) | (go_simp; rfl)); intro lG hg w5 hbox hb; have ks := aM (hbox); have GW402 := aM ((by rw [hg]; exact (ap z14) : w.heap.size ≤ lG)); have GE402 := aM ((by rw [hg]; exact (ap z14) : w.heap.size ≤ lG)); replace HB := aM (ao z14 hb); clear hb hbox hg; obtain ⟨fz, fy, fx, gi, fw, fv⟩ := cc3 ks.out))
      go_roundg k1
      case measure => have := HK1.out; omega
      case rel => exact ⟨(wrap64 (x4_1 + (wrap64 (((rd_T61 l0 x10_1).f0) + (((rd_T61 l0 x10_1).f2).size : Int))))), (wrap64 (x5_1 + (wrap64 (((rd_T61 l0 x10_1).f0) + (((rd_T61 l0 x10_1).f1).size : Int))))), (wrap64 (x10_1 + 1)), z1, z1, z1, H', ⟨by have := HK1.out; omega⟩, ⟨by repeat (first | (with_reducible first | exact HB.out | apply bA | apply pD | apply bD | refine am ?_ GE402.out) | exact HB.out)⟩⟩
     ·rw [if_neg c4] at H
      exact absurd H (by simp)
    ·rw [if_neg c3] at H
     exact absurd H (by simp)
   ·rw [if_neg c2] at H
    have c2b0 : decide (x10_1 < (l0.length : Int)) = false := dF c2
    clear c2
    simp only [Option.some.injEq, Prod.mk.injEq] at H
    obtain ⟨rfl, rfl⟩ := H
    go_wp2
    go_ret2
    exact ⟨y4, y5⟩

/-! ### impl_Part_isPart: function 66 -/
def impl_Part_isPart.f (k : Nat) (a0_0 : Int) (a0_1 : ByteArray) (a0_2 : ByteArray) : Option (Bool) := if a0_0 = 0 then (if a0_1.toList = ([] : List UInt8) then (if a0_2.toList = ([] : List UInt8) then (some false) else ((impl_GoodText.f k a0_2).bind fun pG => (some pG))) else (if a0_2.toList = ([] : List UInt8) then ((impl_GoodText.f k a0_1).bind fun pF => (some pF)) else (some false))) else (if a0_0 ≥ 1 then (if a0_0 ≤ 300 then (if a0_1.toList = ([] : List UInt8) then (some (a0_2.toList == ([] : List UInt8))) else (some false)) else (some false)) else (some false))
theorem impl_Part_isPart.mono : ∀ a0 a1 a2 k, LeO (impl_Part_isPart.f k a0 a1 a2) (impl_Part_isPart.f (k + 1) a0 a1 a2) := by
 intro a0 a1 a2 k
 unfold impl_Part_isPart.f
 repeat' first
   | (with_reducible exact impl_GoodText.mono _ _)
   | (with_reducible exact LeO.refl _)
   | (with_reducible exact LeO.none _)
   | (with_reducible refine LeO.ite ?_ ?_)
   | (with_reducible refine LeO.bind ?_ (fun _ => ?_))
set_option maxHeartbeats 8000000 in
set_option maxRecDepth 100000 in
theorem impl_Part_isPart.calls (k : Nat) (a0_0 : Int) (a0_1 : ByteArray) (a0_2 : ByteArray) (r : Bool) (w : World) (h : impl_Part_isPart.f k a0_0 a0_1 a0_2 = some r) :
  Calls Try.prog 66 #[.agg #[.int .i64 a0_0, .string a0_1, .string a0_2]] w fun e w' => e = .returned (.bool r) ∧ Below w.heap.size w w' := by
 have hu61 := Try.underlying61
 have HB := aM (Below.refl w.heap.size w)
 have H : (if a0_0 = 0 then (if a0_1.toList = ([] : List UInt8) then (if a0_2.toList = ([] : List UInt8) then (some false) else ((impl_GoodText.f k a0_2).bind fun pG => (some pG))) else (if a0_2.toList = ([] : List UInt8) then ((impl_GoodText.f k a0_1).bind fun pF => (some pF)) else (some false))) else (if a0_0 ≥ 1 then (if a0_0 ≤ 300 then (if a0_1.toList = ([] : List UInt8) then (some (a0_2.toList == ([] : List UInt8))) else (some false)) else (some false)) else (some false))) = some r := h
 clear h
 by_cases c2 : a0_0 = 0
 ·rw [if_pos c2] at H
  have c2b0 : (a0_0 == 0) = true := qT c2
  have c2b1 : (a0_0 != 0) = false := nF c2
  clear c2
  by_cases c3 : a0_1.toList = ([] : List UInt8)
  ·rw [if_pos c3] at H
   have c3b0 : (a0_1.toList == ([] : List UInt8)) = true := qT c3
   have c3b1 : (a0_1.toList != ([] : List UInt8)) = false := nF c3
   clear c3
   by_cases c4 : a0_2.toList = ([] : List UInt8)
   ·rw [if_pos c4] at H
    have c4b0 : (a0_2.toList == ([] : List UInt8)) = true := qT c4
    have c4b1 : (a0_2.toList != ([] : List UInt8)) = false := nF c4
    clear c4
    obtain rfl := sI H
    go_enter Try.func66, Try.ntmps66
    go_wp2_with (first | ((with_reducible refine aw (N := 1) rfl ?_); refine ax ?hg (N := 1) ?hd (cs := #[.int .i64 a0_0, .string a0_1, .string a0_2]) (t := 61) ?hr ?_; (case hd => rfl); (case hg => rfl); (case hr => first | (go_simp; done) | (go_simp; rfl)); intro bs hg w5 hbox hb; have bl := aM (hbox); have jI := aM ((by rw [hg]; exact (ap z14) : w.heap.size ≤ bs)); have jL := aM ((by rw [hg]; exact (ap z14) : w.heap.size ≤ bs)); replace HB := aM (ao z14 hb); clear hb hbox hg; obtain ⟨fz, fy, fx, gi, fw, fv⟩ := cc3 bl.out))
    all_goals (try (exfalso; rename_i h_; rw [c3b0] at h_; cases h_; done))
    all_goals (try (exfalso; rename_i h_; rw [c4b0] at h_; cases h_; done))
    go_ret
    exact ⟨y4, y22⟩
   ·rw [if_neg c4] at H
    have c4b0 : (a0_2.toList == ([] : List UInt8)) = false := qF c4
    have c4b1 : (a0_2.toList != ([] : List UInt8)) = true := nT c4
    obtain ⟨pG, A7, H⟩ := oA_ H
    try dsimp only at H
    obtain rfl := sI H
    go_enter Try.func66, Try.ntmps66
    go_wp2_with (first | ((with_reducible refine aw (N := 1) rfl ?_); refine ax ?hg (N := 1) ?hd (cs := #[.int .i64 a0_0, .string a0_1, .string a0_2]) (t := 61) ?hr ?_; (case hd => rfl); (case hg => rfl); (case hr => first | (go_simp; done) | (go_simp; rfl)); intro bs hg w8 hbox hb; have bl := aM (hbox); have jI := aM ((by rw [hg]; exact (ap z14) : w.heap.size ≤ bs)); have jL := aM ((by rw [hg]; exact (ap z14) : w.heap.size ≤ bs)); replace HB := aM (ao z14 hb); clear hb hbox hg; obtain ⟨ca, b9, b8, ci, b5, b4⟩ := cc3 bl.out) | (go_at_call 45; (with_reducible refine (impl_GoodText.calls k a0_2 pG _ A7.out).mono ?_); rintro e w' ⟨rfl, ⟨nd, rfl⟩⟩))
    all_goals (try (exfalso; rename_i h_; rw [c3b0] at h_; cases h_; done))
    all_goals (try (exfalso; rename_i h_; rw [c4b0] at h_; cases h_; done))
    go_ret
    exact ⟨y4, y22⟩
  ·rw [if_neg c3] at H
   have c3b0 : (a0_1.toList == ([] : List UInt8)) = false := qF c3
   have c3b1 : (a0_1.toList != ([] : List UInt8)) = true := nT c3
   by_cases cv : a0_2.toList = ([] : List UInt8)
   ·rw [if_pos cv] at H
    have c10b0 : (a0_2.toList == ([] : List UInt8)) = true := qT cv
    have c10b1 : (a0_2.toList != ([] : List UInt8)) = false := nF cv
    clear cv
    obtain ⟨pF, iS, H⟩ := oA_ H
    try dsimp only at H
    obtain rfl := sI H
    go_enter Try.func66, Try.ntmps66
    go_wp2_with (first | ((with_reducible refine aw (N := 1) rfl ?_); refine ax ?hg (N := 1) ?hd (cs := #[.int .i64 a0_0, .string a0_1, .string a0_2]) (t := 61) ?hr ?_; (case hd => rfl); (case hg => rfl); (case hr => first | (go_simp; done) | (go_simp; rfl)); intro bs hg w12 hbox hb; have bl := aM (hbox); have jI := aM ((by rw [hg]; exact (ap z14) : w.heap.size ≤ bs)); have jL := aM ((by rw [hg]; exact (ap z14) : w.heap.size ≤ bs)); replace HB := aM (ao z14 hb); clear hb hbox hg; obtain ⟨kR, kQ, kP, kH, kG, kF⟩ := cc3 bl.out) | (go_at_call 45; (with_reducible refine (impl_GoodText.calls k a0_1 pF _ iS.out).mono ?_); rintro e w' ⟨rfl, ⟨nd, rfl⟩⟩))
    all_goals (try (exfalso; rename_i h_; rw [c3b0] at h_; cases h_; done))
    all_goals (try (exfalso; rename_i h_; rw [c10b0] at h_; cases h_; done))
    go_ret
    exact ⟨y4, y22⟩
   ·rw [if_neg cv] at H
    have c10b0 : (a0_2.toList == ([] : List UInt8)) = false := qF cv
    have c10b1 : (a0_2.toList != ([] : List UInt8)) = true := nT cv
    obtain rfl := sI H
    go_enter Try.func66, Try.ntmps66
    go_wp2_with (first | ((with_reducible refine aw (N := 1) rfl ?_); refine ax ?hg (N := 1) ?hd (cs := #[.int .i64 a0_0, .string a0_1, .string a0_2]) (t := 61) ?hr ?_; (case hd => rfl); (case hg => rfl); (case hr => first | (go_simp; done) | (go_simp; rfl)); intro bs hg w14 hbox hb; have bl := aM (hbox); have jI := aM ((by rw [hg]; exact (ap z14) : w.heap.size ≤ bs)); have jL := aM ((by rw [hg]; exact (ap z14) : w.heap.size ≤ bs)); replace HB := aM (ao z14 hb); clear hb hbox hg; obtain ⟨iP, iO, iN, iA, iz, iy⟩ := cc3 bl.out))
    all_goals (try (exfalso; rename_i h_; rw [c3b0] at h_; cases h_; done))
    all_goals (try (exfalso; rename_i h_; rw [c10b0] at h_; cases h_; done))
    go_ret
    exact ⟨y4, y22⟩
 ·rw [if_neg c2] at H
  have c2b0 : (a0_0 == 0) = false := qF c2
  have c2b1 : (a0_0 != 0) = true := nT c2
  by_cases dG : a0_0 ≥ 1
  ·rw [if_pos dG] at H
   have c16b0 : decide (1 ≤ a0_0) = true := dT dG
   clear dG
   by_cases dy : a0_0 ≤ 300
   ·rw [if_pos dy] at H
    have c17b0 : decide (a0_0 ≤ 300) = true := dT dy
    clear dy
    by_cases d8 : a0_1.toList = ([] : List UInt8)
    ·rw [if_pos d8] at H
     have c18b0 : (a0_1.toList == ([] : List UInt8)) = true := qT d8
     have c18b1 : (a0_1.toList != ([] : List UInt8)) = false := nF d8
     clear d8
     obtain rfl := sI H
     go_enter Try.func66, Try.ntmps66
     go_wp2_with (first | ((with_reducible refine aw (N := 1) rfl ?_); refine ax ?hg (N := 1) ?hd (cs := #[.int .i64 a0_0, .string a0_1, .string a0_2]) (t := 61) ?hr ?_; (case hd => rfl); (case hg => rfl); (case hr => first | (go_simp; done) | (go_simp; rfl)); intro bs hg w19 hbox hb; have bl := aM (hbox); have jI := aM ((by rw [hg]; exact (ap z14) : w.heap.size ≤ bs)); have jL := aM ((by rw [hg]; exact (ap z14) : w.heap.size ≤ bs)); replace HB := aM (ao z14 hb); clear hb hbox hg; obtain ⟨d2, d1, dZ, dQ, dP, dO⟩ := cc3 bl.out))
     all_goals (try (exfalso; rename_i h_; rw [c18b0] at h_; cases h_; done))
     go_ret
     exact ⟨y4, y22⟩
    ·rw [if_neg d8] at H
     have c18b0 : (a0_1.toList == ([] : List UInt8)) = false := qF d8
     have c18b1 : (a0_1.toList != ([] : List UInt8)) = true := nT d8
     obtain rfl := sI H
     go_enter Try.func66, Try.ntmps66
     go_wp2_with (first | ((with_reducible refine aw (N := 1) rfl ?_); refine ax ?hg (N := 1) ?hd (cs := #[.int .i64 a0_0, .string a0_1, .string a0_2]) (t := 61) ?hr ?_; (case hd => rfl); (case hg => rfl); (case hr => first | (go_simp; done) | (go_simp; rfl)); intro bs hg w21 hbox hb; have bl := aM (hbox); have jI := aM ((by rw [hg]; exact (ap z14) : w.heap.size ≤ bs)); have jL := aM ((by rw [hg]; exact (ap z14) : w.heap.size ≤ bs)); replace HB := aM (ao z14 hb); clear hb hbox hg; obtain ⟨dm, dl, dk, dj, di, dh⟩ := cc3 bl.out))
     all_goals (try (exfalso; rename_i h_; rw [c18b0] at h_; cases h_; done))
     go_ret
     exact ⟨y4, y22⟩
   ·rw [if_neg dy] at H
    have c17b0 : decide (a0_0 ≤ 300) = false := dF dy
    clear dy
    obtain rfl := sI H
    go_enter Try.func66, Try.ntmps66
    go_wp2_with (first | ((with_reducible refine aw (N := 1) rfl ?_); refine ax ?hg (N := 1) ?hd (cs := #[.int .i64 a0_0, .string a0_1, .string a0_2]) (t := 61) ?hr ?_; (case hd => rfl); (case hg => rfl); (case hr => first | (go_simp; done) | (go_simp; rfl)); intro bs hg w23 hbox hb; have bl := aM (hbox); have jI := aM ((by rw [hg]; exact (ap z14) : w.heap.size ≤ bs)); have jL := aM ((by rw [hg]; exact (ap z14) : w.heap.size ≤ bs)); replace HB := aM (ao z14 hb); clear hb hbox hg; obtain ⟨hcz24_0, hcz24_1, hcz24_2, hfz24_0, hfz24_1, hfz24_2⟩ := cc3 bl.out))
    go_ret
    exact ⟨y4, y22⟩
  ·rw [if_neg dG] at H
   have c16b0 : decide (1 ≤ a0_0) = false := dF dG
   clear dG
   obtain rfl := sI H
   go_enter Try.func66, Try.ntmps66
   go_wp2_with (first | ((with_reducible refine aw (N := 1) rfl ?_); refine ax ?hg (N := 1) ?hd (cs := #[.int .i64 a0_0, .string a0_1, .string a0_2]) (t := 61) ?hr ?_; (case hd => rfl); (case hg => rfl); (case hr => first | (go_simp; done) | (go_simp; rfl)); intro bs hg w25 hbox hb; have bl := aM (hbox); have jI := aM ((by rw [hg]; exact (ap z14) : w.heap.size ≤ bs)); have jL := aM ((by rw [hg]; exact (ap z14) : w.heap.size ≤ bs)); replace HB := aM (ao z14 hb); clear hb hbox hg; obtain ⟨gZ, gY, gX, gJ, gI, gH⟩ := cc3 bl.out))
   go_ret
   exact ⟨y4, y22⟩

/-! ### impl_GoodOp_1: function 65 -/
def impl_GoodOp_1.f (k : Nat) (a0_0 : Int) (a0_1 : ByteArray) (a0_2 : ByteArray) : Option (Bool) := (impl_Part_isPart.f k a0_0 a0_1 a0_2).bind fun pE => (some (!pE))
theorem impl_GoodOp_1.mono : ∀ a0 a1 a2 k, LeO (impl_GoodOp_1.f k a0 a1 a2) (impl_GoodOp_1.f (k + 1) a0 a1 a2) := by
 intro a0 a1 a2 k
 unfold impl_GoodOp_1.f
 repeat' first
   | (with_reducible exact impl_Part_isPart.mono _ _ _ _)
   | (with_reducible exact LeO.refl _)
   | (with_reducible exact LeO.none _)
   | (with_reducible refine LeO.ite ?_ ?_)
   | (with_reducible refine LeO.bind ?_ (fun _ => ?_))
set_option maxHeartbeats 8000000 in
set_option maxRecDepth 100000 in
theorem impl_GoodOp_1.calls (k : Nat) (a0_0 : Int) (a0_1 : ByteArray) (a0_2 : ByteArray) (r : Bool) (w : World) (h : impl_GoodOp_1.f k a0_0 a0_1 a0_2 = some r) :
  Calls Try.prog 65 #[.agg #[.int .i64 a0_0, .string a0_1, .string a0_2]] w fun e w' => e = .returned (.bool r) ∧ Below w.heap.size w w' := by
 have hu61 := Try.underlying61
 have HB := aM (Below.refl w.heap.size w)
 have H : ((impl_Part_isPart.f k a0_0 a0_1 a0_2).bind fun pE => (some (!pE))) = some r := h
 clear h
 obtain ⟨pE, A2, H⟩ := oA_ H
 try dsimp only at H
 obtain rfl := sI H
 go_enter Try.func65, Try.ntmps65
 go_wp2_with (first | ((with_reducible refine aw (N := 1) rfl ?_); refine ax ?hg (N := 1) ?hd (cs := #[.int .i64 a0_0, .string a0_1, .string a0_2]) (t := 61) ?hr ?_; (case hd => rfl); (case hg => rfl); (case hr => first | (go_simp; done) | (go_simp; rfl)); intro ke hg w3 hbox hb; have hD := aM (hbox); have GW406 := aM ((by rw [hg]; exact (ap z14) : w.heap.size ≤ ke)); have sf := aM ((by rw [hg]; exact (ap z14) : w.heap.size ≤ ke)); replace HB := aM (ao z14 hb); clear hb hbox hg; obtain ⟨hcz4_0, hcz4_1, hcz4_2, hfz4_0, hfz4_1, hfz4_2⟩ := cc3 hD.out) | ((with_reducible refine av (f := 66) rfl ?_); refine ay (some 4) rfl rfl Try.func66 z0 rfl #[.agg #[.int .i64 a0_0, .string a0_1, .string a0_2]] rfl z15 ?_; (with_reducible refine (impl_Part_isPart.calls k a0_0 a0_1 a0_2 pE _ A2.out).mono ?_); rintro e w5 ⟨rfl, hb⟩; refine ⟨_, rfl, ?_⟩; replace hD := aM (ae (g := ke) (o := .cells #[.int .i64 a0_0, .string a0_1, .string a0_2] 61 (0, 0)) (kB_ hD.out) hb); replace HB := aM (ao (by repeat (first | (with_reducible first | exact HB.out | apply bA | apply pD | apply bD | refine am ?_ sf.out) | exact HB.out)) hb); (try clear hb)))
 go_ret
 exact ⟨y4, by repeat (first | (with_reducible first | exact HB.out | apply bA | apply pD | apply bD | refine am ?_ sf.out) | exact HB.out)⟩

/-! ### impl_Part_82: function 82 -/
def impl_Part_82.l0 : Nat → List (S61) → Int → Int → Option (Int)
 | 0, _, _, _ => none
 | k + 1, x0, x7, x8 => if x8 < x7 then (if 0 ≤ x8 then (if x8 < (x0.length : Int) then ((impl_GoodOp_1.f k ((rd_T61 x0 x8).f0) ((rd_T61 x0 x8).f1) ((rd_T61 x0 x8).f2)).bind fun sS => (if sS = true then (some x8) else (impl_Part_82.l0 k x0 x7 (wrap64 (x8 + 1))))) else (none)) else (none)) else (some (-1))
def impl_Part_82.f (k : Nat) (l0 : List (S61))  : Option (Int) := impl_Part_82.l0 k l0 (l0.length : Int) 0
theorem impl_Part_82.mono_l : ∀ k, (∀ y0 y1 y2, LeO (impl_Part_82.l0 k y0 y1 y2) (impl_Part_82.l0 (k + 1) y0 y1 y2))
 | 0 => fun _ _ _ r h => by simp [impl_Part_82.l0] at h
 | k + 1 => by
  have ih0 := impl_Part_82.mono_l k
  ·intro y0 y1 y2
   unfold impl_Part_82.l0
   repeat' first
   | (with_reducible exact ih0 _ _ _)
   | (with_reducible exact impl_GoodOp_1.mono _ _ _ _)
   | (with_reducible exact LeO.refl _)
   | (with_reducible exact LeO.none _)
   | (with_reducible refine LeO.ite ?_ ?_)
   | (with_reducible refine LeO.bind ?_ (fun _ => ?_))
theorem impl_Part_82.mono : ∀ a0 k, LeO (impl_Part_82.f k a0) (impl_Part_82.f (k + 1) a0) := by
 intro a0 k
 have ih0 := impl_Part_82.mono_l k
 unfold impl_Part_82.f
 repeat' first
   | (with_reducible exact ih0 _ _ _)
   | (with_reducible exact impl_GoodOp_1.mono _ _ _ _)
   | (with_reducible exact LeO.refl _)
   | (with_reducible exact LeO.none _)
   | (with_reducible refine LeO.ite ?_ ?_)
   | (with_reducible refine LeO.bind ?_ (fun _ => ?_))
set_option maxHeartbeats 8000000 in
set_option maxRecDepth 100000 in
theorem impl_Part_82.calls (k : Nat) (A0 : Option Addr) (c0 : Nat) (l0 : List (S61))  (r : Int) (w : World) (hr0 : Kd.C k61 w A0 l0.length l0) (hc0 : l0.length ≤ c0) (h : impl_Part_82.f k l0 = some r) :
  Calls Try.prog 82 #[.slice A0 l0.length c0, .func (.func 65) #[] #[]] w fun e w' => e = .returned (.int .i64 r) ∧ Below w.heap.size w w' := by
 have hu61 := Try.underlying61
 have d9 := aM hr0
 have fq := aM hc0
 clear hr0 hc0
 have HB := aM (Below.refl w.heap.size w)
 have H : (impl_Part_82.l0 k l0 (l0.length : Int) 0) = some r := h
 clear h
 have H' := aM H
 clear H
 go_enter Try.func82, Try.ntmps82
 go_wp2
 go_loopg [8] k (fun kq v8 w' => ∃ (x8_1 : Int), v8 = .int .i64 x8_1 ∧ Aside0 (impl_Part_82.l0 kq l0 (l0.length : Int) x8_1 = some r) ∧ Aside0 (kq ≤ k) ∧ Aside0 (Below w.heap.size w w'))
 case atStart => exact ⟨(0), z1, H', ⟨Nat.le_refl _⟩, ⟨y5⟩⟩
 case round =>
  clear H'
  obtain ⟨x8_1, rfl, HA, HK1, HB⟩ := hrel
  cases gk with
  | zero => exact absurd HA.out (by simp [impl_Part_82.l0])
  | succ k1 =>
   have H := HA.out
   clear HA
   simp only [impl_Part_82.l0] at H
   by_cases c3 : x8_1 < (l0.length : Int)
   ·rw [if_pos c3] at H
    have c3b0 : decide (x8_1 < (l0.length : Int)) = true := dT c3
    clear c3
    by_cases c4 : 0 ≤ x8_1
    ·rw [if_pos c4] at H
     have c4b0 : decide (0 ≤ x8_1) = true := dT c4
     clear c4
     by_cases c5 : x8_1 < (l0.length : Int)
     ·rw [if_pos c5] at H
      have c5b0 : decide (x8_1 < (l0.length : Int)) = true := dT c5
      clear c5
      obtain ⟨sS, A6, H⟩ := oA_ H
      try dsimp only at H
      by_cases c7 : sS = true
      ·subst c7
       rw [if_pos rfl] at H
       obtain rfl := sI H
       have p408 : 0 ≤ (x8_1 : Int) := oD z2
       have q408 : x8_1 < (l0.length : Int) := oD z2
       obtain ⟨ad408, e408, hx408_0, hx408_1, hx408_2⟩ := at_T61 d9.out x8_1 p408 q408
       cases e408
       replace hx408_0 := (HB.out.cell (World.block_lt_of_cell? w _ hx408_0)).trans hx408_0
       replace hx408_1 := (HB.out.cell (World.block_lt_of_cell? w _ hx408_1)).trans hx408_1
       replace hx408_2 := (HB.out.cell (World.block_lt_of_cell? w _ hx408_2)).trans hx408_2
       replace p408 := eq_true p408
       replace q408 := eq_true q408
       go_wp2_with (first | (go_at_call 65; (with_reducible refine (impl_GoodOp_1.calls k1 ((rd_T61 l0 x8_1).f0) ((rd_T61 l0 x8_1).f1) ((rd_T61 l0 x8_1).f2) true _ A6.out).mono ?_); rintro e w8 ⟨rfl, hb⟩; replace HB := aM (ao z14 hb); (try clear hb)))
       go_ret
       exact ⟨y4, y5⟩
      ·replace c7 := Bool.eq_false_iff.mpr c7
       subst c7
       rw [if_neg nF_] at H
       have H' := aM H
       clear H
       have p408 : 0 ≤ (x8_1 : Int) := oD z2
       have q408 : x8_1 < (l0.length : Int) := oD z2
       obtain ⟨ad408, e408, hx408_0, hx408_1, hx408_2⟩ := at_T61 d9.out x8_1 p408 q408
       cases e408
       replace hx408_0 := (HB.out.cell (World.block_lt_of_cell? w _ hx408_0)).trans hx408_0
       replace hx408_1 := (HB.out.cell (World.block_lt_of_cell? w _ hx408_1)).trans hx408_1
       replace hx408_2 := (HB.out.cell (World.block_lt_of_cell? w _ hx408_2)).trans hx408_2
       replace p408 := eq_true p408
       replace q408 := eq_true q408
       go_wp2_with (first | (go_at_call 65; (with_reducible refine (impl_GoodOp_1.calls k1 ((rd_T61 l0 x8_1).f0) ((rd_T61 l0 x8_1).f1) ((rd_T61 l0 x8_1).f2) false _ A6.out).mono ?_); rintro e w9 ⟨rfl, hb⟩; replace HB := aM (ao z14 hb); (try clear hb)))
       go_roundg k1
       case measure => have := HK1.out; omega
       case rel => exact ⟨(wrap64 (x8_1 + 1)), z1, H', ⟨by have := HK1.out; omega⟩, ⟨y5⟩⟩
     ·rw [if_neg c5] at H
      exact absurd H (by simp)
    ·rw [if_neg c4] at H
     exact absurd H (by simp)
   ·rw [if_neg c3] at H
    have c3b0 : decide (x8_1 < (l0.length : Int)) = false := dF c3
    clear c3
    obtain rfl := sI H
    go_wp2
    go_ret
    exact ⟨y4, y5⟩

/-! ### impl_Part_64: function 64 -/
def impl_Part_64.f (k : Nat) (l0 : List (S61))  : Option (Bool) := (impl_Part_82.f k l0).bind fun pC => (some (decide (pC ≥ 0)))
theorem impl_Part_64.mono : ∀ a0 k, LeO (impl_Part_64.f k a0) (impl_Part_64.f (k + 1) a0) := by
 intro a0 k
 unfold impl_Part_64.f
 repeat' first
   | (with_reducible exact impl_Part_82.mono _ _)
   | (with_reducible exact LeO.refl _)
   | (with_reducible exact LeO.none _)
   | (with_reducible refine LeO.ite ?_ ?_)
   | (with_reducible refine LeO.bind ?_ (fun _ => ?_))
set_option maxHeartbeats 8000000 in
set_option maxRecDepth 100000 in
theorem impl_Part_64.calls (k : Nat) (A0 : Option Addr) (c0 : Nat) (l0 : List (S61))  (r : Bool) (w : World) (hr0 : Kd.C k61 w A0 l0.length l0) (hc0 : l0.length ≤ c0) (h : impl_Part_64.f k l0 = some r) :
  Calls Try.prog 64 #[.slice A0 l0.length c0, .func (.func 65) #[] #[]] w fun e w' => e = .returned (.bool r) ∧ Below w.heap.size w w' := by
 have d9 := aM hr0
 have fq := aM hc0
 clear hr0 hc0
 have HB := aM (Below.refl w.heap.size w)
 have H : ((impl_Part_82.f k l0).bind fun pC => (some (decide (pC ≥ 0)))) = some r := h
 clear h
 obtain ⟨pC, A3, H⟩ := oA_ H
 try dsimp only at H
 obtain rfl := sI H
 go_enter Try.func64, Try.ntmps64
 go_wp2_with (first | ((with_reducible refine av (f := 82) rfl ?_); refine ay (some 7) rfl rfl Try.func82 z0 rfl #[.slice A0 l0.length c0, .func (.func 65) #[] #[]] rfl z15 ?_; (with_reducible refine (impl_Part_82.calls k _ _ l0  pC _ ?side1 ?side2 A3.out).mono ?_); (case side1 => exact y43); (case side2 => exact fq.out); rintro e w4 ⟨rfl, hb⟩; refine ⟨_, rfl, ?_⟩; replace HB := aM (ao z14 hb); (try clear hb)))
 go_ret
 exact ⟨y4, y5⟩

/-! ### impl_GoodOp: function 44 -/
def impl_GoodOp.f (k : Nat) (l0 : List (S61)) : Option (Bool) := if (l0.length : Int) > 60 then (some false) else ((impl_Part_64.f k l0).bind fun pz => (if pz = true then (some false) else ((impl_sizes.f k l0).bind fun lR => (if lR.1 ≤ 300 then (some (decide (lR.2 ≤ 300))) else (some false)))))
theorem impl_GoodOp.mono : ∀ a0 k, LeO (impl_GoodOp.f k a0) (impl_GoodOp.f (k + 1) a0) := by
 intro a0 k
 unfold impl_GoodOp.f
 repeat' first
   | (with_reducible exact impl_Part_64.mono _ _)
   | (with_reducible exact impl_sizes.mono _ _)
   | (with_reducible exact LeO.refl _)
   | (with_reducible exact LeO.none _)
   | (with_reducible refine LeO.ite ?_ ?_)
   | (with_reducible refine LeO.bind ?_ (fun _ => ?_))
set_option maxHeartbeats 8000000 in
set_option maxRecDepth 100000 in
theorem impl_GoodOp.calls (k : Nat) (A0 : Option Addr) (c0 : Nat) (l0 : List (S61)) (r : Bool) (w : World) (hr0 : Kd.C k61 w A0 l0.length l0) (hc0 : l0.length ≤ c0) (h : impl_GoodOp.f k l0 = some r) :
  Calls Try.prog 44 #[.slice A0 l0.length c0] w fun e w' => e = .returned (.bool r) ∧ Below w.heap.size w w' := by
 have d9 := aM hr0
 have fq := aM hc0
 clear hr0 hc0
 have HB := aM (Below.refl w.heap.size w)
 have H : (if (l0.length : Int) > 60 then (some false) else ((impl_Part_64.f k l0).bind fun pz => (if pz = true then (some false) else ((impl_sizes.f k l0).bind fun lR => (if lR.1 ≤ 300 then (some (decide (lR.2 ≤ 300))) else (some false)))))) = some r := h
 clear h
 by_cases c2 : (l0.length : Int) > 60
 ·rw [if_pos c2] at H
  have c2b0 : decide (60 < (l0.length : Int)) = true := dT c2
  have c2b1 : decide (60 < l0.length) = true := dT (by omega)
  clear c2
  obtain rfl := sI H
  go_enter Try.func44, Try.ntmps44
  go_wp2
  go_ret
  exact ⟨y4, y5⟩
 ·rw [if_neg c2] at H
  have c2b0 : decide (60 < (l0.length : Int)) = false := dF c2
  have c2b1 : decide (60 < l0.length) = false := dF (by omega)
  clear c2
  obtain ⟨pz, A3, H⟩ := oA_ H
  try dsimp only at H
  by_cases c4 : pz = true
  ·subst c4
   rw [if_pos rfl] at H
   obtain rfl := sI H
   go_enter Try.func44, Try.ntmps44
   go_wp2_with (first | (go_at_call 64; (with_reducible refine (impl_Part_64.calls k _ _ l0  true _ ?side1 ?side2 A3.out).mono ?_); (case side1 => exact y43); (case side2 => exact fq.out); rintro e w5 ⟨rfl, hb⟩; replace HB := aM (ao z14 hb); (try clear hb)))
   go_ret
   exact ⟨y4, y5⟩
  ·replace c4 := Bool.eq_false_iff.mpr c4
   subst c4
   rw [if_neg nF_] at H
   obtain ⟨⟨px, uI⟩, A6, H⟩ := oA_ H
   try dsimp only at H
   by_cases c7 : px ≤ 300
   ·rw [if_pos c7] at H
    have c7b0 : decide (px ≤ 300) = true := dT c7
    clear c7
    obtain rfl := sI H
    go_enter Try.func44, Try.ntmps44
    go_wp2_with (first | (go_at_call 64; (with_reducible refine (impl_Part_64.calls k _ _ l0  false _ ?side1 ?side2 A3.out).mono ?_); (case side1 => exact y43); (case side2 => exact fq.out); rintro e w8 ⟨rfl, hb⟩; replace HB := aM (ao z14 hb); (try clear hb)) | ((with_reducible refine av (f := 46) rfl ?_); refine ay (some 14) rfl rfl Try.func46 z0 rfl #[.slice A0 l0.length c0] rfl z15 ?_; (with_reducible refine (impl_sizes.calls k _ _ l0 px uI _ ?side1 ?side2 A6.out).mono ?_); (case side1 => exact y51); (case side2 => exact fq.out); rintro e w9 ⟨rfl, hb⟩; refine ⟨_, rfl, ?_⟩; replace HB := aM (ao z14 hb); (try clear hb)))
    go_ret
    exact ⟨y4, y5⟩
   ·rw [if_neg c7] at H
    have c7b0 : decide (px ≤ 300) = false := dF c7
    clear c7
    obtain rfl := sI H
    go_enter Try.func44, Try.ntmps44
    go_wp2_with (first | (go_at_call 64; (with_reducible refine (impl_Part_64.calls k _ _ l0  false _ ?side1 ?side2 A3.out).mono ?_); (case side1 => exact y43); (case side2 => exact fq.out); rintro e w10 ⟨rfl, hb⟩; replace HB := aM (ao z14 hb); (try clear hb)) | ((with_reducible refine av (f := 46) rfl ?_); refine ay (some 14) rfl rfl Try.func46 z0 rfl #[.slice A0 l0.length c0] rfl z15 ?_; (with_reducible refine (impl_sizes.calls k _ _ l0 px uI _ ?side1 ?side2 A6.out).mono ?_); (case side1 => exact y51); (case side2 => exact fq.out); rintro e w11 ⟨rfl, hb⟩; refine ⟨_, rfl, ?_⟩; replace HB := aM (ao z14 hb); (try clear hb)))
    go_ret
    exact ⟨y4, y5⟩

/-! ### impl_goodOp: function 39 -/
def impl_goodOp.f (k : Nat) (l0 : List (S61)) : Option ((List (S61)) × Bool) := (impl_GoodOp.f k l0).bind fun pv => (if pv = true then (some (l0, true)) else (some (([] : List (S61)), false)))
theorem impl_goodOp.mono : ∀ a0 k, LeO (impl_goodOp.f k a0) (impl_goodOp.f (k + 1) a0) := by
 intro a0 k
 unfold impl_goodOp.f
 repeat' first
   | (with_reducible exact impl_GoodOp.mono _ _)
   | (with_reducible exact LeO.refl _)
   | (with_reducible exact LeO.none _)
   | (with_reducible refine LeO.ite ?_ ?_)
   | (with_reducible refine LeO.bind ?_ (fun _ => ?_))
set_option maxHeartbeats 8000000 in
set_option maxRecDepth 100000 in
theorem impl_goodOp.calls (k : Nat) (P0_ : Nat → Prop) (u9000_ : Value) (l0 : List (S61)) (r1 : List (S61)) (r2 : Bool) (w0 w : World) (hB : Below w0.heap.size w0 w) (ho0 : Kd.R k61 61 w w0.heap.size P0_ u9000_ l0) (h : impl_goodOp.f k l0 = some (r1, r2)) :
  Calls Try.prog 39 #[u9000_] w fun e w' => ∃ v0_ : Value, e = .returned (.tuple #[v0_, .bool r2]) ∧ Kd.R k61 61 w' w0.heap.size (fun k_ => (P0_ k_ ∨ w.heap.size ≤ k_)) v0_ r1 ∧ Below w0.heap.size w0 w' ∧ Kept w w' (fun k_ => P0_ k_) := by
 have j6 := aM (show Kd.R k61 61 w w0.heap.size (fun k_ => (P0_ k_ ∨ w.heap.size ≤ k_)) u9000_ l0 from ag ho0 (fun k_ hk => (.inl hk)))
 have HK := aM (Kept.refl w (fun k_ => P0_ k_))
 have HW0 := aM hB.size
 have HB := aM hB
 clear hB
 have H : ((impl_GoodOp.f k l0).bind fun pv => (if pv = true then (some (l0, true)) else (some (([] : List (S61)), false)))) = some (r1, r2) := h
 clear h
 obtain ⟨pv, A2, H⟩ := oA_ H
 try dsimp only at H
 by_cases c3 : pv = true
 ·subst c3
  rw [if_pos rfl] at H
  simp only [Option.some.injEq, Prod.mk.injEq] at H
  obtain ⟨rfl, rfl⟩ := H
  obtain ⟨Ao4, co4, eo4⟩ := Kd.R_slice j6.out
  subst eo4
  go_enter Try.func39, Try.ntmps39
  go_wp2_with (first | ((with_reducible refine av (f := 44) rfl ?_); refine ay (some 5) rfl rfl Try.func44 z0 rfl #[.slice Ao4 l0.length co4] rfl z15 ?_; (with_reducible refine (impl_GoodOp.calls k _ _ l0 true _ ?side1 ?side2 A2.out).mono ?_); (case side1 => exact y47); (case side2 => exact (ah j6.out).2.1); rintro e w5 ⟨rfl, hb⟩; refine ⟨_, rfl, ?_⟩; replace j6 := aM (af (kR_ j6.out) hb); replace HK := aM (Kept.below (S := (fun k_ => P0_ k_)) (by repeat (first | (with_reducible first | exact HK.out | apply Kept.alloc | apply Kept.drewN | apply Kept.drew) | exact HK.out)) hb); replace HB := aM (ao z14 hb); (try clear hb)))
  go_ret2
  exact ⟨_, y4, by (with_reducible repeat (first | apply ac | apply ab | apply aa)); exact j6.out, y5, by repeat (first | (with_reducible first | exact HK.out | apply Kept.alloc | apply Kept.drewN | apply Kept.drew) | exact HK.out)⟩
 ·replace c3 := Bool.eq_false_iff.mpr c3
  subst c3
  rw [if_neg nF_] at H
  simp only [Option.some.injEq, Prod.mk.injEq] at H
  obtain ⟨rfl, rfl⟩ := H
  obtain ⟨Ao6, co6, eo6⟩ := Kd.R_slice j6.out
  subst eo6
  go_enter Try.func39, Try.ntmps39
  go_wp2_with (first | ((with_reducible refine av (f := 44) rfl ?_); refine ay (some 5) rfl rfl Try.func44 z0 rfl #[.slice Ao6 l0.length co6] rfl z15 ?_; (with_reducible refine (impl_GoodOp.calls k _ _ l0 false _ ?side1 ?side2 A2.out).mono ?_); (case side1 => exact y47); (case side2 => exact (ah j6.out).2.1); rintro e w7 ⟨rfl, hb⟩; refine ⟨_, rfl, ?_⟩; replace j6 := aM (af (kR_ j6.out) hb); replace HK := aM (Kept.below (S := (fun k_ => P0_ k_)) (by repeat (first | (with_reducible first | exact HK.out | apply Kept.alloc | apply Kept.drewN | apply Kept.drew) | exact HK.out)) hb); replace HB := aM (ao z14 hb); (try clear hb)))
  go_ret2
  exact ⟨_, y4, y28, y5, by repeat (first | (with_reducible first | exact HK.out | apply Kept.alloc | apply Kept.drewN | apply Kept.drew) | exact HK.out)⟩

/-! ### impl_CompileCommand: function 20 -/
def impl_CompileCommand.f (k : Nat) (a0 : ByteArray) (a1_0 : Int) (a1_1 : Int) (a1_2 : Int) (a1_3 : ByteArray) : Option ((List (S61)) × Bool) := (impl_Command_do.f k a1_0 a1_1 a1_2 a1_3 a0).bind fun lQ => (if lQ.2.2 = true then ((impl_goodOp.f k lQ.2.1).bind fun lP => (some (lP.1, lP.2))) else (some (([] : List (S61)), false)))
theorem impl_CompileCommand.mono : ∀ a0 a1 a2 a3 a4 k, LeO (impl_CompileCommand.f k a0 a1 a2 a3 a4) (impl_CompileCommand.f (k + 1) a0 a1 a2 a3 a4) := by
 intro a0 a1 a2 a3 a4 k
 unfold impl_CompileCommand.f
 repeat' first
   | (with_reducible exact impl_Command_do.mono _ _ _ _ _ _)
   | (with_reducible exact impl_goodOp.mono _ _)
   | (with_reducible exact LeO.refl _)
   | (with_reducible exact LeO.none _)
   | (with_reducible refine LeO.ite ?_ ?_)
   | (with_reducible refine LeO.bind ?_ (fun _ => ?_))
set_option maxHeartbeats 8000000 in
set_option maxRecDepth 100000 in
theorem impl_CompileCommand.calls (k : Nat) (a0 : ByteArray) (a1_0 : Int) (a1_1 : Int) (a1_2 : Int) (a1_3 : ByteArray) (r1 : List (S61)) (r2 : Bool) (w : World) (h : impl_CompileCommand.f k a0 a1_0 a1_1 a1_2 a1_3 = some (r1, r2)) :
  Calls Try.prog 20 #[.string a0, .agg #[.int .i64 a1_0, .int .i64 a1_1, .int .i64 a1_2, .string a1_3]] w fun e w' => ∃ v0_ : Value, e = .returned (.tuple #[v0_, .bool r2]) ∧ Kd.R k61 61 w' w.heap.size (fun _ => True) v0_ r1 ∧ Below w.heap.size w w' := by
 have hu29 := Try.underlying29
 have HB := aM (Below.refl w.heap.size w)
 have H : ((impl_Command_do.f k a1_0 a1_1 a1_2 a1_3 a0).bind fun lQ => (if lQ.2.2 = true then ((impl_goodOp.f k lQ.2.1).bind fun lP => (some (lP.1, lP.2))) else (some (([] : List (S61)), false)))) = some (r1, r2) := h
 clear h
 obtain ⟨⟨uH, o4, t420⟩, A3, H⟩ := oA_ H
 try dsimp only at H
 by_cases c4 : t420 = true
 ·subst c4
  rw [if_pos rfl] at H
  obtain ⟨⟨t421, t424⟩, A5, H⟩ := oA_ H
  try dsimp only at H
  simp only [Option.some.injEq, Prod.mk.injEq] at H
  obtain ⟨rfl, rfl⟩ := H
  go_enter Try.func20, Try.ntmps20
  go_wp2_with (first | ((with_reducible refine aw (N := 3) rfl ?_); refine ax ?hg (N := 3) ?hd (cs := #[.int .i64 a1_0, .int .i64 a1_1, .int .i64 a1_2, .string a1_3]) (t := 29) ?hr ?_; (case hd => rfl); (case hg => rfl); (case hr => first | (go_simp; done) | (go_simp; rfl)); intro eo hg w6 hbox hb; have cm := aM (hbox); have GW415 := aM ((by rw [hg]; exact (ap z14) : w.heap.size ≤ eo)); have ia := aM ((by rw [hg]; exact (ap z14) : w.heap.size ≤ eo)); replace HB := aM (ao z14 hb); clear hb hbox hg; obtain ⟨hcz7_0, hcz7_1, hcz7_2, hcz7_3, hfz7_0, hfz7_1, hfz7_2, hfz7_3⟩ := cc4 cm.out) | ((with_reducible refine av (f := 35) rfl ?_); refine ay (some 12) rfl rfl Try.func35 z0 rfl #[.agg #[.int .i64 a1_0, .int .i64 a1_1, .int .i64 a1_2, .string a1_3], .string a0] rfl z15 ?_; (with_reducible refine (impl_Command_do.calls k a1_0 a1_1 a1_2 a1_3 a0 uH o4 true _ A3.out).mono ?_); rintro e w8 ⟨v418, rfl, ho0, hb⟩; refine ⟨_, rfl, ?_⟩; have lW := aM (az ho0 (ap (by repeat (first | (with_reducible first | exact HB.out | apply bA | apply pD | apply bD | refine am ?_ ia.out) | exact HB.out)))); replace cm := aM (ae (g := eo) (o := .cells #[.int .i64 a1_0, .int .i64 a1_1, .int .i64 a1_2, .string a1_3] 29 (0, 0)) (kB_ cm.out) hb); replace HB := aM (ao (by repeat (first | (with_reducible first | exact HB.out | apply bA | apply pD | apply bD | refine am ?_ ia.out) | exact HB.out)) hb); (try clear hb); (try clear ho0); obtain ⟨wy, ws, eo9⟩ := Kd.R_slice lW.out; subst eo9) | ((with_reducible refine av (f := 39) rfl ?_); refine ay (some 19) rfl rfl Try.func39 z0 rfl #[.slice wy o4.length ws] rfl z15 ?_; (with_reducible refine (impl_goodOp.calls k (fun k_ => some k_ = (.slice wy o4.length ws : Value).ownBlock) (.slice wy o4.length ws) o4 t421 t424 w _ ?side1 ?side2 A5.out).mono ?_); (case side1 => repeat (first | (with_reducible first | exact HB.out | apply bA | apply pD | apply bD | refine am ?_ ia.out) | exact HB.out)); (case side2 => exact Kd.R_tight rfl lW.out); rintro e w10 ⟨v422, rfl, ho0, hb, hkp⟩; refine ⟨_, rfl, ?_⟩; replace cm := aM (blk_kept (kB_ cm.out) hkp (fun hs_ => (fun e_ => (Kd.R_ne lW.out cm.out (by decide)) e_) hs_)); have HO423 := aM (ag (ok' := fun k_ => True) ho0 (fun k_ hk_ => trivial)); replace HB := aM (hb); clear lW; (try clear hb); (try clear hkp); (try clear ho0)))
  go_ret2
  exact ⟨_, y4, by (with_reducible repeat (first | apply ac | apply ab | apply aa)); exact HO423.out, by repeat (first | (with_reducible first | exact HB.out | apply bA | apply pD | apply bD | refine am ?_ ia.out) | exact HB.out)⟩
 ·replace c4 := Bool.eq_false_iff.mpr c4
  subst c4
  rw [if_neg nF_] at H
  simp only [Option.some.injEq, Prod.mk.injEq] at H
  obtain ⟨rfl, rfl⟩ := H
  go_enter Try.func20, Try.ntmps20
  go_wp2_with (first | ((with_reducible refine aw (N := 3) rfl ?_); refine ax ?hg (N := 3) ?hd (cs := #[.int .i64 a1_0, .int .i64 a1_1, .int .i64 a1_2, .string a1_3]) (t := 29) ?hr ?_; (case hd => rfl); (case hg => rfl); (case hr => first | (go_simp; done) | (go_simp; rfl)); intro eo hg w11 hbox hb; have cm := aM (hbox); have GW415 := aM ((by rw [hg]; exact (ap z14) : w.heap.size ≤ eo)); have ia := aM ((by rw [hg]; exact (ap z14) : w.heap.size ≤ eo)); replace HB := aM (ao z14 hb); clear hb hbox hg; obtain ⟨kV, kU, kT, oQ, kK, kJ, kI, n0⟩ := cc4 cm.out) | ((with_reducible refine av (f := 35) rfl ?_); refine ay (some 12) rfl rfl Try.func35 z0 rfl #[.agg #[.int .i64 a1_0, .int .i64 a1_1, .int .i64 a1_2, .string a1_3], .string a0] rfl z15 ?_; (with_reducible refine (impl_Command_do.calls k a1_0 a1_1 a1_2 a1_3 a0 uH o4 false _ A3.out).mono ?_); rintro e w13 ⟨v418, rfl, ho0, hb⟩; refine ⟨_, rfl, ?_⟩; have lW := aM (az ho0 (ap (by repeat (first | (with_reducible first | exact HB.out | apply bA | apply pD | apply bD | refine am ?_ ia.out) | exact HB.out)))); replace cm := aM (ae (g := eo) (o := .cells #[.int .i64 a1_0, .int .i64 a1_1, .int .i64 a1_2, .string a1_3] 29 (0, 0)) (kB_ cm.out) hb); replace HB := aM (ao (by repeat (first | (with_reducible first | exact HB.out | apply bA | apply pD | apply bD | refine am ?_ ia.out) | exact HB.out)) hb); (try clear hb); (try clear ho0)))
  go_ret2
  exact ⟨_, y4, y28, by repeat (first | (with_reducible first | exact HB.out | apply bA | apply pD | apply bD | refine am ?_ ia.out) | exact HB.out)⟩

end Go.Proofs.Ytmigfgcpdelnfaa.AFnCommands
