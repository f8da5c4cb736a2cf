-- this session's own text: written by wip/tools/ownprint.py over the kit's print
import Derived.Test.YtmigfgcpdelnfaaAFnCommandsx0
import Derived.Test.YtmigfgcpdelnfaaAFnCommandsx1
import Derived.Test.YtmigfgcpdelnfaaAFnCommandsx7
import Derived.Test.YtmigfgcpdelnfaaAFnCommandsx8
import Derived.Test.YtmigfgcpdelnfaaAFnCommandsx14
import Derived.Test.YtmigfgcpdelnfaaAFnCommandsx15
import Derived.Test.YtmigfgcpdelnfaaAFnCommandsx17
import Derived.Test.YtmigfgcpdelnfaaAFnCommandsx18
namespace Go.Proofs.Ytmigfgcpdelnfaa.AFnCommands
open Go.RowKit Go.Proofs.YtmigfgcpdelnfaaW.PrintWords Go.Proofs.YtmigfgcpdelnfaaW.PrintLast Go.Proofs.YtmigfgcpdelnfaaW.PrintMore
attribute [local go_sem] max2_int min2_int max_two min_two max_three min_three max_four min_four   -- for this text's walks alone
set_option linter.unusedVariables false
set_option linter.unusedSimpArgs false

attribute [local go_sem high] eqA61
/-! ### spec_DrawCompileCommand: function 24 -/
def spec_DrawCompileCommand.f (k : Nat) (l0 : List Int) : Option (ByteArray × Int × Int × Int × ByteArray) := (spec_l1Cur_doc.f k l0 0 0).bind fun g6 => ((spec_l1Cur_command.f k l0 g6.2.1 g6.2.2 g6.1).bind fun g5 => (some (g6.1, g5.1, g5.2.1, g5.2.2.1, g5.2.2.2.1)))
theorem spec_DrawCompileCommand.mono : ∀ a0 k, LeO (spec_DrawCompileCommand.f k a0) (spec_DrawCompileCommand.f (k + 1) a0) := by
 intro a0 k
 unfold spec_DrawCompileCommand.f
 repeat' first
   | (with_reducible exact spec_l1Cur_command.mono _ _ _ _ _)
   | (with_reducible exact spec_l1Cur_doc.mono _ _ _ _)
   | (with_reducible exact LeO.refl _)
   | (with_reducible exact LeO.none _)
   | (with_reducible refine LeO.ite ?_ ?_)
   | (with_reducible refine LeO.bind ?_ (fun _ => ?_))
set_option maxHeartbeats 8000000 in
set_option maxRecDepth 100000 in
theorem spec_DrawCompileCommand.calls (k : Nat) (A0 : Option Addr) (c0 : Nat) (l0 : List Int) (r1 : ByteArray) (r2 : Int) (r3 : Int) (r4 : Int) (r5 : ByteArray) (w : World) (hr0 : Kd.C (Kd.int .u8) w A0 l0.length l0) (hc0 : l0.length ≤ c0) (h : spec_DrawCompileCommand.f k l0 = some (r1, r2, r3, r4, r5)) :
  Calls Try.prog 24 #[.slice A0 l0.length c0] w fun e w' => e = .returned (.tuple #[.string r1, .agg #[.int .i64 r2, .int .i64 r3, .int .i64 r4, .string r5]]) ∧ Below w.heap.size w w' := by
 have hu29 := Try.underlying29
 have hu66 := Try.underlying66
 have d9 := aM hr0
 have fq := aM hc0
 clear hr0 hc0
 have HB := aM (Below.refl w.heap.size w)
 have H : ((spec_l1Cur_doc.f k l0 0 0).bind fun g6 => ((spec_l1Cur_command.f k l0 g6.2.1 g6.2.2 g6.1).bind fun g5 => (some (g6.1, g5.1, g5.2.1, g5.2.2.1, g5.2.2.2.1)))) = some (r1, r2, r3, r4, r5) := h
 clear h
 obtain ⟨⟨sE, t2, t1⟩, A2, H⟩ := oA_ H
 try dsimp only at H
 obtain ⟨⟨pr, rr, sD, t0, t569, t570⟩, A3, H⟩ := oA_ H
 try dsimp only at H
 simp only [Option.some.injEq, Prod.mk.injEq] at H
 obtain ⟨rfl, rfl, rfl, rfl, rfl⟩ := H
 go_enter Try.func24, Try.ntmps24
 go_wp2_with (first | ((with_reducible refine aw (N := 3) rfl ?_); refine ax ?hg (N := 3) ?hd (cs := #[.int .i64 0, .int .i64 0, .int .i64 0, .string ⟨#[]⟩]) (t := 29) ?hr ?_; (case hd => rfl); (case hg => rfl); (case hr => first | (go_simp; done) | (go_simp; rfl)); intro eC hg w4 hbox hb; have dd := aM (hbox); have GW560 := aM ((by rw [hg]; exact (ap z14) : w.heap.size ≤ eC)); have kn := aM ((by rw [hg]; exact (ap z14) : w.heap.size ≤ eC)); replace HB := aM (ao z14 hb); clear hb hbox hg) | ((with_reducible refine aw (N := 8) rfl ?_); refine ax ?hg (N := 8) ?hd (cs := #[.slice A0 l0.length c0, .int .i64 0, .int .u64 0]) (t := 66) ?hr ?_; (case hd => rfl); (case hg => rfl); (case hr => first | (go_simp; done) | (go_simp; rfl)); intro hV hg w5 hbox hb; have qW := aM (hbox); have GW561 := aM ((by rw [hg]; exact (ap (by repeat (first | (with_reducible first | exact HB.out | apply bA | apply pD | apply bD | refine am ?_ kn.out) | exact HB.out))) : w.heap.size ≤ hV)); have GE561 := aM ((by rw [hg]; exact (ap (by repeat (first | (with_reducible first | exact HB.out | apply bA | apply pD | apply bD | refine am ?_ kn.out) | exact HB.out))) : w.heap.size ≤ hV)); replace HB := aM (ao (by repeat (first | (with_reducible first | exact HB.out | apply bA | apply pD | apply bD | refine am ?_ kn.out) | exact HB.out)) hb); have hP := aM ((by rw [hg]; exact Nat.ne_of_lt (blk_lt (g := eC) (o := .cells #[.int .i64 0, .int .i64 0, .int .i64 0, .string ⟨#[]⟩] 29 (0, 0)) (kB_ dd.out)) : eC ≠ hV)); have ki := aM ((by rw [hg]; exact Nat.ne_of_gt (blk_lt (g := eC) (o := .cells #[.int .i64 0, .int .i64 0, .int .i64 0, .string ⟨#[]⟩] 29 (0, 0)) (kB_ dd.out)) : hV ≠ eC)); replace dd := aM (ae (g := eC) (o := .cells #[.int .i64 0, .int .i64 0, .int .i64 0, .string ⟨#[]⟩] 29 (0, 0)) (kB_ dd.out) hb); clear hb hbox hg) | ((with_reducible refine av (f := 42) rfl ?_); refine ay (some 10) rfl rfl Try.func42 z0 rfl #[.pointer (some ⟨hV, 0, none⟩)] rfl z15 ?_; (with_reducible refine (spec_l1Cur_doc.calls k hV l0 0 0 sE t2 t1 w _ ?side1 ?side2 A2.out).mono ?_); (case side1 => exact ⟨_, _, by (with_reducible repeat (first | refine aj ?_ _ | refine ai ?_ | refine ak ?_ _)); exact qW.out, GE561.out, d9.out⟩); (case side2 => exact y53); rintro e w6 ⟨rfl, hi, hb, hk⟩; refine ⟨_, rfl, ?_⟩; replace dd := aM (KeepBut.blk hk (g' := eC) (o := .cells #[.int .i64 0, .int .i64 0, .int .i64 0, .string ⟨#[]⟩] 29 (0, 0)) (kB_ dd.out) hP.out (by simp)); replace HB := aM (hb); have HI561 := aM (hi); (try clear hb); (try clear hk); (try clear hi); (try clear qW)) | ((with_reducible refine av (f := 43) rfl ?_); refine ay (some 14) rfl rfl Try.func43 z0 rfl #[.pointer (some ⟨hV, 0, none⟩), .string sE] rfl z15 ?_; (with_reducible refine (spec_l1Cur_command.calls k hV l0 t2 t1 sE pr rr sD t0 t569 t570 w _ ?side1 ?side2 A3.out).mono ?_); (case side1 => repeat (first | (with_reducible first | exact HI561.out | apply IsS66.alloc | apply IsS66.drewN | apply IsS66.drew | apply IsS66.set_1 | apply IsS66.set_2 | refine IsS66.far ?_ ki.out _) | exact HI561.out)); (case side2 => exact y53); rintro e w7 ⟨rfl, hi, hb, hk⟩; refine ⟨_, rfl, ?_⟩; replace dd := aM (KeepBut.blk hk (g' := eC) (o := .cells #[.int .i64 0, .int .i64 0, .int .i64 0, .string ⟨#[]⟩] 29 (0, 0)) (kB_ dd.out) hP.out (by simp)); replace HB := aM (hb); replace HI561 := aM (hi); (try clear hb); (try clear hk); (try clear hi); (try clear qW); have hnb8 := hP.out; have hnc8 := ki.out; obtain ⟨ca, b9, b8, em, ci, b5, b4, ek⟩ := cc4 dd.out))
 refine bodyPost_ret (results_tc rfl _ _ eC 29 #[.int .i64 pr, .int .i64 rr, .int .i64 sD, .string t0] (0, 0) _ rfl (by (with_reducible repeat (first | refine aj ?_ _ | refine ai ?_ | refine ak ?_ _)); refine al (cs := #[.int .i64 pr, .int .i64 rr, .int .i64 sD, .string ⟨#[]⟩]) ?_ 3 _ rfl; (with_reducible repeat (first | refine aj ?_ _ | refine ai ?_ | refine ak ?_ _)); refine al (cs := #[.int .i64 pr, .int .i64 rr, .int .i64 0, .string ⟨#[]⟩]) ?_ 2 _ rfl; (with_reducible repeat (first | refine aj ?_ _ | refine ai ?_ | refine ak ?_ _)); refine al (cs := #[.int .i64 pr, .int .i64 0, .int .i64 0, .string ⟨#[]⟩]) ?_ 1 _ rfl; (with_reducible repeat (first | refine aj ?_ _ | refine ai ?_ | refine ak ?_ _)); refine al (cs := #[.int .i64 0, .int .i64 0, .int .i64 0, .string ⟨#[]⟩]) ?_ 0 _ rfl; (with_reducible repeat (first | refine aj ?_ _ | refine ai ?_ | refine ak ?_ _)); exact dd.out) Try.underlying29 rfl z0) rfl ?_
 exact ⟨y4, by repeat (first | (with_reducible first | exact HB.out | apply bA | apply pD | apply bD | refine am ?_ (IsS66.ge HI561.out) | refine am ?_ kn.out) | exact HB.out)⟩

/-! ### laws_sameOps: function 25 -/
def laws_sameOps.l0 : Nat → List (S61) → List (S61) → Int → Int → Option (Bool)
 | 0, _, _, _, _ => none
 | k + 1, x0, x1, x12, x13 => if x13 < x12 then (if 0 ≤ x13 then (if x13 < (x0.length : Int) then (if x13 < (x1.length : Int) then (if (!(((rd_T61 x0 x13).f0) == ((rd_T61 x1 x13).f0)) || (!((((rd_T61 x0 x13).f1).toList) == (((rd_T61 x1 x13).f1).toList)) || (!((((rd_T61 x0 x13).f2).toList) == (((rd_T61 x1 x13).f2).toList))))) = true then (some false) else (laws_sameOps.l0 k x0 x1 x12 (wrap64 (x13 + 1)))) else (none)) else (none)) else (none)) else (some true)
def laws_sameOps.f (k : Nat) (l0 : List (S61)) (l1 : List (S61)) : Option (Bool) := if (l0.length : Int) = (l1.length : Int) then (laws_sameOps.l0 k l0 l1 (l0.length : Int) 0) else (some false)
theorem laws_sameOps.mono_l : ∀ k, (∀ y0 y1 y2 y3, LeO (laws_sameOps.l0 k y0 y1 y2 y3) (laws_sameOps.l0 (k + 1) y0 y1 y2 y3))
 | 0 => fun _ _ _ _ r h => by simp [laws_sameOps.l0] at h
 | k + 1 => by
  have ih0 := laws_sameOps.mono_l k
  ·intro y0 y1 y2 y3
   unfold laws_sameOps.l0
   repeat' first
   | (with_reducible exact ih0 _ _ _ _)
   | (with_reducible exact LeO.refl _)
   | (with_reducible exact LeO.none _)
   | (with_reducible refine LeO.ite ?_ ?_)
   | (with_reducible refine LeO.bind ?_ (fun _ => ?_))
theorem laws_sameOps.mono : ∀ a0 a1 k, LeO (laws_sameOps.f k a0 a1) (laws_sameOps.f (k + 1) a0 a1) := by
 intro a0 a1 k
 have ih0 := laws_sameOps.mono_l k
 unfold laws_sameOps.f
 repeat' first
   | (with_reducible exact ih0 _ _ _ _)
   | (with_reducible exact LeO.refl _)
   | (with_reducible exact LeO.none _)
   | (with_reducible refine LeO.ite ?_ ?_)
   | (with_reducible refine LeO.bind ?_ (fun _ => ?_))
set_option maxHeartbeats 8000000 in
set_option maxRecDepth 100000 in
theorem laws_sameOps.calls (k : Nat) (A0 : Option Addr) (c0 : Nat) (l0 : List (S61)) (A1 : Option Addr) (c1 : Nat) (l1 : List (S61)) (r : Bool) (w : World) (hr0 : Kd.C k61 w A0 l0.length l0) (hc0 : l0.length ≤ c0) (hr1 : Kd.C k61 w A1 l1.length l1) (hc1 : l1.length ≤ c1) (h : laws_sameOps.f k l0 l1 = some r) :
  Calls Try.prog 25 #[.slice A0 l0.length c0, .slice A1 l1.length c1] w fun e w' => e = .returned (.bool r) ∧ Drawn0 w w' := by
 have hu61 := Try.underlying61
 have d9 := aM hr0
 have fq := aM hc0
 clear hr0 hc0
 have tn := aM hr1
 have HC1 := aM hc1
 clear hr1 hc1
 have H : (if (l0.length : Int) = (l1.length : Int) then (laws_sameOps.l0 k l0 l1 (l0.length : Int) 0) else (some false)) = some r := h
 clear h
 by_cases c3 : (l0.length : Int) = (l1.length : Int)
 ·rw [if_pos c3] at H
  have c3b0 : ((l0.length : Int) == (l1.length : Int)) = true := qT c3
  have c3b1 : ((l0.length : Int) != (l1.length : Int)) = false := nF c3
  have c3b2 : (l0.length == l1.length) = true := by first | simpa using c3 | (simp at c3 ⊢; omega)
  clear c3
  have H' := aM H
  clear H
  go_enter Try.func25, Try.ntmps25
  go_wp2
  repeat (go_quiet (fail); try go_wp2)
  go_loopg [13] k (fun kq v13 w' => ∃ (x13_1 : Int), v13 = .int .i64 x13_1 ∧ Aside0 (laws_sameOps.l0 kq l0 l1 (l0.length : Int) x13_1 = some r) ∧ Aside0 (kq ≤ k) ∧ Drawn0 w w')
  case atStart => exact ⟨(0), z1, H', ⟨Nat.le_refl _⟩, y3⟩
  case round =>
   clear H'
   try clear c1
   try clear c3
   try clear c3b0
   try clear c3b1
   try clear c3b2
   obtain ⟨x13_1, rfl, HA, HK1, ⟨m1, rfl⟩⟩ := hrel
   cases gk with
   | zero => exact absurd HA.out (by simp [laws_sameOps.l0])
   | succ k1 =>
    have H := HA.out
    clear HA
    simp only [laws_sameOps.l0] at H
    by_cases c4 : x13_1 < (l0.length : Int)
    ·rw [if_pos c4] at H
     have c4b0 : decide (x13_1 < (l0.length : Int)) = true := dT c4
     clear c4
     by_cases c5 : 0 ≤ x13_1
     ·rw [if_pos c5] at H
      have c5b0 : decide (0 ≤ x13_1) = true := dT c5
      clear c5
      by_cases c6 : x13_1 < (l0.length : Int)
      ·rw [if_pos c6] at H
       have c6b0 : decide (x13_1 < (l0.length : Int)) = true := dT c6
       clear c6
       by_cases c7 : x13_1 < (l1.length : Int)
       ·rw [if_pos c7] at H
        have c7b0 : decide (x13_1 < (l1.length : Int)) = true := dT c7
        clear c7
        by_cases c8 : (!(((rd_T61 l0 x13_1).f0) == ((rd_T61 l1 x13_1).f0)) || (!((((rd_T61 l0 x13_1).f1).toList) == (((rd_T61 l1 x13_1).f1).toList)) || (!((((rd_T61 l0 x13_1).f2).toList) == (((rd_T61 l1 x13_1).f2).toList))))) = true
        ·rw [if_pos c8] at H
         have c8b0 : (!(((rd_T61 l0 x13_1).f0) == ((rd_T61 l1 x13_1).f0)) || (!((((rd_T61 l0 x13_1).f1).toList) == (((rd_T61 l1 x13_1).f1).toList)) || (!((((rd_T61 l0 x13_1).f2).toList) == (((rd_T61 l1 x13_1).f2).toList))))) = true := c8
         clear c8
         obtain rfl := sI H
         have p571 : 0 ≤ (x13_1 : Int) := oD z2
         have q571 : x13_1 < (l0.length : Int) := oD z2
         obtain ⟨ad571, e571, hx571_0, hx571_1, hx571_2⟩ := at_T61 d9.out x13_1 p571 q571
         cases e571
         replace p571 := eq_true p571
         replace q571 := eq_true q571
         have p572 : 0 ≤ (x13_1 : Int) := oD z2
         have q572 : x13_1 < (l1.length : Int) := oD z2
         obtain ⟨ad572, e572, hx572_0, hx572_1, hx572_2⟩ := at_T61 tn.out x13_1 p572 q572
         cases e572
         replace p572 := eq_true p572
         replace q572 := eq_true q572
         go_wp2
         all_goals (try (exfalso; rename_i h_; rw [c8b0] at h_; cases h_; done))
         repeat (go_quiet (fail); try go_wp2)
         all_goals (try (exfalso; rename_i h_; rw [c8b0] at h_; cases h_; done))
         go_ret
         exact ⟨y1, y3⟩
        ·rw [if_neg c8] at H
         have c8b0 : (!(((rd_T61 l0 x13_1).f0) == ((rd_T61 l1 x13_1).f0)) || (!((((rd_T61 l0 x13_1).f1).toList) == (((rd_T61 l1 x13_1).f1).toList)) || (!((((rd_T61 l0 x13_1).f2).toList) == (((rd_T61 l1 x13_1).f2).toList))))) = false := by simpa using c8
         clear c8
         have H' := aM H
         clear H
         have p571 : 0 ≤ (x13_1 : Int) := oD z2
         have q571 : x13_1 < (l0.length : Int) := oD z2
         obtain ⟨ad571, e571, hx571_0, hx571_1, hx571_2⟩ := at_T61 d9.out x13_1 p571 q571
         cases e571
         replace p571 := eq_true p571
         replace q571 := eq_true q571
         have p572 : 0 ≤ (x13_1 : Int) := oD z2
         have q572 : x13_1 < (l1.length : Int) := oD z2
         obtain ⟨ad572, e572, hx572_0, hx572_1, hx572_2⟩ := at_T61 tn.out x13_1 p572 q572
         cases e572
         replace p572 := eq_true p572
         replace q572 := eq_true q572
         go_wp2
         all_goals (try (exfalso; rename_i h_; rw [c8b0] at h_; cases h_; done))
         repeat (go_quiet (fail); try go_wp2)
         all_goals (try (exfalso; rename_i h_; rw [c8b0] at h_; cases h_; done))
         go_roundg k1
         case measure => have := HK1.out; omega
         case rel => exact ⟨(wrap64 (x13_1 + 1)), z1, H', ⟨by have := HK1.out; omega⟩, y3⟩
       ·rw [if_neg c7] at H
        exact absurd H (by simp)
      ·rw [if_neg c6] at H
       exact absurd H (by simp)
     ·rw [if_neg c5] at H
      exact absurd H (by simp)
    ·rw [if_neg c4] at H
     have c4b0 : decide (x13_1 < (l0.length : Int)) = false := dF c4
     clear c4
     obtain rfl := sI H
     go_wp2
     repeat (go_quiet (fail); try go_wp2)
     go_ret
     exact ⟨y1, y3⟩
 ·rw [if_neg c3] at H
  have c3b0 : ((l0.length : Int) == (l1.length : Int)) = false := qF c3
  have c3b1 : ((l0.length : Int) != (l1.length : Int)) = true := nT c3
  have c3b2 : (l0.length == l1.length) = false := by first | simpa using c3 | (simp at c3 ⊢; omega)
  obtain rfl := sI H
  go_enter Try.func25, Try.ntmps25
  go_wp2
  repeat (go_quiet (fail); try go_wp2)
  go_ret
  exact ⟨y1, y3⟩

/-! ### impl_ApplyOp: function 26 -/
mutual
def impl_ApplyOp.j0 : Nat → List (S61) → ByteArray → Bool → Option (ByteArray × Bool)
 | 0, _, _, _ => none
 | k + 1, x0, x1, x18 => if x18 = true then (some ((⟨#[]⟩ : ByteArray), false)) else ((impl_sizes.f k x0).bind fun bt575 => (if bt575.1 = (x1.size : Int) then (impl_ApplyOp.l0 k x1 (⟨#[]⟩ : ByteArray) x0 (x0.length : Int) 0) else (some ((⟨#[]⟩ : ByteArray), false))))
def impl_ApplyOp.l0 : Nat → ByteArray → ByteArray → List (S61) → Int → Int → Option (ByteArray × Bool)
 | 0, _, _, _, _, _ => none
 | k + 1, x1, x8, x28, x29, x30 => if x30 < x29 then (if 0 ≤ x30 then (if x30 < (x28.length : Int) then (if 0 ≤ (((rd_T61 x28 x30).f2).size : Int) then (if (((rd_T61 x28 x30).f2).size : Int) ≤ (x1.size : Int) then (if (x1.extract 0 ((((rd_T61 x28 x30).f2).size : Int) : Int).toNat).toList = ((rd_T61 x28 x30).f2).toList then (if 0 ≤ ((rd_T61 x28 x30).f0) then (if ((rd_T61 x28 x30).f0) ≤ (x1.size : Int) then (if (x1.extract 0 (((rd_T61 x28 x30).f0) : Int).toNat).size + ((rd_T61 x28 x30).f1).size ≤ 9223372036854775807 then (if x8.size + ((x1.extract 0 (((rd_T61 x28 x30).f0) : Int).toNat) ++ ((rd_T61 x28 x30).f1)).size ≤ 9223372036854775807 then (if 0 ≤ (wrap64 (((rd_T61 x28 x30).f0) + (((rd_T61 x28 x30).f2).size : Int))) then (if (wrap64 (((rd_T61 x28 x30).f0) + (((rd_T61 x28 x30).f2).size : Int))) ≤ (x1.size : Int) then (impl_ApplyOp.l0 k (x1.extract ((wrap64 (((rd_T61 x28 x30).f0) + (((rd_T61 x28 x30).f2).size : Int))) : Int).toNat x1.size) (x8 ++ ((x1.extract 0 (((rd_T61 x28 x30).f0) : Int).toNat) ++ ((rd_T61 x28 x30).f1))) x28 x29 (wrap64 (x30 + 1))) else (none)) else (none)) else (none)) else (none)) else (none)) else (none)) else (some ((⟨#[]⟩ : ByteArray), false))) else (none)) else (none)) else (none)) else (none)) else (some (x8, true))
end
def impl_ApplyOp.f (k : Nat) (l0 : List (S61)) (a1 : ByteArray) : Option (ByteArray × Bool) := (impl_GoodOp.f k l0).bind fun pq => (if pq = true then ((impl_GoodText.f k a1).bind fun k9 => (impl_ApplyOp.j0 k l0 a1 (!k9))) else (impl_ApplyOp.j0 k l0 a1 true))
theorem impl_ApplyOp.mono_l : ∀ k, (∀ y0 y1 y2, LeO (impl_ApplyOp.j0 k y0 y1 y2) (impl_ApplyOp.j0 (k + 1) y0 y1 y2)) ∧ (∀ y0 y1 y2 y3 y4, LeO (impl_ApplyOp.l0 k y0 y1 y2 y3 y4) (impl_ApplyOp.l0 (k + 1) y0 y1 y2 y3 y4))
 | 0 => ⟨fun _ _ _ r h => by simp [impl_ApplyOp.j0] at h, fun _ _ _ _ _ r h => by simp [impl_ApplyOp.l0] at h⟩
 | k + 1 => by
  obtain ⟨ih0, ih1⟩ := impl_ApplyOp.mono_l k
  refine ⟨?_, ?_⟩
  ·intro y0 y1 y2
   unfold impl_ApplyOp.j0
   repeat' first
   | (with_reducible exact ih0 _ _ _)
   | (with_reducible exact ih1 _ _ _ _ _)
   | (with_reducible exact impl_GoodOp.mono _ _)
   | (with_reducible exact impl_GoodText.mono _ _)
   | (with_reducible exact impl_sizes.mono _ _)
   | (with_reducible exact LeO.refl _)
   | (with_reducible exact LeO.none _)
   | (with_reducible refine LeO.ite ?_ ?_)
   | (with_reducible refine LeO.bind ?_ (fun _ => ?_))
  ·intro y0 y1 y2 y3 y4
   unfold impl_ApplyOp.l0
   repeat' first
   | (with_reducible exact ih0 _ _ _)
   | (with_reducible exact ih1 _ _ _ _ _)
   | (with_reducible exact impl_GoodOp.mono _ _)
   | (with_reducible exact impl_GoodText.mono _ _)
   | (with_reducible exact impl_sizes.mono _ _)
   | (with_reducible exact LeO.refl _)
   | (with_reducible exact LeO.none _)
   | (with_reducible refine LeO.ite ?_ ?_)
   | (with_reducible refine LeO.bind ?_ (fun _ => ?_))
theorem impl_ApplyOp.mono : ∀ a0 a1 k, LeO (impl_ApplyOp.f k a0 a1) (impl_ApplyOp.f (k + 1) a0 a1) := by
 intro a0 a1 k
 obtain ⟨ih0, ih1⟩ := impl_ApplyOp.mono_l k
 unfold impl_ApplyOp.f
 repeat' first
   | (with_reducible exact ih0 _ _ _)
   | (with_reducible exact ih1 _ _ _ _ _)
   | (with_reducible exact impl_GoodOp.mono _ _)
   | (with_reducible exact impl_GoodText.mono _ _)
   | (with_reducible exact impl_sizes.mono _ _)
   | (with_reducible exact LeO.refl _)
   | (with_reducible exact LeO.none _)
   | (with_reducible refine LeO.ite ?_ ?_)
   | (with_reducible refine LeO.bind ?_ (fun _ => ?_))
set_option maxHeartbeats 8000000 in
set_option maxRecDepth 100000 in
theorem impl_ApplyOp.calls (k : Nat) (A0 : Option Addr) (c0 : Nat) (l0 : List (S61)) (a1 : ByteArray) (r1 : ByteArray) (r2 : Bool) (w : World) (hr0 : Kd.C k61 w A0 l0.length l0) (hc0 : l0.length ≤ c0) (h : impl_ApplyOp.f k l0 a1 = some (r1, r2)) :
  Calls Try.prog 26 #[.slice A0 l0.length c0, .string a1] w fun e w' => e = .returned (.tuple #[.string r1, .bool r2]) ∧ Below w.heap.size w w' := by
 have hu61 := Try.underlying61
 have d9 := aM hr0
 have fq := aM hc0
 clear hr0 hc0
 have HB := aM (Below.refl w.heap.size w)
 have H : ((impl_GoodOp.f k l0).bind fun pq => (if pq = true then ((impl_GoodText.f k a1).bind fun k9 => (impl_ApplyOp.j0 k l0 a1 (!k9))) else (impl_ApplyOp.j0 k l0 a1 true))) = some (r1, r2) := h
 clear h
 have qO := aM H
 clear H
 go_enter Try.func26, Try.ntmps26
 go_upto_region 1 with (fail)
 repeat (go_quiet (fail); go_upto_region 1 with (fail))
 go_cut [18] (fun v18 wc => ∃ (kq : Nat) (x18_2 : Bool), v18 = .bool x18_2 ∧ Aside0 (impl_ApplyOp.j0 kq l0 a1 x18_2 = some (r1, r2)) ∧ Aside0 (kq ≤ k) ∧ Aside0 (Below w.heap.size w wc))
 case first =>
  have H := qO.out
  clear qO
  obtain ⟨pq, A4, H⟩ := oA_ H
  try dsimp only at H
  by_cases c5 : pq = true
  ·subst c5
   rw [if_pos rfl] at H
   obtain ⟨k9, A6, H⟩ := oA_ H
   try dsimp only at H
   have H' := aM H
   clear H
   go_wp2_with (first | (go_at_call 44; (with_reducible refine (impl_GoodOp.calls k _ _ l0 true _ ?side1 ?side2 A4.out).mono ?_); (case side1 => exact y51); (case side2 => exact fq.out); rintro e w7 ⟨rfl, hb⟩; replace HB := aM (ao z14 hb); (try clear hb)) | (go_at_call 45; (with_reducible refine (impl_GoodText.calls k a1 k9 _ A6.out).mono ?_); rintro e w' ⟨rfl, ⟨nd, rfl⟩⟩; (try exact dD_)))
   repeat (go_quiet (first | (go_at_call 45; (with_reducible refine (impl_GoodText.calls k a1 k9 _ A6.out).mono ?_); rintro e w' ⟨rfl, ⟨nd, rfl⟩⟩; (try exact dD_))); try go_wp2)
   go_meet
   case rel => exact ⟨_, (!k9), z1, H', ⟨y0⟩, ⟨y5⟩⟩
  ·replace c5 := Bool.eq_false_iff.mpr c5
   subst c5
   rw [if_neg nF_] at H
   have H' := aM H
   clear H
   go_wp2_with (first | (go_at_call 44; (with_reducible refine (impl_GoodOp.calls k _ _ l0 false _ ?side1 ?side2 A4.out).mono ?_); (case side1 => exact y51); (case side2 => exact fq.out); rintro e w8 ⟨rfl, hb⟩; replace HB := aM (ao z14 hb); (try clear hb)))
   repeat (go_quiet (fail); try go_wp2)
   go_meet
   case rel => exact ⟨_, (true), z1, H', ⟨y0⟩, ⟨y5⟩⟩
 case rest =>
  clear qO
  obtain ⟨kq, x18_2, rfl, HA, k6, HB⟩ := hcut
  cases kq with
  | zero => exact absurd HA.out (by simp [impl_ApplyOp.j0])
  | succ kj2 =>
   have H := HA.out
   clear HA
   simp only [impl_ApplyOp.j0] at H
   by_cases c9 : x18_2 = true
   ·subst c9
    rw [if_pos rfl] at H
    simp only [Option.some.injEq, Prod.mk.injEq] at H
    obtain ⟨rfl, rfl⟩ := H
    go_wp2
    repeat (go_quiet (fail); try go_wp2)
    go_ret2
    exact ⟨y4, y5⟩
   ·replace c9 := Bool.eq_false_iff.mpr c9
    subst c9
    rw [if_neg nF_] at H
    obtain ⟨⟨iV, oY⟩, iT, H⟩ := oA_ H
    try dsimp only at H
    by_cases cy : iV = (a1.size : Int)
    ·rw [if_pos cy] at H
     have c11b0 : (iV == (a1.size : Int)) = true := qT cy
     have c11b1 : (iV != (a1.size : Int)) = false := nF cy
     clear cy
     have H' := aM H
     clear H
     go_wp2_with (first | (go_at_call 46; (with_reducible refine (impl_sizes.calls kj2 _ _ l0 iV oY _ ?side1 ?side2 iT.out).mono ?_); (case side1 => exact y51); (case side2 => exact fq.out); rintro e w12 ⟨rfl, hb⟩; replace HB := aM (ao z14 hb); (try clear hb)))
     repeat (go_quiet (fail); try go_wp2)
     go_loopg [1, 8, 30] kj2 (fun kq v1 v8 v30 w' => ∃ (x1_2 : ByteArray) (x8_2 : ByteArray) (x30_2 : Int), v1 = .string x1_2 ∧ v8 = .string x8_2 ∧ v30 = .int .i64 x30_2 ∧ Aside0 (impl_ApplyOp.l0 kq x1_2 x8_2 l0 (l0.length : Int) x30_2 = some (r1, r2)) ∧ Aside0 (kq ≤ kj2) ∧ Aside0 (Below w.heap.size w w'))
     case atStart => exact ⟨(a1), ((⟨#[]⟩ : ByteArray)), (0), z1, z1, z1, H', ⟨Nat.le_refl _⟩, ⟨y5⟩⟩
     case round =>
      clear H'
      try clear c9
      try clear cy
      try clear c11b0
      try clear c11b1
      obtain ⟨x1_2, x8_2, x30_2, rfl, rfl, rfl, HA, HK2, HB⟩ := hrel
      cases gk with
      | zero => exact absurd HA.out (by simp [impl_ApplyOp.l0])
      | succ k2 =>
       have H := HA.out
       clear HA
       simp only [impl_ApplyOp.l0] at H
       by_cases cY : x30_2 < (l0.length : Int)
       ·rw [if_pos cY] at H
        have c13b0 : decide (x30_2 < (l0.length : Int)) = true := dT cY
        clear cY
        by_cases cB : 0 ≤ x30_2
        ·rw [if_pos cB] at H
         have c14b0 : decide (0 ≤ x30_2) = true := dT cB
         clear cB
         by_cases cF : x30_2 < (l0.length : Int)
         ·rw [if_pos cF] at H
          have c15b0 : decide (x30_2 < (l0.length : Int)) = true := dT cF
          clear cF
          by_cases dG : 0 ≤ (((rd_T61 l0 x30_2).f2).size : Int)
          ·rw [if_pos dG] at H
           have c16b0 := eq_true dG
           have c16b1 : decide (0 ≤ (((rd_T61 l0 x30_2).f2).size : Int)) = true := dT dG
           clear dG
           by_cases dy : (((rd_T61 l0 x30_2).f2).size : Int) ≤ (x1_2.size : Int)
           ·rw [if_pos dy] at H
            have c17b0 := eq_true dy
            have c17b1 : decide ((((rd_T61 l0 x30_2).f2).size : Int) ≤ (x1_2.size : Int)) = true := dT dy
            clear dy
            by_cases d8 : (x1_2.extract 0 ((((rd_T61 l0 x30_2).f2).size : Int) : Int).toNat).toList = ((rd_T61 l0 x30_2).f2).toList
            ·rw [if_pos d8] at H
             have c18b0 : ((x1_2.extract 0 ((((rd_T61 l0 x30_2).f2).size : Int) : Int).toNat).toList == ((rd_T61 l0 x30_2).f2).toList) = true := qT d8
             (try (have c18b0n := c18b0; simp only [Int.toNat_natCast] at c18b0n))
             have c18b1 : ((x1_2.extract 0 ((((rd_T61 l0 x30_2).f2).size : Int) : Int).toNat).toList != ((rd_T61 l0 x30_2).f2).toList) = false := nF d8
             (try (have c18b1n := c18b1; simp only [Int.toNat_natCast] at c18b1n))
             clear d8
             by_cases fp : 0 ≤ ((rd_T61 l0 x30_2).f0)
             ·rw [if_pos fp] at H
              have c19b0 := eq_true fp
              have c19b1 : decide (0 ≤ ((rd_T61 l0 x30_2).f0)) = true := dT fp
              clear fp
              by_cases cx : ((rd_T61 l0 x30_2).f0) ≤ (x1_2.size : Int)
              ·rw [if_pos cx] at H
               have c20b0 := eq_true cx
               have c20b1 : decide (((rd_T61 l0 x30_2).f0) ≤ (x1_2.size : Int)) = true := dT cx
               clear cx
               by_cases ea : (x1_2.extract 0 (((rd_T61 l0 x30_2).f0) : Int).toNat).size + ((rd_T61 l0 x30_2).f1).size ≤ 9223372036854775807
               ·rw [if_pos ea] at H
                have c21b0 := eq_true ea
                have c21b1 : decide ((x1_2.extract 0 (((rd_T61 l0 x30_2).f0) : Int).toNat).size + ((rd_T61 l0 x30_2).f1).size ≤ 9223372036854775807) = true := dT ea
                try have c21b2 : (9223372036854775807 < (x1_2.extract 0 (((rd_T61 l0 x30_2).f0) : Int).toNat).size + ((rd_T61 l0 x30_2).f1).size) = False := eq_false (Nat.not_lt.2 ea)
                (try (have c21x : (9223372036854775807 < ((rd_T61 l0 x30_2).f0).toNat + ((rd_T61 l0 x30_2).f1).size) = False := eq_false (fun h_ => by have e_ := of_eq_true c21b0; simp only [aC, aA] at e_; have f0_ : ((rd_T61 l0 x30_2).f0) ≤ (x1_2.size : Int) := z3; omega)))
                by_cases eD : x8_2.size + ((x1_2.extract 0 (((rd_T61 l0 x30_2).f0) : Int).toNat) ++ ((rd_T61 l0 x30_2).f1)).size ≤ 9223372036854775807
                ·rw [if_pos eD] at H
                 have c22b0 := eq_true eD
                 have c22b1 : decide (x8_2.size + ((x1_2.extract 0 (((rd_T61 l0 x30_2).f0) : Int).toNat) ++ ((rd_T61 l0 x30_2).f1)).size ≤ 9223372036854775807) = true := dT eD
                 try have c22b2 : (9223372036854775807 < x8_2.size + ((x1_2.extract 0 (((rd_T61 l0 x30_2).f0) : Int).toNat) ++ ((rd_T61 l0 x30_2).f1)).size) = False := eq_false (Nat.not_lt.2 eD)
                 (try (have c22x : (9223372036854775807 < x8_2.size + (((rd_T61 l0 x30_2).f0).toNat + ((rd_T61 l0 x30_2).f1).size)) = False := eq_false (fun h_ => by have e_ := of_eq_true c22b0; simp only [aC, aA] at e_; have f0_ : ((rd_T61 l0 x30_2).f0) ≤ (x1_2.size : Int) := z3; omega)))
                 (try (have c22b2s := c22b2; simp only [aA] at c22b2s))
                 obtain ⟨kB, kb⟩ : ∃ j_ : Int, (wrap64 (((rd_T61 l0 x30_2).f0) + (((rd_T61 l0 x30_2).f2).size : Int))) = j_ := ⟨_, rfl⟩
                 replace H : (if 0 ≤ (kB) then (if (kB) ≤ (x1_2.size : Int) then (impl_ApplyOp.l0 k2 (x1_2.extract ((kB) : Int).toNat x1_2.size) (x8_2 ++ ((x1_2.extract 0 (((rd_T61 l0 x30_2).f0) : Int).toNat) ++ ((rd_T61 l0 x30_2).f1))) l0 (l0.length : Int) (wrap64 (x30_2 + 1))) else (none)) else (none)) = some (r1, r2) := by first | (rw [kb] at H; exact H) | (simp only [kb] at H ⊢; exact H)
                 have hji23w : (IntKind.i64.wrap (((rd_T61 l0 x30_2).f0) + (((rd_T61 l0 x30_2).f2).size : Int))) = kB := (i64_w _).trans kb
                 by_cases f6 : 0 ≤ (kB)
                 ·rw [if_pos f6] at H
                  have c24b0 := eq_true f6
                  have c24b1 : decide (0 ≤ (kB)) = true := dT f6
                  clear f6
                  by_cases d7 : (kB) ≤ (x1_2.size : Int)
                  ·rw [if_pos d7] at H
                   have c25b0 := eq_true d7
                   have c25b1 : decide ((kB) ≤ (x1_2.size : Int)) = true := dT d7
                   clear d7
                   have H' := aM H
                   clear H
                   have p577 : 0 ≤ (x30_2 : Int) := oD z2
                   have q577 : x30_2 < (l0.length : Int) := oD z2
                   obtain ⟨ad577, e577, hx577_0, hx577_1, hx577_2⟩ := at_T61 d9.out x30_2 p577 q577
                   cases e577
                   replace hx577_0 := (HB.out.cell (World.block_lt_of_cell? w _ hx577_0)).trans hx577_0
                   replace hx577_1 := (HB.out.cell (World.block_lt_of_cell? w _ hx577_1)).trans hx577_1
                   replace hx577_2 := (HB.out.cell (World.block_lt_of_cell? w _ hx577_2)).trans hx577_2
                   replace p577 := eq_true p577
                   replace q577 := eq_true q577
                   go_wp2_with (first | ((with_reducible refine aw (N := 10) rfl ?_); refine ax ?hg (N := 10) ?hd (cs := #[.int .i64 0, .string ⟨#[]⟩, .string ⟨#[]⟩]) (t := 61) ?hr ?_; (case hd => rfl); (case hg => rfl); (case hr => first | (go_simp; done) | (go_simp; rfl)); intro bS hg w26 hbox hb; have bI := aM (hbox); have lX := aM ((by rw [hg]; exact (ap z14) : w.heap.size ≤ bS)); have jK := aM ((by rw [hg]; exact (ap z14) : w.heap.size ≤ bS)); replace HB := aM (ao z14 hb); clear hb hbox hg; obtain ⟨iL, iK, iJ, iw, iv, iu⟩ := cc3 bI.out))
                   all_goals (try (exfalso; rename_i h_; rw [c18b0] at h_; cases h_; done))
                   repeat (go_quiet (fail); try go_wp2)
                   all_goals (try (exfalso; rename_i h_; rw [c18b0] at h_; cases h_; done))
                   go_roundg k2
                   case measure => have := k6.out; have := HK2.out; omega
                   case rel => exact ⟨(x1_2.extract ((kB) : Int).toNat x1_2.size), (x8_2 ++ ((x1_2.extract 0 (((rd_T61 l0 x30_2).f0) : Int).toNat) ++ ((rd_T61 l0 x30_2).f1))), (wrap64 (x30_2 + 1)), (by first | rfl | (simp; done) | (simp only [← kb] <;> (first | rfl | (simp; done) | (simp; generalize ByteArray.toList _ = u_; cases u_ <;> (first | rfl | (simp; done))))) | (simp [*]; done)), z1, z1, (by first | exact H' | (simp only [kb]; exact H') | (simp only [← kb]; exact H')), ⟨by have := k6.out; have := HK2.out; omega⟩, ⟨by repeat (first | (with_reducible first | exact HB.out | apply bA | apply pD | apply bD | refine am ?_ jK.out) | exact HB.out)⟩⟩
                  ·rw [if_neg d7] at H
                   exact absurd H (by simp)
                 ·rw [if_neg f6] at H
                  exact absurd H (by simp)
                ·rw [if_neg eD] at H
                 exact absurd H (by simp)
               ·rw [if_neg ea] at H
                exact absurd H (by simp)
              ·rw [if_neg cx] at H
               exact absurd H (by simp)
             ·rw [if_neg fp] at H
              exact absurd H (by simp)
            ·rw [if_neg d8] at H
             have c18b0 : ((x1_2.extract 0 ((((rd_T61 l0 x30_2).f2).size : Int) : Int).toNat).toList == ((rd_T61 l0 x30_2).f2).toList) = false := qF d8
             (try (have c18b0n := c18b0; simp only [Int.toNat_natCast] at c18b0n))
             have c18b1 : ((x1_2.extract 0 ((((rd_T61 l0 x30_2).f2).size : Int) : Int).toNat).toList != ((rd_T61 l0 x30_2).f2).toList) = true := nT d8
             (try (have c18b1n := c18b1; simp only [Int.toNat_natCast] at c18b1n))
             simp only [Option.some.injEq, Prod.mk.injEq] at H
             obtain ⟨rfl, rfl⟩ := H
             have p577 : 0 ≤ (x30_2 : Int) := oD z2
             have q577 : x30_2 < (l0.length : Int) := oD z2
             obtain ⟨ad577, e577, hx577_0, hx577_1, hx577_2⟩ := at_T61 d9.out x30_2 p577 q577
             cases e577
             replace hx577_0 := (HB.out.cell (World.block_lt_of_cell? w _ hx577_0)).trans hx577_0
             replace hx577_1 := (HB.out.cell (World.block_lt_of_cell? w _ hx577_1)).trans hx577_1
             replace hx577_2 := (HB.out.cell (World.block_lt_of_cell? w _ hx577_2)).trans hx577_2
             replace p577 := eq_true p577
             replace q577 := eq_true q577
             go_wp2_with (first | ((with_reducible refine aw (N := 10) rfl ?_); refine ax ?hg (N := 10) ?hd (cs := #[.int .i64 0, .string ⟨#[]⟩, .string ⟨#[]⟩]) (t := 61) ?hr ?_; (case hd => rfl); (case hg => rfl); (case hr => first | (go_simp; done) | (go_simp; rfl)); intro bS hg w28 hbox hb; have bI := aM (hbox); have lX := aM ((by rw [hg]; exact (ap z14) : w.heap.size ≤ bS)); have jK := aM ((by rw [hg]; exact (ap z14) : w.heap.size ≤ bS)); replace HB := aM (ao z14 hb); clear hb hbox hg; obtain ⟨e4, e3, eZ, eT, eS, eR⟩ := cc3 bI.out))
             all_goals (try (exfalso; rename_i h_; rw [c18b0] at h_; cases h_; done))
             repeat (go_quiet (fail); try go_wp2)
             all_goals (try (exfalso; rename_i h_; rw [c18b0] at h_; cases h_; done))
             go_ret2
             exact ⟨y4, by repeat (first | (with_reducible first | exact HB.out | apply bA | apply pD | apply bD | refine am ?_ jK.out) | exact HB.out)⟩
           ·rw [if_neg dy] at H
            exact absurd H (by simp)
          ·rw [if_neg dG] at H
           exact absurd H (by simp)
         ·rw [if_neg cF] at H
          exact absurd H (by simp)
        ·rw [if_neg cB] at H
         exact absurd H (by simp)
       ·rw [if_neg cY] at H
        have c13b0 : decide (x30_2 < (l0.length : Int)) = false := dF cY
        clear cY
        simp only [Option.some.injEq, Prod.mk.injEq] at H
        obtain ⟨rfl, rfl⟩ := H
        go_wp2
        repeat (go_quiet (fail); try go_wp2)
        go_ret2
        exact ⟨y4, y5⟩
    ·rw [if_neg cy] at H
     have c11b0 : (iV == (a1.size : Int)) = false := qF cy
     have c11b1 : (iV != (a1.size : Int)) = true := nT cy
     simp only [Option.some.injEq, Prod.mk.injEq] at H
     obtain ⟨rfl, rfl⟩ := H
     go_wp2_with (first | (go_at_call 46; (with_reducible refine (impl_sizes.calls kj2 _ _ l0 iV oY _ ?side1 ?side2 iT.out).mono ?_); (case side1 => exact y51); (case side2 => exact fq.out); rintro e w30 ⟨rfl, hb⟩; replace HB := aM (ao z14 hb); (try clear hb)))
     repeat (go_quiet (fail); try go_wp2)
     go_ret2
     exact ⟨y4, y5⟩

/-! ### impl_NormalOp: function 27 -/
def impl_NormalOp.f (k : Nat) (l0 : List (S61)) : Option ((List (S61)) × Bool) := (impl_GoodOp.f k l0).bind fun pp => (if pp = true then ((impl_normal.f l0).bind fun po => (some (po, true))) else (some (([] : List (S61)), false)))
theorem impl_NormalOp.mono : ∀ a0 k, LeO (impl_NormalOp.f k a0) (impl_NormalOp.f (k + 1) a0) := by
 intro a0 k
 unfold impl_NormalOp.f
 repeat' first
   | (with_reducible exact impl_GoodOp.mono _ _)
   | (with_reducible exact LeO.refl _)
   | (with_reducible exact LeO.none _)
   | (with_reducible refine LeO.ite ?_ ?_)
   | (with_reducible refine LeO.bind ?_ (fun _ => ?_))
set_option maxHeartbeats 8000000 in
set_option maxRecDepth 100000 in
theorem impl_NormalOp.calls (k : Nat) (A0 : Option Addr) (c0 : Nat) (l0 : List (S61)) (r1 : List (S61)) (r2 : Bool) (w : World) (hr0 : Kd.C k61 w A0 l0.length l0) (hc0 : l0.length ≤ c0) (h : impl_NormalOp.f k l0 = some (r1, r2)) :
  Calls Try.prog 27 #[.slice A0 l0.length c0] w fun e w' => ∃ v0_ : Value, e = .returned (.tuple #[v0_, .bool r2]) ∧ Kd.R k61 61 w' w.heap.size (fun _ => True) v0_ r1 ∧ Below w.heap.size w w' := by
 have d9 := aM hr0
 have fq := aM hc0
 clear hr0 hc0
 have HB := aM (Below.refl w.heap.size w)
 have H : ((impl_GoodOp.f k l0).bind fun pp => (if pp = true then ((impl_normal.f l0).bind fun po => (some (po, true))) else (some (([] : List (S61)), false)))) = some (r1, r2) := h
 clear h
 obtain ⟨pp, A2, H⟩ := oA_ H
 try dsimp only at H
 by_cases c3 : pp = true
 ·subst c3
  rw [if_pos rfl] at H
  obtain ⟨po, A4, H⟩ := oA_ H
  try dsimp only at H
  simp only [Option.some.injEq, Prod.mk.injEq] at H
  obtain ⟨rfl, rfl⟩ := H
  go_enter Try.func27, Try.ntmps27
  go_wp2_with (first | ((with_reducible refine av (f := 44) rfl ?_); refine ay (some 5) rfl rfl Try.func44 z0 rfl #[.slice A0 l0.length c0] rfl z15 ?_; (with_reducible refine (impl_GoodOp.calls k _ _ l0 true _ ?side1 ?side2 A2.out).mono ?_); (case side1 => exact y43); (case side2 => exact fq.out); rintro e w5 ⟨rfl, hb⟩; refine ⟨_, rfl, ?_⟩; replace HB := aM (ao z14 hb); (try clear hb)) | ((with_reducible refine av (f := 47) rfl ?_); refine ay (some 8) rfl rfl Try.func47 z0 rfl #[.slice A0 l0.length c0] rfl z15 ?_; (with_reducible refine (impl_normal.calls _ _ l0 po _ ?side1 ?side2 A4.out).mono ?_); (case side1 => exact y51); (case side2 => exact fq.out); rintro e w6 ⟨v581, rfl, ho0, hb⟩; refine ⟨_, rfl, ?_⟩; have HO582 := aM (az ho0 (ap z14)); replace HB := aM (ao z14 hb); (try clear hb); (try clear ho0)))
  go_ret2
  exact ⟨_, y4, by (with_reducible repeat (first | apply ac | apply ab | apply aa)); exact HO582.out, y5⟩
 ·replace c3 := Bool.eq_false_iff.mpr c3
  subst c3
  rw [if_neg nF_] at H
  simp only [Option.some.injEq, Prod.mk.injEq] at H
  obtain ⟨rfl, rfl⟩ := H
  go_enter Try.func27, Try.ntmps27
  go_wp2_with (first | ((with_reducible refine av (f := 44) rfl ?_); refine ay (some 5) rfl rfl Try.func44 z0 rfl #[.slice A0 l0.length c0] rfl z15 ?_; (with_reducible refine (impl_GoodOp.calls k _ _ l0 false _ ?side1 ?side2 A2.out).mono ?_); (case side1 => exact y43); (case side2 => exact fq.out); rintro e w7 ⟨rfl, hb⟩; refine ⟨_, rfl, ?_⟩; replace HB := aM (ao z14 hb); (try clear hb)))
  go_ret2
  exact ⟨_, y4, y28, y5⟩

end Go.Proofs.Ytmigfgcpdelnfaa.AFnCommands
