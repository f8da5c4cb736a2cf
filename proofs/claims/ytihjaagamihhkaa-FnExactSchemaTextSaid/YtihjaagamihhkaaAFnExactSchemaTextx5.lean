-- this session's own text: written by wip/tools/ownprint.py over the kit's print
import Derived.Test.YtihjaagamihhkaaAFnExactSchemaTextx0
import Derived.Test.YtihjaagamihhkaaAFnExactSchemaTextx4
namespace Go.Proofs.Ytihjaagamihhkaa.AFnExactSchemaText
open Go.RowKit Go.Proofs.YtihjaagamihhkaaW.PrintWords Go.Proofs.YtihjaagamihhkaaW.PrintLast Go.Proofs.YtihjaagamihhkaaW.PrintMore
attribute [local go_sem] max2_int min2_int max_two min_two max_three min_three max_four min_four   -- for this text's walks alone
set_option linter.unusedVariables false
set_option linter.unusedSimpArgs false

/-! ### spec_l7Text: function 24 -/
def spec_l7Text.l0 : Nat → ByteArray → List (S38) → Int → Int → Option (ByteArray)
 | 0, _, _, _, _ => none
 | k + 1, x3, x6, x7, x8 => if x8 < x7 then (if 0 ≤ x8 then (if x8 < (x6.length : Int) then (if ((rd_T38 x6 x8).f0).size + 1 ≤ 9223372036854775807 then (if (((rd_T38 x6 x8).f0) ++ (⟨#[61]⟩ : ByteArray)).size + ((rd_T38 x6 x8).f1).size ≤ 9223372036854775807 then (if ((((rd_T38 x6 x8).f0) ++ (⟨#[61]⟩ : ByteArray)) ++ ((rd_T38 x6 x8).f1)).size + 1 ≤ 9223372036854775807 then (if x3.size + (((((rd_T38 x6 x8).f0) ++ (⟨#[61]⟩ : ByteArray)) ++ ((rd_T38 x6 x8).f1)) ++ (⟨#[59]⟩ : ByteArray)).size ≤ 9223372036854775807 then (spec_l7Text.l0 k (x3 ++ (((((rd_T38 x6 x8).f0) ++ (⟨#[61]⟩ : ByteArray)) ++ ((rd_T38 x6 x8).f1)) ++ (⟨#[59]⟩ : ByteArray))) x6 x7 (wrap64 (x8 + 1))) else (none)) else (none)) else (none)) else (none)) else (none)) else (none)) else (some x3)
def spec_l7Text.f (k : Nat) (l0 : List (S38)) : Option (ByteArray) := spec_l7Text.l0 k (⟨#[]⟩ : ByteArray) l0 (l0.length : Int) 0
theorem spec_l7Text.mono_l : ∀ k, (∀ y0 y1 y2 y3, LeO (spec_l7Text.l0 k y0 y1 y2 y3) (spec_l7Text.l0 (k + 1) y0 y1 y2 y3))
 | 0 => fun _ _ _ _ r h => by simp [spec_l7Text.l0] at h
 | k + 1 => by
  have ih0 := spec_l7Text.mono_l k
  ·intro y0 y1 y2 y3
   unfold spec_l7Text.l0
   repeat' first
   | (with_reducible exact ih0 _ _ _ _)
   | (with_reducible exact LeO.refl _)
   | (with_reducible exact LeO.none _)
   | (with_reducible refine LeO.ite ?_ ?_)
   | (with_reducible refine LeO.bind ?_ (fun _ => ?_))
   | exact ih0 _ _ _ _
   | exact LeO.none _
   | refine LeO.ite ?_ ?_
   | refine LeO.bind ?_ (fun _ => ?_)
theorem spec_l7Text.mono : ∀ a0 k, LeO (spec_l7Text.f k a0) (spec_l7Text.f (k + 1) a0) := by
 intro a0 k
 have ih0 := spec_l7Text.mono_l k
 unfold spec_l7Text.f
 repeat' first
   | (with_reducible exact ih0 _ _ _ _)
   | (with_reducible exact LeO.refl _)
   | (with_reducible exact LeO.none _)
   | (with_reducible refine LeO.ite ?_ ?_)
   | (with_reducible refine LeO.bind ?_ (fun _ => ?_))
   | exact ih0 _ _ _ _
   | exact LeO.none _
   | refine LeO.ite ?_ ?_
   | refine LeO.bind ?_ (fun _ => ?_)
set_option maxHeartbeats 8000000 in
set_option maxRecDepth 100000 in
theorem spec_l7Text.calls (k : Nat) (A0 : Option Addr) (c0 : Nat) (l0 : List (S38)) (r : ByteArray) (w : World) (hr0 : Kd.C k38 w A0 l0.length l0) (hc0 : l0.length ≤ c0) (h : spec_l7Text.f k l0 = some r) :
  Calls Try.prog 24 #[.slice A0 l0.length c0] w fun e w' => e = .returned (.string r) ∧ Below w.heap.size w w' := by
 have hu38 := Try.underlying38
 have aK := aM hr0
 have bo := aM hc0
 clear hr0 hc0
 have HB := aM (Below.refl w.heap.size w)
 have H : (spec_l7Text.l0 k (⟨#[]⟩ : ByteArray) l0 (l0.length : Int) 0) = some r := h
 clear h
 have H' := aM H
 clear H
 go_enter Try.func24, Try.ntmps24
 go_wp2
 go_loopg [3, 8] k (fun kq v3 v8 w' => ∃ (x3_1 : ByteArray) (x8_1 : Int), v3 = .string x3_1 ∧ v8 = .int .i64 x8_1 ∧ Aside0 (spec_l7Text.l0 kq x3_1 l0 (l0.length : Int) x8_1 = some r) ∧ Aside0 (kq ≤ k) ∧ Aside0 (Below w.heap.size w w'))
 case atStart => exact ⟨((⟨#[]⟩ : ByteArray)), (0), (by first | rfl | (simp; done) | (simp [*]; done)), (by first | rfl | (simp; done) | (simp [*]; done)), H', ⟨Nat.le_refl _⟩, ⟨y3⟩⟩
 case round =>
  clear H'
  obtain ⟨x3_1, x8_1, rfl, rfl, HA, HK1, HB⟩ := hrel
  cases gk with
  | zero => exact absurd HA.out (by simp [spec_l7Text.l0])
  | succ k1 =>
   have H := HA.out
   clear HA
   simp only [spec_l7Text.l0] at H
   by_cases c2 : x8_1 < (l0.length : Int)
   ·rw [if_pos c2] at H
    have c2b0 : decide (x8_1 < (l0.length : Int)) = true := dT c2
    clear c2
    by_cases c3 : 0 ≤ x8_1
    ·rw [if_pos c3] at H
     have c3b0 : decide (0 ≤ x8_1) = true := dT c3
     clear c3
     by_cases c4 : x8_1 < (l0.length : Int)
     ·rw [if_pos c4] at H
      have c4b0 : decide (x8_1 < (l0.length : Int)) = true := dT c4
      clear c4
      by_cases c5 : ((rd_T38 l0 x8_1).f0).size + 1 ≤ 9223372036854775807
      ·rw [if_pos c5] at H
       have c5b0 := eq_true c5
       have c5b1 : decide (((rd_T38 l0 x8_1).f0).size + 1 ≤ 9223372036854775807) = true := dT c5
       try have c5b2 : (9223372036854775807 < ((rd_T38 l0 x8_1).f0).size + 1) = False := eq_false (Nat.not_lt.2 c5)
       by_cases c6 : (((rd_T38 l0 x8_1).f0) ++ (⟨#[61]⟩ : ByteArray)).size + ((rd_T38 l0 x8_1).f1).size ≤ 9223372036854775807
       ·rw [if_pos c6] at H
        have c6b0 := eq_true c6
        have c6b1 : decide ((((rd_T38 l0 x8_1).f0) ++ (⟨#[61]⟩ : ByteArray)).size + ((rd_T38 l0 x8_1).f1).size ≤ 9223372036854775807) = true := dT c6
        try have c6b2 : (9223372036854775807 < (((rd_T38 l0 x8_1).f0) ++ (⟨#[61]⟩ : ByteArray)).size + ((rd_T38 l0 x8_1).f1).size) = False := eq_false (Nat.not_lt.2 c6)
        (try (have c6b2s := c6b2; simp only [ByteArray.size_append, show (⟨#[61]⟩ : ByteArray).size = 1 from rfl] at c6b2s))
        by_cases c7 : ((((rd_T38 l0 x8_1).f0) ++ (⟨#[61]⟩ : ByteArray)) ++ ((rd_T38 l0 x8_1).f1)).size + 1 ≤ 9223372036854775807
        ·rw [if_pos c7] at H
         have c7b0 := eq_true c7
         have c7b1 : decide (((((rd_T38 l0 x8_1).f0) ++ (⟨#[61]⟩ : ByteArray)) ++ ((rd_T38 l0 x8_1).f1)).size + 1 ≤ 9223372036854775807) = true := dT c7
         try have c7b2 : (9223372036854775807 < ((((rd_T38 l0 x8_1).f0) ++ (⟨#[61]⟩ : ByteArray)) ++ ((rd_T38 l0 x8_1).f1)).size + 1) = False := eq_false (Nat.not_lt.2 c7)
         (try (have c7b2s := c7b2; simp only [ByteArray.size_append, show (⟨#[61]⟩ : ByteArray).size = 1 from rfl] at c7b2s))
         by_cases c8 : x3_1.size + (((((rd_T38 l0 x8_1).f0) ++ (⟨#[61]⟩ : ByteArray)) ++ ((rd_T38 l0 x8_1).f1)) ++ (⟨#[59]⟩ : ByteArray)).size ≤ 9223372036854775807
         ·rw [if_pos c8] at H
          have c8b0 := eq_true c8
          have c8b1 : decide (x3_1.size + (((((rd_T38 l0 x8_1).f0) ++ (⟨#[61]⟩ : ByteArray)) ++ ((rd_T38 l0 x8_1).f1)) ++ (⟨#[59]⟩ : ByteArray)).size ≤ 9223372036854775807) = true := dT c8
          try have c8b2 : (9223372036854775807 < x3_1.size + (((((rd_T38 l0 x8_1).f0) ++ (⟨#[61]⟩ : ByteArray)) ++ ((rd_T38 l0 x8_1).f1)) ++ (⟨#[59]⟩ : ByteArray)).size) = False := eq_false (Nat.not_lt.2 c8)
          (try (have c8b2s := c8b2; simp only [ByteArray.size_append, show (⟨#[59]⟩ : ByteArray).size = 1 from rfl, show (⟨#[61]⟩ : ByteArray).size = 1 from rfl] at c8b2s))
          have H' := aM H
          clear H
          have p150 : 0 ≤ (x8_1 : Int) := oD z1
          have q150 : x8_1 < (l0.length : Int) := oD z1
          obtain ⟨ad150, e150, hx150_0, hx150_1⟩ := at_T38 aK.out x8_1 p150 q150
          cases e150
          replace hx150_0 := (HB.out.cell (World.block_lt_of_cell? w _ hx150_0)).trans hx150_0
          replace hx150_1 := (HB.out.cell (World.block_lt_of_cell? w _ hx150_1)).trans hx150_1
          replace p150 := eq_true p150
          replace q150 := eq_true q150
          go_wp2_with (first | ((with_reducible refine am (N := 5) rfl ?_); refine ao ?hg (N := 5) ?hd (cs := #[.string (⟨#[]⟩ : ByteArray), .string (⟨#[]⟩ : ByteArray)]) (t := 38) ?hr ?_; (case hd => rfl); (case hg => rfl); (case hr => first | (go_simp; done) | (go_simp; rfl)); intro bO hg w9 hbox hb; have aw := aM (aj z5 hb); have ax := aM (hbox); have az := aM ((by rw [hg]; exact (ak z5) : w.heap.size ≤ bO)); have aA := aM ((by rw [hg]; exact (ak z5) : w.heap.size ≤ bO)); clear HB; have HB := aw; have bR := ax; have GW151 := az; have GE151 := aA; clear aw ax az aA; clear hb hbox hg; have bM : w9.cell? ⟨bO, 0, none⟩ = some (.string (⟨#[]⟩ : ByteArray)) := (bC bR.out 0).trans rfl; have bL : w9.cell? ⟨bO, 1, none⟩ = some (.string (⟨#[]⟩ : ByteArray)) := (bC bR.out 1).trans rfl; have bK := bF bR.out 0; have bJ := bF bR.out 1))
          go_roundg k1
          case measure => have := HK1.out; omega
          case rel => exact ⟨(x3_1 ++ (((((rd_T38 l0 x8_1).f0) ++ (⟨#[61]⟩ : ByteArray)) ++ ((rd_T38 l0 x8_1).f1)) ++ (⟨#[59]⟩ : ByteArray))), (wrap64 (x8_1 + 1)), (by first | rfl | (simp; done) | (simp [*]; done)), (by first | rfl | (simp; done) | (simp [*]; done)), H', ⟨by have := HK1.out; omega⟩, ⟨by repeat (first | (with_reducible first | exact HB.out | apply bA | apply pD | apply bD | refine ai ?_ GE151.out) | exact HB.out)⟩⟩
         ·rw [if_neg c8] at H
          exact absurd H (by simp)
        ·rw [if_neg c7] at H
         exact absurd H (by simp)
       ·rw [if_neg c6] at H
        exact absurd H (by simp)
      ·rw [if_neg c5] at H
       exact absurd H (by simp)
     ·rw [if_neg c4] at H
      exact absurd H (by simp)
    ·rw [if_neg c3] at H
     exact absurd H (by simp)
   ·rw [if_neg c2] at H
    have c2b0 : decide (x8_1 < (l0.length : Int)) = false := dF c2
    clear c2
    obtain rfl := sI H
    go_wp2
    go_ret
    exact ⟨y2, y3⟩

/-! ### spec_SchemaText: function 11 -/
def spec_SchemaText.f (k : Nat) (l0 : List (S38)) : Option (ByteArray × Bool) := (spec_GoodSchema.f k l0).bind fun b5 => (if b5 = true then ((spec_l7Text.f k l0).bind fun b4 => (some (b4, true))) else (some ((⟨#[]⟩ : ByteArray), false)))
theorem spec_SchemaText.mono : ∀ a0 k, LeO (spec_SchemaText.f k a0) (spec_SchemaText.f (k + 1) a0) := by
 intro a0 k
 unfold spec_SchemaText.f
 repeat' first
   | (with_reducible exact spec_GoodSchema.mono _ _)
   | (with_reducible exact spec_l7Text.mono _ _)
   | (with_reducible exact LeO.refl _)
   | (with_reducible exact LeO.none _)
   | (with_reducible refine LeO.ite ?_ ?_)
   | (with_reducible refine LeO.bind ?_ (fun _ => ?_))
   | exact spec_GoodSchema.mono _ _
   | exact spec_l7Text.mono _ _
   | exact LeO.none _
   | refine LeO.ite ?_ ?_
   | refine LeO.bind ?_ (fun _ => ?_)
set_option maxHeartbeats 8000000 in
set_option maxRecDepth 100000 in
theorem spec_SchemaText.calls (k : Nat) (A0 : Option Addr) (c0 : Nat) (l0 : List (S38)) (r1 : ByteArray) (r2 : Bool) (w : World) (hr0 : Kd.C k38 w A0 l0.length l0) (hc0 : l0.length ≤ c0) (h : spec_SchemaText.f k l0 = some (r1, r2)) :
  Calls Try.prog 11 #[.slice A0 l0.length c0] w fun e w' => e = .returned (.tuple #[.string r1, .bool r2]) ∧ Below w.heap.size w w' := by
 have aK := aM hr0
 have bo := aM hc0
 clear hr0 hc0
 have HB := aM (Below.refl w.heap.size w)
 have H : ((spec_GoodSchema.f k l0).bind fun b5 => (if b5 = true then ((spec_l7Text.f k l0).bind fun b4 => (some (b4, true))) else (some ((⟨#[]⟩ : ByteArray), false)))) = some (r1, r2) := h
 clear h
 replace H := oB H
 obtain ⟨b5, bT, H⟩ := H
 try dsimp only at H
 have A2 := aM bT
 clear bT
 by_cases c3 : b5 = true
 ·subst c3
  rw [if_pos rfl] at H
  replace H := oB H
  obtain ⟨b4, dg, H⟩ := H
  try dsimp only at H
  have A4 := aM dg
  clear dg
  simp only [Option.some.injEq, Prod.mk.injEq] at H
  obtain ⟨rfl, rfl⟩ := H
  go_enter Try.func11, Try.ntmps11
  go_wp2_with (first | ((with_reducible refine al (f := 7) rfl ?_); refine goesL_ (some 5) rfl rfl Try.func7 z0 rfl #[.slice A0 l0.length c0] rfl z6 ?_; (with_reducible refine (spec_GoodSchema.calls k _ _ l0 true _ ?side1 ?side2 A2.out).mono ?_); (case side1 => repeat (first | exact aK.out | (with_reducible refine Kd.C_alloc ?_ _) | (with_reducible refine Kd.C_drewN ?_ _) | (with_reducible refine Kd.C_drew ?_))); (case side2 => exact bo.out); rintro e w5 ⟨rfl, hb⟩; refine ⟨_, rfl, ?_⟩; have aw := aM (aj z5 hb); clear HB; have HB := aw; clear aw; (try clear hb); (try clear hb2); (try clear hk); (try clear hi)) | ((with_reducible refine al (f := 24) rfl ?_); refine goesL_ (some 8) rfl rfl Try.func24 z0 rfl #[.slice A0 l0.length c0] rfl z6 ?_; (with_reducible refine (spec_l7Text.calls k _ _ l0 b4 _ ?side1 ?side2 A4.out).mono ?_); (case side1 => repeat (first | exact (Kd.C_below aK.out HB.out) | (with_reducible refine Kd.C_alloc ?_ _) | (with_reducible refine Kd.C_drewN ?_ _) | (with_reducible refine Kd.C_drew ?_))); (case side2 => exact bo.out); rintro e w6 ⟨rfl, hb⟩; refine ⟨_, rfl, ?_⟩; have aw := aM (aj z5 hb); clear HB; have HB := aw; clear aw; (try clear hb); (try clear hb2); (try clear hk); (try clear hi)))
  go_ret2
  exact ⟨y2, y3⟩
 ·replace c3 := Bool.eq_false_iff.mpr c3
  subst c3
  rw [if_neg (show ¬ (false = true) by decide)] at H
  simp only [Option.some.injEq, Prod.mk.injEq] at H
  obtain ⟨rfl, rfl⟩ := H
  go_enter Try.func11, Try.ntmps11
  go_wp2_with (first | ((with_reducible refine al (f := 7) rfl ?_); refine goesL_ (some 5) rfl rfl Try.func7 z0 rfl #[.slice A0 l0.length c0] rfl z6 ?_; (with_reducible refine (spec_GoodSchema.calls k _ _ l0 false _ ?side1 ?side2 A2.out).mono ?_); (case side1 => repeat (first | exact aK.out | (with_reducible refine Kd.C_alloc ?_ _) | (with_reducible refine Kd.C_drewN ?_ _) | (with_reducible refine Kd.C_drew ?_))); (case side2 => exact bo.out); rintro e w7 ⟨rfl, hb⟩; refine ⟨_, rfl, ?_⟩; have aw := aM (aj z5 hb); clear HB; have HB := aw; clear aw; (try clear hb); (try clear hb2); (try clear hk); (try clear hi)))
  go_ret2
  exact ⟨y2, y3⟩

/-! ### impl_isName: function 29 -/
def impl_isName.f (a0 : Int) : Option (Bool) := if a0 ≥ 65 then (some (decide (a0 ≤ 70))) else (some false)
set_option maxHeartbeats 8000000 in
set_option maxRecDepth 100000 in
theorem impl_isName.calls (a0 : Int) (r : Bool) (w : World) (h : impl_isName.f a0 = some r) :
  Calls Try.prog 29 #[.int .u8 a0] w fun e w' => e = .returned (.bool r) ∧ Drawn0 w w' := by
 have H : (if a0 ≥ 65 then (some (decide (a0 ≤ 70))) else (some false)) = some r := h
 clear h
 by_cases c2 : a0 ≥ 65
 ·rw [if_pos c2] at H
  have c2b0 : decide (65 ≤ a0) = true := dT c2
  clear c2
  obtain rfl := sI H
  go_enter Try.func29, Try.ntmps29
  go_wp2
  go_ret
  exact ⟨y0, y1⟩
 ·rw [if_neg c2] at H
  have c2b0 : decide (65 ≤ a0) = false := dF c2
  clear c2
  obtain rfl := sI H
  go_enter Try.func29, Try.ntmps29
  go_wp2
  go_ret
  exact ⟨y0, y1⟩

/-! ### impl_isNameText: function 21 -/
def impl_isNameText.f (a0 : ByteArray) : Option (Bool) := if (a0.size : Int) = 1 then (if 0 < (a0.size : Int) then ((impl_isName.f (bt a0 0)).bind fun b3 => (some b3)) else (none)) else (some false)
set_option maxHeartbeats 8000000 in
set_option maxRecDepth 100000 in
theorem impl_isNameText.calls (a0 : ByteArray) (r : Bool) (w : World) (h : impl_isNameText.f a0 = some r) :
  Calls Try.prog 21 #[.string a0] w fun e w' => e = .returned (.bool r) ∧ Drawn0 w w' := by
 have H : (if (a0.size : Int) = 1 then (if 0 < (a0.size : Int) then ((impl_isName.f (bt a0 0)).bind fun b3 => (some b3)) else (none)) else (some false)) = some r := h
 clear h
 by_cases c2 : (a0.size : Int) = 1
 ·rw [if_pos c2] at H
  have c2b0 : ((a0.size : Int) == 1) = true := qT c2
  have c2b1 : ((a0.size : Int) != 1) = false := nF c2
  clear c2
  by_cases c3 : 0 < (a0.size : Int)
  ·rw [if_pos c3] at H
   have c3b0 : decide (0 < (a0.size : Int)) = true := dT c3
   have c3b1 : decide (0 < a0.size) = true := dT (by omega)
   clear c3
   replace H := oB H
   obtain ⟨b3, cp, H⟩ := H
   try dsimp only at H
   have A5 := aM cp
   clear cp
   obtain rfl := sI H
   have p4 : 0 ≤ (0 : Int) := (by omega)
   have q4 : 0 < a0.size := (by have : (0 : Int) < (a0.size : Int) := oD z1; omega)
   have hx4 : ∀ h : 0 < a0.size, ((a0[0]'h).toNat : Int) = bt a0 0 := bt_at a0 0
   clear p4
   have qi4 : (0 < (a0.size : Int)) = True := eq_true (oD z1)
   replace q4 := eq_true q4
   go_enter Try.func21, Try.ntmps21
   go_wp2_with (first | (go_at_call 29; (with_reducible refine (impl_isName.calls (bt a0 0) b3 _ A5.out).mono ?_); rintro e w' ⟨rfl, ⟨nd, rfl⟩⟩))
   go_ret
   exact ⟨y0, y1⟩
  ·rw [if_neg c3] at H
   exact absurd H (by simp)
 ·rw [if_neg c2] at H
  have c2b0 : ((a0.size : Int) == 1) = false := qF c2
  have c2b1 : ((a0.size : Int) != 1) = true := nT c2
  obtain rfl := sI H
  go_enter Try.func21, Try.ntmps21
  go_wp2
  go_ret
  exact ⟨y0, y1⟩

/-- A state of type 62 at block g of W; what its slices lead to came in by w0. -/
def IsS62 (w0 W : World) (g : Nat) (f0 : ByteArray) (f1 : Int) : Prop := W.heap[g]? = some (.cells #[.string f0, .int .i64 f1] 62 (0, 0)) ∧ w0.heap.size ≤ g
theorem IsS62.grown {w0 W : World} {g : Nat} {f0 : ByteArray} {f1 : Int} {W1 : World} {row : Option Nat} (h : IsS62 w0 W g f0 f1) (hw : W.grownBy W1 row) (hne : some g ≠ row) : IsS62 w0 W1 g f0 f1 := by
 obtain ⟨hb, hg⟩ := h
 exact ⟨blk_grown hb hw hne, hg⟩
theorem IsS62.own_neN {w0 W : World} {g : Nat} {f0 : ByteArray} {f1 : Int} {α : Type} {d : Kd α} {e : Nat} {base : Nat} {ok : Nat → Prop} {v : Value} {xs : List α} (h : IsS62 w0 W g f0 f1) (ho : Kd.N d e W base ok v xs) (ht : e ≠ 62) : some g ≠ v.ownBlock := by
 obtain ⟨hb, hg⟩ := h
 exact Kd.N_ne ho hb ht
theorem IsS62.fresh {w0 W : World} {g : Nat} {f0 : ByteArray} {f1 : Int} (h : IsS62 w0 W g f0 f1) : ∀ k, W.heap.size ≤ k → k ≠ g := by
 obtain ⟨hb, hg⟩ := h
 exact Kd.freshB hb
theorem IsS62.kept {w0 W : World} {g : Nat} {f0 : ByteArray} {f1 : Int} {W1 : World} {S : Nat → Prop} (h : IsS62 w0 W g f0 f1) (hk : Kept W W1 S) (hne : ¬ S g) : IsS62 w0 W1 g f0 f1 := by
 obtain ⟨hb, hg⟩ := h
 exact ⟨blk_kept hb hk hne, hg⟩
theorem IsS62.below {w0 W : World} {g : Nat} {f0 : ByteArray} {f1 : Int} {W1 : World} (h : IsS62 w0 W g f0 f1) (hw : Below W.heap.size W W1) : IsS62 w0 W1 g f0 f1 := h.grown (grown_of_below hw none) (by simp)
theorem IsS62.alloc {w0 W : World} {g : Nat} {f0 : ByteArray} {f1 : Int} (h : IsS62 w0 W g f0 f1) (o : Obj) : IsS62 w0 (W.alloc o) g f0 f1 := h.below (bA (Below.refl _ _) o)
theorem IsS62.drewN {w0 W : World} {g : Nat} {f0 : ByteArray} {f1 : Int} (h : IsS62 w0 W g f0 f1) (m : Nat) : IsS62 w0 (W.drewN m) g f0 f1 := h
theorem IsS62.drew {w0 W : World} {g : Nat} {f0 : ByteArray} {f1 : Int} (h : IsS62 w0 W g f0 f1) : IsS62 w0 W.drew g f0 f1 := h
theorem IsS62.at_ {w0 W : World} {g : Nat} {f0 : ByteArray} {f1 : Int} {w' : World} {m : Nat} (hq : W.drewN m = w') (h : IsS62 w0 W g f0 f1) : IsS62 w0 w' g f0 f1 := by subst hq; exact IsS62.drewN h m
theorem IsS62.apart {w0 W : World} {g : Nat} {f0 : ByteArray} {f1 : Int} {α : Type} {d : Kd α} {e : Nat} {base : Nat} {ok : Nat → Prop} {v : Value} {xs : List α} (h : IsS62 w0 W g f0 f1) (ho : d.R e W base ok v xs) (ht : ∀ q, q ∈ e :: d.E → q ≠ 62) : d.R e W base (fun k => ok k ∧ k ≠ g) v xs := by
 obtain ⟨hb, hg⟩ := h
 exact Kd.R_types ho hb ht
theorem IsS62.own_ne {w0 W : World} {g : Nat} {f0 : ByteArray} {f1 : Int} {α : Type} {d : Kd α} {e : Nat} {base : Nat} {ok : Nat → Prop} {v : Value} {xs : List α} (h : IsS62 w0 W g f0 f1) (ho : d.R e W base ok v xs) (ht : e ≠ 62) : some g ≠ v.ownBlock := by
 obtain ⟨hb, hg⟩ := h
 exact Kd.R_ne ho hb ht
theorem IsS62.apartQ {w0 W : World} {g : Nat} {f0 : ByteArray} {f1 : Int} {α : Type} {d : Kd α} {e : Nat} {base : Nat} {ok : Nat → Prop} {v : Value} {xs : List α} (h : IsS62 w0 W g f0 f1) (ho : d.Q e W base ok v xs) (ht : ∀ q, q ∈ e :: d.E → q ≠ 62) : d.Q e W base (fun k => ok k ∧ k ≠ g) v xs := by
 obtain ⟨hb, hg⟩ := h
 exact Kd.Q_types ho hb ht
theorem IsS62.own_neQ {w0 W : World} {g : Nat} {f0 : ByteArray} {f1 : Int} {α : Type} {d : Kd α} {e : Nat} {base : Nat} {ok : Nat → Prop} {v : Value} {xs : List α} (h : IsS62 w0 W g f0 f1) (ho : d.Q e W base ok v xs) (ht : e ≠ 62) : some g ≠ v.ownBlock := by
 obtain ⟨hb, hg⟩ := h
 exact Kd.Q_ne ho hb ht
theorem IsS62.apartS {w0 W : World} {g : Nat} {f0 : ByteArray} {f1 : Int} {α : Type} {d : Kd α} {e : Nat} {base : Nat} {ok : Nat → Prop} {v : Value} {xs : List α} (h : IsS62 w0 W g f0 f1) (ho : d.S e W base ok v xs) (ht : ∀ q, q ∈ e :: d.E → q ≠ 62) : d.S e W base (fun k => ok k ∧ k ≠ g) v xs := by
 obtain ⟨hb, hg⟩ := h
 exact Kd.S_types ho hb ht
theorem IsS62.own_neS {w0 W : World} {g : Nat} {f0 : ByteArray} {f1 : Int} {α : Type} {d : Kd α} {e : Nat} {base : Nat} {ok : Nat → Prop} {v : Value} {xs : List α} (h : IsS62 w0 W g f0 f1) (ho : d.S e W base ok v xs) (ht : e ≠ 62) : some g ≠ v.ownBlock := by
 obtain ⟨hb, hg⟩ := h
 exact Kd.S_ne ho hb ht
theorem IsS62.lt {w0 W : World} {g : Nat} {f0 : ByteArray} {f1 : Int} (h : IsS62 w0 W g f0 f1) : g < W.heap.size := by
 obtain ⟨hb, hg⟩ := h
 exact blk_lt hb
theorem IsS62.ge {w0 W : World} {g : Nat} {f0 : ByteArray} {f1 : Int} (h : IsS62 w0 W g f0 f1) : w0.heap.size ≤ g := by
 obtain ⟨hb, hg⟩ := h
 exact hg
theorem IsS62.ne_blk {w0 W : World} {g : Nat} {f0 : ByteArray} {f1 : Int} {a : Nat} {cs : Array Value} {t : TypeId} {fr : Nat × Nat} (h : IsS62 w0 W g f0 f1) (hb2 : W.heap[a]? = some (.cells cs t fr)) (ht : t ≠ 62) : g ≠ a := by
 obtain ⟨hb, hg⟩ := h
 rintro rfl
 rw [hb] at hb2
 injection hb2 with hb2
 injection hb2 with _ ht2
 exact ht ht2.symm
theorem IsS62.far {w0 W : World} {g : Nat} {f0 : ByteArray} {f1 : Int} {p : Addr} (h : IsS62 w0 W g f0 f1) (hne : g ≠ p.block) (u : Value) : IsS62 w0 (W.setCell p u) g f0 f1 := by
 obtain ⟨hb, hg⟩ := h
 exact ⟨blk_far hb hne u, hg⟩
theorem cellS62_0 {W : World} {g : Nat} {f0 : ByteArray} {f1 : Int} (h : W.heap[g]? = some (.cells #[.string f0, .int .i64 f1] 62 (0, 0))) : W.cell? ⟨g, 0, none⟩ = some (.string f0) := (bC h 0).trans rfl
theorem IsS62.set_0 {w0 W : World} {g : Nat} {f0 : ByteArray} {f1 : Int} (h : IsS62 w0 W g f0 f1) (x : ByteArray) : IsS62 w0 (W.setCell ⟨g, 0, none⟩ (.string x)) g x f1 := by
 obtain ⟨hb, hg⟩ := h
 exact ⟨by simpa using blk_set hb 0 (.string x), hg⟩
theorem cellS62_1 {W : World} {g : Nat} {f0 : ByteArray} {f1 : Int} (h : W.heap[g]? = some (.cells #[.string f0, .int .i64 f1] 62 (0, 0))) : W.cell? ⟨g, 1, none⟩ = some (.int .i64 f1) := (bC h 1).trans rfl
theorem IsS62.set_1 {w0 W : World} {g : Nat} {f0 : ByteArray} {f1 : Int} (h : IsS62 w0 W g f0 f1) (x : Int) : IsS62 w0 (W.setCell ⟨g, 1, none⟩ (.int .i64 x)) g f0 x := by
 obtain ⟨hb, hg⟩ := h
 exact ⟨by simpa using blk_set hb 1 (.int .i64 x), hg⟩
theorem IsS62.new (w0 W : World) (f0 : ByteArray) (f1 : Int) (hB : Below w0.heap.size w0 W) : IsS62 w0 (W.alloc (.cells #[.string f0, .int .i64 f1] 62)) W.heap.size f0 f1 := ⟨by simpa using heap_alloc_new W _, hB.size⟩

/-! ### impl_scanner_next: function 39 -/
def impl_scanner_next.f (s0_0 : ByteArray) (s0_1 : Int) : Option (Int × ByteArray × Int) := if s0_0.toList = ([] : List UInt8) then (some (0, s0_0, s0_1)) else (if 0 < (s0_0.size : Int) then (some (bt s0_0 0, s0_0, s0_1)) else (none))
set_option maxHeartbeats 8000000 in
set_option maxRecDepth 100000 in
theorem impl_scanner_next.calls (g : Nat) (s0_0 : ByteArray) (s0_1 : Int) (r1 : Int) (r2 : ByteArray) (r3 : Int) (w0 w : World) (hI : IsS62 w0 w g s0_0 s0_1) (hB : Below w0.heap.size w0 w) (h : impl_scanner_next.f s0_0 s0_1 = some (r1, r2, r3)) :
  Calls Try.prog 39 #[.pointer (some ⟨g, 0, none⟩)] w fun e w' => e = .returned (.int .u8 r1) ∧ IsS62 w0 w' g r2 r3 ∧ Below w0.heap.size w0 w' ∧ KeepBut w w' g none := by
 have HI0 := aM hI
 have HK := aM (KeepBut.refl w g none)
 have HL := aM hB.size
 clear hI
 have HW0 := aM hB.size
 have HB := aM hB
 clear hB
 have H : (if s0_0.toList = ([] : List UInt8) then (some (0, s0_0, s0_1)) else (if 0 < (s0_0.size : Int) then (some (bt s0_0 0, s0_0, s0_1)) else (none))) = some (r1, r2, r3) := h
 clear h
 by_cases c2 : s0_0.toList = ([] : List UInt8)
 ·rw [if_pos c2] at H
  have c2b0 : (s0_0.toList == ([] : List UInt8)) = true := qT c2
  have c2b1 : (s0_0.toList != ([] : List UInt8)) = false := nF c2
  clear c2
  simp only [Option.some.injEq, Prod.mk.injEq] at H
  obtain ⟨rfl, rfl, rfl⟩ := H
  obtain ⟨HGz3, hgz3⟩ := HI0.out
  have hcz3_0 := cellS62_0 HGz3
  have hcz3_1 := cellS62_1 HGz3
  have hfz3_0 := bF HGz3 0
  have hfz3_1 := bF HGz3 1
  clear HGz3 hgz3
  go_enter Try.func39, Try.ntmps39
  go_wp2
  all_goals (try (exfalso; rename_i h_; rw [c2b0] at h_; cases h_; done))
  go_ret
  exact ⟨y2, by (try simp only [Int.add_zero]); repeat (first | (with_reducible first | exact HI0.out | apply IsS62.alloc | apply IsS62.drewN | apply IsS62.drew | apply IsS62.set_0 | apply IsS62.set_1) | exact HI0.out), by repeat (first | (with_reducible first | exact HB.out | apply bA | apply pD | apply bD | refine ai ?_ (IsS62.ge HI0.out)) | exact HB.out), y9⟩
 ·rw [if_neg c2] at H
  have c2b0 : (s0_0.toList == ([] : List UInt8)) = false := qF c2
  have c2b1 : (s0_0.toList != ([] : List UInt8)) = true := nT c2
  by_cases c4 : 0 < (s0_0.size : Int)
  ·rw [if_pos c4] at H
   have c4b0 : decide (0 < (s0_0.size : Int)) = true := dT c4
   have c4b1 : decide (0 < s0_0.size) = true := dT (by omega)
   clear c4
   simp only [Option.some.injEq, Prod.mk.injEq] at H
   obtain ⟨rfl, rfl, rfl⟩ := H
   obtain ⟨HGz6, hgz6⟩ := HI0.out
   have hcz6_0 := cellS62_0 HGz6
   have hcz6_1 := cellS62_1 HGz6
   have hfz6_0 := bF HGz6 0
   have hfz6_1 := bF HGz6 1
   clear HGz6 hgz6
   have p5 : 0 ≤ (0 : Int) := (by omega)
   have q5 : 0 < s0_0.size := (by have : (0 : Int) < (s0_0.size : Int) := oD z1; omega)
   have hx5 : ∀ h : 0 < s0_0.size, ((s0_0[0]'h).toNat : Int) = bt s0_0 0 := bt_at s0_0 0
   clear p5
   have qi5 : (0 < (s0_0.size : Int)) = True := eq_true (oD z1)
   replace q5 := eq_true q5
   go_enter Try.func39, Try.ntmps39
   go_wp2
   all_goals (try (exfalso; rename_i h_; rw [c2b0] at h_; cases h_; done))
   go_ret
   exact ⟨y2, by (try simp only [Int.add_zero]); repeat (first | (with_reducible first | exact HI0.out | apply IsS62.alloc | apply IsS62.drewN | apply IsS62.drew | apply IsS62.set_0 | apply IsS62.set_1) | exact HI0.out), by repeat (first | (with_reducible first | exact HB.out | apply bA | apply pD | apply bD | refine ai ?_ (IsS62.ge HI0.out)) | exact HB.out), y9⟩
  ·rw [if_neg c4] at H
   exact absurd H (by simp)

-- NOT PRINTED: function 47 (bytealg_IndexByteString)

-- NOT PRINTED: function 40 (stringslite_IndexByte)

-- NOT PRINTED: function 46 (strings_IndexByte)

-- NOT PRINTED: function 50 (impl_isSymbol)

-- NOT PRINTED: function 45 (impl_scanner_atom)

-- NOT PRINTED: function 38 (impl_scanner_row)

-- NOT PRINTED: function 34 (impl_scanner_parted)

-- NOT PRINTED: function 30 (impl_readExpr)

end Go.Proofs.Ytihjaagamihhkaa.AFnExactSchemaText
