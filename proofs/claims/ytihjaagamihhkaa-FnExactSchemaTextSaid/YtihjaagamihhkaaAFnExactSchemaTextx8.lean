-- this session's own text: written by wip/tools/ownprint.py over the kit's print
import Derived.SizedLaws
import Derived.Deep.Slices
import Derived.Deep.Fields
import Derived.ChangeSame
import Derived.Test.YtihjaagamihhkaaAFnExactSchemaTextx0
import Derived.Test.YtihjaagamihhkaaAFnExactSchemaTextx1
import Derived.Test.YtihjaagamihhkaaAFnExactSchemaTextx5
import Derived.Test.YtihjaagamihhkaaAFnExactSchemaTextx7
namespace Go.Proofs.Ytihjaagamihhkaa.AFnExactSchemaText
open Go.RowKit Go.Proofs.YtihjaagamihhkaaW.PrintWords Go.Proofs.YtihjaagamihhkaaW.PrintLast Go.Proofs.YtihjaagamihhkaaW.PrintMore
attribute [local go_sem] max2_int min2_int max_two min_two max_three min_three max_four min_four   -- for this text's walks alone
set_option linter.unusedVariables false
set_option linter.unusedSimpArgs false

/-! ### impl_SchemaText: function 12 -/
def impl_SchemaText.l0 : Nat → ByteArray → List (S38) → Int → Int → Option (ByteArray × Bool)
 | 0, _, _, _, _ => none
 | k + 1, x4, x10, x11, x12 => if x12 < x11 then (if 0 ≤ x12 then (if x12 < (x10.length : Int) then (if ((rd_T38 x10 x12).f0).size + 1 ≤ 9223372036854775807 then (if (((rd_T38 x10 x12).f0) ++ (⟨#[61]⟩ : ByteArray)).size + ((rd_T38 x10 x12).f1).size ≤ 9223372036854775807 then (if ((((rd_T38 x10 x12).f0) ++ (⟨#[61]⟩ : ByteArray)) ++ ((rd_T38 x10 x12).f1)).size + 1 ≤ 9223372036854775807 then (if x4.size + (((((rd_T38 x10 x12).f0) ++ (⟨#[61]⟩ : ByteArray)) ++ ((rd_T38 x10 x12).f1)) ++ (⟨#[59]⟩ : ByteArray)).size ≤ 9223372036854775807 then (impl_SchemaText.l0 k (x4 ++ (((((rd_T38 x10 x12).f0) ++ (⟨#[61]⟩ : ByteArray)) ++ ((rd_T38 x10 x12).f1)) ++ (⟨#[59]⟩ : ByteArray))) x10 x11 (wrap64 (x12 + 1))) else (none)) else (none)) else (none)) else (none)) else (none)) else (none)) else (some (x4, true))
def impl_SchemaText.f (k : Nat) (l0 : List (S38)) : Option (ByteArray × Bool) := (impl_GoodSchema.f k l0).bind fun b2 => (if b2 = true then (impl_SchemaText.l0 k (⟨#[]⟩ : ByteArray) l0 (l0.length : Int) 0) else (some ((⟨#[]⟩ : ByteArray), false)))
theorem impl_SchemaText.mono_l : ∀ k, (∀ y0 y1 y2 y3, LeO (impl_SchemaText.l0 k y0 y1 y2 y3) (impl_SchemaText.l0 (k + 1) y0 y1 y2 y3))
 | 0 => fun _ _ _ _ r h => by simp [impl_SchemaText.l0] at h
 | k + 1 => by
  have ih0 := impl_SchemaText.mono_l k
  ·intro y0 y1 y2 y3
   unfold impl_SchemaText.l0
   repeat' first
   | (with_reducible exact ih0 _ _ _ _)
   | (with_reducible exact impl_GoodSchema.mono _ _)
   | (with_reducible exact LeO.refl _)
   | (with_reducible exact LeO.none _)
   | (with_reducible refine LeO.ite ?_ ?_)
   | (with_reducible refine LeO.bind ?_ (fun _ => ?_))
   | exact ih0 _ _ _ _
   | exact impl_GoodSchema.mono _ _
   | exact LeO.none _
   | refine LeO.ite ?_ ?_
   | refine LeO.bind ?_ (fun _ => ?_)
theorem impl_SchemaText.mono : ∀ a0 k, LeO (impl_SchemaText.f k a0) (impl_SchemaText.f (k + 1) a0) := by
 intro a0 k
 have ih0 := impl_SchemaText.mono_l k
 unfold impl_SchemaText.f
 repeat' first
   | (with_reducible exact ih0 _ _ _ _)
   | (with_reducible exact impl_GoodSchema.mono _ _)
   | (with_reducible exact LeO.refl _)
   | (with_reducible exact LeO.none _)
   | (with_reducible refine LeO.ite ?_ ?_)
   | (with_reducible refine LeO.bind ?_ (fun _ => ?_))
   | exact ih0 _ _ _ _
   | exact impl_GoodSchema.mono _ _
   | exact LeO.none _
   | refine LeO.ite ?_ ?_
   | refine LeO.bind ?_ (fun _ => ?_)
set_option maxHeartbeats 8000000 in
set_option maxRecDepth 100000 in
theorem impl_SchemaText.calls (k : Nat) (A0 : Option Addr) (c0 : Nat) (l0 : List (S38)) (r1 : ByteArray) (r2 : Bool) (w : World) (hr0 : Kd.C k38 w A0 l0.length l0) (hc0 : l0.length ≤ c0) (h : impl_SchemaText.f k l0 = some (r1, r2)) :
  Calls Try.prog 12 #[.slice A0 l0.length c0] w fun e w' => e = .returned (.tuple #[.string r1, .bool r2]) ∧ Below w.heap.size w w' := by
 have hu38 := Try.underlying38
 have aK := aM hr0
 have bo := aM hc0
 clear hr0 hc0
 have HB := aM (Below.refl w.heap.size w)
 have H : ((impl_GoodSchema.f k l0).bind fun b2 => (if b2 = true then (impl_SchemaText.l0 k (⟨#[]⟩ : ByteArray) l0 (l0.length : Int) 0) else (some ((⟨#[]⟩ : ByteArray), false)))) = some (r1, r2) := h
 clear h
 replace H := oB H
 obtain ⟨b2, bT, H⟩ := H
 try dsimp only at H
 have A2 := aM bT
 clear bT
 by_cases c3 : b2 = true
 ·subst c3
  rw [if_pos rfl] at H
  have H' := aM H
  clear H
  go_enter Try.func12, Try.ntmps12
  go_wp2_with (first | ((with_reducible refine al (f := 9) rfl ?_); refine goesL_ (some 8) rfl rfl Try.func9 z0 rfl #[.slice A0 l0.length c0] rfl z6 ?_; (with_reducible refine (impl_GoodSchema.calls k _ _ l0 true _ ?side1 ?side2 A2.out).mono ?_); (case side1 => repeat (first | exact aK.out | (with_reducible refine Kd.C_alloc ?_ _) | (with_reducible refine Kd.C_drewN ?_ _) | (with_reducible refine Kd.C_drew ?_))); (case side2 => exact bo.out); rintro e w4 ⟨rfl, hb⟩; refine ⟨_, rfl, ?_⟩; have aw := aM (aj z5 hb); clear HB; have HB := aw; clear aw; (try clear hb); (try clear hb2); (try clear hk); (try clear hi)))
  go_loopg [4, 12] k (fun kq v4 v12 w' => ∃ (x4_1 : ByteArray) (x12_1 : Int), v4 = .string x4_1 ∧ v12 = .int .i64 x12_1 ∧ Aside0 (impl_SchemaText.l0 kq x4_1 l0 (l0.length : Int) x12_1 = some (r1, r2)) ∧ Aside0 (kq ≤ k) ∧ Aside0 (Below w.heap.size w w'))
  case atStart => exact ⟨((⟨#[]⟩ : ByteArray)), (0), (by first | rfl | (simp; done) | (simp [*]; done)), (by first | rfl | (simp; done) | (simp [*]; done)), H', ⟨Nat.le_refl _⟩, ⟨y3⟩⟩
  case round =>
   clear H'
   try clear c1
   try clear p2
   try clear c3
   obtain ⟨x4_1, x12_1, rfl, rfl, HA, HK1, HB⟩ := hrel
   cases gk with
   | zero => exact absurd HA.out (by simp [impl_SchemaText.l0])
   | succ k1 =>
    have H := HA.out
    clear HA
    simp only [impl_SchemaText.l0] at H
    by_cases c5 : x12_1 < (l0.length : Int)
    ·rw [if_pos c5] at H
     have c5b0 : decide (x12_1 < (l0.length : Int)) = true := dT c5
     clear c5
     by_cases c6 : 0 ≤ x12_1
     ·rw [if_pos c6] at H
      have c6b0 : decide (0 ≤ x12_1) = true := dT c6
      clear c6
      by_cases c7 : x12_1 < (l0.length : Int)
      ·rw [if_pos c7] at H
       have c7b0 : decide (x12_1 < (l0.length : Int)) = true := dT c7
       clear c7
       by_cases c8 : ((rd_T38 l0 x12_1).f0).size + 1 ≤ 9223372036854775807
       ·rw [if_pos c8] at H
        have c8b0 := eq_true c8
        have c8b1 : decide (((rd_T38 l0 x12_1).f0).size + 1 ≤ 9223372036854775807) = true := dT c8
        try have c8b2 : (9223372036854775807 < ((rd_T38 l0 x12_1).f0).size + 1) = False := eq_false (Nat.not_lt.2 c8)
        by_cases c9 : (((rd_T38 l0 x12_1).f0) ++ (⟨#[61]⟩ : ByteArray)).size + ((rd_T38 l0 x12_1).f1).size ≤ 9223372036854775807
        ·rw [if_pos c9] at H
         have c9b0 := eq_true c9
         have c9b1 : decide ((((rd_T38 l0 x12_1).f0) ++ (⟨#[61]⟩ : ByteArray)).size + ((rd_T38 l0 x12_1).f1).size ≤ 9223372036854775807) = true := dT c9
         try have c9b2 : (9223372036854775807 < (((rd_T38 l0 x12_1).f0) ++ (⟨#[61]⟩ : ByteArray)).size + ((rd_T38 l0 x12_1).f1).size) = False := eq_false (Nat.not_lt.2 c9)
         (try (have c9b2s := c9b2; simp only [ByteArray.size_append, show (⟨#[61]⟩ : ByteArray).size = 1 from rfl] at c9b2s))
         by_cases ca : ((((rd_T38 l0 x12_1).f0) ++ (⟨#[61]⟩ : ByteArray)) ++ ((rd_T38 l0 x12_1).f1)).size + 1 ≤ 9223372036854775807
         ·rw [if_pos ca] at H
          have c10b0 := eq_true ca
          have c10b1 : decide (((((rd_T38 l0 x12_1).f0) ++ (⟨#[61]⟩ : ByteArray)) ++ ((rd_T38 l0 x12_1).f1)).size + 1 ≤ 9223372036854775807) = true := dT ca
          try have c10b2 : (9223372036854775807 < ((((rd_T38 l0 x12_1).f0) ++ (⟨#[61]⟩ : ByteArray)) ++ ((rd_T38 l0 x12_1).f1)).size + 1) = False := eq_false (Nat.not_lt.2 ca)
          (try (have c10b2s := c10b2; simp only [ByteArray.size_append, show (⟨#[61]⟩ : ByteArray).size = 1 from rfl] at c10b2s))
          by_cases bx : x4_1.size + (((((rd_T38 l0 x12_1).f0) ++ (⟨#[61]⟩ : ByteArray)) ++ ((rd_T38 l0 x12_1).f1)) ++ (⟨#[59]⟩ : ByteArray)).size ≤ 9223372036854775807
          ·rw [if_pos bx] at H
           have c11b0 := eq_true bx
           have c11b1 : decide (x4_1.size + (((((rd_T38 l0 x12_1).f0) ++ (⟨#[61]⟩ : ByteArray)) ++ ((rd_T38 l0 x12_1).f1)) ++ (⟨#[59]⟩ : ByteArray)).size ≤ 9223372036854775807) = true := dT bx
           try have c11b2 : (9223372036854775807 < x4_1.size + (((((rd_T38 l0 x12_1).f0) ++ (⟨#[61]⟩ : ByteArray)) ++ ((rd_T38 l0 x12_1).f1)) ++ (⟨#[59]⟩ : ByteArray)).size) = False := eq_false (Nat.not_lt.2 bx)
           (try (have c11b2s := c11b2; simp only [ByteArray.size_append, show (⟨#[59]⟩ : ByteArray).size = 1 from rfl, show (⟨#[61]⟩ : ByteArray).size = 1 from rfl] at c11b2s))
           have H' := aM H
           clear H
           have p163 : 0 ≤ (x12_1 : Int) := oD z1
           have q163 : x12_1 < (l0.length : Int) := oD z1
           obtain ⟨ad163, e163, hx163_0, hx163_1⟩ := at_T38 aK.out x12_1 p163 q163
           cases e163
           replace hx163_0 := (HB.out.cell (World.block_lt_of_cell? w _ hx163_0)).trans hx163_0
           replace hx163_1 := (HB.out.cell (World.block_lt_of_cell? w _ hx163_1)).trans hx163_1
           replace p163 := eq_true p163
           replace q163 := eq_true q163
           go_wp2_with (first | ((with_reducible refine am (N := 6) rfl ?_); refine ao ?hg (N := 6) ?hd (cs := #[.string (⟨#[]⟩ : ByteArray), .string (⟨#[]⟩ : ByteArray)]) (t := 38) ?hr ?_; (case hd => rfl); (case hg => rfl); (case hr => first | (go_simp; done) | (go_simp; rfl)); intro bN hg w12 hbox hb; have aw := aM (aj z5 hb); have ax := aM (hbox); have az := aM ((by rw [hg]; exact (ak z5) : w.heap.size ≤ bN)); have aA := aM ((by rw [hg]; exact (ak z5) : w.heap.size ≤ bN)); clear HB; have HB := aw; have bQ := ax; have GW164 := az; have GE164 := aA; clear aw ax az aA; clear hb hbox hg; have hcz13_0 : w12.cell? ⟨bN, 0, none⟩ = some (.string (⟨#[]⟩ : ByteArray)) := (bC bQ.out 0).trans rfl; have hcz13_1 : w12.cell? ⟨bN, 1, none⟩ = some (.string (⟨#[]⟩ : ByteArray)) := (bC bQ.out 1).trans rfl; have hfz13_0 := bF bQ.out 0; have hfz13_1 := bF bQ.out 1))
           go_roundg k1
           case measure => have := HK1.out; omega
           case rel => exact ⟨(x4_1 ++ (((((rd_T38 l0 x12_1).f0) ++ (⟨#[61]⟩ : ByteArray)) ++ ((rd_T38 l0 x12_1).f1)) ++ (⟨#[59]⟩ : ByteArray))), (wrap64 (x12_1 + 1)), (by first | rfl | (simp; done) | (simp [*]; done)), (by first | rfl | (simp; done) | (simp [*]; done)), H', ⟨by have := HK1.out; omega⟩, ⟨by repeat (first | (with_reducible first | exact HB.out | apply bA | apply pD | apply bD | refine ai ?_ GE164.out) | exact HB.out)⟩⟩
          ·rw [if_neg bx] at H
           exact absurd H (by simp)
         ·rw [if_neg ca] at H
          exact absurd H (by simp)
        ·rw [if_neg c9] at H
         exact absurd H (by simp)
       ·rw [if_neg c8] at H
        exact absurd H (by simp)
      ·rw [if_neg c7] at H
       exact absurd H (by simp)
     ·rw [if_neg c6] at H
      exact absurd H (by simp)
    ·rw [if_neg c5] at H
     have c5b0 : decide (x12_1 < (l0.length : Int)) = false := dF c5
     clear c5
     simp only [Option.some.injEq, Prod.mk.injEq] at H
     obtain ⟨rfl, rfl⟩ := H
     go_wp2
     go_ret2
     exact ⟨y2, y3⟩
 ·replace c3 := Bool.eq_false_iff.mpr c3
  subst c3
  rw [if_neg (show ¬ (false = true) by decide)] at H
  simp only [Option.some.injEq, Prod.mk.injEq] at H
  obtain ⟨rfl, rfl⟩ := H
  go_enter Try.func12, Try.ntmps12
  go_wp2_with (first | ((with_reducible refine al (f := 9) rfl ?_); refine goesL_ (some 8) rfl rfl Try.func9 z0 rfl #[.slice A0 l0.length c0] rfl z6 ?_; (with_reducible refine (impl_GoodSchema.calls k _ _ l0 false _ ?side1 ?side2 A2.out).mono ?_); (case side1 => repeat (first | exact aK.out | (with_reducible refine Kd.C_alloc ?_ _) | (with_reducible refine Kd.C_drewN ?_ _) | (with_reducible refine Kd.C_drew ?_))); (case side2 => exact bo.out); rintro e w14 ⟨rfl, hb⟩; refine ⟨_, rfl, ?_⟩; have aw := aM (aj z5 hb); clear HB; have HB := aw; clear aw; (try clear hb); (try clear hb2); (try clear hk); (try clear hi)))
  go_ret2
  exact ⟨y2, y3⟩

/-! ### laws_FnExactSchemaText: function 4 -/
def laws_FnExactSchemaText.j0 : Nat → List (S37) → List (S38) → Bool → Option (Bool)
 | 0, _, _, _ => none
 | k + 1, x0, x6, x34 => if x34 = true then (some false) else ((laws_toRuleS.f k x0).bind fun bp => ((laws_eqRuleS.f k x6 bp).bind fun cq => (if cq = true then (some true) else (some false))))
def laws_FnExactSchemaText.f (k : Nat) (l0 : List (S37)) : Option (Bool) := (laws_szRuleS.f k l0 1048576).bind fun bm => (if bm < 0 then (some true) else ((laws_toRuleS.f k l0).bind fun bz => ((spec_SchemaText.f k bz).bind fun br => ((laws_toRuleS.f k l0).bind fun a7 => ((impl_SchemaText.f k a7).bind fun bq => (if bq.1.toList = br.1.toList then (laws_FnExactSchemaText.j0 k l0 a7 (bq.2 != br.2)) else (laws_FnExactSchemaText.j0 k l0 a7 true)))))))
theorem laws_FnExactSchemaText.mono_l : ∀ k, (∀ y0 y1 y2, LeO (laws_FnExactSchemaText.j0 k y0 y1 y2) (laws_FnExactSchemaText.j0 (k + 1) y0 y1 y2))
 | 0 => fun _ _ _ r h => by simp [laws_FnExactSchemaText.j0] at h
 | k + 1 => by
  have ih0 := laws_FnExactSchemaText.mono_l k
  ·intro y0 y1 y2
   unfold laws_FnExactSchemaText.j0
   repeat' first
   | (with_reducible exact ih0 _ _ _)
   | (with_reducible exact impl_SchemaText.mono _ _)
   | (with_reducible exact laws_eqRuleS.mono _ _ _)
   | (with_reducible exact laws_szRuleS.mono _ _ _)
   | (with_reducible exact laws_toRuleS.mono _ _)
   | (with_reducible exact spec_SchemaText.mono _ _)
   | (with_reducible exact LeO.refl _)
   | (with_reducible exact LeO.none _)
   | (with_reducible refine LeO.ite ?_ ?_)
   | (with_reducible refine LeO.bind ?_ (fun _ => ?_))
   | exact ih0 _ _ _
   | exact impl_SchemaText.mono _ _
   | exact laws_eqRuleS.mono _ _ _
   | exact laws_szRuleS.mono _ _ _
   | exact laws_toRuleS.mono _ _
   | exact spec_SchemaText.mono _ _
   | exact LeO.none _
   | refine LeO.ite ?_ ?_
   | refine LeO.bind ?_ (fun _ => ?_)
theorem laws_FnExactSchemaText.mono : ∀ a0 k, LeO (laws_FnExactSchemaText.f k a0) (laws_FnExactSchemaText.f (k + 1) a0) := by
 intro a0 k
 have ih0 := laws_FnExactSchemaText.mono_l k
 unfold laws_FnExactSchemaText.f
 repeat' first
   | (with_reducible exact ih0 _ _ _)
   | (with_reducible exact impl_SchemaText.mono _ _)
   | (with_reducible exact laws_eqRuleS.mono _ _ _)
   | (with_reducible exact laws_szRuleS.mono _ _ _)
   | (with_reducible exact laws_toRuleS.mono _ _)
   | (with_reducible exact spec_SchemaText.mono _ _)
   | (with_reducible exact LeO.refl _)
   | (with_reducible exact LeO.none _)
   | (with_reducible refine LeO.ite ?_ ?_)
   | (with_reducible refine LeO.bind ?_ (fun _ => ?_))
   | exact ih0 _ _ _
   | exact impl_SchemaText.mono _ _
   | exact laws_eqRuleS.mono _ _ _
   | exact laws_szRuleS.mono _ _ _
   | exact laws_toRuleS.mono _ _
   | exact spec_SchemaText.mono _ _
   | exact LeO.none _
   | refine LeO.ite ?_ ?_
   | refine LeO.bind ?_ (fun _ => ?_)
set_option maxHeartbeats 8000000 in
set_option maxRecDepth 100000 in
theorem laws_FnExactSchemaText.calls (k : Nat) (A0 : Option Addr) (c0 : Nat) (l0 : List (S37)) (r : Bool) (HRT : Aside0 (r = true)) (w : World) (hr0 : Kd.C k37 w A0 l0.length l0) (hc0 : l0.length ≤ c0) (h : laws_FnExactSchemaText.f k l0 = some r) :
  Calls Try.prog 4 #[.slice A0 l0.length c0] w fun e w' => e = .returned (.bool r) ∧ Below w.heap.size w w' := by
 have aK := aM hr0
 have bo := aM hc0
 clear hr0 hc0
 have HB := aM (Below.refl w.heap.size w)
 have H : ((laws_szRuleS.f k l0 1048576).bind fun bm => (if bm < 0 then (some true) else ((laws_toRuleS.f k l0).bind fun bz => ((spec_SchemaText.f k bz).bind fun br => ((laws_toRuleS.f k l0).bind fun a7 => ((impl_SchemaText.f k a7).bind fun bq => (if bq.1.toList = br.1.toList then (laws_FnExactSchemaText.j0 k l0 a7 (bq.2 != br.2)) else (laws_FnExactSchemaText.j0 k l0 a7 true)))))))) = some r := h
 clear h
 replace H := oB H
 obtain ⟨bm, bT, H⟩ := H
 try dsimp only at H
 have A2 := aM bT
 clear bT
 by_cases c3 : bm < 0
 ·rw [if_pos c3] at H
  have c3b0 : decide (bm < 0) = true := dT c3
  clear c3
  first | (cases H.trans (congrArg some HRT.out); done) | skip
  all_goals
   obtain rfl := sI H
   go_enter Try.func4, Try.ntmps4
   go_wp2_with (first | ((with_reducible refine al (f := 6) rfl ?_); refine goesL_ (some 11) rfl rfl Try.func6 z0 rfl #[.slice A0 l0.length c0, .int .i64 1048576] rfl z6 ?_; (with_reducible refine (laws_szRuleS.calls k _ _ l0 1048576 bm _ ?side1 ?side2 A2.out).mono ?_); (case side1 => repeat (first | exact aK.out | (with_reducible refine Kd.C_alloc ?_ _) | (with_reducible refine Kd.C_drewN ?_ _) | (with_reducible refine Kd.C_drew ?_))); (case side2 => exact bo.out); rintro e w4 ⟨rfl, hb⟩; refine ⟨_, rfl, ?_⟩; have aw := aM (aj z5 hb); clear HB; have HB := aw; clear aw; (try clear hb); (try clear hb2); (try clear hk); (try clear hi)))
   go_ret
   exact ⟨y2, y3⟩
 ·rw [if_neg c3] at H
  have c3b0 : decide (bm < 0) = false := dF c3
  clear c3
  replace H := oB H
  obtain ⟨bz, cp, H⟩ := H
  try dsimp only at H
  have A5 := aM cp
  clear cp
  replace H := oB H
  obtain ⟨⟨bV, cG⟩, co, H⟩ := H
  try dsimp only at H
  have A6 := aM co
  clear co
  replace H := oB H
  obtain ⟨a7, cn, H⟩ := H
  try dsimp only at H
  have A7 := aM cn
  clear cn
  replace H := oB H
  obtain ⟨⟨bU, cF⟩, cK, H⟩ := H
  try dsimp only at H
  have A8 := aM cK
  clear cK
  have db := aM H
  clear H
  go_enter Try.func4, Try.ntmps4
  go_upto_region 8 with (first | ((with_reducible refine al (f := 6) rfl ?_); refine goesL_ (some 11) rfl rfl Try.func6 z0 rfl #[.slice A0 l0.length c0, .int .i64 1048576] rfl z6 ?_; (with_reducible refine (laws_szRuleS.calls k _ _ l0 1048576 bm _ ?side1 ?side2 A2.out).mono ?_); (case side1 => repeat (first | exact aK.out | (with_reducible refine Kd.C_alloc ?_ _) | (with_reducible refine Kd.C_drewN ?_ _) | (with_reducible refine Kd.C_drew ?_))); (case side2 => exact bo.out); rintro e w10 ⟨rfl, hb⟩; refine ⟨_, rfl, ?_⟩; have aw := aM (aj z5 hb); clear HB; have HB := aw; clear aw; (try clear hb); (try clear hb2); (try clear hk); (try clear hi)) | ((with_reducible refine al (f := 8) rfl ?_); refine goesL_ (some 16) rfl rfl Try.func8 z0 rfl #[.slice A0 l0.length c0] rfl z6 ?_; (with_reducible refine (laws_toRuleS.calls k _ _ l0 bz _ ?side1 ?side2 A5.out).mono ?_); (case side1 => repeat (first | exact (Kd.C_below aK.out HB.out) | (with_reducible refine Kd.C_alloc ?_ _) | (with_reducible refine Kd.C_drewN ?_ _) | (with_reducible refine Kd.C_drew ?_))); (case side2 => exact bo.out); rintro e w11 ⟨v167, rfl, ho0, hb⟩; refine ⟨_, rfl, ?_⟩; have aw := aM (Kd.R_lower ho0 (ak z5)); have ax := aM (aj z5 hb); clear HB; have a4 := aw; have HB := ax; clear aw ax; (try clear hb); (try clear hb2); (try clear hk); (try clear hi); (try clear ho0); obtain ⟨Ao12, co12, eo12⟩ := Kd.R_slice a4.out; subst eo12) | ((with_reducible refine al (f := 11) rfl ?_); refine goesL_ (some 17) rfl rfl Try.func11 z0 rfl #[.slice Ao12 bz.length co12] rfl z6 ?_; (with_reducible refine (spec_SchemaText.calls k _ _ bz bV cG _ ?side1 ?side2 A6.out).mono ?_); (case side1 => repeat (first | exact (Kd.R_reads' a4.out).2.2 | (with_reducible refine Kd.C_alloc ?_ _) | (with_reducible refine Kd.C_drewN ?_ _) | (with_reducible refine Kd.C_drew ?_))); (case side2 => exact (Kd.R_reads' a4.out).2.1); rintro e w13 ⟨rfl, hb⟩; refine ⟨_, rfl, ?_⟩; have aw := aM (Kd.R_below (by (with_reducible repeat (first | apply ac | apply ab | apply aa)); exact a4.out) hb); have ax := aM (aj z5 hb); clear a4; clear HB; have a4 := aw; have HB := ax; clear aw ax; (try clear hb); (try clear hb2); (try clear hk); (try clear hi)) | ((with_reducible refine al (f := 8) rfl ?_); refine goesL_ (some 21) rfl rfl Try.func8 z0 rfl #[.slice A0 l0.length c0] rfl z6 ?_; (with_reducible refine (laws_toRuleS.calls k _ _ l0 a7 _ ?side1 ?side2 A7.out).mono ?_); (case side1 => repeat (first | exact (Kd.C_below aK.out HB.out) | (with_reducible refine Kd.C_alloc ?_ _) | (with_reducible refine Kd.C_drewN ?_ _) | (with_reducible refine Kd.C_drew ?_))); (case side2 => exact bo.out); rintro e w14 ⟨v172, rfl, ho0, hb⟩; refine ⟨_, rfl, ?_⟩; have aw := aM (Kd.R_elder' (by (with_reducible repeat (first | apply ac | apply ab | apply aa)); exact a4.out) (Kd.R_base ho0) hb); have ax := aM (Kd.R_lower (Kd.R_new' ho0 (Kd.R_lt (by (with_reducible repeat (first | apply ac | apply ab | apply aa)); exact a4.out))) (ak z5)); have az := aM (aj z5 hb); clear a4; clear HB; have a4 := aw; have bg := ax; have HB := az; clear aw ax az; (try clear hb); (try clear hb2); (try clear hk); (try clear hi); (try clear ho0); obtain ⟨cf, cb, eo15⟩ := Kd.R_slice bg.out; subst eo15) | ((with_reducible refine al (f := 12) rfl ?_); refine goesL_ (some 24) rfl rfl Try.func12 z0 rfl #[.slice cf a7.length cb] rfl z6 ?_; (with_reducible refine (impl_SchemaText.calls k _ _ a7 bU cF _ ?side1 ?side2 A8.out).mono ?_); (case side1 => repeat (first | exact (Kd.R_reads' bg.out).2.2 | (with_reducible refine Kd.C_alloc ?_ _) | (with_reducible refine Kd.C_drewN ?_ _) | (with_reducible refine Kd.C_drew ?_))); (case side2 => exact (Kd.R_reads' bg.out).2.1); rintro e w16 ⟨rfl, hb⟩; refine ⟨_, rfl, ?_⟩; have aw := aM (Kd.R_below (by (with_reducible repeat (first | apply ac | apply ab | apply aa)); exact a4.out) hb); have ax := aM (Kd.R_below (by (with_reducible repeat (first | apply ac | apply ab | apply aa)); exact bg.out) hb); have az := aM (aj z5 hb); clear a4; clear bg; clear HB; have a4 := aw; have bg := ax; have HB := az; clear aw ax az; (try clear hb); (try clear hb2); (try clear hk); (try clear hi)))
  (try simp only [Act.put, sA, sB, sC])
  go_cut [34] (fun v34 wc => ∃ (kq : Nat) (x34_8 : Bool), v34 = .bool x34_8 ∧ Aside0 (laws_FnExactSchemaText.j0 kq l0 a7 x34_8 = some r) ∧ Aside0 (kq ≤ k) ∧ Aside0 (Kd.R k38 38 wc w.heap.size (fun _ => True) (.slice cf a7.length cb) a7) ∧ Aside0 (Below w.heap.size w wc))
  case first =>
   have H := db.out
   clear db
   by_cases cg : bU.toList = bV.toList
   ·rw [if_pos cg] at H
    have c17b0 : (bU.toList == bV.toList) = true := qT cg
    have c17b1 : (bU.toList != bV.toList) = false := nF cg
    clear cg
    (first | rw [c17b0] | (simp only [i64_w, i32_w]; rw [c17b0]) | skip)
    have H' := aM H
    clear H
    go_wp2
    all_goals (try (exfalso; rename_i h_; rw [c17b0] at h_; cases h_; done))
    go_meet
    case rel => exact ⟨_, ((cF != cG)), (by first | rfl | (simp; done) | (simp [*]; done)), H', ⟨by first | omega | exact Nat.le_refl _⟩, ⟨by (with_reducible repeat (first | apply ac | apply ab | apply aa)); exact Kd.R_mono bg.out (fun _ hk => trivial)⟩, ⟨y3⟩⟩
   ·rw [if_neg cg] at H
    have c17b0 : (bU.toList == bV.toList) = false := qF cg
    have c17b1 : (bU.toList != bV.toList) = true := nT cg
    (first | rw [c17b0] | (simp only [i64_w, i32_w]; rw [c17b0]) | skip)
    have H' := aM H
    clear H
    go_wp2
    all_goals (try (exfalso; rename_i h_; rw [c17b0] at h_; cases h_; done))
    go_meet
    case rel => exact ⟨_, (true), (by first | rfl | (simp; done) | (simp [*]; done)), H', ⟨by first | omega | exact Nat.le_refl _⟩, ⟨by (with_reducible repeat (first | apply ac | apply ab | apply aa)); exact Kd.R_mono bg.out (fun _ hk => trivial)⟩, ⟨y3⟩⟩
  case rest =>
   clear db
   try clear c1
   try clear p2
   try clear c3
   try clear c3b0
   try clear c4
   try clear c6
   try clear c8
   try clear bx
   try clear bY
   try clear cg
   try clear c17b0
   try clear c17b1
   obtain ⟨kq, x34_8, rfl, HA, HJ8, a8, HB⟩ := hcut
   cases kq with
   | zero => exact absurd HA.out (by simp [laws_FnExactSchemaText.j0])
   | succ kj8 =>
    have H := HA.out
    clear HA
    simp only [laws_FnExactSchemaText.j0] at H
    by_cases cY : x34_8 = true
    ·subst cY
     rw [if_pos rfl] at H
     first | (cases H.trans (congrArg some HRT.out); done) | skip
     all_goals
      obtain rfl := sI H
      go_wp2
      go_ret
      exact ⟨y2, y3⟩
    ·replace cY := Bool.eq_false_iff.mpr cY
     subst cY
     rw [if_neg (show ¬ (false = true) by decide)] at H
     replace H := oB H
     obtain ⟨bp, cS, H⟩ := H
     try dsimp only at H
     have dh := aM cS
     clear cS
     replace H := oB H
     obtain ⟨cq, cR, H⟩ := H
     try dsimp only at H
     have bT := aM cR
     clear cR
     by_cases cX : cq = true
     ·subst cX
      rw [if_pos rfl] at H
      first | (cases H.trans (congrArg some HRT.out); done) | skip
      all_goals
       obtain rfl := sI H
       go_wp2_with (first | ((with_reducible refine al (f := 8) rfl ?_); refine goesL_ (some 37) rfl rfl Try.func8 z0 rfl #[.slice A0 l0.length c0] rfl z6 ?_; (with_reducible refine (laws_toRuleS.calls kj8 _ _ l0 bp _ ?side1 ?side2 dh.out).mono ?_); (case side1 => repeat (first | exact (Kd.C_below aK.out HB.out) | (with_reducible refine Kd.C_alloc ?_ _) | (with_reducible refine Kd.C_drewN ?_ _) | (with_reducible refine Kd.C_drew ?_))); (case side2 => exact bo.out); rintro e w22 ⟨v177, rfl, ho0, hb⟩; refine ⟨_, rfl, ?_⟩; have aw := aM (Kd.R_elder' (by (with_reducible repeat (first | apply ac | apply ab | apply aa)); exact a8.out) (Kd.R_base ho0) hb); have ax := aM (Kd.R_lower (Kd.R_new' ho0 (Kd.R_lt (by (with_reducible repeat (first | apply ac | apply ab | apply aa)); exact a8.out))) (ak z5)); have az := aM (aj z5 hb); clear a8; clear HB; have a8 := aw; have a3 := ax; have HB := az; clear aw ax az; (try clear hb); (try clear hb2); (try clear hk); (try clear hi); (try clear ho0); obtain ⟨Ao23, co23, eo23⟩ := Kd.R_slice a3.out; subst eo23) | ((with_reducible refine al (f := 10) rfl ?_); refine goesL_ (some 38) rfl rfl Try.func10 z0 rfl #[.slice cf a7.length cb, .slice Ao23 bp.length co23] rfl z6 ?_; (with_reducible refine (laws_eqRuleS.calls kj8 _ _ a7 _ _ bp true _ ?side1 ?side2 ?side3 ?side4 bT.out).mono ?_); (case side1 => repeat (first | exact (Kd.R_reads' a8.out).2.2 | (with_reducible refine Kd.C_alloc ?_ _) | (with_reducible refine Kd.C_drewN ?_ _) | (with_reducible refine Kd.C_drew ?_))); (case side2 => exact (Kd.R_reads' a8.out).2.1); (case side3 => repeat (first | exact (Kd.R_reads' a3.out).2.2 | (with_reducible refine Kd.C_alloc ?_ _) | (with_reducible refine Kd.C_drewN ?_ _) | (with_reducible refine Kd.C_drew ?_))); (case side4 => exact (Kd.R_reads' a3.out).2.1); rintro e w24 ⟨rfl, hb⟩; refine ⟨_, rfl, ?_⟩; have aw := aM (Kd.R_below (by (with_reducible repeat (first | apply ac | apply ab | apply aa)); exact a8.out) hb); have ax := aM (Kd.R_below (by (with_reducible repeat (first | apply ac | apply ab | apply aa)); exact a3.out) hb); have az := aM (aj z5 hb); clear a8; clear a3; clear HB; have a8 := aw; have a3 := ax; have HB := az; clear aw ax az; (try clear hb); (try clear hb2); (try clear hk); (try clear hi)))
       go_ret
       exact ⟨y2, y3⟩
     ·replace cX := Bool.eq_false_iff.mpr cX
      subst cX
      rw [if_neg (show ¬ (false = true) by decide)] at H
      first | (cases H.trans (congrArg some HRT.out); done) | skip
      all_goals
       obtain rfl := sI H
       go_wp2_with (first | ((with_reducible refine al (f := 8) rfl ?_); refine goesL_ (some 37) rfl rfl Try.func8 z0 rfl #[.slice A0 l0.length c0] rfl z6 ?_; (with_reducible refine (laws_toRuleS.calls kj8 _ _ l0 bp _ ?side1 ?side2 dh.out).mono ?_); (case side1 => repeat (first | exact (Kd.C_below aK.out HB.out) | (with_reducible refine Kd.C_alloc ?_ _) | (with_reducible refine Kd.C_drewN ?_ _) | (with_reducible refine Kd.C_drew ?_))); (case side2 => exact bo.out); rintro e w25 ⟨v177, rfl, ho0, hb⟩; refine ⟨_, rfl, ?_⟩; have aw := aM (Kd.R_elder' (by (with_reducible repeat (first | apply ac | apply ab | apply aa)); exact a8.out) (Kd.R_base ho0) hb); have ax := aM (Kd.R_lower (Kd.R_new' ho0 (Kd.R_lt (by (with_reducible repeat (first | apply ac | apply ab | apply aa)); exact a8.out))) (ak z5)); have az := aM (aj z5 hb); clear a8; clear HB; have a8 := aw; have a3 := ax; have HB := az; clear aw ax az; (try clear hb); (try clear hb2); (try clear hk); (try clear hi); (try clear ho0); obtain ⟨Ao26, co26, eo26⟩ := Kd.R_slice a3.out; subst eo26) | ((with_reducible refine al (f := 10) rfl ?_); refine goesL_ (some 38) rfl rfl Try.func10 z0 rfl #[.slice cf a7.length cb, .slice Ao26 bp.length co26] rfl z6 ?_; (with_reducible refine (laws_eqRuleS.calls kj8 _ _ a7 _ _ bp false _ ?side1 ?side2 ?side3 ?side4 bT.out).mono ?_); (case side1 => repeat (first | exact (Kd.R_reads' a8.out).2.2 | (with_reducible refine Kd.C_alloc ?_ _) | (with_reducible refine Kd.C_drewN ?_ _) | (with_reducible refine Kd.C_drew ?_))); (case side2 => exact (Kd.R_reads' a8.out).2.1); (case side3 => repeat (first | exact (Kd.R_reads' a3.out).2.2 | (with_reducible refine Kd.C_alloc ?_ _) | (with_reducible refine Kd.C_drewN ?_ _) | (with_reducible refine Kd.C_drew ?_))); (case side4 => exact (Kd.R_reads' a3.out).2.1); rintro e w27 ⟨rfl, hb⟩; refine ⟨_, rfl, ?_⟩; have aw := aM (Kd.R_below (by (with_reducible repeat (first | apply ac | apply ab | apply aa)); exact a8.out) hb); have ax := aM (Kd.R_below (by (with_reducible repeat (first | apply ac | apply ab | apply aa)); exact a3.out) hb); have az := aM (aj z5 hb); clear a8; clear a3; clear HB; have a8 := aw; have a3 := ax; have HB := az; clear aw ax az; (try clear hb); (try clear hb2); (try clear hk); (try clear hi)))
       go_ret
       exact ⟨y2, y3⟩

/-! ### What an argument's reading gives: a value of its kind -/
section
open Go.ChangeShapes Go.WideShapes Go.Deep
/-- A value of type t, as an argument's reading has it, is of kind d, and G if the argument's weights are within reach. -/
structure Opens (P : Program) (t : TypeId) {α : Type} (d : Kd α) (G : α → Prop) : Prop where
 out : ∀ {H : Type} {enc : TypeId × Value → H} {w : World} {base : Nat} {spare : Nat → Bool} {held : Bool} {fuel : Nat} {cs : List Value} {x : DataW H × List MemPlace},
  DataW.trod enc P w base spare held fuel t cs = some x → ∃ a, d.K w a cs ∧ ((x.1.weights P t).all (· ≤ reachBytes) = true → G a)
/-- The same for fields in line, from a cell on. -/
structure OpensL (P : Program) (fs : List Field) (off : Nat) {α : Type} (d : Kd α) (G : α → Prop) : Prop where
 out : ∀ {H : Type} {enc : TypeId × Value → H} {w : World} {base : Nat} {spare : Nat → Bool} {held : Bool} {n : Nat} {cs : List Value} {xs : List (DataW H × List MemPlace)},
  cs.length = off + d.sz → xs.length = fs.length → (∀ (i : Nat) (f : Field), fs[i]? = some f → DataW.trod enc P w base spare held n f.type ((cs.drop f.offset).take (P.cellsOf f.type)) = xs[i]?) →
  ∃ a, d.K w a (cs.drop off) ∧ ((DataW.weightsEach P (fs.map (·.type)) (xs.map (·.1))).all (· ≤ reachBytes) = true → G a)
theorem reach_eq : reachBytes = 140737488351232 := by first | rfl | decide
theorem opens_int {P : Program} {t : TypeId} {k : IntKind} (ht : P.underlying t = some (.int k)) : Opens P t (Kd.int k) (fun n => (Lit.int k n).wf = true) := by
 constructor
 intro H enc w base spare held fuel cs x h
 obtain ⟨n, rfl, rfl, hw⟩ := DataW.trod_int ht h
 exact ⟨n, rfl, fun _ => hw⟩
theorem opens_bool {P : Program} {t : TypeId} (ht : P.underlying t = some .bool) : Opens P t Kd.bool (fun _ => True) := by
 constructor
 intro H enc w base spare held fuel cs x h
 obtain ⟨n, rfl, _⟩ := DataW.trod_bool ht h
 exact ⟨n, rfl, fun _ => trivial⟩
theorem opens_string {P : Program} {t : TypeId} (ht : P.underlying t = some .string) : Opens P t Kd.string (fun s => s.size ≤ 140737488351232) := by
 constructor
 intro H enc w base spare held fuel cs x h
 obtain ⟨s, rfl, rfl, _⟩ := DataW.trod_string ht h
 refine ⟨s, rfl, fun hw => ?_⟩
 simp only [DataW.weights, List.all_cons, List.all_nil, Bool.and_true, decide_eq_true_eq, Array.length_toList] at hw
 rw [reach_eq] at hw
 exact hw
theorem weightsAll_mem {H : Type} {P : Program} {e : TypeId} : ∀ {ds : List (DataW H)} {d : DataW H}, d ∈ ds → (DataW.weightsAll P e ds).all (· ≤ reachBytes) = true → (d.weights P e).all (· ≤ reachBytes) = true
 | _ :: _, _, .head _, h => by
  simp only [DataW.weightsAll, List.all_append, Bool.and_eq_true] at h
  exact h.1
 | _ :: _, _, .tail _ hm, h => by
  simp only [DataW.weightsAll, List.all_append, Bool.and_eq_true] at h
  exact weightsAll_mem hm h.2
theorem opens_list {α : Type} (Q : Nat → α → Prop) (n : Nat) (h : ∀ i, i < n → ∃ a, Q i a) : ∃ l : List α, l.length = n ∧ ∀ i a, l[i]? = some a → Q i a := by
 induction n with
 | zero => exact ⟨[], rfl, fun i a hi => by simp at hi⟩
 | succ n ih =>
  obtain ⟨l, hl, hq⟩ := ih (fun i hi => h i (by omega))
  obtain ⟨a, ha⟩ := h n (by omega)
  refine ⟨l ++ [a], by simp [hl], fun i b hi => ?_⟩
  by_cases hin : i < n
  ·rw [List.getElem?_append_left (by omega)] at hi
   exact hq i b hi
  ·obtain ⟨hlt, _⟩ := List.getElem?_eq_some_iff.1 hi
   have e : i = l.length := by simp at hlt; omega
   subst e
   rw [List.getElem?_append_right (Nat.le_refl _)] at hi
   simp at hi
   subst hi
   rw [hl]
   exact ha
theorem opens_slice {P : Program} {t e : TypeId} {α : Type} {d : Kd α} {G : α → Prop} {B : Nat} (q : Nat) (ht : P.underlying t = some (.slice e)) (hc : P.cellsOf e = d.sz) (hB : P.bytesOf e = B) (he : Opens P e d G) :
  Opens P t (Kd.slice q d) (fun l => l.length ≤ maxLen ∧ l.length * B ≤ 140737488351232 ∧ ∀ x ∈ l, G x) := by
 constructor
 intro H enc w base spare held fuel cs x h
 rcases open_slice ht h with ⟨rfl, rfl⟩ | ⟨a, len, cap, m, n, D, Pl, rfl, hb, hl, hm, hmm, rfl, hi⟩
 ·exact ⟨[], ⟨none, 0, rfl, Nat.le_refl _, Kd.C_nil _ _⟩, fun _ => ⟨Nat.zero_le _, by simp, fun x hx => by simp at hx⟩⟩
 ·have hlm : len ≤ m := by rw [hmm]; split <;> omega
  obtain ⟨l, hll, hlq⟩ := opens_list (fun i a_ => ∃ cs', w.cells? base (a.add (i * P.cellsOf e)) (P.cellsOf e) = some cs' ∧ d.K w a_ cs' ∧ (((D i).weights P e).all (· ≤ reachBytes) = true → G a_)) len (fun i hil => by
   obtain ⟨cs', hc1, ht1⟩ := hi i (by omega)
   obtain ⟨a_, hk, hg⟩ := he.out ht1
   exact ⟨a_, cs', hc1, hk, hg⟩)
  refine ⟨l, ⟨some a, cap, by rw [hll], by omega, ⟨rfl, ?_, fun _ => ⟨a, rfl, fun j p hj => ?_⟩⟩⟩, fun hw => ?_⟩
  ·rw [hll]
   have hmx : maxLen ≤ 9223372036854775807 := by first | decide | (unfold maxLen; omega)
   omega
  ·obtain ⟨cs', hc1, hk, _⟩ := hlq j p hj
   obtain ⟨_, hcl, hat⟩ := World.cells?_some hc1
   refine ⟨cs', d.K_len hk, hk, fun i u hu => ?_⟩
   obtain ⟨hlt, _⟩ := List.getElem?_eq_some_iff.1 hu
   have := hat i (by omega)
   rw [← Go.Deep.add_add, ← hc, this, hu]
  ·simp only [DataW.weights, ht, List.all_cons, List.all_append, Bool.and_eq_true, decide_eq_true_eq, List.length_map, List.length_range] at hw
   obtain ⟨hw1, hw2, _⟩ := hw
   rw [reach_eq, hB] at hw1
   refine ⟨by omega, ?_, fun x hx => ?_⟩
   ·rw [hll]
    exact Nat.le_trans (Nat.mul_le_mul_right _ (by omega)) hw1
   ·obtain ⟨j, hj⟩ := List.getElem?_of_mem hx
    obtain ⟨cs', _, _, hg⟩ := hlq j x hj
    obtain ⟨hlt, _⟩ := List.getElem?_eq_some_iff.1 hj
    exact hg (weightsAll_mem (List.mem_map.2 ⟨j, List.mem_range.2 (by omega), rfl⟩) hw2)
theorem opensL_one {P : Program} {f : Field} {off : Nat} {α : Type} {d : Kd α} {G : α → Prop} (ho : f.offset = off) (hc : P.cellsOf f.type = d.sz) (h : Opens P f.type d G) : OpensL P [f] off d G := by
 constructor
 intro H enc w base spare held n cs xs hl hx hr
 match xs, hx with
 | [x], _ =>
  have h0 := hr 0 f rfl
  rw [ho, hc, List.take_of_length_le (by rw [List.length_drop]; omega)] at h0
  obtain ⟨a, hk, hg⟩ := h.out h0
  refine ⟨a, hk, fun hw => hg ?_⟩
  simpa [DataW.weightsEach] using hw
theorem opensL_cons {P : Program} {f : Field} {fs : List Field} {off : Nat} {α β : Type} {d : Kd α} {d' : Kd β} {G : α → Prop} {G' : β → Prop} (ho : f.offset = off) (hc : P.cellsOf f.type = d.sz) (h : Opens P f.type d G) (h' : OpensL P fs (off + d.sz) d' G') :
  OpensL P (f :: fs) off (Kd.pair d d') (fun p => G p.1 ∧ G' p.2) := by
 constructor
 intro H enc w base spare held n cs xs hl hx hr
 match xs, hx with
 | x :: xs, hx =>
  have hl' : cs.length = off + (d.sz + d'.sz) := hl
  have h0 := hr 0 f rfl
  rw [ho, hc] at h0
  obtain ⟨a, hk, hg⟩ := h.out h0
  obtain ⟨b, hk', hg'⟩ := h'.out (enc := enc) (w := w) (base := base) (spare := spare) (held := held) (n := n) (cs := cs) (xs := xs) (by omega) (by simpa using hx) (fun i g hi => by simpa using hr (i + 1) g (by simpa using hi))
  refine ⟨(a, b), ⟨_, _, ?_, hk, hk'⟩, fun hw => ?_⟩
  ·rw [← List.drop_drop, List.take_append_drop]
  ·simp only [List.map_cons, DataW.weightsEach, List.all_append, Bool.and_eq_true] at hw
   exact ⟨hg hw.1, hg' hw.2⟩
theorem opens_struct {P : Program} {t : TypeId} {fs : Array Field} {α : Type} {d : Kd α} {G : α → Prop} (ht : P.underlying t = some (.struct fs)) (hc : P.cellsOf t = d.sz) (h : OpensL P fs.toList 0 d G) : Opens P t d G := by
 constructor
 intro H enc w base spare held fuel cs x hx
 obtain ⟨xs, n, _, rfl, hl, hxl, hr⟩ := DataW.trod_struct ht hx
 obtain ⟨a, hk, hg⟩ := h.out (enc := enc) (w := w) (base := base) (spare := spare) (held := held) (n := n) (cs := cs) (xs := xs) (by omega) (by simpa using hxl) (fun i f hi => hr i f (by simpa using hi))
 refine ⟨a, hk, fun hw => hg ?_⟩
 simpa [DataW.weights, ht] using hw
theorem opens_iso {P : Program} {t : TypeId} {α β : Type} {d : Kd α} {G : α → Prop} {f : β → α} (g : α → β) (hf : ∀ a, f (g a) = a) (h : Opens P t d G) : Opens P t (Kd.iso d f) (fun b => G (f b)) := by
 constructor
 intro H enc w base spare held fuel cs x hx
 obtain ⟨a, hk, hg⟩ := h.out hx
 refine ⟨g a, ?_, fun hw => ?_⟩
 ·show d.K w (f (g a)) cs
  rw [hf]
  exact hk
 ·show G (f (g a))
  rw [hf]
  exact hg hw
theorem Opens.imp {P : Program} {t : TypeId} {α : Type} {d : Kd α} {G G' : α → Prop} (h : Opens P t d G) (hG : ∀ a, G a → G' a) : Opens P t d G' := by
 constructor
 intro H enc w base spare held fuel cs x hx
 obtain ⟨a, hk, hg⟩ := h.out hx
 exact ⟨a, hk, fun hw => hG a (hg hw)⟩
/-- The j-th argument, out of the row's own weights. -/
theorem sized_any {H : Type} {P : Program} {ts : List TypeId} {ds : List (DataW H)} (h : (DataW.weightsEach P ts ds).all (· ≤ reachBytes) = true) {j : Nat} {t : TypeId} {d : DataW H} (ht : ts[j]? = some t) (hd : ds[j]? = some d) : (d.weights P t).all (· ≤ reachBytes) = true :=
 List.all_eq_true.2 fun n hn => List.all_eq_true.1 h n (DataW.weights_mem_each ht hd n hn)
end
def G_T37 (x : S37) : Prop := (x.f0.size ≤ 140737488351232) ∧ (x.f1.size ≤ 140737488351232)
set_option maxRecDepth 100000 in
theorem opens_T37 : Opens Try.prog 37 k37 G_T37 := opens_iso (fun p => ⟨p.1, p.2⟩) (fun _ => rfl) (opens_struct Try.underlying37 z0 (opensL_cons rfl z0 (opens_string Try.underlying9) (opensL_one rfl z0 (opens_string Try.underlying9))))

/-- THE ONE PURE STATEMENT of laws_FnExactSchemaText: yours. -/
def laws_FnExactSchemaText.Pure : Prop := ∀ (l0 : List (S37)), (l0.length ≤ maxLen ∧ l0.length * 32 ≤ 140737488351232 ∧ ∀ x2_ ∈ l0, G_T37 x2_) → ∃ k, laws_FnExactSchemaText.f k l0 = some true
theorem laws_FnExactSchemaText.walk (P : laws_FnExactSchemaText.Pure) (A0 : Option Addr) (c0 : Nat) (l0 : List (S37)) (w : World) (hr0 : Kd.C k37 w A0 l0.length l0) (hc0 : l0.length ≤ c0) (hG0 : l0.length ≤ maxLen ∧ l0.length * 32 ≤ 140737488351232 ∧ ∀ x2_ ∈ l0, G_T37 x2_) :
  Calls Try.prog 4 #[.slice A0 l0.length c0] w fun e w' => e = .returned (.bool true) ∧ Below w.heap.size w w' := by
 obtain ⟨k, h⟩ := P l0 hG0
 refine (laws_FnExactSchemaText.calls k _ _ l0 true ⟨rfl⟩ w hr0 hc0 h).mono ?_
 rintro e w' ⟨rfl, hd⟩
 exact ⟨rfl, hd⟩

end Go.Proofs.Ytihjaagamihhkaa.AFnExactSchemaText
