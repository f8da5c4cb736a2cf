-- this session's own text: written by wip/tools/ownprint.py over the kit's print
import Derived.Test.YtihjaagamihhkaaAFnExactReadSchemax0
import Derived.Test.YtihjaagamihhkaaAFnExactReadSchemax5
import Derived.Test.YtihjaagamihhkaaAFnExactReadSchemax6
namespace Go.Proofs.Ytihjaagamihhkaa.AFnExactReadSchema
open Go.RowKit Go.Proofs.YtihjaagamihhkaaW.PrintWords Go.Proofs.YtihjaagamihhkaaW.PrintLast Go.Proofs.YtihjaagamihhkaaW.PrintMore
attribute [local go_sem] max2_int min2_int max_two min_two max_three min_three max_four min_four   -- for this text's walks alone
set_option linter.unusedVariables false
set_option linter.unusedSimpArgs false

-- NOT PRINTED: function 41 (bytealg_IndexString)

/-! ### strings_Cut: function 25, by hand -/
theorem toList_dataX (s : ByteArray) : s.toList = s.data.toList := by
 have h : ∀ (n i : Nat) (r : List UInt8), s.size - i = n → ByteArray.toList.loop s i r = r.reverse ++ s.data.toList.drop i := by
  intro n
  induction n with
  | zero =>
   intro i r h
   unfold ByteArray.toList.loop
   rw [if_neg (by omega), List.drop_of_length_le (by rw [Array.length_toList]; show s.size ≤ i; omega)]; simp
  | succ n ih =>
   intro i r h
   have hi : i < s.size := by omega
   unfold ByteArray.toList.loop
   have e2 : s.data.toList.drop i = s.data.toList[i]'(by rw [Array.length_toList]; exact hi) :: s.data.toList.drop (i + 1) := List.drop_eq_getElem_cons (by rw [Array.length_toList]; exact hi)
   have e : s.get! i = s.data.toList[i]'(by rw [Array.length_toList]; exact hi) := by
    show s.data[i]! = _
    rw [getElem!_pos s.data i hi]; simp
   rw [if_pos hi, ih (i + 1) _ (by omega), e2, e, List.reverse_cons, List.append_assoc]; rfl
 unfold ByteArray.toList
 rw [h s.size 0 [] (by omega)]; simp
theorem ba_of_toListX {a b : ByteArray} (h : a.toList = b.toList) : a = b := by
 rw [toList_dataX, toList_dataX] at h
 cases a with | mk x => cases b with | mk y => exact congrArg ByteArray.mk (Array.ext' h)
def ixB (s : ByteArray) (c : Int) : Int := Lib.indexByte s.data.toList c.toNat.toUInt8
theorem bt_1 {p : ByteArray} (hp : p.size = 1) : p.data.toList = [(bt p 0).toNat.toUInt8] := by
 have h : (0 : Int).toNat < p.size := by rw [hp]; decide
 have e := bt_at p 0 h
 have hl : p.data.toList.length = 1 := by rw [Array.length_toList]; exact hp
 obtain ⟨x, hx⟩ := List.length_eq_one_iff.1 hl
 rw [hx, ← e]
 have hg : p[(0 : Int).toNat]'h = x := by
  have : p.data.toList[0]'(by rw [hl]; decide) = x := by simp [hx]
  have t2 : p.data[0]'(by have := hl; rw [Array.length_toList] at this; omega) = x := by simpa using this
  exact t2
 rw [hg]
 simp
theorem ix_self {p : ByteArray} (hp : p.size = 1) : ixB p (bt p 0) = 0 := by
 unfold ixB
 rw [bt_1 hp]
 simp [Lib.indexByte]
set_option maxHeartbeats 2000000 in
theorem ix35 (s p : ByteArray) (hp : p.size = 1) (w : World) : Calls Try.prog 35 #[.string s, .string p] w fun e w' => e = .returned (.int .i64 (ixB s (bt p 0))) ∧ Drawn0 w w' := by
 have e0 : ((p.size : Int) == 0) = false := qF (by omega)
 have e1 : ((p.size : Int) == 1) = true := qT (by omega)
 by_cases h : p.toList = s.toList
 ·have hs : ixB s (bt p 0) = 0 := by
   have : p = s := ba_of_toListX h
   rw [← this]; exact ix_self hp
  rw [hs]
  have e2 : (p.toList == s.toList) = true := qT h
  clear h hs hp
  go_enter Try.func35, Try.ntmps35
  go_wp2
  repeat (go_quiet (fail); try go_wp2)
  go_ret
  exact ⟨rfl, y1⟩
 ·have e2 : (p.toList == s.toList) = false := qF h
  have q1 : (0 < p.size) = True := eq_true (by omega)
  have q2 : ((0 : Int) < (p.size : Int)) = True := eq_true (by omega)
  have hx : ∀ h : 0 < p.size, ((p[0]'h).toNat : Int) = bt p 0 := bt_at p 0
  obtain ⟨c, hc⟩ : ∃ c, bt p 0 = c := ⟨_, rfl⟩
  rw [hc] at hx ⊢
  clear h hp hc
  go_enter Try.func35, Try.ntmps35
  go_wp2_with (first | (go_at_call 40; refine (ib40 s c _).mono ?_; rintro e w1 ⟨rfl, ⟨nd, rfl⟩⟩))
  go_ret
  exact ⟨rfl, y1⟩
/-- The first place of a byte, the length if it stands nowhere. -/
def fi : List UInt8 → UInt8 → Nat
 | [], _ => 0
 | b :: l, c => if b = c then 0 else fi l c + 1
theorem ix_fi (c : UInt8) : ∀ l : List UInt8, Lib.indexByte l c = if fi l c < l.length then (fi l c : Int) else -1
 | [] => rfl
 | x :: l => by
  have ih := ix_fi c l
  unfold Lib.indexByte fi
  by_cases e : x = c
  ·have e1 : (x == c) = true := qT e
   rw [if_pos e1, if_pos e, if_pos (show 0 < (x :: l).length by simp)]; rfl
  ·have e1 : ¬ (x == c) = true := by simpa using e
   rw [if_neg e1, if_neg e, ih, List.length_cons]
   by_cases h : fi l c < l.length
   ·rw [if_pos h, if_neg (by simp), if_pos (by omega)]; rfl
   ·rw [if_neg h, if_pos (by decide), if_neg (by omega)]
def fiB (s : ByteArray) (c : Int) : Nat := fi s.data.toList c.toNat.toUInt8
theorem ixB_fi (s : ByteArray) (c : Int) : ixB s c = if fiB s c < s.size then (fiB s c : Int) else -1 := ix_fi _ _
def strings_Cut.f (a0 a1 : ByteArray) : Option (ByteArray × ByteArray × Bool) := if a1.size = 1 ∧ a0.size ≤ 1000000000000000 then (if fiB a0 (bt a1 0) < a0.size then some (a0.extract 0 (fiB a0 (bt a1 0)), a0.extract (fiB a0 (bt a1 0) + 1) a0.size, true) else some (a0, (⟨#[]⟩ : ByteArray), false)) else none
set_option maxHeartbeats 2000000 in
theorem cut31 (s p r1 r2 : ByteArray) (r3 : Bool) (w : World) (h : strings_Cut.f s p = some (r1, r2, r3)) : Calls Try.prog 31 #[.string s, .string p] w fun e w' => e = .returned (.tuple #[.string r1, .string r2, .bool r3]) ∧ Drawn0 w w' := by
 unfold strings_Cut.f at h
 by_cases hp' : p.size = 1 ∧ s.size ≤ 1000000000000000
 case neg => rw [if_neg hp'] at h; cases h
 rw [if_pos hp'] at h
 obtain ⟨hp, hs⟩ := hp'
 have HX := aM (ixB_fi s (bt p 0))
 have HC := aM (fun w => ix35 s p hp w)
 have hp2 : (p.size : Int) = 1 := by omega
 by_cases hf : fiB s (bt p 0) < s.size
 ·rw [if_pos hf] at h
  obtain ⟨rfl, h'⟩ := Prod.mk.inj (sI h)
  obtain ⟨rfl, rfl⟩ := Prod.mk.inj h'
  clear h' h
  obtain ⟨n, hn⟩ : ∃ n, fiB s (bt p 0) = n := ⟨_, rfl⟩
  have HV : Aside0 (ixB s (bt p 0) = (n : Int)) := ⟨by rw [HX.out, if_pos hf, hn]⟩
  rw [hn] at hf ⊢
  have e1 : decide (0 ≤ (n : Int)) = true := dT (by omega)
  have q1 : (0 ≤ (n : Int)) = True := eq_true (by omega)
  have q2 : ((n : Int) ≤ (s.size : Int)) = True := eq_true (by omega)
  have q3 : ((n : Int) + 1 ≤ (s.size : Int)) = True := eq_true (by omega)
  have q4 : (0 ≤ (n : Int) + 1) = True := eq_true (by omega)
  have hw : IntKind.i64.wrap ((n : Int) + 1) = (n : Int) + 1 := (i64_w _).trans (by unfold wrap64; omega)
  have hw2 : wrap64 ((n : Int) + 1) = (n : Int) + 1 := by unfold wrap64; omega
  have hz : ((n : Int) + 1).toNat = n + 1 := by omega
  clear hs
  clear hn hf hp HX
  go_enter Try.func31, Try.ntmps31
  go_wp2_with (first | (go_at_call 35; refine (HC.out _).mono ?_; rintro e w1 ⟨rfl, ⟨nd, rfl⟩⟩; rw [HV.out]))
  repeat (go_quiet (fail); try go_wp2)
  go_ret3
  exact ⟨by first | rfl | (simp <;> rfl), y1⟩
 ·rw [if_neg hf] at h
  obtain ⟨rfl, h'⟩ := Prod.mk.inj (sI h)
  obtain ⟨rfl, rfl⟩ := Prod.mk.inj h'
  clear h' h
  have HV : Aside0 (ixB s (bt p 0) = -1) := ⟨by rw [HX.out, if_neg hf]⟩
  clear hf hp HX hs
  go_enter Try.func31, Try.ntmps31
  go_wp2_with (first | (go_at_call 35; refine (HC.out _).mono ?_; rintro e w1 ⟨rfl, ⟨nd, rfl⟩⟩; rw [HV.out]))
  repeat (go_quiet (fail); try go_wp2)
  go_ret3
  exact ⟨rfl, y1⟩
theorem strings_Cut.calls (a0 a1 : ByteArray) (r1 r2 : ByteArray) (r3 : Bool) (w : World) (h : strings_Cut.f a0 a1 = some (r1, r2, r3)) :
  Calls Try.prog 25 #[.string a0, .string a1] w fun e w' => e = .returned (.tuple #[.string r1, .string r2, .bool r3]) ∧ Drawn0 w w' := by
 have HC := aM (fun w => cut31 a0 a1 r1 r2 r3 w h)
 clear h
 go_enter Try.func25, Try.ntmps25
 go_wp2_with (first | (go_at_call 31; refine (HC.out _).mono ?_; rintro e w1 ⟨rfl, ⟨nd, rfl⟩⟩))
 go_ret3
 exact ⟨rfl, y1⟩

/-! ### impl_ReadSchema: function 14 -/
def impl_ReadSchema.l0 : Nat → List (S38) → ByteArray → Option ((List (S38)) × Bool)
 | 0, _, _ => none
 | k + 1, x4, x5 => if x5.toList = ([] : List UInt8) then ((impl_GoodSchema.f k x4).bind fun cO => (if cO = true then (some (x4, true)) else (some (([] : List (S38)), false)))) else ((strings_Cut.f x5 (⟨#[59]⟩ : ByteArray)).bind fun ct => ((strings_Cut.f ct.1 (⟨#[61]⟩ : ByteArray)).bind fun cr => (if ct.2.2 = true then (if cr.2.2 = true then (if (x4.length : Int) = 7 then (some (([] : List (S38)), false)) else (if x4.length < 4398046511104 then (impl_ReadSchema.l0 k (x4 ++ [(⟨cr.1, cr.2.1⟩ : S38)]) ct.2.1) else (none))) else (some (([] : List (S38)), false))) else (some (([] : List (S38)), false)))))
def impl_ReadSchema.f (k : Nat) (a0 : ByteArray) : Option ((List (S38)) × Bool) := impl_ReadSchema.l0 k ([] : List (S38)) a0
theorem impl_ReadSchema.mono_l : ∀ k, (∀ y0 y1, LeO (impl_ReadSchema.l0 k y0 y1) (impl_ReadSchema.l0 (k + 1) y0 y1))
 | 0 => fun _ _ r h => by simp [impl_ReadSchema.l0] at h
 | k + 1 => by
  have ih0 := impl_ReadSchema.mono_l k
  ·intro y0 y1
   unfold impl_ReadSchema.l0
   repeat' first
   | (with_reducible exact ih0 _ _)
   | (with_reducible exact impl_GoodSchema.mono _ _)
   | (with_reducible exact LeO.refl _)
   | (with_reducible exact LeO.none _)
   | (with_reducible refine LeO.ite ?_ ?_)
   | (with_reducible refine LeO.bind ?_ (fun _ => ?_))
   | exact ih0 _ _
   | exact impl_GoodSchema.mono _ _
   | exact LeO.none _
   | refine LeO.ite ?_ ?_
   | refine LeO.bind ?_ (fun _ => ?_)
theorem impl_ReadSchema.mono : ∀ a0 k, LeO (impl_ReadSchema.f k a0) (impl_ReadSchema.f (k + 1) a0) := by
 intro a0 k
 have ih0 := impl_ReadSchema.mono_l k
 unfold impl_ReadSchema.f
 repeat' first
   | (with_reducible exact ih0 _ _)
   | (with_reducible exact impl_GoodSchema.mono _ _)
   | (with_reducible exact LeO.refl _)
   | (with_reducible exact LeO.none _)
   | (with_reducible refine LeO.ite ?_ ?_)
   | (with_reducible refine LeO.bind ?_ (fun _ => ?_))
   | exact ih0 _ _
   | exact impl_GoodSchema.mono _ _
   | exact LeO.none _
   | refine LeO.ite ?_ ?_
   | refine LeO.bind ?_ (fun _ => ?_)
set_option maxHeartbeats 8000000 in
set_option maxRecDepth 100000 in
theorem impl_ReadSchema.calls (k : Nat) (a0 : ByteArray) (r1 : List (S38)) (r2 : Bool) (w : World) (h : impl_ReadSchema.f k a0 = some (r1, r2)) :
  Calls Try.prog 14 #[.string a0] w fun e w' => ∃ v0_ : Value, e = .returned (.tuple #[v0_, .bool r2]) ∧ Kd.R k38 38 w' w.heap.size (fun _ => True) v0_ r1 ∧ Below w.heap.size w w' := by
 have hu38 := Try.underlying38
 have HB := aM (Below.refl w.heap.size w)
 have H : (impl_ReadSchema.l0 k ([] : List (S38)) a0) = some (r1, r2) := h
 clear h
 have H' := aM H
 clear H
 go_enter Try.func14, Try.ntmps14
 go_wp2
 go_loopg [4, 5] k (fun kq v4 v5 w' => ∃ (x4_1 : List (S38)) (x5_1 : ByteArray), v5 = .string x5_1 ∧ Aside0 (impl_ReadSchema.l0 kq x4_1 x5_1 = some (r1, r2)) ∧ Aside0 (kq ≤ k) ∧ Aside0 (Kd.R k38 38 w' w.heap.size (fun _ => True) v4 x4_1) ∧ Aside0 (Below w.heap.size w w'))
 case atStart => exact ⟨(([] : List (S38))), (a0), z1, H', ⟨Nat.le_refl _⟩, ⟨y8⟩, ⟨y3⟩⟩
 case round =>
  clear H'
  try clear c1
  obtain ⟨x4_1, x5_1, rfl, HA, HK1, aH, HB⟩ := hrel
  cases gk with
  | zero => exact absurd HA.out (by simp [impl_ReadSchema.l0])
  | succ k1 =>
   have H := HA.out
   clear HA
   simp only [impl_ReadSchema.l0] at H
   by_cases c2 : x5_1.toList = ([] : List UInt8)
   ·rw [if_pos c2] at H
    have c2b0 : (x5_1.toList == ([] : List UInt8)) = true := qT c2
    have c2b1 : (x5_1.toList != ([] : List UInt8)) = false := nF c2
    clear c2
    replace H := oB H
    obtain ⟨cO, cx, H⟩ := H
    try dsimp only at H
    have A3 := aM cx
    clear cx
    by_cases c4 : cO = true
    ·subst c4
     rw [if_pos rfl] at H
     simp only [Option.some.injEq, Prod.mk.injEq] at H
     obtain ⟨rfl, rfl⟩ := H
     obtain ⟨Ao5, co5, eo5⟩ := Kd.R_slice aH.out
     subst eo5
     go_wp2_with (first | ((with_reducible refine aq (f := 9) rfl ?_); refine goesL_ (some 46) rfl rfl Try.func9 z0 rfl #[.slice Ao5 x4_1.length co5] rfl z7 ?_; (with_reducible refine (impl_GoodSchema.calls k1 _ _ x4_1 true _ ?side1 ?side2 A3.out).mono ?_); (case side1 => repeat (first | exact (ag aH.out).2.2 | (with_reducible refine ao ?_ _) | (with_reducible refine ap ?_ _) | (with_reducible refine Kd.C_drew ?_))); (case side2 => exact (ag aH.out).2.1); rintro e w6 ⟨rfl, hb⟩; refine ⟨_, rfl, ?_⟩; have aA := aM (af (by (with_reducible repeat (first | apply ac | apply ab | apply aa)); exact aH.out) hb); have aC := aM (al z6 hb); clear aH; clear HB; have aH := aA; have HB := aC; clear aA aC; (try clear hb); (try clear hb2); (try clear hk); (try clear hi)))
     all_goals (try (exfalso; rename_i h_; rw [c2b0] at h_; cases h_; done))
     go_ret2
     exact ⟨_, y2, y4, y3⟩
    ·replace c4 := Bool.eq_false_iff.mpr c4
     subst c4
     rw [if_neg (show ¬ (false = true) by decide)] at H
     simp only [Option.some.injEq, Prod.mk.injEq] at H
     obtain ⟨rfl, rfl⟩ := H
     obtain ⟨Ao7, co7, eo7⟩ := Kd.R_slice aH.out
     subst eo7
     go_wp2_with (first | ((with_reducible refine aq (f := 9) rfl ?_); refine goesL_ (some 46) rfl rfl Try.func9 z0 rfl #[.slice Ao7 x4_1.length co7] rfl z7 ?_; (with_reducible refine (impl_GoodSchema.calls k1 _ _ x4_1 false _ ?side1 ?side2 A3.out).mono ?_); (case side1 => repeat (first | exact (ag aH.out).2.2 | (with_reducible refine ao ?_ _) | (with_reducible refine ap ?_ _) | (with_reducible refine Kd.C_drew ?_))); (case side2 => exact (ag aH.out).2.1); rintro e w8 ⟨rfl, hb⟩; refine ⟨_, rfl, ?_⟩; have aA := aM (af (by (with_reducible repeat (first | apply ac | apply ab | apply aa)); exact aH.out) hb); have aC := aM (al z6 hb); clear aH; clear HB; have aH := aA; have HB := aC; clear aA aC; (try clear hb); (try clear hb2); (try clear hk); (try clear hi)))
     all_goals (try (exfalso; rename_i h_; rw [c2b0] at h_; cases h_; done))
     go_ret2
     exact ⟨_, y2, y8, y3⟩
   ·rw [if_neg c2] at H
    have c2b0 : (x5_1.toList == ([] : List UInt8)) = false := qF c2
    have c2b1 : (x5_1.toList != ([] : List UInt8)) = true := nT c2
    replace H := oB H
    obtain ⟨⟨bz, ca, t157⟩, dY, H⟩ := H
    try dsimp only at H
    have A9 := aM dY
    clear dY
    replace H := oB H
    obtain ⟨⟨bX, bW, dh⟩, dG, H⟩ := H
    try dsimp only at H
    have dO := aM dG
    clear dG
    by_cases bj : t157 = true
    ·subst bj
     rw [if_pos rfl] at H
     by_cases bq : dh = true
     ·subst bq
      rw [if_pos rfl] at H
      by_cases bG : (x4_1.length : Int) = 7
      ·rw [if_pos bG] at H
       have c13b0 : ((x4_1.length : Int) == 7) = true := qT bG
       have c13b1 : ((x4_1.length : Int) != 7) = false := nF bG
       clear bG
       simp only [Option.some.injEq, Prod.mk.injEq] at H
       obtain ⟨rfl, rfl⟩ := H
       go_wp2_with (first | ((with_reducible refine aq (f := 25) rfl ?_); refine goesL_ (some 17) rfl rfl Try.func25 z0 rfl #[.string x5_1, .string (⟨#[59]⟩ : ByteArray)] rfl z7 ?_; (with_reducible refine (strings_Cut.calls x5_1 (⟨#[59]⟩ : ByteArray) bz ca true _ A9.out).mono ?_); rintro e w' ⟨rfl, ⟨nd, rfl⟩⟩; refine ⟨_, rfl, ?_⟩) | ((with_reducible refine aq (f := 25) rfl ?_); refine goesL_ (some 23) rfl rfl Try.func25 z0 rfl #[.string bz, .string (⟨#[61]⟩ : ByteArray)] rfl z7 ?_; (with_reducible refine (strings_Cut.calls bz (⟨#[61]⟩ : ByteArray) bX bW true _ dO.out).mono ?_); rintro e w' ⟨rfl, ⟨nd, rfl⟩⟩; refine ⟨_, rfl, ?_⟩; obtain ⟨dr, dj, eo14⟩ := Kd.R_slice aH.out; subst eo14))
       all_goals (try (exfalso; rename_i h_; rw [c2b0] at h_; cases h_; done))
       go_ret2
       exact ⟨_, y2, y8, y3⟩
      ·rw [if_neg bG] at H
       have c13b0 : ((x4_1.length : Int) == 7) = false := qF bG
       have c13b1 : ((x4_1.length : Int) != 7) = true := nT bG
       by_cases cq : x4_1.length < 4398046511104
       ·rw [if_pos cq] at H
        have LMc15 := aM cq
        clear cq
        obtain ⟨y161, hy161⟩ : ∃ y_ : List (S38), y_ = (x4_1 ++ [(⟨bX, bW⟩ : S38)]) := ⟨_, rfl⟩
        replace H : (impl_ReadSchema.l0 k1 y161 ca) = some (r1, r2) := by first | (rw [hy161]; with_reducible exact H) | (have H2_ := (Option.bind_some _ _).symm.trans H; rw [hy161]; with_reducible exact H2_) | (have H2_ := (Option.bind_some _ _).symm.trans H; with_reducible exact H2_) | with_reducible exact H | (rw [hy161]; exact H) | exact H
        have Ny161 := aM hy161
        clear hy161
        have H' := aM H
        clear H
        go_wp2_with (first | ((with_reducible refine aq (f := 25) rfl ?_); refine goesL_ (some 17) rfl rfl Try.func25 z0 rfl #[.string x5_1, .string (⟨#[59]⟩ : ByteArray)] rfl z7 ?_; (with_reducible refine (strings_Cut.calls x5_1 (⟨#[59]⟩ : ByteArray) bz ca true _ A9.out).mono ?_); rintro e w' ⟨rfl, ⟨nd, rfl⟩⟩; refine ⟨_, rfl, ?_⟩) | ((with_reducible refine aq (f := 25) rfl ?_); refine goesL_ (some 23) rfl rfl Try.func25 z0 rfl #[.string bz, .string (⟨#[61]⟩ : ByteArray)] rfl z7 ?_; (with_reducible refine (strings_Cut.calls bz (⟨#[61]⟩ : ByteArray) bX bW true _ dO.out).mono ?_); rintro e w' ⟨rfl, ⟨nd, rfl⟩⟩; refine ⟨_, rfl, ?_⟩; obtain ⟨dq, di, eo16⟩ := Kd.R_slice aH.out; subst eo16) | ((with_reducible refine gate_builtin (b := .append) (xs := #[.tmp 38, .tmp 42]) rfl ?_); (try (refine gate_guard (by rfl) ?_; dsimp only)); at_builtin; refine Kd.R_append k38 (w0 := w) w.heap.size rfl (.tmp 38) (.tmp 42) 25 38 (.agg #[(.string ⟨#[]⟩), (.string ⟨#[]⟩)]) 32 rfl Try.underlying25 info38 rfl (by decide) (by omega) (.slice dq x4_1.length di) x4_1 (⟨bX, bW⟩ : S38) [.string bX, .string bW] (fun _ => True) (fun _ => False) rfl rfl ?aP (fun _ hk => hk.elim) ?aF ?aO ?aB ?aS ?aL ?_; (case aP => exact k38_mkM _ _ _ (⟨bX, bW⟩ : S38)); (case aB => exact z6); (case aF => exact (fun _ _ => trivial)); (case aO => exact (by (with_reducible repeat (first | apply ac | apply ab | apply aa)); exact aH.out)); (case aS => exact (am z6)); (case aL => have := LMc15.out; omega); intro v162 w17 ho hb hg hat; rw [← Ny161.out] at ho; have aA := aM (hb); have aC := aM (ho); clear HB; clear aH; have HB := aA; have HO163 := aC; clear aA aC; clear ho hb hg hat))
        all_goals (try (exfalso; rename_i h_; rw [c2b0] at h_; cases h_; done))
        go_roundg k1
        case measure => have := HK1.out; omega
        case rel => exact ⟨(y161), (ca), z1, H', ⟨by have := HK1.out; omega⟩, ⟨by (with_reducible repeat (first | apply ac | apply ab | apply aa)); exact HO163.out⟩, ⟨y3⟩⟩
       ·rw [if_neg cq] at H
        exact absurd H (by simp)
     ·replace bq := Bool.eq_false_iff.mpr bq
      subst bq
      rw [if_neg (show ¬ (false = true) by decide)] at H
      simp only [Option.some.injEq, Prod.mk.injEq] at H
      obtain ⟨rfl, rfl⟩ := H
      go_wp2_with (first | ((with_reducible refine aq (f := 25) rfl ?_); refine goesL_ (some 17) rfl rfl Try.func25 z0 rfl #[.string x5_1, .string (⟨#[59]⟩ : ByteArray)] rfl z7 ?_; (with_reducible refine (strings_Cut.calls x5_1 (⟨#[59]⟩ : ByteArray) bz ca true _ A9.out).mono ?_); rintro e w' ⟨rfl, ⟨nd, rfl⟩⟩; refine ⟨_, rfl, ?_⟩) | ((with_reducible refine aq (f := 25) rfl ?_); refine goesL_ (some 23) rfl rfl Try.func25 z0 rfl #[.string bz, .string (⟨#[61]⟩ : ByteArray)] rfl z7 ?_; (with_reducible refine (strings_Cut.calls bz (⟨#[61]⟩ : ByteArray) bX bW false _ dO.out).mono ?_); rintro e w' ⟨rfl, ⟨nd, rfl⟩⟩; refine ⟨_, rfl, ?_⟩))
      all_goals (try (exfalso; rename_i h_; rw [c2b0] at h_; cases h_; done))
      go_ret2
      exact ⟨_, y2, y8, y3⟩
    ·replace bj := Bool.eq_false_iff.mpr bj
     subst bj
     rw [if_neg (show ¬ (false = true) by decide)] at H
     simp only [Option.some.injEq, Prod.mk.injEq] at H
     obtain ⟨rfl, rfl⟩ := H
     go_wp2_with (first | ((with_reducible refine aq (f := 25) rfl ?_); refine goesL_ (some 17) rfl rfl Try.func25 z0 rfl #[.string x5_1, .string (⟨#[59]⟩ : ByteArray)] rfl z7 ?_; (with_reducible refine (strings_Cut.calls x5_1 (⟨#[59]⟩ : ByteArray) bz ca false _ A9.out).mono ?_); rintro e w' ⟨rfl, ⟨nd, rfl⟩⟩; refine ⟨_, rfl, ?_⟩) | ((with_reducible refine aq (f := 25) rfl ?_); refine goesL_ (some 23) rfl rfl Try.func25 z0 rfl #[.string bz, .string (⟨#[61]⟩ : ByteArray)] rfl z7 ?_; (with_reducible refine (strings_Cut.calls bz (⟨#[61]⟩ : ByteArray) bX bW dh _ dO.out).mono ?_); rintro e w' ⟨rfl, ⟨nd, rfl⟩⟩; refine ⟨_, rfl, ?_⟩))
     all_goals (try (exfalso; rename_i h_; rw [c2b0] at h_; cases h_; done))
     go_ret2
     exact ⟨_, y2, y8, y3⟩

end Go.Proofs.Ytihjaagamihhkaa.AFnExactReadSchema
