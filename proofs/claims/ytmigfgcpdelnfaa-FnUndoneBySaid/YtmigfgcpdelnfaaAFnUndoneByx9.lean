-- this session's own text: written by wip/tools/ownprint.py over the kit's print
import Derived.Test.YtmigfgcpdelnfaaAFnUndoneByx0
import Derived.Test.YtmigfgcpdelnfaaAFnUndoneByx7
import Derived.Test.YtmigfgcpdelnfaaAFnUndoneByx8
namespace Go.Proofs.Ytmigfgcpdelnfaa.AFnUndoneBy
open Go.RowKit Go.Proofs.YtmigfgcpdelnfaaW.PrintWords Go.Proofs.YtmigfgcpdelnfaaW.PrintLast Go.Proofs.YtmigfgcpdelnfaaW.PrintMore
attribute [local go_sem] max2_int min2_int max_two min_two max_three min_three max_four min_four   -- for this text's walks alone
set_option linter.unusedVariables false
set_option linter.unusedSimpArgs false

/-! ### impl_Command_onElement: function 80 -/
def impl_Command_onElement.f (k : Nat) (a0_0 : Int) (a0_1 : Int) (a0_2 : Int) (a0_3 : ByteArray) (a1 : ByteArray) : Option ((List (S61)) × Bool) := (impl_beginsAt.f k a1 a0_1).bind fun cb => (if cb.2 = true then (if a0_0 = 4 then ((impl_keepTo.f 0 a0_1).bind fun iE => (if 0 ≤ a0_1 then (if a0_1 ≤ (wrap64 (a0_1 + 1)) then (if (wrap64 (a0_1 + 1)) ≤ (a1.size : Int) then ((impl_keepTo.f (wrap64 (a0_1 + 1)) cb.1).bind fun iD => ((impl_keepTo.f (wrap64 (cb.1 + 1)) (a1.size : Int)).bind fun iC => (some ((([(⟨iE.1, iE.2.1, iE.2.2⟩ : S61), (⟨0, (⟨#[]⟩ : ByteArray), a1.extract (a0_1 : Int).toNat ((wrap64 (a0_1 + 1)) : Int).toNat⟩ : S61), (⟨iD.1, iD.2.1, iD.2.2⟩ : S61), (⟨0, (⟨#[]⟩ : ByteArray), (⟨#[47]⟩ : ByteArray)⟩ : S61), (⟨iC.1, iC.2.1, iC.2.2⟩ : S61)] : List (S61))), true)))) else (none)) else (none)) else (none))) else (if a0_0 = 8 then ((impl_keepTo.f 0 a0_1).bind fun iB => (if 0 ≤ a0_1 then (if a0_1 ≤ (wrap64 (a0_1 + 1)) then (if (wrap64 (a0_1 + 1)) ≤ (a1.size : Int) then ((impl_keepTo.f (wrap64 (a0_1 + 1)) (a1.size : Int)).bind fun iA => ((some (([(⟨iB.1, iB.2.1, iB.2.2⟩ : S61), (⟨0, a0_3, (⟨#[]⟩ : ByteArray)⟩ : S61), (⟨0, (⟨#[]⟩ : ByteArray), a1.extract (a0_1 : Int).toNat ((wrap64 (a0_1 + 1)) : Int).toNat⟩ : S61), (⟨iA.1, iA.2.1, iA.2.2⟩ : S61)] : List (S61)) : List (S61))).bind fun y267 => ((impl_isNameText.f a0_3).bind fun lU => (if lU = true then (some (y267, (a0_3.toList != (a1.extract (a0_1 : Int).toNat ((wrap64 (a0_1 + 1)) : Int).toNat).toList))) else (some (y267, false)))))) else (none)) else (none)) else (none))) else (if a0_0 = 7 then (if 0 ≤ a0_1 then (if a0_1 ≤ (wrap64 (cb.1 + 1)) then (if (wrap64 (cb.1 + 1)) ≤ (a1.size : Int) then (if a0_2 < a0_1 then ((impl_keepTo.f 0 a0_2).bind fun iz => ((impl_keepTo.f a0_2 a0_1).bind fun iy => ((impl_keepTo.f (wrap64 (cb.1 + 1)) (a1.size : Int)).bind fun ix => (some ((([(⟨iz.1, iz.2.1, iz.2.2⟩ : S61), (⟨0, a1.extract (a0_1 : Int).toNat ((wrap64 (cb.1 + 1)) : Int).toNat, (⟨#[]⟩ : ByteArray)⟩ : S61), (⟨iy.1, iy.2.1, iy.2.2⟩ : S61), (⟨0, (⟨#[]⟩ : ByteArray), a1.extract (a0_1 : Int).toNat ((wrap64 (cb.1 + 1)) : Int).toNat⟩ : S61), (⟨ix.1, ix.2.1, ix.2.2⟩ : S61)] : List (S61))), true))))) else ((impl_keepTo.f 0 a0_1).bind fun iw => ((impl_keepTo.f (wrap64 (cb.1 + 1)) a0_2).bind fun iv => ((impl_keepTo.f a0_2 (a1.size : Int)).bind fun iu => (some ((([(⟨iw.1, iw.2.1, iw.2.2⟩ : S61), (⟨0, (⟨#[]⟩ : ByteArray), a1.extract (a0_1 : Int).toNat ((wrap64 (cb.1 + 1)) : Int).toNat⟩ : S61), (⟨iv.1, iv.2.1, iv.2.2⟩ : S61), (⟨0, a1.extract (a0_1 : Int).toNat ((wrap64 (cb.1 + 1)) : Int).toNat, (⟨#[]⟩ : ByteArray)⟩ : S61), (⟨iu.1, iu.2.1, iu.2.2⟩ : S61)] : List (S61))), decide (a0_2 > (wrap64 (cb.1 + 1))))))))) else (none)) else (none)) else (none)) else (some (([] : List (S61)), false))))) else (some (([] : List (S61)), false)))
theorem impl_Command_onElement.mono : ∀ a0 a1 a2 a3 a4 k, LeO (impl_Command_onElement.f k a0 a1 a2 a3 a4) (impl_Command_onElement.f (k + 1) a0 a1 a2 a3 a4) := by
 intro a0 a1 a2 a3 a4 k
 unfold impl_Command_onElement.f
 repeat' first
   | (with_reducible exact impl_beginsAt.mono _ _ _)
   | (with_reducible exact LeO.refl _)
   | (with_reducible exact LeO.none _)
   | (with_reducible refine LeO.ite ?_ ?_)
   | (with_reducible refine LeO.bind ?_ (fun _ => ?_))
def impl_Command_onElement.T4 : Bool × List (List Nat × List Nat) := (true, [([], []), ([0], [0]), ([], []), ([2], [2]), ([], []), ([4], [4]), ([], []), ([6], [6]), ([1, 0, 1], [1]), ([3, 8, 0, 1, 2, 3, 8], [3]), ([5, 9, 0, 1, 2, 3, 4, 5, 8, 9], [5]), ([7, 10, 0, 1, 2, 3, 4, 5, 6, 7, 8, 9, 10], [7])])
def impl_Command_onElement.B4 : List Nat := [0, 1, 0, 4, 0, 16, 0, 64, 3, 271, 831, 2047]
theorem impl_Command_onElement.tab4 : rtab .any (opsOf Try.f80 4) = impl_Command_onElement.T4 := by kernel_rfl
theorem impl_Command_onElement.bits4 : waitsOk impl_Command_onElement.T4.2 impl_Command_onElement.B4 = true := by kernel_rfl
def impl_Command_onElement.T7 : Bool × List (List Nat × List Nat) := (true, [([], []), ([0], [0]), ([], []), ([], []), ([], []), ([4], [4]), ([2, 3, 5], [2, 3, 5]), ([6], [6]), ([], []), ([8], [8]), ([], []), ([9, 10, 1], [9, 10]), ([], []), ([], []), ([], []), ([13, 14, 11], [13, 14]), ([1, 7, 11, 12, 15], [1, 7, 11, 12, 15]), ([16, 15, 0, 1, 2, 3, 4, 5, 6, 7, 8, 9, 10, 11, 12, 13, 14, 15, 16], [16]), ([17, 0, 1, 2, 3, 4, 5, 6, 7, 8, 9, 10, 11, 12, 13, 14, 15, 16, 17], [])])
def impl_Command_onElement.B7 : List Nat := [0, 1, 0, 0, 0, 16, 60, 124, 0, 256, 0, 1795, 0, 0, 0, 28419, 65535, 131071, 262143]
theorem impl_Command_onElement.tab7 : rtab .any (opsOf Try.f80 7) = impl_Command_onElement.T7 := by kernel_rfl
theorem impl_Command_onElement.bits7 : waitsOk impl_Command_onElement.T7.2 impl_Command_onElement.B7 = true := by kernel_rfl
def impl_Command_onElement.T9 : Bool × List (List Nat × List Nat) := (true, [([], []), ([0], [0]), ([], []), ([2], [2]), ([3], [3]), ([], []), ([], []), ([], []), ([7], [7]), ([5, 6, 8], [5, 6, 8]), ([9], [9]), ([], []), ([11], [11]), ([], []), ([12, 13, 1], [12, 13]), ([1, 4, 10, 14], [1, 4, 10, 14]), ([], []), ([16], [16]), ([17, 14], [17]), ([18, 18], [18]), ([19], [19]), ([20, 19], [19, 20]), ([19], [19]), ([19], [19]), ([19], [19]), ([24, 19], [19, 24]), ([22, 23, 25, 19], [19, 22, 23, 25]), ([21, 26, 19], [19, 21, 26]), ([19, 27], [19, 27]), ([15, 19, 0, 1, 2, 3, 4, 5, 6, 7, 8, 9, 10, 11, 12, 13, 14, 15], [15]), ([28, 29, 0, 1, 2, 3, 4, 5, 6, 7, 8, 9, 10, 11, 12, 13, 14, 15, 16, 17, 18, 19, 20, 21, 22, 23, 24, 25, 26, 27, 28, 29], [28])])
def impl_Command_onElement.B9 : List Nat := [0, 1, 0, 4, 12, 0, 0, 0, 128, 480, 992, 0, 2048, 0, 14339, 32767, 0, 65536, 227331, 489475, 1013763, 2062339, 1013763, 1013763, 1013763, 17790979, 63928323, 134182915, 268400643, 1048575, 1073741823]
theorem impl_Command_onElement.tab9 : rtab .any (opsOf Try.f80 9) = impl_Command_onElement.T9 := by kernel_rfl
theorem impl_Command_onElement.bits9 : waitsOk impl_Command_onElement.T9.2 impl_Command_onElement.B9 = true := by kernel_rfl
set_option maxHeartbeats 8000000 in
set_option maxRecDepth 100000 in
theorem impl_Command_onElement.calls (k : Nat) (a0_0 : Int) (a0_1 : Int) (a0_2 : Int) (a0_3 : ByteArray) (a1 : ByteArray) (r1 : List (S61)) (r2 : Bool) (w : World) (h : impl_Command_onElement.f k a0_0 a0_1 a0_2 a0_3 a1 = some (r1, r2)) :
  Calls Try.prog 80 #[.agg #[.int .i64 a0_0, .int .i64 a0_1, .int .i64 a0_2, .string a0_3], .string a1] w fun e w' => ∃ v0_ : Value, e = .returned (.tuple #[v0_, .bool r2]) ∧ Kd.R k61 61 w' w.heap.size (fun _ => True) v0_ r1 ∧ Below w.heap.size w w' := by
 have hu29 := Try.underlying29
 have hu61 := Try.underlying61
 have HB := aM (Below.refl w.heap.size w)
 have H : ((impl_beginsAt.f k a1 a0_1).bind fun cb => (if cb.2 = true then (if a0_0 = 4 then ((impl_keepTo.f 0 a0_1).bind fun iE => (if 0 ≤ a0_1 then (if a0_1 ≤ (wrap64 (a0_1 + 1)) then (if (wrap64 (a0_1 + 1)) ≤ (a1.size : Int) then ((impl_keepTo.f (wrap64 (a0_1 + 1)) cb.1).bind fun iD => ((impl_keepTo.f (wrap64 (cb.1 + 1)) (a1.size : Int)).bind fun iC => (some ((([(⟨iE.1, iE.2.1, iE.2.2⟩ : S61), (⟨0, (⟨#[]⟩ : ByteArray), a1.extract (a0_1 : Int).toNat ((wrap64 (a0_1 + 1)) : Int).toNat⟩ : S61), (⟨iD.1, iD.2.1, iD.2.2⟩ : S61), (⟨0, (⟨#[]⟩ : ByteArray), (⟨#[47]⟩ : ByteArray)⟩ : S61), (⟨iC.1, iC.2.1, iC.2.2⟩ : S61)] : List (S61))), true)))) else (none)) else (none)) else (none))) else (if a0_0 = 8 then ((impl_keepTo.f 0 a0_1).bind fun iB => (if 0 ≤ a0_1 then (if a0_1 ≤ (wrap64 (a0_1 + 1)) then (if (wrap64 (a0_1 + 1)) ≤ (a1.size : Int) then ((impl_keepTo.f (wrap64 (a0_1 + 1)) (a1.size : Int)).bind fun iA => ((some (([(⟨iB.1, iB.2.1, iB.2.2⟩ : S61), (⟨0, a0_3, (⟨#[]⟩ : ByteArray)⟩ : S61), (⟨0, (⟨#[]⟩ : ByteArray), a1.extract (a0_1 : Int).toNat ((wrap64 (a0_1 + 1)) : Int).toNat⟩ : S61), (⟨iA.1, iA.2.1, iA.2.2⟩ : S61)] : List (S61)) : List (S61))).bind fun y267 => ((impl_isNameText.f a0_3).bind fun lU => (if lU = true then (some (y267, (a0_3.toList != (a1.extract (a0_1 : Int).toNat ((wrap64 (a0_1 + 1)) : Int).toNat).toList))) else (some (y267, false)))))) else (none)) else (none)) else (none))) else (if a0_0 = 7 then (if 0 ≤ a0_1 then (if a0_1 ≤ (wrap64 (cb.1 + 1)) then (if (wrap64 (cb.1 + 1)) ≤ (a1.size : Int) then (if a0_2 < a0_1 then ((impl_keepTo.f 0 a0_2).bind fun iz => ((impl_keepTo.f a0_2 a0_1).bind fun iy => ((impl_keepTo.f (wrap64 (cb.1 + 1)) (a1.size : Int)).bind fun ix => (some ((([(⟨iz.1, iz.2.1, iz.2.2⟩ : S61), (⟨0, a1.extract (a0_1 : Int).toNat ((wrap64 (cb.1 + 1)) : Int).toNat, (⟨#[]⟩ : ByteArray)⟩ : S61), (⟨iy.1, iy.2.1, iy.2.2⟩ : S61), (⟨0, (⟨#[]⟩ : ByteArray), a1.extract (a0_1 : Int).toNat ((wrap64 (cb.1 + 1)) : Int).toNat⟩ : S61), (⟨ix.1, ix.2.1, ix.2.2⟩ : S61)] : List (S61))), true))))) else ((impl_keepTo.f 0 a0_1).bind fun iw => ((impl_keepTo.f (wrap64 (cb.1 + 1)) a0_2).bind fun iv => ((impl_keepTo.f a0_2 (a1.size : Int)).bind fun iu => (some ((([(⟨iw.1, iw.2.1, iw.2.2⟩ : S61), (⟨0, (⟨#[]⟩ : ByteArray), a1.extract (a0_1 : Int).toNat ((wrap64 (cb.1 + 1)) : Int).toNat⟩ : S61), (⟨iv.1, iv.2.1, iv.2.2⟩ : S61), (⟨0, a1.extract (a0_1 : Int).toNat ((wrap64 (cb.1 + 1)) : Int).toNat, (⟨#[]⟩ : ByteArray)⟩ : S61), (⟨iu.1, iu.2.1, iu.2.2⟩ : S61)] : List (S61))), decide (a0_2 > (wrap64 (cb.1 + 1))))))))) else (none)) else (none)) else (none)) else (some (([] : List (S61)), false))))) else (some (([] : List (S61)), false)))) = some (r1, r2) := h
 clear h
 obtain ⟨⟨bV, t248⟩, A3, H⟩ := oA_ H
 try dsimp only at H
 by_cases c4 : t248 = true
 ·subst c4
  rw [if_pos rfl] at H
  by_cases c5 : a0_0 = 4
  ·rw [if_pos c5] at H
   have c5b0 : (a0_0 == 4) = true := qT c5
   have c5b1 : (a0_0 != 4) = false := nF c5
   clear c5
   obtain ⟨⟨l5, l4, l3⟩, A6, H⟩ := oA_ H
   try dsimp only at H
   by_cases c7 : 0 ≤ a0_1
   ·rw [if_pos c7] at H
    have c7b0 := eq_true c7
    have c7b1 : decide (0 ≤ a0_1) = true := dT c7
    clear c7
    by_cases c8 : a0_1 ≤ (wrap64 (a0_1 + 1))
    ·rw [if_pos c8] at H
     have c8b0 := eq_true c8
     have c8b1 : decide (a0_1 ≤ (wrap64 (a0_1 + 1))) = true := dT c8
     by_cases c9 : (wrap64 (a0_1 + 1)) ≤ (a1.size : Int)
     ·rw [if_pos c9] at H
      have c9b0 := eq_true c9
      have c9b1 : decide ((wrap64 (a0_1 + 1)) ≤ (a1.size : Int)) = true := dT c9
      obtain ⟨⟨l2, lZ, lY⟩, k0, H⟩ := oA_ H
      try dsimp only at H
      obtain ⟨⟨lX, lW, lV⟩, jh, H⟩ := oA_ H
      try dsimp only at H
      obtain ⟨y258, hy258⟩ : ∃ y_ : List (S61), y_ = (([(⟨l5, l4, l3⟩ : S61), (⟨0, (⟨#[]⟩ : ByteArray), a1.extract (a0_1 : Int).toNat ((wrap64 (a0_1 + 1)) : Int).toNat⟩ : S61), (⟨l2, lZ, lY⟩ : S61), (⟨0, (⟨#[]⟩ : ByteArray), (⟨#[47]⟩ : ByteArray)⟩ : S61), (⟨lX, lW, lV⟩ : S61)] : List (S61))) := ⟨_, rfl⟩
      replace H : (some (y258, true)) = some (r1, r2) := by first | (rw [hy258]; with_reducible exact H) | (have H2_ := (Option.bind_some _ _).symm.trans H; rw [hy258]; with_reducible exact H2_) | (have H2_ := (Option.bind_some _ _).symm.trans H; with_reducible exact H2_) | with_reducible exact H | (rw [hy258]; exact H) | exact H
      have Ny258 := aM hy258
      clear hy258
      simp only [Option.some.injEq, Prod.mk.injEq] at H
      obtain ⟨rfl, rfl⟩ := H
      go_enter Try.func80, Try.ntmps80
      try go_wp2_with (first | ((with_reducible refine aw (N := 2) rfl ?_); refine ax ?hg (N := 2) ?hd (cs := #[.int .i64 a0_0, .int .i64 a0_1, .int .i64 a0_2, .string a0_3]) (t := 29) ?hr ?_; (case hd => rfl); (case hg => rfl); (case hr => first | (go_simp; done) | (go_simp; rfl)); intro aV hg w12 hbox hb; have aJ := aM (hbox); have jb := aM ((by rw [hg]; exact (aq z13) : w.heap.size ≤ aV)); have je := aM ((by rw [hg]; exact (aq z13) : w.heap.size ≤ aV)); replace HB := aM (ap z13 hb); clear hb hbox hg; obtain ⟨hcz13_0, hcz13_1, hcz13_2, hcz13_3, hfz13_0, hfz13_1, hfz13_2, hfz13_3⟩ := cc4 aJ.out) | ((with_reducible refine av (f := 52) rfl ?_); refine ay (some 17) rfl rfl Try.func52 z0 rfl #[.string a1, .int .i64 a0_1] rfl z14 ?_; (with_reducible refine (impl_beginsAt.calls k a1 a0_1 bV true _ A3.out).mono ?_); rintro e w14 ⟨rfl, hb⟩; refine ⟨_, rfl, ?_⟩; replace aJ := aM (bK_ aJ.out hb); replace HB := aM (ap z17 hb); (try clear hb)))
      replace aJ := aM (ai aJ.out)
      replace HB := aM (bD HB.out)
      refine start_ (n := 12) (S := fun w' => w'.cell? ⟨aV, 0, none⟩ = some (.int .i64 a0_0) ∧ w'.cell? ⟨aV, 1, none⟩ = some (.int .i64 a0_1) ∧ w'.cell? ⟨aV, 2, none⟩ = some (.int .i64 a0_2) ∧ w'.cell? ⟨aV, 3, none⟩ = some (.string a0_3)) (ds := []) #[false, false, false, false, false, false, false, false, false, false, false, false] z0 rfl rfl ⟨(bC aJ.out 0).trans rfl, (bC aJ.out 1).trans rfl, (bC aJ.out 2).trans rfl, (bC aJ.out 3).trans rfl⟩ (fun hHeld => ?_); refine with_tabW impl_Command_onElement.tab4 impl_Command_onElement.bits4 (fun HT_ HW_ => ?_)
      generalize w14.drew = w15 at aJ HB hHeld ⊢
      refine pA 0 22 ?_
      refine pA 2 24 ?_
      refine pA 4 26 ?_
      refine pA 5 27 ?_
      refine pA 6 28 ?_
      refine pA 7 29 ?_
      refine t4_ 1 23 ?_
      refine pA 8 8 ?_
      refine t4_ 3 25 ?_
      refine pA 9 9 ?_
      refine pA 10 10 ?_
      refine pA 11 11 ?_
      refine done_ (done_of HT_.out z0) ?_
      obtain ⟨hcz16_0, hcz16_1, hcz16_2, hcz16_3, hfz16_0, hfz16_1, hfz16_2, hfz16_3⟩ := cc4 aJ.out
      try go_wp2
      replace aJ := aM (ai aJ.out)
      replace HB := aM (bD HB.out)
      refine start_ (n := 19) (S := fun w' => True) (ds := []) #[false, false, false, false, false, false, false, false, false, false, false, false, false, false, false, false, false, false, false] z0 rfl rfl trivial (fun hHeld => ?_); refine with_tabW impl_Command_onElement.tab7 impl_Command_onElement.bits7 (fun HT_ HW_ => ?_)
      generalize w15.drew = w17 at aJ HB hHeld ⊢
      refine pA 0 34 ?_
      refine pA 2 36 ?_
      refine pA 3 37 ?_
      refine pA 4 38 ?_
      refine pA 5 39 ?_
      refine pA 6 40 ?_
      refine pA 7 41 ?_
      refine pA 8 42 ?_
      refine pA 9 43 ?_
      refine pA 10 44 ?_
      refine pA 12 46 ?_
      refine pA 13 47 ?_
      refine pA 14 48 ?_
      refine one_ (i := 1) (N := some 35) #[true, true, true, true, true, true, true, true, true, true, true, false, true, true, true, false, false, false, false] rfl rfl (one_of HT_.out z0) (by decide) (fun K hK => ?_)
      refine goes_ Try.func77 z0 rfl #[.int .i64 0, .int .i64 a0_1] (by rfl) rfl rfl z14 ?_
      with_reducible refine (impl_keepTo.calls 0 a0_1 l5 l4 l3 _ A6.out).mono ?_
      rintro e w18 ⟨rfl, hb⟩
      refine ⟨_, rfl, ?_⟩
      replace aJ := aM (bK_ aJ.out hb)
      replace HB := aM (ap z17 hb)
      (try clear hb)
      skip
      skip
      skip
      refine hK.out _ _ trivial (fun hHeld => ?_)
      clear hK K
      refine norm_ (a' := ?_) ?_ ?_
      rotate_left
      ·show Act.put _ (some 35) _ = _
       simp only [Act.put, sA, sB, sC, i64_w, i32_w]
       rfl
      refine one_ (i := 11) (N := some 45) #[true, true, true, true, true, true, true, true, true, true, true, true, true, true, true, false, false, false, false] rfl rfl (one_of HT_.out z0) (by decide) (fun K hK => ?_)
      refine goes_ Try.func77 z0 rfl #[.int .i64 (wrap64 (a0_1 + 1)), .int .i64 bV] (by rfl) rfl rfl z14 ?_
      with_reducible refine (impl_keepTo.calls (wrap64 (a0_1 + 1)) bV l2 lZ lY _ k0.out).mono ?_
      rintro e w19 ⟨rfl, hb⟩
      refine ⟨_, rfl, ?_⟩
      replace aJ := aM (bK_ aJ.out hb)
      replace HB := aM (ap z17 hb)
      (try clear hb)
      skip
      skip
      skip
      refine hK.out _ _ trivial (fun hHeld => ?_)
      clear hK K
      refine norm_ (a' := ?_) ?_ ?_
      rotate_left
      ·show Act.put _ (some 45) _ = _
       simp only [Act.put, sA, sB, sC, i64_w, i32_w]
       rfl
      refine one_ (i := 15) (N := some 49) #[true, true, true, true, true, true, true, true, true, true, true, true, true, true, true, true, false, false, false] rfl rfl (one_of HT_.out z0) (by decide) (fun K hK => ?_)
      refine goes_ Try.func77 z0 rfl #[.int .i64 (wrap64 (bV + 1)), .int .i64 (a1.size : Int)] (by rfl) rfl rfl z14 ?_
      with_reducible refine (impl_keepTo.calls (wrap64 (bV + 1)) (a1.size : Int) lX lW lV _ jh.out).mono ?_
      rintro e w20 ⟨rfl, hb⟩
      refine ⟨_, rfl, ?_⟩
      replace aJ := aM (bK_ aJ.out hb)
      replace HB := aM (ap z17 hb)
      (try clear hb)
      skip
      skip
      skip
      refine hK.out _ _ trivial (fun hHeld => ?_)
      clear hK K
      refine norm_ (a' := ?_) ?_ ?_
      rotate_left
      ·show Act.put _ (some 49) _ = _
       simp only [Act.put, sA, sB, sC, i64_w, i32_w]
       rfl
      refine one_ (i := 16) (N := some 50) #[true, true, true, true, true, true, true, true, true, true, true, true, true, true, true, true, true, false, false] rfl rfl (one_of HT_.out z0) (by decide) (fun K hK => ?_)
      refine Kd.R_lit_step k61 _ 61 ?hg (N := 50) ?hd (xs := ([(⟨l5, l4, l3⟩ : S61), (⟨0, (⟨#[]⟩ : ByteArray), a1.extract (a0_1 : Int).toNat ((wrap64 (a0_1 + 1)) : Int).toNat⟩ : S61), (⟨l2, lZ, lY⟩ : S61), (⟨0, (⟨#[]⟩ : ByteArray), (⟨#[47]⟩ : ByteArray)⟩ : S61), (⟨lX, lW, lV⟩ : S61)] : List (S61))) (inner := [.int .i64 l5, .string l4, .string l3, .int .i64 0, .string ⟨#[]⟩, .string (a1.extract (a0_1 : Int).toNat ((wrap64 (a0_1 + 1)) : Int).toNat), .int .i64 l2, .string lZ, .string lY, .int .i64 0, .string ⟨#[]⟩, .string (⟨#[47]⟩ : ByteArray), .int .i64 lX, .string lW, .string lV]) (ok := fun _ => True) (okp := fun _ => True) ?hr ?hp (fun _ hk => hk) trivial (Below.refl _ _) (Nat.le_refl _) (by simp) ?_; (case hd => rfl); (case hg => rfl); (case hr => first | (go_simp; done) | (go_simp; rfl)); (case hp => exact (Reps.c3 (show Kd.M k61 _ _ _ (⟨l5, l4, l3⟩ : S61) [.int .i64 l5, .string l4, .string l3] from (k61_mkM _ _ _ (⟨l5, l4, l3⟩ : S61) )) (Reps.c3 (show Kd.M k61 _ _ _ (⟨0, (⟨#[]⟩ : ByteArray), a1.extract (a0_1 : Int).toNat ((wrap64 (a0_1 + 1)) : Int).toNat⟩ : S61) [.int .i64 0, .string ⟨#[]⟩, .string (a1.extract (a0_1 : Int).toNat ((wrap64 (a0_1 + 1)) : Int).toNat)] from (k61_mkM _ _ _ (⟨0, (⟨#[]⟩ : ByteArray), a1.extract (a0_1 : Int).toNat ((wrap64 (a0_1 + 1)) : Int).toNat⟩ : S61) )) (Reps.c3 (show Kd.M k61 _ _ _ (⟨l2, lZ, lY⟩ : S61) [.int .i64 l2, .string lZ, .string lY] from (k61_mkM _ _ _ (⟨l2, lZ, lY⟩ : S61) )) (Reps.c3 (show Kd.M k61 _ _ _ (⟨0, (⟨#[]⟩ : ByteArray), (⟨#[47]⟩ : ByteArray)⟩ : S61) [.int .i64 0, .string ⟨#[]⟩, .string (⟨#[47]⟩ : ByteArray)] from (k61_mkM _ _ _ (⟨0, (⟨#[]⟩ : ByteArray), (⟨#[47]⟩ : ByteArray)⟩ : S61) )) (Reps.c3 (show Kd.M k61 _ _ _ (⟨lX, lW, lV⟩ : S61) [.int .i64 lX, .string lW, .string lV] from (k61_mkM _ _ _ (⟨lX, lW, lV⟩ : S61) )) (Reps.none _ _)))))))
      intro v259 w21 ho22 hb hg_ hnew_
      clear hg_ hnew_
      (first | rw [← Ny258.out] at ho22 | (simp only [Int.reduceToNat] at ho22; rw [← Ny258.out] at ho22))
      have HO260 := aM (az ho22 (aq z17))
      replace aJ := aM (bK_ aJ.out hb)
      replace HB := aM (ap z17 hb)
      clear hb ho22
      refine hK.out _ _ trivial (fun hHeld => ?_)
      clear hK K
      refine norm_ (a' := ?_) ?_ ?_
      rotate_left
      ·show Act.put _ (some 50) _ = _
       simp only [Act.put, sA, sB, sC, i64_w, i32_w]
       rfl
      refine pA 17 4 ?_
      refine pA 18 5 ?_
      refine done_ (done_of HT_.out z0) ?_
      try go_wp2
      go_ret2
      exact ⟨_, y4, by (with_reducible repeat (first | apply ac | apply ab | apply aa)); exact HO260.out, y19⟩
     ·rw [if_neg c9] at H
      exact absurd H (by simp)
    ·rw [if_neg c8] at H
     exact absurd H (by simp)
   ·rw [if_neg c7] at H
    exact absurd H (by simp)
  ·rw [if_neg c5] at H
   have c5b0 : (a0_0 == 4) = false := qF c5
   have c5b1 : (a0_0 != 4) = true := nT c5
   by_cases gp : a0_0 = 8
   ·rw [if_pos gp] at H
    have c23b0 : (a0_0 == 8) = true := qT gp
    have c23b1 : (a0_0 != 8) = false := nF gp
    clear gp
    obtain ⟨⟨dN, dM, dL⟩, uf, H⟩ := oA_ H
    try dsimp only at H
    by_cases e7 : 0 ≤ a0_1
    ·rw [if_pos e7] at H
     have c25b0 := eq_true e7
     have c25b1 : decide (0 ≤ a0_1) = true := dT e7
     clear e7
     by_cases eR : a0_1 ≤ (wrap64 (a0_1 + 1))
     ·rw [if_pos eR] at H
      have c26b0 := eq_true eR
      have c26b1 : decide (a0_1 ≤ (wrap64 (a0_1 + 1))) = true := dT eR
      by_cases mb : (wrap64 (a0_1 + 1)) ≤ (a1.size : Int)
      ·rw [if_pos mb] at H
       have c27b0 := eq_true mb
       have c27b1 : decide ((wrap64 (a0_1 + 1)) ≤ (a1.size : Int)) = true := dT mb
       obtain ⟨⟨dK, dJ, dI⟩, ue, H⟩ := oA_ H
       try dsimp only at H
       obtain ⟨y267, hy267⟩ : ∃ y_ : List (S61), y_ = (([(⟨dN, dM, dL⟩ : S61), (⟨0, a0_3, (⟨#[]⟩ : ByteArray)⟩ : S61), (⟨0, (⟨#[]⟩ : ByteArray), a1.extract (a0_1 : Int).toNat ((wrap64 (a0_1 + 1)) : Int).toNat⟩ : S61), (⟨dK, dJ, dI⟩ : S61)] : List (S61))) := ⟨_, rfl⟩
       replace H : ((impl_isNameText.f a0_3).bind fun lU => (if lU = true then (some (y267, (a0_3.toList != (a1.extract (a0_1 : Int).toNat ((wrap64 (a0_1 + 1)) : Int).toNat).toList))) else (some (y267, false)))) = some (r1, r2) := by first | (rw [hy267]; with_reducible exact H) | (have H2_ := (Option.bind_some _ _).symm.trans H; rw [hy267]; with_reducible exact H2_) | (have H2_ := (Option.bind_some _ _).symm.trans H; with_reducible exact H2_) | with_reducible exact H | (rw [hy267]; exact H) | exact H
       have Ny267 := aM hy267
       clear hy267
       obtain ⟨lU, rW, H⟩ := oA_ H
       try dsimp only at H
       by_cases e3 : lU = true
       ·subst e3
        rw [if_pos rfl] at H
        have c31b0 := eq_true (oD z2 : 0 ≤ a0_1)
        have c32b0 := eq_true (oD z2 : a0_1 ≤ (wrap64 (a0_1 + 1)))
        have c33b0 := eq_true (oD z2 : (wrap64 (a0_1 + 1)) ≤ (a1.size : Int))
        simp only [Option.some.injEq, Prod.mk.injEq] at H
        obtain ⟨rfl, rfl⟩ := H
        go_enter Try.func80, Try.ntmps80
        try go_wp2_with (first | ((with_reducible refine aw (N := 2) rfl ?_); refine ax ?hg (N := 2) ?hd (cs := #[.int .i64 a0_0, .int .i64 a0_1, .int .i64 a0_2, .string a0_3]) (t := 29) ?hr ?_; (case hd => rfl); (case hg => rfl); (case hr => first | (go_simp; done) | (go_simp; rfl)); intro aV hg w34 hbox hb; have aJ := aM (hbox); have jb := aM ((by rw [hg]; exact (aq z13) : w.heap.size ≤ aV)); have je := aM ((by rw [hg]; exact (aq z13) : w.heap.size ≤ aV)); replace HB := aM (ap z13 hb); clear hb hbox hg; obtain ⟨hcz35_0, hcz35_1, hcz35_2, hcz35_3, hfz35_0, hfz35_1, hfz35_2, hfz35_3⟩ := cc4 aJ.out) | ((with_reducible refine av (f := 52) rfl ?_); refine ay (some 17) rfl rfl Try.func52 z0 rfl #[.string a1, .int .i64 a0_1] rfl z14 ?_; (with_reducible refine (impl_beginsAt.calls k a1 a0_1 bV true _ A3.out).mono ?_); rintro e w36 ⟨rfl, hb⟩; refine ⟨_, rfl, ?_⟩; replace aJ := aM (bK_ aJ.out hb); replace HB := aM (ap z17 hb); (try clear hb)))
        replace aJ := aM (ai aJ.out)
        replace HB := aM (bD HB.out)
        refine start_ (n := 12) (S := fun w' => w'.cell? ⟨aV, 0, none⟩ = some (.int .i64 a0_0) ∧ w'.cell? ⟨aV, 1, none⟩ = some (.int .i64 a0_1) ∧ w'.cell? ⟨aV, 2, none⟩ = some (.int .i64 a0_2) ∧ w'.cell? ⟨aV, 3, none⟩ = some (.string a0_3)) (ds := []) #[false, false, false, false, false, false, false, false, false, false, false, false] z0 rfl rfl ⟨(bC aJ.out 0).trans rfl, (bC aJ.out 1).trans rfl, (bC aJ.out 2).trans rfl, (bC aJ.out 3).trans rfl⟩ (fun hHeld => ?_); refine with_tabW impl_Command_onElement.tab4 impl_Command_onElement.bits4 (fun HT_ HW_ => ?_)
        generalize w36.drew = w37 at aJ HB hHeld ⊢
        refine pA 0 22 ?_
        refine pA 2 24 ?_
        refine pA 4 26 ?_
        refine pA 5 27 ?_
        refine pA 6 28 ?_
        refine pA 7 29 ?_
        refine t4_ 1 23 ?_
        refine pA 8 8 ?_
        refine t4_ 3 25 ?_
        refine pA 9 9 ?_
        refine pA 10 10 ?_
        refine pA 11 11 ?_
        refine done_ (done_of HT_.out z0) ?_
        obtain ⟨hcz38_0, hcz38_1, hcz38_2, hcz38_3, hfz38_0, hfz38_1, hfz38_2, hfz38_3⟩ := cc4 aJ.out
        try go_wp2
        replace aJ := aM (ai aJ.out)
        replace HB := aM (bD HB.out)
        refine start_ (n := 31) (S := fun w' => w'.cell? ⟨aV, 0, none⟩ = some (.int .i64 a0_0) ∧ w'.cell? ⟨aV, 1, none⟩ = some (.int .i64 a0_1) ∧ w'.cell? ⟨aV, 2, none⟩ = some (.int .i64 a0_2) ∧ w'.cell? ⟨aV, 3, none⟩ = some (.string a0_3)) (ds := []) #[false, false, false, false, false, false, false, false, false, false, false, false, false, false, false, false, false, false, false, false, false, false, false, false, false, false, false, false, false, false, false] z0 rfl rfl ⟨(bC aJ.out 0).trans rfl, (bC aJ.out 1).trans rfl, (bC aJ.out 2).trans rfl, (bC aJ.out 3).trans rfl⟩ (fun hHeld => ?_); refine with_tabW impl_Command_onElement.tab9 impl_Command_onElement.bits9 (fun HT_ HW_ => ?_)
        generalize w37.drew = w39 at aJ HB hHeld ⊢
        refine pA 0 53 ?_
        refine pA 2 55 ?_
        refine pA 5 58 ?_
        refine pA 6 59 ?_
        refine pA 7 60 ?_
        refine pA 8 61 ?_
        refine pA 9 62 ?_
        refine pA 10 63 ?_
        refine pA 11 64 ?_
        refine pA 12 65 ?_
        refine pA 13 66 ?_
        refine pA 16 69 ?_
        refine t4_ 3 56 ?_
        refine pA 4 57 ?_
        refine t4_ 17 70 ?_
        refine one_ (i := 1) (N := some 54) #[true, true, true, true, true, true, true, true, true, true, true, true, true, true, false, false, true, true, false, false, false, false, false, false, false, false, false, false, false, false, false] rfl rfl (one_of HT_.out z0) (by decide) (fun K hK => ?_)
        refine goes_ Try.func77 z0 rfl #[.int .i64 0, .int .i64 a0_1] (by rfl) rfl rfl z14 ?_
        with_reducible refine (impl_keepTo.calls 0 a0_1 dN dM dL _ uf.out).mono ?_
        rintro e w40 ⟨rfl, hb⟩
        refine ⟨_, rfl, ?_⟩
        replace aJ := aM (bK_ aJ.out hb)
        replace HB := aM (ap z17 hb)
        (try clear hb)
        skip
        skip
        skip
        refine hK.out _ _ ⟨(bC aJ.out 0).trans rfl, (bC aJ.out 1).trans rfl, (bC aJ.out 2).trans rfl, (bC aJ.out 3).trans rfl⟩ (fun hHeld => ?_)
        clear hK K
        refine norm_ (a' := ?_) ?_ ?_
        rotate_left
        ·show Act.put _ (some 54) _ = _
         simp only [Act.put, sA, sB, sC, i64_w, i32_w]
         rfl
        refine one_ (i := 14) (N := some 67) #[true, true, true, true, true, true, true, true, true, true, true, true, true, true, true, false, true, true, false, false, false, false, false, false, false, false, false, false, false, false, false] rfl rfl (one_of HT_.out z0) (by decide) (fun K hK => ?_)
        refine goes_ Try.func77 z0 rfl #[.int .i64 (wrap64 (a0_1 + 1)), .int .i64 (a1.size : Int)] (by rfl) rfl rfl z14 ?_
        with_reducible refine (impl_keepTo.calls (wrap64 (a0_1 + 1)) (a1.size : Int) dK dJ dI _ ue.out).mono ?_
        rintro e w41 ⟨rfl, hb⟩
        refine ⟨_, rfl, ?_⟩
        replace aJ := aM (bK_ aJ.out hb)
        replace HB := aM (ap z17 hb)
        (try clear hb)
        skip
        skip
        skip
        refine hK.out _ _ ⟨(bC aJ.out 0).trans rfl, (bC aJ.out 1).trans rfl, (bC aJ.out 2).trans rfl, (bC aJ.out 3).trans rfl⟩ (fun hHeld => ?_)
        clear hK K
        refine norm_ (a' := ?_) ?_ ?_
        rotate_left
        ·show Act.put _ (some 67) _ = _
         simp only [Act.put, sA, sB, sC, i64_w, i32_w]
         rfl
        refine join_ (σ := Value) 2 #[true, true, true, true, true, true, true, true, true, true, true, true, true, true, true, true, true, true, true, true, true, true, true, true, true, true, true, true, true, false, false] (fun s_ => [(68, s_), (71, .bool true), (72, .bool true), (73, .pointer (some ⟨aV, 3, none⟩)), (74, .string a0_3), (75, .string a1), (76, .int .i64 a0_1), (77, .int .i64 a0_1), (78, .int .i64 (wrap64 (a0_1 + 1))), (79, .string (a1.extract (a0_1 : Int).toNat ((wrap64 (a0_1 + 1)) : Int).toNat)), (80, .bool (a0_3.toList != (a1.extract (a0_1 : Int).toNat ((wrap64 (a0_1 + 1)) : Int).toNat).toList)), (81, .bool (a0_3.toList != (a1.extract (a0_1 : Int).toNat ((wrap64 (a0_1 + 1)) : Int).toNat).toList))]) (fun s_ w' => (w'.cell? ⟨aV, 0, none⟩ = some (.int .i64 a0_0) ∧ w'.cell? ⟨aV, 1, none⟩ = some (.int .i64 a0_1) ∧ w'.cell? ⟨aV, 2, none⟩ = some (.int .i64 a0_2) ∧ w'.cell? ⟨aV, 3, none⟩ = some (.string a0_3)) ∧ (Kd.R k61 61 w' w.heap.size (fun _ => True) s_ y267) ∧ (w'.heap[aV]? = some (.cells #[.int .i64 a0_0, .int .i64 a0_1, .int .i64 a0_2, .string a0_3] 29 (0, 0))) ∧ (Below w.heap.size w w')) ?_ ?_
        rotate_left
        ·intro hCont
         refine two_ (i := 15) (j := 18) (Ni := some 68) (Nj := some 71) #[true, true, true, true, true, true, true, true, true, true, true, true, true, true, true, true, true, true, false, false, false, false, false, false, false, false, false, false, false, false, false] #[true, true, true, true, true, true, true, true, true, true, true, true, true, true, true, false, true, true, true, false, false, false, false, false, false, false, false, false, false, false, false] rfl rfl rfl rfl (two_of HT_.out z0) (by decide) (by decide) (fun K hK => ?_) (fun K hK => ?_)
         ·skip
          refine Kd.R_lit_step k61 _ 61 ?hg (N := 68) ?hd (xs := ([(⟨dN, dM, dL⟩ : S61), (⟨0, a0_3, (⟨#[]⟩ : ByteArray)⟩ : S61), (⟨0, (⟨#[]⟩ : ByteArray), a1.extract (a0_1 : Int).toNat ((wrap64 (a0_1 + 1)) : Int).toNat⟩ : S61), (⟨dK, dJ, dI⟩ : S61)] : List (S61))) (inner := [.int .i64 dN, .string dM, .string dL, .int .i64 0, .string a0_3, .string ⟨#[]⟩, .int .i64 0, .string ⟨#[]⟩, .string (a1.extract (a0_1 : Int).toNat ((wrap64 (a0_1 + 1)) : Int).toNat), .int .i64 dK, .string dJ, .string dI]) (ok := fun _ => True) (okp := fun _ => True) ?hr ?hp (fun _ hk => hk) trivial (Below.refl _ _) (Nat.le_refl _) (by simp) ?_; (case hd => rfl); (case hg => rfl); (case hr => first | (go_simp; done) | (go_simp; rfl)); (case hp => exact (Reps.c3 (show Kd.M k61 _ _ _ (⟨dN, dM, dL⟩ : S61) [.int .i64 dN, .string dM, .string dL] from (k61_mkM _ _ _ (⟨dN, dM, dL⟩ : S61) )) (Reps.c3 (show Kd.M k61 _ _ _ (⟨0, a0_3, (⟨#[]⟩ : ByteArray)⟩ : S61) [.int .i64 0, .string a0_3, .string ⟨#[]⟩] from (k61_mkM _ _ _ (⟨0, a0_3, (⟨#[]⟩ : ByteArray)⟩ : S61) )) (Reps.c3 (show Kd.M k61 _ _ _ (⟨0, (⟨#[]⟩ : ByteArray), a1.extract (a0_1 : Int).toNat ((wrap64 (a0_1 + 1)) : Int).toNat⟩ : S61) [.int .i64 0, .string ⟨#[]⟩, .string (a1.extract (a0_1 : Int).toNat ((wrap64 (a0_1 + 1)) : Int).toNat)] from (k61_mkM _ _ _ (⟨0, (⟨#[]⟩ : ByteArray), a1.extract (a0_1 : Int).toNat ((wrap64 (a0_1 + 1)) : Int).toNat⟩ : S61) )) (Reps.c3 (show Kd.M k61 _ _ _ (⟨dK, dJ, dI⟩ : S61) [.int .i64 dK, .string dJ, .string dI] from (k61_mkM _ _ _ (⟨dK, dJ, dI⟩ : S61) )) (Reps.none _ _))))))
          intro v268 w42 ho43 hb hg_ hnew_
          clear hg_ hnew_
          (first | rw [← Ny267.out] at ho43 | (simp only [Int.reduceToNat] at ho43; rw [← Ny267.out] at ho43))
          have eA := aM (az ho43 (aq z17))
          replace aJ := aM (bK_ aJ.out hb)
          replace HB := aM (ap z17 hb)
          clear hb ho43
          refine hK.out _ _ ⟨(bC aJ.out 0).trans rfl, (bC aJ.out 1).trans rfl, (bC aJ.out 2).trans rfl, (bC aJ.out 3).trans rfl⟩ (fun hHeld => ?_)
          clear hK K
          refine norm_ (a' := ?_) ?_ ?_
          rotate_left
          ·show Act.put _ (some 68) _ = _
           simp only [Act.put, sA, sB, sC, i64_w, i32_w]
           rfl
          refine one_ (i := 18) (N := some 71) #[true, true, true, true, true, true, true, true, true, true, true, true, true, true, true, true, true, true, true, false, false, false, false, false, false, false, false, false, false, false, false] rfl rfl (one_of HT_.out z0) (by decide) (fun K hK => ?_)
          refine goes_ Try.func78 z0 rfl #[.string a0_3] (by rfl) rfl rfl z14 ?_
          with_reducible refine (impl_isNameText.calls a0_3 true _ rW.out).mono ?_
          rintro e w' ⟨rfl, ⟨nd, rfl⟩⟩
          refine ⟨_, rfl, ?_⟩
          refine hK.out _ _ ⟨(bC aJ.out 0).trans rfl, (bC aJ.out 1).trans rfl, (bC aJ.out 2).trans rfl, (bC aJ.out 3).trans rfl⟩ (fun hHeld => ?_)
          clear hK K
          refine norm_ (a' := ?_) ?_ ?_
          rotate_left
          ·show Act.put _ (some 71) _ = _
           simp only [Act.put, sA, sB, sC, i64_w, i32_w]
           rfl
          refine pA 19 72 ?_
          refine pA 20 73 ?_
          refine t4_ 21 74 ?_
          refine pA 22 75 ?_
          refine pA 23 76 ?_
          refine pA 24 77 ?_
          refine pA 25 78 ?_
          refine pA 26 79 ?_
          refine pA 27 80 ?_
          refine pA 28 81 ?_
          exact norm_ (by simp only [putAll, Act.put, sA, sB, sC] <;> rfl) (hCont (v268) _ ⟨hHeld, (kR_ eA.out), z7, z17⟩)
         ·skip
          refine goes_ Try.func78 z0 rfl #[.string a0_3] (by rfl) rfl rfl z14 ?_
          with_reducible refine (impl_isNameText.calls a0_3 true _ rW.out).mono ?_
          rintro e w' ⟨rfl, ⟨nd, rfl⟩⟩
          refine ⟨_, rfl, ?_⟩
          refine hK.out _ _ ⟨(bC aJ.out 0).trans rfl, (bC aJ.out 1).trans rfl, (bC aJ.out 2).trans rfl, (bC aJ.out 3).trans rfl⟩ (fun hHeld => ?_)
          clear hK K
          refine norm_ (a' := ?_) ?_ ?_
          rotate_left
          ·show Act.put _ (some 71) _ = _
           simp only [Act.put, sA, sB, sC, i64_w, i32_w]
           rfl
          refine pA 19 72 ?_
          refine pA 20 73 ?_
          refine t4_ 21 74 ?_
          refine pA 22 75 ?_
          refine pA 23 76 ?_
          refine pA 24 77 ?_
          refine pA 25 78 ?_
          refine pA 26 79 ?_
          refine pA 27 80 ?_
          refine pA 28 81 ?_
          refine one_ (i := 15) (N := some 68) #[true, true, true, true, true, true, true, true, true, true, true, true, true, true, true, true, true, true, true, true, true, true, true, true, true, true, true, true, true, false, false] rfl rfl (one_of HT_.out z0) (by decide) (fun K hK => ?_)
          refine Kd.R_lit_step k61 _ 61 ?hg (N := 68) ?hd (xs := ([(⟨dN, dM, dL⟩ : S61), (⟨0, a0_3, (⟨#[]⟩ : ByteArray)⟩ : S61), (⟨0, (⟨#[]⟩ : ByteArray), a1.extract (a0_1 : Int).toNat ((wrap64 (a0_1 + 1)) : Int).toNat⟩ : S61), (⟨dK, dJ, dI⟩ : S61)] : List (S61))) (inner := [.int .i64 dN, .string dM, .string dL, .int .i64 0, .string a0_3, .string ⟨#[]⟩, .int .i64 0, .string ⟨#[]⟩, .string (a1.extract (a0_1 : Int).toNat ((wrap64 (a0_1 + 1)) : Int).toNat), .int .i64 dK, .string dJ, .string dI]) (ok := fun _ => True) (okp := fun _ => True) ?hr ?hp (fun _ hk => hk) trivial (Below.refl _ _) (Nat.le_refl _) (by simp) ?_; (case hd => rfl); (case hg => rfl); (case hr => first | (go_simp; done) | (go_simp; rfl)); (case hp => exact (Reps.c3 (show Kd.M k61 _ _ _ (⟨dN, dM, dL⟩ : S61) [.int .i64 dN, .string dM, .string dL] from (k61_mkM _ _ _ (⟨dN, dM, dL⟩ : S61) )) (Reps.c3 (show Kd.M k61 _ _ _ (⟨0, a0_3, (⟨#[]⟩ : ByteArray)⟩ : S61) [.int .i64 0, .string a0_3, .string ⟨#[]⟩] from (k61_mkM _ _ _ (⟨0, a0_3, (⟨#[]⟩ : ByteArray)⟩ : S61) )) (Reps.c3 (show Kd.M k61 _ _ _ (⟨0, (⟨#[]⟩ : ByteArray), a1.extract (a0_1 : Int).toNat ((wrap64 (a0_1 + 1)) : Int).toNat⟩ : S61) [.int .i64 0, .string ⟨#[]⟩, .string (a1.extract (a0_1 : Int).toNat ((wrap64 (a0_1 + 1)) : Int).toNat)] from (k61_mkM _ _ _ (⟨0, (⟨#[]⟩ : ByteArray), a1.extract (a0_1 : Int).toNat ((wrap64 (a0_1 + 1)) : Int).toNat⟩ : S61) )) (Reps.c3 (show Kd.M k61 _ _ _ (⟨dK, dJ, dI⟩ : S61) [.int .i64 dK, .string dJ, .string dI] from (k61_mkM _ _ _ (⟨dK, dJ, dI⟩ : S61) )) (Reps.none _ _))))))
          intro v268 w42 ho43 hb hg_ hnew_
          clear hg_ hnew_
          (first | rw [← Ny267.out] at ho43 | (simp only [Int.reduceToNat] at ho43; rw [← Ny267.out] at ho43))
          have eA := aM (az ho43 (aq z17))
          replace aJ := aM (bK_ aJ.out hb)
          replace HB := aM (ap z17 hb)
          clear hb ho43
          refine hK.out _ _ ⟨(bC aJ.out 0).trans rfl, (bC aJ.out 1).trans rfl, (bC aJ.out 2).trans rfl, (bC aJ.out 3).trans rfl⟩ (fun hHeld => ?_)
          clear hK K
          refine norm_ (a' := ?_) ?_ ?_
          rotate_left
          ·show Act.put _ (some 68) _ = _
           simp only [Act.put, sA, sB, sC, i64_w, i32_w]
           rfl
          exact norm_ (by simp only [putAll, Act.put, sA, sB, sC] <;> rfl) (hCont (v268) _ ⟨hHeld, (kR_ eA.out), z7, z17⟩)
        rintro v268 w44 ⟨hS_, h0_, h1_, h2_⟩
        have aG : Aside0 (Kd.R k61 61 w44 w.heap.size (fun _ => True) v268 y267) := ⟨h0_⟩
        have aH : Aside0 (w44.heap[aV]? = some (.cells #[.int .i64 a0_0, .int .i64 a0_1, .int .i64 a0_2, .string a0_3] 29 (0, 0))) := ⟨h1_⟩
        have aN : Aside0 (Below w.heap.size w w44) := ⟨h2_⟩
        clear aJ
        clear HB
        clear h0_ h1_ h2_
        have eA := aG
        have aJ := aH
        have HB := aN
        clear aG aH aN
        have hHeld : w44.cell? ⟨aV, 0, none⟩ = some (.int .i64 a0_0) ∧ w44.cell? ⟨aV, 1, none⟩ = some (.int .i64 a0_1) ∧ w44.cell? ⟨aV, 2, none⟩ = some (.int .i64 a0_2) ∧ w44.cell? ⟨aV, 3, none⟩ = some (.string a0_3) := hS_
        refine norm_ (a' := ?_) ?_ ?_
        rotate_left
        ·simp only [putAll, Act.put, sA, sB, sC]
         rfl
        refine pA 29 4 ?_
        refine pA 30 5 ?_
        refine done_ (done_of HT_.out z0) ?_
        try go_wp2
        go_ret2
        exact ⟨_, y4, by (with_reducible repeat (first | apply ac | apply ab | apply aa)); exact eA.out, y19⟩
       ·replace e3 := Bool.eq_false_iff.mpr e3
        subst e3
        rw [if_neg nF_] at H
        simp only [Option.some.injEq, Prod.mk.injEq] at H
        obtain ⟨rfl, rfl⟩ := H
        go_enter Try.func80, Try.ntmps80
        try go_wp2_with (first | ((with_reducible refine aw (N := 2) rfl ?_); refine ax ?hg (N := 2) ?hd (cs := #[.int .i64 a0_0, .int .i64 a0_1, .int .i64 a0_2, .string a0_3]) (t := 29) ?hr ?_; (case hd => rfl); (case hg => rfl); (case hr => first | (go_simp; done) | (go_simp; rfl)); intro aV hg w45 hbox hb; have aJ := aM (hbox); have jb := aM ((by rw [hg]; exact (aq z13) : w.heap.size ≤ aV)); have je := aM ((by rw [hg]; exact (aq z13) : w.heap.size ≤ aV)); replace HB := aM (ap z13 hb); clear hb hbox hg; obtain ⟨hcz46_0, hcz46_1, hcz46_2, hcz46_3, hfz46_0, hfz46_1, hfz46_2, hfz46_3⟩ := cc4 aJ.out) | ((with_reducible refine av (f := 52) rfl ?_); refine ay (some 17) rfl rfl Try.func52 z0 rfl #[.string a1, .int .i64 a0_1] rfl z14 ?_; (with_reducible refine (impl_beginsAt.calls k a1 a0_1 bV true _ A3.out).mono ?_); rintro e w47 ⟨rfl, hb⟩; refine ⟨_, rfl, ?_⟩; replace aJ := aM (bK_ aJ.out hb); replace HB := aM (ap z17 hb); (try clear hb)))
        replace aJ := aM (ai aJ.out)
        replace HB := aM (bD HB.out)
        refine start_ (n := 12) (S := fun w' => w'.cell? ⟨aV, 0, none⟩ = some (.int .i64 a0_0) ∧ w'.cell? ⟨aV, 1, none⟩ = some (.int .i64 a0_1) ∧ w'.cell? ⟨aV, 2, none⟩ = some (.int .i64 a0_2) ∧ w'.cell? ⟨aV, 3, none⟩ = some (.string a0_3)) (ds := []) #[false, false, false, false, false, false, false, false, false, false, false, false] z0 rfl rfl ⟨(bC aJ.out 0).trans rfl, (bC aJ.out 1).trans rfl, (bC aJ.out 2).trans rfl, (bC aJ.out 3).trans rfl⟩ (fun hHeld => ?_); refine with_tabW impl_Command_onElement.tab4 impl_Command_onElement.bits4 (fun HT_ HW_ => ?_)
        generalize w47.drew = w48 at aJ HB hHeld ⊢
        refine pA 0 22 ?_
        refine pA 2 24 ?_
        refine pA 4 26 ?_
        refine pA 5 27 ?_
        refine pA 6 28 ?_
        refine pA 7 29 ?_
        refine t4_ 1 23 ?_
        refine pA 8 8 ?_
        refine t4_ 3 25 ?_
        refine pA 9 9 ?_
        refine pA 10 10 ?_
        refine pA 11 11 ?_
        refine done_ (done_of HT_.out z0) ?_
        obtain ⟨hcz49_0, hcz49_1, hcz49_2, hcz49_3, hfz49_0, hfz49_1, hfz49_2, hfz49_3⟩ := cc4 aJ.out
        try go_wp2
        replace aJ := aM (ai aJ.out)
        replace HB := aM (bD HB.out)
        refine start_ (n := 31) (S := fun w' => w'.cell? ⟨aV, 0, none⟩ = some (.int .i64 a0_0) ∧ w'.cell? ⟨aV, 1, none⟩ = some (.int .i64 a0_1) ∧ w'.cell? ⟨aV, 2, none⟩ = some (.int .i64 a0_2) ∧ w'.cell? ⟨aV, 3, none⟩ = some (.string a0_3)) (ds := []) #[false, false, false, false, false, false, false, false, false, false, false, false, false, false, false, false, false, false, false, false, false, false, false, false, false, false, false, false, false, false, false] z0 rfl rfl ⟨(bC aJ.out 0).trans rfl, (bC aJ.out 1).trans rfl, (bC aJ.out 2).trans rfl, (bC aJ.out 3).trans rfl⟩ (fun hHeld => ?_); refine with_tabW impl_Command_onElement.tab9 impl_Command_onElement.bits9 (fun HT_ HW_ => ?_)
        generalize w48.drew = w50 at aJ HB hHeld ⊢
        refine pA 0 53 ?_
        refine pA 2 55 ?_
        refine pA 5 58 ?_
        refine pA 6 59 ?_
        refine pA 7 60 ?_
        refine pA 8 61 ?_
        refine pA 9 62 ?_
        refine pA 10 63 ?_
        refine pA 11 64 ?_
        refine pA 12 65 ?_
        refine pA 13 66 ?_
        refine pA 16 69 ?_
        refine t4_ 3 56 ?_
        refine pA 4 57 ?_
        refine t4_ 17 70 ?_
        refine one_ (i := 1) (N := some 54) #[true, true, true, true, true, true, true, true, true, true, true, true, true, true, false, false, true, true, false, false, false, false, false, false, false, false, false, false, false, false, false] rfl rfl (one_of HT_.out z0) (by decide) (fun K hK => ?_)
        refine goes_ Try.func77 z0 rfl #[.int .i64 0, .int .i64 a0_1] (by rfl) rfl rfl z14 ?_
        with_reducible refine (impl_keepTo.calls 0 a0_1 dN dM dL _ uf.out).mono ?_
        rintro e w51 ⟨rfl, hb⟩
        refine ⟨_, rfl, ?_⟩
        replace aJ := aM (bK_ aJ.out hb)
        replace HB := aM (ap z17 hb)
        (try clear hb)
        skip
        skip
        skip
        refine hK.out _ _ ⟨(bC aJ.out 0).trans rfl, (bC aJ.out 1).trans rfl, (bC aJ.out 2).trans rfl, (bC aJ.out 3).trans rfl⟩ (fun hHeld => ?_)
        clear hK K
        refine norm_ (a' := ?_) ?_ ?_
        rotate_left
        ·show Act.put _ (some 54) _ = _
         simp only [Act.put, sA, sB, sC, i64_w, i32_w]
         rfl
        refine one_ (i := 14) (N := some 67) #[true, true, true, true, true, true, true, true, true, true, true, true, true, true, true, false, true, true, false, false, false, false, false, false, false, false, false, false, false, false, false] rfl rfl (one_of HT_.out z0) (by decide) (fun K hK => ?_)
        refine goes_ Try.func77 z0 rfl #[.int .i64 (wrap64 (a0_1 + 1)), .int .i64 (a1.size : Int)] (by rfl) rfl rfl z14 ?_
        with_reducible refine (impl_keepTo.calls (wrap64 (a0_1 + 1)) (a1.size : Int) dK dJ dI _ ue.out).mono ?_
        rintro e w52 ⟨rfl, hb⟩
        refine ⟨_, rfl, ?_⟩
        replace aJ := aM (bK_ aJ.out hb)
        replace HB := aM (ap z17 hb)
        (try clear hb)
        skip
        skip
        skip
        refine hK.out _ _ ⟨(bC aJ.out 0).trans rfl, (bC aJ.out 1).trans rfl, (bC aJ.out 2).trans rfl, (bC aJ.out 3).trans rfl⟩ (fun hHeld => ?_)
        clear hK K
        refine norm_ (a' := ?_) ?_ ?_
        rotate_left
        ·show Act.put _ (some 67) _ = _
         simp only [Act.put, sA, sB, sC, i64_w, i32_w]
         rfl
        refine join_ (σ := Value) 2 #[true, true, true, true, true, true, true, true, true, true, true, true, true, true, true, true, true, true, true, true, true, true, true, true, true, true, true, true, true, false, false] (fun s_ => [(68, s_), (71, .bool false), (72, .bool false), (81, .bool false)]) (fun s_ w' => (w'.cell? ⟨aV, 0, none⟩ = some (.int .i64 a0_0) ∧ w'.cell? ⟨aV, 1, none⟩ = some (.int .i64 a0_1) ∧ w'.cell? ⟨aV, 2, none⟩ = some (.int .i64 a0_2) ∧ w'.cell? ⟨aV, 3, none⟩ = some (.string a0_3)) ∧ (Kd.R k61 61 w' w.heap.size (fun _ => True) s_ y267) ∧ (w'.heap[aV]? = some (.cells #[.int .i64 a0_0, .int .i64 a0_1, .int .i64 a0_2, .string a0_3] 29 (0, 0))) ∧ (Below w.heap.size w w')) ?_ ?_
        rotate_left
        ·intro hCont
         refine two_ (i := 15) (j := 18) (Ni := some 68) (Nj := some 71) #[true, true, true, true, true, true, true, true, true, true, true, true, true, true, true, true, true, true, false, false, false, false, false, false, false, false, false, false, false, false, false] #[true, true, true, true, true, true, true, true, true, true, true, true, true, true, true, false, true, true, true, false, false, false, false, false, false, false, false, false, false, false, false] rfl rfl rfl rfl (two_of HT_.out z0) (by decide) (by decide) (fun K hK => ?_) (fun K hK => ?_)
         ·skip
          refine Kd.R_lit_step k61 _ 61 ?hg (N := 68) ?hd (xs := ([(⟨dN, dM, dL⟩ : S61), (⟨0, a0_3, (⟨#[]⟩ : ByteArray)⟩ : S61), (⟨0, (⟨#[]⟩ : ByteArray), a1.extract (a0_1 : Int).toNat ((wrap64 (a0_1 + 1)) : Int).toNat⟩ : S61), (⟨dK, dJ, dI⟩ : S61)] : List (S61))) (inner := [.int .i64 dN, .string dM, .string dL, .int .i64 0, .string a0_3, .string ⟨#[]⟩, .int .i64 0, .string ⟨#[]⟩, .string (a1.extract (a0_1 : Int).toNat ((wrap64 (a0_1 + 1)) : Int).toNat), .int .i64 dK, .string dJ, .string dI]) (ok := fun _ => True) (okp := fun _ => True) ?hr ?hp (fun _ hk => hk) trivial (Below.refl _ _) (Nat.le_refl _) (by simp) ?_; (case hd => rfl); (case hg => rfl); (case hr => first | (go_simp; done) | (go_simp; rfl)); (case hp => exact (Reps.c3 (show Kd.M k61 _ _ _ (⟨dN, dM, dL⟩ : S61) [.int .i64 dN, .string dM, .string dL] from (k61_mkM _ _ _ (⟨dN, dM, dL⟩ : S61) )) (Reps.c3 (show Kd.M k61 _ _ _ (⟨0, a0_3, (⟨#[]⟩ : ByteArray)⟩ : S61) [.int .i64 0, .string a0_3, .string ⟨#[]⟩] from (k61_mkM _ _ _ (⟨0, a0_3, (⟨#[]⟩ : ByteArray)⟩ : S61) )) (Reps.c3 (show Kd.M k61 _ _ _ (⟨0, (⟨#[]⟩ : ByteArray), a1.extract (a0_1 : Int).toNat ((wrap64 (a0_1 + 1)) : Int).toNat⟩ : S61) [.int .i64 0, .string ⟨#[]⟩, .string (a1.extract (a0_1 : Int).toNat ((wrap64 (a0_1 + 1)) : Int).toNat)] from (k61_mkM _ _ _ (⟨0, (⟨#[]⟩ : ByteArray), a1.extract (a0_1 : Int).toNat ((wrap64 (a0_1 + 1)) : Int).toNat⟩ : S61) )) (Reps.c3 (show Kd.M k61 _ _ _ (⟨dK, dJ, dI⟩ : S61) [.int .i64 dK, .string dJ, .string dI] from (k61_mkM _ _ _ (⟨dK, dJ, dI⟩ : S61) )) (Reps.none _ _))))))
          intro v268 w53 ho54 hb hg_ hnew_
          clear hg_ hnew_
          (first | rw [← Ny267.out] at ho54 | (simp only [Int.reduceToNat] at ho54; rw [← Ny267.out] at ho54))
          have eA := aM (az ho54 (aq z17))
          replace aJ := aM (bK_ aJ.out hb)
          replace HB := aM (ap z17 hb)
          clear hb ho54
          refine hK.out _ _ ⟨(bC aJ.out 0).trans rfl, (bC aJ.out 1).trans rfl, (bC aJ.out 2).trans rfl, (bC aJ.out 3).trans rfl⟩ (fun hHeld => ?_)
          clear hK K
          refine norm_ (a' := ?_) ?_ ?_
          rotate_left
          ·show Act.put _ (some 68) _ = _
           simp only [Act.put, sA, sB, sC, i64_w, i32_w]
           rfl
          refine one_ (i := 18) (N := some 71) #[true, true, true, true, true, true, true, true, true, true, true, true, true, true, true, true, true, true, true, false, false, false, false, false, false, false, false, false, false, false, false] rfl rfl (one_of HT_.out z0) (by decide) (fun K hK => ?_)
          refine goes_ Try.func78 z0 rfl #[.string a0_3] (by rfl) rfl rfl z14 ?_
          with_reducible refine (impl_isNameText.calls a0_3 false _ rW.out).mono ?_
          rintro e w' ⟨rfl, ⟨nd, rfl⟩⟩
          refine ⟨_, rfl, ?_⟩
          refine hK.out _ _ ⟨(bC aJ.out 0).trans rfl, (bC aJ.out 1).trans rfl, (bC aJ.out 2).trans rfl, (bC aJ.out 3).trans rfl⟩ (fun hHeld => ?_)
          clear hK K
          refine norm_ (a' := ?_) ?_ ?_
          rotate_left
          ·show Act.put _ (some 71) _ = _
           simp only [Act.put, sA, sB, sC, i64_w, i32_w]
           rfl
          refine pA 19 72 ?_
          refine pB 20 73 ?_
          refine pB 21 74 ?_
          refine pB 22 75 ?_
          refine pB 23 76 ?_
          refine pB 24 77 ?_
          refine pB 25 78 ?_
          refine pB 26 79 ?_
          refine pB 27 80 ?_
          refine pA 28 81 ?_
          exact norm_ (by simp only [putAll, Act.put, sA, sB, sC] <;> rfl) (hCont (v268) _ ⟨hHeld, (kR_ eA.out), z7, z17⟩)
         ·skip
          refine goes_ Try.func78 z0 rfl #[.string a0_3] (by rfl) rfl rfl z14 ?_
          with_reducible refine (impl_isNameText.calls a0_3 false _ rW.out).mono ?_
          rintro e w' ⟨rfl, ⟨nd, rfl⟩⟩
          refine ⟨_, rfl, ?_⟩
          refine hK.out _ _ ⟨(bC aJ.out 0).trans rfl, (bC aJ.out 1).trans rfl, (bC aJ.out 2).trans rfl, (bC aJ.out 3).trans rfl⟩ (fun hHeld => ?_)
          clear hK K
          refine norm_ (a' := ?_) ?_ ?_
          rotate_left
          ·show Act.put _ (some 71) _ = _
           simp only [Act.put, sA, sB, sC, i64_w, i32_w]
           rfl
          refine pA 19 72 ?_
          refine pB 20 73 ?_
          refine pB 21 74 ?_
          refine pB 22 75 ?_
          refine pB 23 76 ?_
          refine pB 24 77 ?_
          refine pB 25 78 ?_
          refine pB 26 79 ?_
          refine pB 27 80 ?_
          refine pA 28 81 ?_
          refine one_ (i := 15) (N := some 68) #[true, true, true, true, true, true, true, true, true, true, true, true, true, true, true, true, true, true, true, true, true, true, true, true, true, true, true, true, true, false, false] rfl rfl (one_of HT_.out z0) (by decide) (fun K hK => ?_)
          refine Kd.R_lit_step k61 _ 61 ?hg (N := 68) ?hd (xs := ([(⟨dN, dM, dL⟩ : S61), (⟨0, a0_3, (⟨#[]⟩ : ByteArray)⟩ : S61), (⟨0, (⟨#[]⟩ : ByteArray), a1.extract (a0_1 : Int).toNat ((wrap64 (a0_1 + 1)) : Int).toNat⟩ : S61), (⟨dK, dJ, dI⟩ : S61)] : List (S61))) (inner := [.int .i64 dN, .string dM, .string dL, .int .i64 0, .string a0_3, .string ⟨#[]⟩, .int .i64 0, .string ⟨#[]⟩, .string (a1.extract (a0_1 : Int).toNat ((wrap64 (a0_1 + 1)) : Int).toNat), .int .i64 dK, .string dJ, .string dI]) (ok := fun _ => True) (okp := fun _ => True) ?hr ?hp (fun _ hk => hk) trivial (Below.refl _ _) (Nat.le_refl _) (by simp) ?_; (case hd => rfl); (case hg => rfl); (case hr => first | (go_simp; done) | (go_simp; rfl)); (case hp => exact (Reps.c3 (show Kd.M k61 _ _ _ (⟨dN, dM, dL⟩ : S61) [.int .i64 dN, .string dM, .string dL] from (k61_mkM _ _ _ (⟨dN, dM, dL⟩ : S61) )) (Reps.c3 (show Kd.M k61 _ _ _ (⟨0, a0_3, (⟨#[]⟩ : ByteArray)⟩ : S61) [.int .i64 0, .string a0_3, .string ⟨#[]⟩] from (k61_mkM _ _ _ (⟨0, a0_3, (⟨#[]⟩ : ByteArray)⟩ : S61) )) (Reps.c3 (show Kd.M k61 _ _ _ (⟨0, (⟨#[]⟩ : ByteArray), a1.extract (a0_1 : Int).toNat ((wrap64 (a0_1 + 1)) : Int).toNat⟩ : S61) [.int .i64 0, .string ⟨#[]⟩, .string (a1.extract (a0_1 : Int).toNat ((wrap64 (a0_1 + 1)) : Int).toNat)] from (k61_mkM _ _ _ (⟨0, (⟨#[]⟩ : ByteArray), a1.extract (a0_1 : Int).toNat ((wrap64 (a0_1 + 1)) : Int).toNat⟩ : S61) )) (Reps.c3 (show Kd.M k61 _ _ _ (⟨dK, dJ, dI⟩ : S61) [.int .i64 dK, .string dJ, .string dI] from (k61_mkM _ _ _ (⟨dK, dJ, dI⟩ : S61) )) (Reps.none _ _))))))
          intro v268 w53 ho54 hb hg_ hnew_
          clear hg_ hnew_
          (first | rw [← Ny267.out] at ho54 | (simp only [Int.reduceToNat] at ho54; rw [← Ny267.out] at ho54))
          have eA := aM (az ho54 (aq z17))
          replace aJ := aM (bK_ aJ.out hb)
          replace HB := aM (ap z17 hb)
          clear hb ho54
          refine hK.out _ _ ⟨(bC aJ.out 0).trans rfl, (bC aJ.out 1).trans rfl, (bC aJ.out 2).trans rfl, (bC aJ.out 3).trans rfl⟩ (fun hHeld => ?_)
          clear hK K
          refine norm_ (a' := ?_) ?_ ?_
          rotate_left
          ·show Act.put _ (some 68) _ = _
           simp only [Act.put, sA, sB, sC, i64_w, i32_w]
           rfl
          exact norm_ (by simp only [putAll, Act.put, sA, sB, sC] <;> rfl) (hCont (v268) _ ⟨hHeld, (kR_ eA.out), z7, z17⟩)
        rintro v268 w55 ⟨hS_, h0_, h1_, h2_⟩
        have aG : Aside0 (Kd.R k61 61 w55 w.heap.size (fun _ => True) v268 y267) := ⟨h0_⟩
        have aH : Aside0 (w55.heap[aV]? = some (.cells #[.int .i64 a0_0, .int .i64 a0_1, .int .i64 a0_2, .string a0_3] 29 (0, 0))) := ⟨h1_⟩
        have aN : Aside0 (Below w.heap.size w w55) := ⟨h2_⟩
        clear aJ
        clear HB
        clear h0_ h1_ h2_
        have eA := aG
        have aJ := aH
        have HB := aN
        clear aG aH aN
        have hHeld : w55.cell? ⟨aV, 0, none⟩ = some (.int .i64 a0_0) ∧ w55.cell? ⟨aV, 1, none⟩ = some (.int .i64 a0_1) ∧ w55.cell? ⟨aV, 2, none⟩ = some (.int .i64 a0_2) ∧ w55.cell? ⟨aV, 3, none⟩ = some (.string a0_3) := hS_
        refine norm_ (a' := ?_) ?_ ?_
        rotate_left
        ·simp only [putAll, Act.put, sA, sB, sC]
         rfl
        refine pA 29 4 ?_
        refine pA 30 5 ?_
        refine done_ (done_of HT_.out z0) ?_
        try go_wp2
        go_ret2
        exact ⟨_, y4, by (with_reducible repeat (first | apply ac | apply ab | apply aa)); exact eA.out, y19⟩
      ·rw [if_neg mb] at H
       exact absurd H (by simp)
     ·rw [if_neg eR] at H
      exact absurd H (by simp)
    ·rw [if_neg e7] at H
     exact absurd H (by simp)
   ·rw [if_neg gp] at H
    have c23b0 : (a0_0 == 8) = false := qF gp
    have c23b1 : (a0_0 != 8) = true := nT gp
    by_cases ia : a0_0 = 7
    ·rw [if_pos ia] at H
     have c56b0 : (a0_0 == 7) = true := qT ia
     have c56b1 : (a0_0 != 7) = false := nF ia
     clear ia
     by_cases gB : 0 ≤ a0_1
     ·rw [if_pos gB] at H
      have c57b0 := eq_true gB
      have c57b1 : decide (0 ≤ a0_1) = true := dT gB
      clear gB
      by_cases kI : a0_1 ≤ (wrap64 (bV + 1))
      ·rw [if_pos kI] at H
       have c58b0 := eq_true kI
       have c58b1 : decide (a0_1 ≤ (wrap64 (bV + 1))) = true := dT kI
       by_cases nD : (wrap64 (bV + 1)) ≤ (a1.size : Int)
       ·rw [if_pos nD] at H
        have c59b0 := eq_true nD
        have c59b1 : decide ((wrap64 (bV + 1)) ≤ (a1.size : Int)) = true := dT nD
        by_cases i7 : a0_2 < a0_1
        ·rw [if_pos i7] at H
         have c60b0 : decide (a0_2 < a0_1) = true := dT i7
         clear i7
         obtain ⟨⟨lT, lS, lR⟩, A61, H⟩ := oA_ H
         try dsimp only at H
         obtain ⟨⟨lQ, lP, lO⟩, A62, H⟩ := oA_ H
         try dsimp only at H
         obtain ⟨⟨lN, lM, lL⟩, rM, H⟩ := oA_ H
         try dsimp only at H
         obtain ⟨y280, hy280⟩ : ∃ y_ : List (S61), y_ = (([(⟨lT, lS, lR⟩ : S61), (⟨0, a1.extract (a0_1 : Int).toNat ((wrap64 (bV + 1)) : Int).toNat, (⟨#[]⟩ : ByteArray)⟩ : S61), (⟨lQ, lP, lO⟩ : S61), (⟨0, (⟨#[]⟩ : ByteArray), a1.extract (a0_1 : Int).toNat ((wrap64 (bV + 1)) : Int).toNat⟩ : S61), (⟨lN, lM, lL⟩ : S61)] : List (S61))) := ⟨_, rfl⟩
         replace H : (some (y280, true)) = some (r1, r2) := by first | (rw [hy280]; with_reducible exact H) | (have H2_ := (Option.bind_some _ _).symm.trans H; rw [hy280]; with_reducible exact H2_) | (have H2_ := (Option.bind_some _ _).symm.trans H; with_reducible exact H2_) | with_reducible exact H | (rw [hy280]; exact H) | exact H
         have Ny280 := aM hy280
         clear hy280
         simp only [Option.some.injEq, Prod.mk.injEq] at H
         obtain ⟨rfl, rfl⟩ := H
         go_enter Try.func80, Try.ntmps80
         try go_wp2_with (first | ((with_reducible refine aw (N := 2) rfl ?_); refine ax ?hg (N := 2) ?hd (cs := #[.int .i64 a0_0, .int .i64 a0_1, .int .i64 a0_2, .string a0_3]) (t := 29) ?hr ?_; (case hd => rfl); (case hg => rfl); (case hr => first | (go_simp; done) | (go_simp; rfl)); intro aV hg w64 hbox hb; have aJ := aM (hbox); have jb := aM ((by rw [hg]; exact (aq z13) : w.heap.size ≤ aV)); have je := aM ((by rw [hg]; exact (aq z13) : w.heap.size ≤ aV)); replace HB := aM (ap z13 hb); clear hb hbox hg; obtain ⟨hcz65_0, hcz65_1, hcz65_2, hcz65_3, hfz65_0, hfz65_1, hfz65_2, hfz65_3⟩ := cc4 aJ.out) | ((with_reducible refine av (f := 52) rfl ?_); refine ay (some 17) rfl rfl Try.func52 z0 rfl #[.string a1, .int .i64 a0_1] rfl z14 ?_; (with_reducible refine (impl_beginsAt.calls k a1 a0_1 bV true _ A3.out).mono ?_); rintro e w66 ⟨rfl, hb⟩; refine ⟨_, rfl, ?_⟩; replace aJ := aM (bK_ aJ.out hb); replace HB := aM (ap z17 hb); (try clear hb)))
         replace aJ := aM (ai aJ.out)
         replace HB := aM (bD HB.out)
         refine start_ (n := 12) (S := fun w' => w'.cell? ⟨aV, 0, none⟩ = some (.int .i64 a0_0) ∧ w'.cell? ⟨aV, 1, none⟩ = some (.int .i64 a0_1) ∧ w'.cell? ⟨aV, 2, none⟩ = some (.int .i64 a0_2) ∧ w'.cell? ⟨aV, 3, none⟩ = some (.string a0_3)) (ds := []) #[false, false, false, false, false, false, false, false, false, false, false, false] z0 rfl rfl ⟨(bC aJ.out 0).trans rfl, (bC aJ.out 1).trans rfl, (bC aJ.out 2).trans rfl, (bC aJ.out 3).trans rfl⟩ (fun hHeld => ?_); refine with_tabW impl_Command_onElement.tab4 impl_Command_onElement.bits4 (fun HT_ HW_ => ?_)
         generalize w66.drew = w67 at aJ HB hHeld ⊢
         refine pA 0 22 ?_
         refine pA 2 24 ?_
         refine pA 4 26 ?_
         refine pA 5 27 ?_
         refine pA 6 28 ?_
         refine pA 7 29 ?_
         refine t4_ 1 23 ?_
         refine pA 8 8 ?_
         refine t4_ 3 25 ?_
         refine pA 9 9 ?_
         refine pA 10 10 ?_
         refine pA 11 11 ?_
         refine done_ (done_of HT_.out z0) ?_
         obtain ⟨hcz68_0, hcz68_1, hcz68_2, hcz68_3, hfz68_0, hfz68_1, hfz68_2, hfz68_3⟩ := cc4 aJ.out
         try go_wp2_with (first | ((with_reducible refine av (f := 77) rfl ?_); refine ay (some 92) rfl rfl Try.func77 z0 rfl #[.int .i64 0, .int .i64 a0_2] rfl z14 ?_; (with_reducible refine (impl_keepTo.calls 0 a0_2 lT lS lR _ A61.out).mono ?_); rintro e w69 ⟨rfl, hb⟩; refine ⟨_, rfl, ?_⟩; replace aJ := aM (bK_ aJ.out hb); replace HB := aM (ap z17 hb); (try clear hb)) | ((with_reducible refine av (f := 77) rfl ?_); refine ay (some 97) rfl rfl Try.func77 z0 rfl #[.int .i64 a0_2, .int .i64 a0_1] rfl z14 ?_; (with_reducible refine (impl_keepTo.calls a0_2 a0_1 lQ lP lO _ A62.out).mono ?_); rintro e w70 ⟨rfl, hb⟩; refine ⟨_, rfl, ?_⟩; replace aJ := aM (bK_ aJ.out hb); replace HB := aM (ap z17 hb); (try clear hb)) | ((with_reducible refine av (f := 77) rfl ?_); refine ay (some 102) rfl rfl Try.func77 z0 rfl #[.int .i64 (wrap64 (bV + 1)), .int .i64 (a1.size : Int)] rfl z14 ?_; (with_reducible refine (impl_keepTo.calls (wrap64 (bV + 1)) (a1.size : Int) lN lM lL _ rM.out).mono ?_); rintro e w71 ⟨rfl, hb⟩; refine ⟨_, rfl, ?_⟩; replace aJ := aM (bK_ aJ.out hb); replace HB := aM (ap z17 hb); (try clear hb)) | ((with_reducible refine aw (N := 103) rfl ?_); refine Kd.R_lit k61 _ 61 ?hg (N := 103) ?hd (xs := ([(⟨lT, lS, lR⟩ : S61), (⟨0, a1.extract (a0_1 : Int).toNat ((wrap64 (bV + 1)) : Int).toNat, (⟨#[]⟩ : ByteArray)⟩ : S61), (⟨lQ, lP, lO⟩ : S61), (⟨0, (⟨#[]⟩ : ByteArray), a1.extract (a0_1 : Int).toNat ((wrap64 (bV + 1)) : Int).toNat⟩ : S61), (⟨lN, lM, lL⟩ : S61)] : List (S61))) (inner := [.int .i64 lT, .string lS, .string lR, .int .i64 0, .string (a1.extract (a0_1 : Int).toNat ((wrap64 (bV + 1)) : Int).toNat), .string ⟨#[]⟩, .int .i64 lQ, .string lP, .string lO, .int .i64 0, .string ⟨#[]⟩, .string (a1.extract (a0_1 : Int).toNat ((wrap64 (bV + 1)) : Int).toNat), .int .i64 lN, .string lM, .string lL]) (ok := fun _ => True) (okp := fun _ => True) ?hr ?hp (fun _ hk => hk) trivial (Below.refl _ _) (Nat.le_refl _) (by simp) ?_; (case hd => rfl); (case hg => rfl); (case hr => first | (go_simp; done) | (go_simp; rfl)); (case hp => exact (Reps.c3 (show Kd.M k61 _ _ _ (⟨lT, lS, lR⟩ : S61) [.int .i64 lT, .string lS, .string lR] from (k61_mkM _ _ _ (⟨lT, lS, lR⟩ : S61) )) (Reps.c3 (show Kd.M k61 _ _ _ (⟨0, a1.extract (a0_1 : Int).toNat ((wrap64 (bV + 1)) : Int).toNat, (⟨#[]⟩ : ByteArray)⟩ : S61) [.int .i64 0, .string (a1.extract (a0_1 : Int).toNat ((wrap64 (bV + 1)) : Int).toNat), .string ⟨#[]⟩] from (k61_mkM _ _ _ (⟨0, a1.extract (a0_1 : Int).toNat ((wrap64 (bV + 1)) : Int).toNat, (⟨#[]⟩ : ByteArray)⟩ : S61) )) (Reps.c3 (show Kd.M k61 _ _ _ (⟨lQ, lP, lO⟩ : S61) [.int .i64 lQ, .string lP, .string lO] from (k61_mkM _ _ _ (⟨lQ, lP, lO⟩ : S61) )) (Reps.c3 (show Kd.M k61 _ _ _ (⟨0, (⟨#[]⟩ : ByteArray), a1.extract (a0_1 : Int).toNat ((wrap64 (bV + 1)) : Int).toNat⟩ : S61) [.int .i64 0, .string ⟨#[]⟩, .string (a1.extract (a0_1 : Int).toNat ((wrap64 (bV + 1)) : Int).toNat)] from (k61_mkM _ _ _ (⟨0, (⟨#[]⟩ : ByteArray), a1.extract (a0_1 : Int).toNat ((wrap64 (bV + 1)) : Int).toNat⟩ : S61) )) (Reps.c3 (show Kd.M k61 _ _ _ (⟨lN, lM, lL⟩ : S61) [.int .i64 lN, .string lM, .string lL] from (k61_mkM _ _ _ (⟨lN, lM, lL⟩ : S61) )) (Reps.none _ _))))))); intro v281 w72 ho73 hb hg_ hnew_; clear hg_ hnew_; (first | rw [← Ny280.out] at ho73 | (simp only [Int.reduceToNat] at ho73; rw [← Ny280.out] at ho73)); have HO282 := aM (az ho73 (aq z17)); replace aJ := aM (bK_ aJ.out hb); replace HB := aM (ap z17 hb); clear hb ho73))
         go_ret2
         exact ⟨_, y4, by (with_reducible repeat (first | apply ac | apply ab | apply aa)); exact HO282.out, y19⟩
        ·rw [if_neg i7] at H
         have c60b0 : decide (a0_2 < a0_1) = false := dF i7
         clear i7
         obtain ⟨⟨lK, lJ, lI⟩, A74, H⟩ := oA_ H
         try dsimp only at H
         obtain ⟨⟨lH, lG, lF⟩, A75, H⟩ := oA_ H
         try dsimp only at H
         obtain ⟨⟨lE, lD, lC⟩, A76, H⟩ := oA_ H
         try dsimp only at H
         obtain ⟨y292, hy292⟩ : ∃ y_ : List (S61), y_ = (([(⟨lK, lJ, lI⟩ : S61), (⟨0, (⟨#[]⟩ : ByteArray), a1.extract (a0_1 : Int).toNat ((wrap64 (bV + 1)) : Int).toNat⟩ : S61), (⟨lH, lG, lF⟩ : S61), (⟨0, a1.extract (a0_1 : Int).toNat ((wrap64 (bV + 1)) : Int).toNat, (⟨#[]⟩ : ByteArray)⟩ : S61), (⟨lE, lD, lC⟩ : S61)] : List (S61))) := ⟨_, rfl⟩
         replace H : (some (y292, decide (a0_2 > (wrap64 (bV + 1))))) = some (r1, r2) := by first | (rw [hy292]; with_reducible exact H) | (have H2_ := (Option.bind_some _ _).symm.trans H; rw [hy292]; with_reducible exact H2_) | (have H2_ := (Option.bind_some _ _).symm.trans H; with_reducible exact H2_) | with_reducible exact H | (rw [hy292]; exact H) | exact H
         have Ny292 := aM hy292
         clear hy292
         simp only [Option.some.injEq, Prod.mk.injEq] at H
         obtain ⟨rfl, rfl⟩ := H
         go_enter Try.func80, Try.ntmps80
         try go_wp2_with (first | ((with_reducible refine aw (N := 2) rfl ?_); refine ax ?hg (N := 2) ?hd (cs := #[.int .i64 a0_0, .int .i64 a0_1, .int .i64 a0_2, .string a0_3]) (t := 29) ?hr ?_; (case hd => rfl); (case hg => rfl); (case hr => first | (go_simp; done) | (go_simp; rfl)); intro aV hg w77 hbox hb; have aJ := aM (hbox); have jb := aM ((by rw [hg]; exact (aq z13) : w.heap.size ≤ aV)); have je := aM ((by rw [hg]; exact (aq z13) : w.heap.size ≤ aV)); replace HB := aM (ap z13 hb); clear hb hbox hg; obtain ⟨hcz78_0, hcz78_1, hcz78_2, hcz78_3, hfz78_0, hfz78_1, hfz78_2, hfz78_3⟩ := cc4 aJ.out) | ((with_reducible refine av (f := 52) rfl ?_); refine ay (some 17) rfl rfl Try.func52 z0 rfl #[.string a1, .int .i64 a0_1] rfl z14 ?_; (with_reducible refine (impl_beginsAt.calls k a1 a0_1 bV true _ A3.out).mono ?_); rintro e w79 ⟨rfl, hb⟩; refine ⟨_, rfl, ?_⟩; replace aJ := aM (bK_ aJ.out hb); replace HB := aM (ap z17 hb); (try clear hb)))
         replace aJ := aM (ai aJ.out)
         replace HB := aM (bD HB.out)
         refine start_ (n := 12) (S := fun w' => w'.cell? ⟨aV, 0, none⟩ = some (.int .i64 a0_0) ∧ w'.cell? ⟨aV, 1, none⟩ = some (.int .i64 a0_1) ∧ w'.cell? ⟨aV, 2, none⟩ = some (.int .i64 a0_2) ∧ w'.cell? ⟨aV, 3, none⟩ = some (.string a0_3)) (ds := []) #[false, false, false, false, false, false, false, false, false, false, false, false] z0 rfl rfl ⟨(bC aJ.out 0).trans rfl, (bC aJ.out 1).trans rfl, (bC aJ.out 2).trans rfl, (bC aJ.out 3).trans rfl⟩ (fun hHeld => ?_); refine with_tabW impl_Command_onElement.tab4 impl_Command_onElement.bits4 (fun HT_ HW_ => ?_)
         generalize w79.drew = w80 at aJ HB hHeld ⊢
         refine pA 0 22 ?_
         refine pA 2 24 ?_
         refine pA 4 26 ?_
         refine pA 5 27 ?_
         refine pA 6 28 ?_
         refine pA 7 29 ?_
         refine t4_ 1 23 ?_
         refine pA 8 8 ?_
         refine t4_ 3 25 ?_
         refine pA 9 9 ?_
         refine pA 10 10 ?_
         refine pA 11 11 ?_
         refine done_ (done_of HT_.out z0) ?_
         obtain ⟨hcz81_0, hcz81_1, hcz81_2, hcz81_3, hfz81_0, hfz81_1, hfz81_2, hfz81_3⟩ := cc4 aJ.out
         try go_wp2_with (first | ((with_reducible refine av (f := 77) rfl ?_); refine ay (some 105) rfl rfl Try.func77 z0 rfl #[.int .i64 0, .int .i64 a0_1] rfl z14 ?_; (with_reducible refine (impl_keepTo.calls 0 a0_1 lK lJ lI _ A74.out).mono ?_); rintro e w82 ⟨rfl, hb⟩; refine ⟨_, rfl, ?_⟩; replace aJ := aM (bK_ aJ.out hb); replace HB := aM (ap z17 hb); (try clear hb)) | ((with_reducible refine av (f := 77) rfl ?_); refine ay (some 110) rfl rfl Try.func77 z0 rfl #[.int .i64 (wrap64 (bV + 1)), .int .i64 a0_2] rfl z14 ?_; (with_reducible refine (impl_keepTo.calls (wrap64 (bV + 1)) a0_2 lH lG lF _ A75.out).mono ?_); rintro e w83 ⟨rfl, hb⟩; refine ⟨_, rfl, ?_⟩; replace aJ := aM (bK_ aJ.out hb); replace HB := aM (ap z17 hb); (try clear hb)) | ((with_reducible refine av (f := 77) rfl ?_); refine ay (some 115) rfl rfl Try.func77 z0 rfl #[.int .i64 a0_2, .int .i64 (a1.size : Int)] rfl z14 ?_; (with_reducible refine (impl_keepTo.calls a0_2 (a1.size : Int) lE lD lC _ A76.out).mono ?_); rintro e w84 ⟨rfl, hb⟩; refine ⟨_, rfl, ?_⟩; replace aJ := aM (bK_ aJ.out hb); replace HB := aM (ap z17 hb); (try clear hb)) | ((with_reducible refine aw (N := 116) rfl ?_); refine Kd.R_lit k61 _ 61 ?hg (N := 116) ?hd (xs := ([(⟨lK, lJ, lI⟩ : S61), (⟨0, (⟨#[]⟩ : ByteArray), a1.extract (a0_1 : Int).toNat ((wrap64 (bV + 1)) : Int).toNat⟩ : S61), (⟨lH, lG, lF⟩ : S61), (⟨0, a1.extract (a0_1 : Int).toNat ((wrap64 (bV + 1)) : Int).toNat, (⟨#[]⟩ : ByteArray)⟩ : S61), (⟨lE, lD, lC⟩ : S61)] : List (S61))) (inner := [.int .i64 lK, .string lJ, .string lI, .int .i64 0, .string ⟨#[]⟩, .string (a1.extract (a0_1 : Int).toNat ((wrap64 (bV + 1)) : Int).toNat), .int .i64 lH, .string lG, .string lF, .int .i64 0, .string (a1.extract (a0_1 : Int).toNat ((wrap64 (bV + 1)) : Int).toNat), .string ⟨#[]⟩, .int .i64 lE, .string lD, .string lC]) (ok := fun _ => True) (okp := fun _ => True) ?hr ?hp (fun _ hk => hk) trivial (Below.refl _ _) (Nat.le_refl _) (by simp) ?_; (case hd => rfl); (case hg => rfl); (case hr => first | (go_simp; done) | (go_simp; rfl)); (case hp => exact (Reps.c3 (show Kd.M k61 _ _ _ (⟨lK, lJ, lI⟩ : S61) [.int .i64 lK, .string lJ, .string lI] from (k61_mkM _ _ _ (⟨lK, lJ, lI⟩ : S61) )) (Reps.c3 (show Kd.M k61 _ _ _ (⟨0, (⟨#[]⟩ : ByteArray), a1.extract (a0_1 : Int).toNat ((wrap64 (bV + 1)) : Int).toNat⟩ : S61) [.int .i64 0, .string ⟨#[]⟩, .string (a1.extract (a0_1 : Int).toNat ((wrap64 (bV + 1)) : Int).toNat)] from (k61_mkM _ _ _ (⟨0, (⟨#[]⟩ : ByteArray), a1.extract (a0_1 : Int).toNat ((wrap64 (bV + 1)) : Int).toNat⟩ : S61) )) (Reps.c3 (show Kd.M k61 _ _ _ (⟨lH, lG, lF⟩ : S61) [.int .i64 lH, .string lG, .string lF] from (k61_mkM _ _ _ (⟨lH, lG, lF⟩ : S61) )) (Reps.c3 (show Kd.M k61 _ _ _ (⟨0, a1.extract (a0_1 : Int).toNat ((wrap64 (bV + 1)) : Int).toNat, (⟨#[]⟩ : ByteArray)⟩ : S61) [.int .i64 0, .string (a1.extract (a0_1 : Int).toNat ((wrap64 (bV + 1)) : Int).toNat), .string ⟨#[]⟩] from (k61_mkM _ _ _ (⟨0, a1.extract (a0_1 : Int).toNat ((wrap64 (bV + 1)) : Int).toNat, (⟨#[]⟩ : ByteArray)⟩ : S61) )) (Reps.c3 (show Kd.M k61 _ _ _ (⟨lE, lD, lC⟩ : S61) [.int .i64 lE, .string lD, .string lC] from (k61_mkM _ _ _ (⟨lE, lD, lC⟩ : S61) )) (Reps.none _ _))))))); intro v293 w85 ho86 hb hg_ hnew_; clear hg_ hnew_; (first | rw [← Ny292.out] at ho86 | (simp only [Int.reduceToNat] at ho86; rw [← Ny292.out] at ho86)); have HO294 := aM (az ho86 (aq z17)); replace aJ := aM (bK_ aJ.out hb); replace HB := aM (ap z17 hb); clear hb ho86))
         go_ret2
         exact ⟨_, y4, by (with_reducible repeat (first | apply ac | apply ab | apply aa)); exact HO294.out, y19⟩
       ·rw [if_neg nD] at H
        exact absurd H (by simp)
      ·rw [if_neg kI] at H
       exact absurd H (by simp)
     ·rw [if_neg gB] at H
      exact absurd H (by simp)
    ·rw [if_neg ia] at H
     have c56b0 : (a0_0 == 7) = false := qF ia
     have c56b1 : (a0_0 != 7) = true := nT ia
     simp only [Option.some.injEq, Prod.mk.injEq] at H
     obtain ⟨rfl, rfl⟩ := H
     go_enter Try.func80, Try.ntmps80
     try go_wp2_with (first | ((with_reducible refine aw (N := 2) rfl ?_); refine ax ?hg (N := 2) ?hd (cs := #[.int .i64 a0_0, .int .i64 a0_1, .int .i64 a0_2, .string a0_3]) (t := 29) ?hr ?_; (case hd => rfl); (case hg => rfl); (case hr => first | (go_simp; done) | (go_simp; rfl)); intro aV hg w87 hbox hb; have aJ := aM (hbox); have jb := aM ((by rw [hg]; exact (aq z13) : w.heap.size ≤ aV)); have je := aM ((by rw [hg]; exact (aq z13) : w.heap.size ≤ aV)); replace HB := aM (ap z13 hb); clear hb hbox hg; obtain ⟨hcz88_0, hcz88_1, hcz88_2, hcz88_3, hfz88_0, hfz88_1, hfz88_2, hfz88_3⟩ := cc4 aJ.out) | ((with_reducible refine av (f := 52) rfl ?_); refine ay (some 17) rfl rfl Try.func52 z0 rfl #[.string a1, .int .i64 a0_1] rfl z14 ?_; (with_reducible refine (impl_beginsAt.calls k a1 a0_1 bV true _ A3.out).mono ?_); rintro e w89 ⟨rfl, hb⟩; refine ⟨_, rfl, ?_⟩; replace aJ := aM (bK_ aJ.out hb); replace HB := aM (ap z17 hb); (try clear hb)))
     replace aJ := aM (ai aJ.out)
     replace HB := aM (bD HB.out)
     refine start_ (n := 12) (S := fun w' => w'.cell? ⟨aV, 0, none⟩ = some (.int .i64 a0_0) ∧ w'.cell? ⟨aV, 1, none⟩ = some (.int .i64 a0_1) ∧ w'.cell? ⟨aV, 2, none⟩ = some (.int .i64 a0_2) ∧ w'.cell? ⟨aV, 3, none⟩ = some (.string a0_3)) (ds := []) #[false, false, false, false, false, false, false, false, false, false, false, false] z0 rfl rfl ⟨(bC aJ.out 0).trans rfl, (bC aJ.out 1).trans rfl, (bC aJ.out 2).trans rfl, (bC aJ.out 3).trans rfl⟩ (fun hHeld => ?_); refine with_tabW impl_Command_onElement.tab4 impl_Command_onElement.bits4 (fun HT_ HW_ => ?_)
     generalize w89.drew = w90 at aJ HB hHeld ⊢
     refine pA 0 22 ?_
     refine pA 2 24 ?_
     refine pA 4 26 ?_
     refine pA 5 27 ?_
     refine pA 6 28 ?_
     refine pA 7 29 ?_
     refine t4_ 1 23 ?_
     refine pA 8 8 ?_
     refine t4_ 3 25 ?_
     refine pA 9 9 ?_
     refine pA 10 10 ?_
     refine pA 11 11 ?_
     refine done_ (done_of HT_.out z0) ?_
     obtain ⟨jL, jK, jJ, jI, jr, jq, jp, jo⟩ := cc4 aJ.out
     try go_wp2
     go_ret2
     exact ⟨_, y4, y20, y19⟩
 ·replace c4 := Bool.eq_false_iff.mpr c4
  subst c4
  rw [if_neg nF_] at H
  simp only [Option.some.injEq, Prod.mk.injEq] at H
  obtain ⟨rfl, rfl⟩ := H
  go_enter Try.func80, Try.ntmps80
  go_wp2_with (first | ((with_reducible refine aw (N := 2) rfl ?_); refine ax ?hg (N := 2) ?hd (cs := #[.int .i64 a0_0, .int .i64 a0_1, .int .i64 a0_2, .string a0_3]) (t := 29) ?hr ?_; (case hd => rfl); (case hg => rfl); (case hr => first | (go_simp; done) | (go_simp; rfl)); intro aV hg w92 hbox hb; have aJ := aM (hbox); have jb := aM ((by rw [hg]; exact (aq z13) : w.heap.size ≤ aV)); have je := aM ((by rw [hg]; exact (aq z13) : w.heap.size ≤ aV)); replace HB := aM (ap z13 hb); clear hb hbox hg; obtain ⟨mW, mV, mU, mT, mu, mt, ms, mr⟩ := cc4 aJ.out) | ((with_reducible refine av (f := 52) rfl ?_); refine ay (some 17) rfl rfl Try.func52 z0 rfl #[.string a1, .int .i64 a0_1] rfl z14 ?_; (with_reducible refine (impl_beginsAt.calls k a1 a0_1 bV false _ A3.out).mono ?_); rintro e w94 ⟨rfl, hb⟩; refine ⟨_, rfl, ?_⟩; replace aJ := aM (bK_ aJ.out hb); replace HB := aM (ap z17 hb); (try clear hb)))
  go_ret2
  exact ⟨_, y4, y20, y19⟩

end Go.Proofs.Ytmigfgcpdelnfaa.AFnUndoneBy
