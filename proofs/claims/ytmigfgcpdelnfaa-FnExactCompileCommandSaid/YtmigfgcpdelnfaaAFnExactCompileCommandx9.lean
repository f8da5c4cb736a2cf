-- this session's own text: written by wip/tools/ownprint.py over the kit's print
import Derived.Test.YtmigfgcpdelnfaaAFnExactCompileCommandx0
import Derived.Test.YtmigfgcpdelnfaaAFnExactCompileCommandx8
namespace Go.Proofs.Ytmigfgcpdelnfaa.AFnExactCompileCommand
open Go.RowKit Go.Proofs.YtmigfgcpdelnfaaW.PrintWords Go.Proofs.YtmigfgcpdelnfaaW.PrintLast Go.Proofs.YtmigfgcpdelnfaaW.PrintMore
attribute [local go_sem] max2_int min2_int max_two min_two max_three min_three max_four min_four   -- for this text's walks alone
set_option linter.unusedVariables false
set_option linter.unusedSimpArgs false

/-! ### impl_Command_onElement: function 80 -/
def impl_Command_onElement.f (k : Nat) (a0_0 : Int) (a0_1 : Int) (a0_2 : Int) (a0_3 : ByteArray) (a1 : ByteArray) : Option ((List (S61)) × Bool) := (impl_beginsAt.f k a1 a0_1).bind fun bt263 => (if bt263.2 = true then (if a0_0 = 4 then ((impl_keepTo.f 0 a0_1).bind fun bt265 => (if 0 ≤ a0_1 then (if a0_1 ≤ (wrap64 (a0_1 + 1)) then (if (wrap64 (a0_1 + 1)) ≤ (a1.size : Int) then ((impl_keepTo.f (wrap64 (a0_1 + 1)) bt263.1).bind fun bt268 => ((impl_keepTo.f (wrap64 (bt263.1 + 1)) (a1.size : Int)).bind fun bt271 => (some ((([(⟨bt265.1, bt265.2.1, bt265.2.2⟩ : S61), (⟨0, (⟨#[]⟩ : ByteArray), a1.extract (a0_1 : Int).toNat ((wrap64 (a0_1 + 1)) : Int).toNat⟩ : S61), (⟨bt268.1, bt268.2.1, bt268.2.2⟩ : S61), (⟨0, (⟨#[]⟩ : ByteArray), (⟨#[47]⟩ : ByteArray)⟩ : S61), (⟨bt271.1, bt271.2.1, bt271.2.2⟩ : S61)] : List (S61))), true)))) else (none)) else (none)) else (none))) else (if a0_0 = 8 then ((impl_keepTo.f 0 a0_1).bind fun bt277 => (if 0 ≤ a0_1 then (if a0_1 ≤ (wrap64 (a0_1 + 1)) then (if (wrap64 (a0_1 + 1)) ≤ (a1.size : Int) then ((impl_keepTo.f (wrap64 (a0_1 + 1)) (a1.size : Int)).bind fun bt280 => ((some (([(⟨bt277.1, bt277.2.1, bt277.2.2⟩ : S61), (⟨0, a0_3, (⟨#[]⟩ : ByteArray)⟩ : S61), (⟨0, (⟨#[]⟩ : ByteArray), a1.extract (a0_1 : Int).toNat ((wrap64 (a0_1 + 1)) : Int).toNat⟩ : S61), (⟨bt280.1, bt280.2.1, bt280.2.2⟩ : S61)] : List (S61)) : List (S61))).bind fun y283 => ((impl_isNameText.f a0_3).bind fun t286 => (if t286 = true then (some (y283, (a0_3.toList != (a1.extract (a0_1 : Int).toNat ((wrap64 (a0_1 + 1)) : Int).toNat).toList))) else (some (y283, false)))))) else (none)) else (none)) else (none))) else (if a0_0 = 7 then (if 0 ≤ a0_1 then (if a0_1 ≤ (wrap64 (bt263.1 + 1)) then (if (wrap64 (bt263.1 + 1)) ≤ (a1.size : Int) then (if a0_2 < a0_1 then ((impl_keepTo.f 0 a0_2).bind fun bt287 => ((impl_keepTo.f a0_2 a0_1).bind fun bt290 => ((impl_keepTo.f (wrap64 (bt263.1 + 1)) (a1.size : Int)).bind fun bt293 => (some ((([(⟨bt287.1, bt287.2.1, bt287.2.2⟩ : S61), (⟨0, a1.extract (a0_1 : Int).toNat ((wrap64 (bt263.1 + 1)) : Int).toNat, (⟨#[]⟩ : ByteArray)⟩ : S61), (⟨bt290.1, bt290.2.1, bt290.2.2⟩ : S61), (⟨0, (⟨#[]⟩ : ByteArray), a1.extract (a0_1 : Int).toNat ((wrap64 (bt263.1 + 1)) : Int).toNat⟩ : S61), (⟨bt293.1, bt293.2.1, bt293.2.2⟩ : S61)] : List (S61))), true))))) else ((impl_keepTo.f 0 a0_1).bind fun bt299 => ((impl_keepTo.f (wrap64 (bt263.1 + 1)) a0_2).bind fun bt302 => ((impl_keepTo.f a0_2 (a1.size : Int)).bind fun bt305 => (some ((([(⟨bt299.1, bt299.2.1, bt299.2.2⟩ : S61), (⟨0, (⟨#[]⟩ : ByteArray), a1.extract (a0_1 : Int).toNat ((wrap64 (bt263.1 + 1)) : Int).toNat⟩ : S61), (⟨bt302.1, bt302.2.1, bt302.2.2⟩ : S61), (⟨0, a1.extract (a0_1 : Int).toNat ((wrap64 (bt263.1 + 1)) : Int).toNat, (⟨#[]⟩ : ByteArray)⟩ : S61), (⟨bt305.1, bt305.2.1, bt305.2.2⟩ : S61)] : List (S61))), decide (a0_2 > (wrap64 (bt263.1 + 1))))))))) else (none)) else (none)) else (none)) else (some (([] : List (S61)), false))))) else (some (([] : List (S61)), false)))
theorem impl_Command_onElement.mono : ∀ a0 a1 a2 a3 a4 k, LeO (impl_Command_onElement.f k a0 a1 a2 a3 a4) (impl_Command_onElement.f (k + 1) a0 a1 a2 a3 a4) := by
 intro a0 a1 a2 a3 a4 k
 unfold impl_Command_onElement.f
 repeat' first
   | (with_reducible exact impl_beginsAt.mono _ _ _)
   | (with_reducible exact LeO.refl _)
   | (with_reducible exact LeO.none _)
   | (with_reducible refine LeO.ite ?_ ?_)
   | (with_reducible refine LeO.bind ?_ (fun _ => ?_))
   | exact impl_beginsAt.mono _ _ _
   | exact LeO.none _
   | refine LeO.ite ?_ ?_
   | refine LeO.bind ?_ (fun _ => ?_)
def impl_Command_onElement.T4 : Bool × List (List Nat × List Nat) := (true, [([], []), ([0], [0]), ([], []), ([2], [2]), ([], []), ([4], [4]), ([], []), ([6], [6]), ([1, 0, 1], [1]), ([3, 8, 0, 1, 2, 3, 8], [3]), ([5, 9, 0, 1, 2, 3, 4, 5, 8, 9], [5]), ([7, 10, 0, 1, 2, 3, 4, 5, 6, 7, 8, 9, 10], [7])])
def impl_Command_onElement.B4 : List Nat := [0, 1, 0, 4, 0, 16, 0, 64, 3, 271, 831, 2047]
theorem impl_Command_onElement.tab4 : rtab .any (opsOf Try.f80 4) = impl_Command_onElement.T4 := by kernel_rfl
theorem impl_Command_onElement.bits4 : waitsOk impl_Command_onElement.T4.2 impl_Command_onElement.B4 = true := by kernel_rfl
def impl_Command_onElement.T7 : Bool × List (List Nat × List Nat) := (true, [([], []), ([0], [0]), ([], []), ([], []), ([], []), ([4], [4]), ([2, 3, 5], [2, 3, 5]), ([6], [6]), ([], []), ([8], [8]), ([], []), ([9, 10, 1], [9, 10]), ([], []), ([], []), ([], []), ([13, 14, 11], [13, 14]), ([1, 7, 11, 12, 15], [1, 7, 11, 12, 15]), ([16, 15, 0, 1, 2, 3, 4, 5, 6, 7, 8, 9, 10, 11, 12, 13, 14, 15, 16], [16]), ([17, 0, 1, 2, 3, 4, 5, 6, 7, 8, 9, 10, 11, 12, 13, 14, 15, 16, 17], [])])
def impl_Command_onElement.B7 : List Nat := [0, 1, 0, 0, 0, 16, 60, 124, 0, 256, 0, 1795, 0, 0, 0, 28419, 65535, 131071, 262143]
theorem impl_Command_onElement.tab7 : rtab .any (opsOf Try.f80 7) = impl_Command_onElement.T7 := by kernel_rfl
theorem impl_Command_onElement.bits7 : waitsOk impl_Command_onElement.T7.2 impl_Command_onElement.B7 = true := by kernel_rfl
def impl_Command_onElement.T9 : Bool × List (List Nat × List Nat) := (true, [([], []), ([0], [0]), ([], []), ([2], [2]), ([3], [3]), ([], []), ([], []), ([], []), ([7], [7]), ([5, 6, 8], [5, 6, 8]), ([9], [9]), ([], []), ([11], [11]), ([], []), ([12, 13, 1], [12, 13]), ([1, 4, 10, 14], [1, 4, 10, 14]), ([], []), ([16], [16]), ([17, 14], [17]), ([18, 18], [18]), ([19], [19]), ([20, 19], [19, 20]), ([19], [19]), ([19], [19]), ([19], [19]), ([24, 19], [19, 24]), ([22, 23, 25, 19], [19, 22, 23, 25]), ([21, 26, 19], [19, 21, 26]), ([19, 27], [19, 27]), ([15, 19, 0, 1, 2, 3, 4, 5, 6, 7, 8, 9, 10, 11, 12, 13, 14, 15], [15]), ([28, 29, 0, 1, 2, 3, 4, 5, 6, 7, 8, 9, 10, 11, 12, 13, 14, 15, 16, 17, 18, 19, 20, 21, 22, 23, 24, 25, 26, 27, 28, 29], [28])])
def impl_Command_onElement.B9 : List Nat := [0, 1, 0, 4, 12, 0, 0, 0, 128, 480, 992, 0, 2048, 0, 14339, 32767, 0, 65536, 227331, 489475, 1013763, 2062339, 1013763, 1013763, 1013763, 17790979, 63928323, 134182915, 268400643, 1048575, 1073741823]
theorem impl_Command_onElement.tab9 : rtab .any (opsOf Try.f80 9) = impl_Command_onElement.T9 := by kernel_rfl
theorem impl_Command_onElement.bits9 : waitsOk impl_Command_onElement.T9.2 impl_Command_onElement.B9 = true := by kernel_rfl
set_option maxHeartbeats 8000000 in
set_option maxRecDepth 100000 in
theorem impl_Command_onElement.calls (k : Nat) (a0_0 : Int) (a0_1 : Int) (a0_2 : Int) (a0_3 : ByteArray) (a1 : ByteArray) (r1 : List (S61)) (r2 : Bool) (w : World) (h : impl_Command_onElement.f k a0_0 a0_1 a0_2 a0_3 a1 = some (r1, r2)) :
  Calls Try.prog 80 #[.agg #[.int .i64 a0_0, .int .i64 a0_1, .int .i64 a0_2, .string a0_3], .string a1] w fun e w' => ∃ v0_ : Value, e = .returned (.tuple #[v0_, .bool r2]) ∧ Kd.R k61 61 w' w.heap.size (fun _ => True) v0_ r1 ∧ Below w.heap.size w w' := by
 have hu29 := Try.underlying29
 have hu61 := Try.underlying61
 have HB := aM (Below.refl w.heap.size w)
 have H : ((impl_beginsAt.f k a1 a0_1).bind fun bt263 => (if bt263.2 = true then (if a0_0 = 4 then ((impl_keepTo.f 0 a0_1).bind fun bt265 => (if 0 ≤ a0_1 then (if a0_1 ≤ (wrap64 (a0_1 + 1)) then (if (wrap64 (a0_1 + 1)) ≤ (a1.size : Int) then ((impl_keepTo.f (wrap64 (a0_1 + 1)) bt263.1).bind fun bt268 => ((impl_keepTo.f (wrap64 (bt263.1 + 1)) (a1.size : Int)).bind fun bt271 => (some ((([(⟨bt265.1, bt265.2.1, bt265.2.2⟩ : S61), (⟨0, (⟨#[]⟩ : ByteArray), a1.extract (a0_1 : Int).toNat ((wrap64 (a0_1 + 1)) : Int).toNat⟩ : S61), (⟨bt268.1, bt268.2.1, bt268.2.2⟩ : S61), (⟨0, (⟨#[]⟩ : ByteArray), (⟨#[47]⟩ : ByteArray)⟩ : S61), (⟨bt271.1, bt271.2.1, bt271.2.2⟩ : S61)] : List (S61))), true)))) else (none)) else (none)) else (none))) else (if a0_0 = 8 then ((impl_keepTo.f 0 a0_1).bind fun bt277 => (if 0 ≤ a0_1 then (if a0_1 ≤ (wrap64 (a0_1 + 1)) then (if (wrap64 (a0_1 + 1)) ≤ (a1.size : Int) then ((impl_keepTo.f (wrap64 (a0_1 + 1)) (a1.size : Int)).bind fun bt280 => ((some (([(⟨bt277.1, bt277.2.1, bt277.2.2⟩ : S61), (⟨0, a0_3, (⟨#[]⟩ : ByteArray)⟩ : S61), (⟨0, (⟨#[]⟩ : ByteArray), a1.extract (a0_1 : Int).toNat ((wrap64 (a0_1 + 1)) : Int).toNat⟩ : S61), (⟨bt280.1, bt280.2.1, bt280.2.2⟩ : S61)] : List (S61)) : List (S61))).bind fun y283 => ((impl_isNameText.f a0_3).bind fun t286 => (if t286 = true then (some (y283, (a0_3.toList != (a1.extract (a0_1 : Int).toNat ((wrap64 (a0_1 + 1)) : Int).toNat).toList))) else (some (y283, false)))))) else (none)) else (none)) else (none))) else (if a0_0 = 7 then (if 0 ≤ a0_1 then (if a0_1 ≤ (wrap64 (bt263.1 + 1)) then (if (wrap64 (bt263.1 + 1)) ≤ (a1.size : Int) then (if a0_2 < a0_1 then ((impl_keepTo.f 0 a0_2).bind fun bt287 => ((impl_keepTo.f a0_2 a0_1).bind fun bt290 => ((impl_keepTo.f (wrap64 (bt263.1 + 1)) (a1.size : Int)).bind fun bt293 => (some ((([(⟨bt287.1, bt287.2.1, bt287.2.2⟩ : S61), (⟨0, a1.extract (a0_1 : Int).toNat ((wrap64 (bt263.1 + 1)) : Int).toNat, (⟨#[]⟩ : ByteArray)⟩ : S61), (⟨bt290.1, bt290.2.1, bt290.2.2⟩ : S61), (⟨0, (⟨#[]⟩ : ByteArray), a1.extract (a0_1 : Int).toNat ((wrap64 (bt263.1 + 1)) : Int).toNat⟩ : S61), (⟨bt293.1, bt293.2.1, bt293.2.2⟩ : S61)] : List (S61))), true))))) else ((impl_keepTo.f 0 a0_1).bind fun bt299 => ((impl_keepTo.f (wrap64 (bt263.1 + 1)) a0_2).bind fun bt302 => ((impl_keepTo.f a0_2 (a1.size : Int)).bind fun bt305 => (some ((([(⟨bt299.1, bt299.2.1, bt299.2.2⟩ : S61), (⟨0, (⟨#[]⟩ : ByteArray), a1.extract (a0_1 : Int).toNat ((wrap64 (bt263.1 + 1)) : Int).toNat⟩ : S61), (⟨bt302.1, bt302.2.1, bt302.2.2⟩ : S61), (⟨0, a1.extract (a0_1 : Int).toNat ((wrap64 (bt263.1 + 1)) : Int).toNat, (⟨#[]⟩ : ByteArray)⟩ : S61), (⟨bt305.1, bt305.2.1, bt305.2.2⟩ : S61)] : List (S61))), decide (a0_2 > (wrap64 (bt263.1 + 1))))))))) else (none)) else (none)) else (none)) else (some (([] : List (S61)), false))))) else (some (([] : List (S61)), false)))) = some (r1, r2) := h
 clear h
 replace H := oB H
 obtain ⟨⟨t263, t264⟩, A30, H⟩ := H
 try dsimp only at H
 have A3 := aM A30
 clear A30
 by_cases c4 : t264 = true
 ·subst c4
  rw [if_pos rfl] at H
  by_cases c5 : a0_0 = 4
  ·rw [if_pos c5] at H
   have c5b0 : (a0_0 == 4) = true := qT c5
   have c5b1 : (a0_0 != 4) = false := nF c5
   clear c5
   replace H := oB H
   obtain ⟨⟨t265, t266, t267⟩, A60, H⟩ := H
   try dsimp only at H
   have A6 := aM A60
   clear A60
   by_cases c7 : 0 ≤ a0_1
   ·rw [if_pos c7] at H
    have c7b0 := eq_true c7
    have c7b1 : decide (0 ≤ a0_1) = true := dT c7
    clear c7
    by_cases c8 : a0_1 ≤ (wrap64 (a0_1 + 1))
    ·rw [if_pos c8] at H
     have c8b0 := eq_true c8
     have c8b1 : decide (a0_1 ≤ (wrap64 (a0_1 + 1))) = true := dT c8
     by_cases c9 : (wrap64 (a0_1 + 1)) ≤ (a1.size : Int)
     ·rw [if_pos c9] at H
      have c9b0 := eq_true c9
      have c9b1 : decide ((wrap64 (a0_1 + 1)) ≤ (a1.size : Int)) = true := dT c9
      replace H := oB H
      obtain ⟨⟨t268, t269, t270⟩, A100, H⟩ := H
      try dsimp only at H
      have A10 := aM A100
      clear A100
      replace H := oB H
      obtain ⟨⟨t271, t272, t273⟩, A110, H⟩ := H
      try dsimp only at H
      have A11 := aM A110
      clear A110
      obtain ⟨y274, hy274⟩ : ∃ y_ : List (S61), y_ = (([(⟨t265, t266, t267⟩ : S61), (⟨0, (⟨#[]⟩ : ByteArray), a1.extract (a0_1 : Int).toNat ((wrap64 (a0_1 + 1)) : Int).toNat⟩ : S61), (⟨t268, t269, t270⟩ : S61), (⟨0, (⟨#[]⟩ : ByteArray), (⟨#[47]⟩ : ByteArray)⟩ : S61), (⟨t271, t272, t273⟩ : S61)] : List (S61))) := ⟨_, rfl⟩
      replace H : (some (y274, true)) = some (r1, r2) := by first | (rw [hy274]; with_reducible exact H) | (have H2_ := (Option.bind_some _ _).symm.trans H; rw [hy274]; with_reducible exact H2_) | (have H2_ := (Option.bind_some _ _).symm.trans H; with_reducible exact H2_) | with_reducible exact H | (rw [hy274]; exact H) | exact H
      have Ny274 := aM hy274
      clear hy274
      simp only [Option.some.injEq, Prod.mk.injEq] at H
      obtain ⟨rfl, rfl⟩ := H
      go_enter Try.func80, Try.ntmps80
      try go_wp2_with (first | ((with_reducible refine gate_dst (N := 2) rfl ?_); refine box_event ?hg (N := 2) ?hd (cs := #[.int .i64 a0_0, .int .i64 a0_1, .int .i64 a0_2, .string a0_3]) (t := 29) ?hr ?_; (case hd => rfl); (case hg => rfl); (case hr => first | (go_simp; done) | (go_simp; rfl)); intro gb262 hg w12 hbox hb; have n0_ := aM (below_step z11 hb); have n1_ := aM (hbox); have n2_ := aM ((by rw [hg]; exact (below_size z11) : w.heap.size ≤ gb262)); have n3_ := aM ((by rw [hg]; exact (below_size z11) : w.heap.size ≤ gb262)); clear HB; have HB := n0_; have BK262 := n1_; have GW262 := n2_; have GE262 := n3_; clear n0_ n1_ n2_ n3_; clear hb hbox hg; have hcz13_0 : w12.cell? ⟨gb262, 0, none⟩ = some (.int .i64 a0_0) := (bC BK262.out 0).trans rfl; have hcz13_1 : w12.cell? ⟨gb262, 1, none⟩ = some (.int .i64 a0_1) := (bC BK262.out 1).trans rfl; have hcz13_2 : w12.cell? ⟨gb262, 2, none⟩ = some (.int .i64 a0_2) := (bC BK262.out 2).trans rfl; have hcz13_3 : w12.cell? ⟨gb262, 3, none⟩ = some (.string a0_3) := (bC BK262.out 3).trans rfl; have hfz13_0 := bF BK262.out 0; have hfz13_1 := bF BK262.out 1; have hfz13_2 := bF BK262.out 2; have hfz13_3 := bF BK262.out 3) | ((with_reducible refine gate_callee (f := 52) rfl ?_); refine goesL_ (some 17) rfl rfl Try.func52 z0 rfl #[.string a1, .int .i64 a0_1] rfl z12 ?_; (with_reducible refine (impl_beginsAt.calls k a1 a0_1 t263 true _ A3.out).mono ?_); rintro e w14 ⟨rfl, hb⟩; refine ⟨_, rfl, ?_⟩; have n0_ := aM (blk_below (g := gb262) (o := .cells #[.int .i64 a0_0, .int .i64 a0_1, .int .i64 a0_2, .string a0_3] 29 (0, 0)) z7 hb); have n1_ := aM (below_step z14 hb); clear BK262; clear HB; have BK262 := n0_; have HB := n1_; clear n0_ n1_; (try clear hb); (try clear hb2); (try clear hk); (try clear hi)))
      have n0_ := aM (blk_drew BK262.out)
      have n1_ := aM (bD HB.out)
      clear BK262
      clear HB
      have BK262 := n0_
      have HB := n1_
      clear n0_ n1_
      refine start_ (n := 12) (S := fun w' => w'.cell? ⟨gb262, 0, none⟩ = some (.int .i64 a0_0) ∧ w'.cell? ⟨gb262, 1, none⟩ = some (.int .i64 a0_1) ∧ w'.cell? ⟨gb262, 2, none⟩ = some (.int .i64 a0_2) ∧ w'.cell? ⟨gb262, 3, none⟩ = some (.string a0_3)) (ds := []) #[false, false, false, false, false, false, false, false, false, false, false, false] z0 rfl rfl ⟨(bC BK262.out 0).trans rfl, (bC BK262.out 1).trans rfl, (bC BK262.out 2).trans rfl, (bC BK262.out 3).trans rfl⟩ (fun hHeld => ?_); refine with_tabW impl_Command_onElement.tab4 impl_Command_onElement.bits4 (fun HT_ HW_ => ?_)
      generalize w14.drew = w15 at BK262 HB hHeld ⊢
      refine pA 0 22 ?_
      refine pA 2 24 ?_
      refine pA 4 26 ?_
      refine pA 5 27 ?_
      refine pA 6 28 ?_
      refine pA 7 29 ?_
      refine tA 1 23 ?_ (hy := by rintro w' ⟨s0, s1, s2, s3⟩; go_simp; with_reducible rfl)
      refine pA 8 8 ?_
      refine tA 3 25 ?_ (hy := by rintro w' ⟨s0, s1, s2, s3⟩; go_simp; with_reducible rfl)
      refine pA 9 9 ?_
      refine pA 10 10 ?_
      refine pA 11 11 ?_
      refine done_ (done_of HT_.out z0) ?_
      have hcz16_0 : w15.cell? ⟨gb262, 0, none⟩ = some (.int .i64 a0_0) := (bC BK262.out 0).trans rfl
      have hcz16_1 : w15.cell? ⟨gb262, 1, none⟩ = some (.int .i64 a0_1) := (bC BK262.out 1).trans rfl
      have hcz16_2 : w15.cell? ⟨gb262, 2, none⟩ = some (.int .i64 a0_2) := (bC BK262.out 2).trans rfl
      have hcz16_3 : w15.cell? ⟨gb262, 3, none⟩ = some (.string a0_3) := (bC BK262.out 3).trans rfl
      have hfz16_0 := bF BK262.out 0
      have hfz16_1 := bF BK262.out 1
      have hfz16_2 := bF BK262.out 2
      have hfz16_3 := bF BK262.out 3
      try go_wp2
      have n0_ := aM (blk_drew BK262.out)
      have n1_ := aM (bD HB.out)
      clear BK262
      clear HB
      have BK262 := n0_
      have HB := n1_
      clear n0_ n1_
      refine start_ (n := 19) (S := fun w' => True) (ds := []) #[false, false, false, false, false, false, false, false, false, false, false, false, false, false, false, false, false, false, false] z0 rfl rfl trivial (fun hHeld => ?_); refine with_tabW impl_Command_onElement.tab7 impl_Command_onElement.bits7 (fun HT_ HW_ => ?_)
      generalize w15.drew = w17 at BK262 HB hHeld ⊢
      refine pA 0 34 ?_
      refine pA 2 36 ?_
      refine pA 3 37 ?_
      refine pA 4 38 ?_
      refine pA 5 39 ?_
      refine pA 6 40 ?_
      refine pA 7 41 ?_
      refine pA 8 42 ?_
      refine pA 9 43 ?_
      refine pA 10 44 ?_
      refine pA 12 46 ?_
      refine pA 13 47 ?_
      refine pA 14 48 ?_
      refine one_ (i := 1) (N := some 35) #[true, true, true, true, true, true, true, true, true, true, true, false, true, true, true, false, false, false, false] rfl rfl (one_of HT_.out z0) (by decide) (fun K hK => ?_)
      refine goes_ Try.func77 z0 rfl #[.int .i64 0, .int .i64 a0_1] (by rfl) rfl rfl z12 ?_
      with_reducible refine (impl_keepTo.calls 0 a0_1 t265 t266 t267 _ A6.out).mono ?_
      rintro e w18 ⟨rfl, hb⟩
      refine ⟨_, rfl, ?_⟩
      have n0_ := aM (blk_below (g := gb262) (o := .cells #[.int .i64 a0_0, .int .i64 a0_1, .int .i64 a0_2, .string a0_3] 29 (0, 0)) z7 hb)
      have n1_ := aM (below_step z14 hb)
      clear BK262
      clear HB
      have BK262 := n0_
      have HB := n1_
      clear n0_ n1_
      (try clear hb)
      (try clear hb2)
      (try clear hk)
      (try clear hi)
      refine hK.out _ _ trivial (fun hHeld => ?_)
      clear hK K
      refine norm_ (a' := ?_) ?_ ?_
      rotate_left
      ·show Act.put _ (some 35) _ = _
       simp only [Act.put, sA, sB, sC, i64_w, i32_w]
       rfl
      refine one_ (i := 11) (N := some 45) #[true, true, true, true, true, true, true, true, true, true, true, true, true, true, true, false, false, false, false] rfl rfl (one_of HT_.out z0) (by decide) (fun K hK => ?_)
      refine goes_ Try.func77 z0 rfl #[.int .i64 (wrap64 (a0_1 + 1)), .int .i64 t263] (by rfl) rfl rfl z12 ?_
      with_reducible refine (impl_keepTo.calls (wrap64 (a0_1 + 1)) t263 t268 t269 t270 _ A10.out).mono ?_
      rintro e w19 ⟨rfl, hb⟩
      refine ⟨_, rfl, ?_⟩
      have n0_ := aM (blk_below (g := gb262) (o := .cells #[.int .i64 a0_0, .int .i64 a0_1, .int .i64 a0_2, .string a0_3] 29 (0, 0)) z7 hb)
      have n1_ := aM (below_step z14 hb)
      clear BK262
      clear HB
      have BK262 := n0_
      have HB := n1_
      clear n0_ n1_
      (try clear hb)
      (try clear hb2)
      (try clear hk)
      (try clear hi)
      refine hK.out _ _ trivial (fun hHeld => ?_)
      clear hK K
      refine norm_ (a' := ?_) ?_ ?_
      rotate_left
      ·show Act.put _ (some 45) _ = _
       simp only [Act.put, sA, sB, sC, i64_w, i32_w]
       rfl
      refine one_ (i := 15) (N := some 49) #[true, true, true, true, true, true, true, true, true, true, true, true, true, true, true, true, false, false, false] rfl rfl (one_of HT_.out z0) (by decide) (fun K hK => ?_)
      refine goes_ Try.func77 z0 rfl #[.int .i64 (wrap64 (t263 + 1)), .int .i64 (a1.size : Int)] (by rfl) rfl rfl z12 ?_
      with_reducible refine (impl_keepTo.calls (wrap64 (t263 + 1)) (a1.size : Int) t271 t272 t273 _ A11.out).mono ?_
      rintro e w20 ⟨rfl, hb⟩
      refine ⟨_, rfl, ?_⟩
      have n0_ := aM (blk_below (g := gb262) (o := .cells #[.int .i64 a0_0, .int .i64 a0_1, .int .i64 a0_2, .string a0_3] 29 (0, 0)) z7 hb)
      have n1_ := aM (below_step z14 hb)
      clear BK262
      clear HB
      have BK262 := n0_
      have HB := n1_
      clear n0_ n1_
      (try clear hb)
      (try clear hb2)
      (try clear hk)
      (try clear hi)
      refine hK.out _ _ trivial (fun hHeld => ?_)
      clear hK K
      refine norm_ (a' := ?_) ?_ ?_
      rotate_left
      ·show Act.put _ (some 49) _ = _
       simp only [Act.put, sA, sB, sC, i64_w, i32_w]
       rfl
      refine one_ (i := 16) (N := some 50) #[true, true, true, true, true, true, true, true, true, true, true, true, true, true, true, true, true, false, false] rfl rfl (one_of HT_.out z0) (by decide) (fun K hK => ?_)
      refine Kd.R_lit_step k61 _ 61 ?hg (N := 50) ?hd (xs := ([(⟨t265, t266, t267⟩ : S61), (⟨0, (⟨#[]⟩ : ByteArray), a1.extract (a0_1 : Int).toNat ((wrap64 (a0_1 + 1)) : Int).toNat⟩ : S61), (⟨t268, t269, t270⟩ : S61), (⟨0, (⟨#[]⟩ : ByteArray), (⟨#[47]⟩ : ByteArray)⟩ : S61), (⟨t271, t272, t273⟩ : S61)] : List (S61))) (inner := [.int .i64 t265, .string t266, .string t267, .int .i64 0, .string (⟨#[]⟩ : ByteArray), .string (a1.extract (a0_1 : Int).toNat ((wrap64 (a0_1 + 1)) : Int).toNat), .int .i64 t268, .string t269, .string t270, .int .i64 0, .string (⟨#[]⟩ : ByteArray), .string (⟨#[47]⟩ : ByteArray), .int .i64 t271, .string t272, .string t273]) (ok := fun _ => True) (okp := fun _ => True) ?hr ?hp (fun _ hk => hk) trivial (Below.refl _ _) (Nat.le_refl _) (by simp) ?_; (case hd => rfl); (case hg => rfl); (case hr => first | (go_simp; done) | (go_simp; rfl)); (case hp => exact (Reps.c3 (show Kd.M k61 _ _ _ (⟨t265, t266, t267⟩ : S61) [.int .i64 t265, .string t266, .string t267] from (k61_mkM _ _ _ (⟨t265, t266, t267⟩ : S61) )) (Reps.c3 (show Kd.M k61 _ _ _ (⟨0, (⟨#[]⟩ : ByteArray), a1.extract (a0_1 : Int).toNat ((wrap64 (a0_1 + 1)) : Int).toNat⟩ : S61) [.int .i64 0, .string (⟨#[]⟩ : ByteArray), .string (a1.extract (a0_1 : Int).toNat ((wrap64 (a0_1 + 1)) : Int).toNat)] from (k61_mkM _ _ _ (⟨0, (⟨#[]⟩ : ByteArray), a1.extract (a0_1 : Int).toNat ((wrap64 (a0_1 + 1)) : Int).toNat⟩ : S61) )) (Reps.c3 (show Kd.M k61 _ _ _ (⟨t268, t269, t270⟩ : S61) [.int .i64 t268, .string t269, .string t270] from (k61_mkM _ _ _ (⟨t268, t269, t270⟩ : S61) )) (Reps.c3 (show Kd.M k61 _ _ _ (⟨0, (⟨#[]⟩ : ByteArray), (⟨#[47]⟩ : ByteArray)⟩ : S61) [.int .i64 0, .string (⟨#[]⟩ : ByteArray), .string (⟨#[47]⟩ : ByteArray)] from (k61_mkM _ _ _ (⟨0, (⟨#[]⟩ : ByteArray), (⟨#[47]⟩ : ByteArray)⟩ : S61) )) (Reps.c3 (show Kd.M k61 _ _ _ (⟨t271, t272, t273⟩ : S61) [.int .i64 t271, .string t272, .string t273] from (k61_mkM _ _ _ (⟨t271, t272, t273⟩ : S61) )) (Reps.none _ _)))))))
      intro v275 w21 ho22 hb hg_ hnew_
      clear hg_ hnew_
      (first | rw [← Ny274.out] at ho22 | (simp only [Int.reduceToNat] at ho22; rw [← Ny274.out] at ho22))
      have n0_ := aM (Kd.R_lower ho22 (below_size z14))
      have n1_ := aM (blk_below (g := gb262) (o := .cells #[.int .i64 a0_0, .int .i64 a0_1, .int .i64 a0_2, .string a0_3] 29 (0, 0)) z7 hb)
      have n2_ := aM (below_step z14 hb)
      clear BK262
      clear HB
      have HO276 := n0_
      have BK262 := n1_
      have HB := n2_
      clear n0_ n1_ n2_
      clear hb ho22
      refine hK.out _ _ trivial (fun hHeld => ?_)
      clear hK K
      refine norm_ (a' := ?_) ?_ ?_
      rotate_left
      ·show Act.put _ (some 50) _ = _
       simp only [Act.put, sA, sB, sC, i64_w, i32_w]
       rfl
      refine pA 17 4 ?_
      refine pA 18 5 ?_
      refine done_ (done_of HT_.out z0) ?_
      try go_wp2
      go_ret2
      exact ⟨_, y3, by (with_reducible repeat (first | apply Kd.R_alloc | apply Kd.R_drewN | apply Kd.R_drew)); exact HO276.out, y20⟩
     ·rw [if_neg c9] at H
      exact absurd H (by simp)
    ·rw [if_neg c8] at H
     exact absurd H (by simp)
   ·rw [if_neg c7] at H
    exact absurd H (by simp)
  ·rw [if_neg c5] at H
   have c5b0 : (a0_0 == 4) = false := qF c5
   have c5b1 : (a0_0 != 4) = true := nT c5
   by_cases c23 : a0_0 = 8
   ·rw [if_pos c23] at H
    have c23b0 : (a0_0 == 8) = true := qT c23
    have c23b1 : (a0_0 != 8) = false := nF c23
    clear c23
    replace H := oB H
    obtain ⟨⟨t277, t278, t279⟩, A240, H⟩ := H
    try dsimp only at H
    have A24 := aM A240
    clear A240
    by_cases c25 : 0 ≤ a0_1
    ·rw [if_pos c25] at H
     have c25b0 := eq_true c25
     have c25b1 : decide (0 ≤ a0_1) = true := dT c25
     clear c25
     by_cases c26 : a0_1 ≤ (wrap64 (a0_1 + 1))
     ·rw [if_pos c26] at H
      have c26b0 := eq_true c26
      have c26b1 : decide (a0_1 ≤ (wrap64 (a0_1 + 1))) = true := dT c26
      by_cases c27 : (wrap64 (a0_1 + 1)) ≤ (a1.size : Int)
      ·rw [if_pos c27] at H
       have c27b0 := eq_true c27
       have c27b1 : decide ((wrap64 (a0_1 + 1)) ≤ (a1.size : Int)) = true := dT c27
       replace H := oB H
       obtain ⟨⟨t280, t281, t282⟩, A280, H⟩ := H
       try dsimp only at H
       have A28 := aM A280
       clear A280
       obtain ⟨y283, hy283⟩ : ∃ y_ : List (S61), y_ = (([(⟨t277, t278, t279⟩ : S61), (⟨0, a0_3, (⟨#[]⟩ : ByteArray)⟩ : S61), (⟨0, (⟨#[]⟩ : ByteArray), a1.extract (a0_1 : Int).toNat ((wrap64 (a0_1 + 1)) : Int).toNat⟩ : S61), (⟨t280, t281, t282⟩ : S61)] : List (S61))) := ⟨_, rfl⟩
       replace H : ((impl_isNameText.f a0_3).bind fun t286 => (if t286 = true then (some (y283, (a0_3.toList != (a1.extract (a0_1 : Int).toNat ((wrap64 (a0_1 + 1)) : Int).toNat).toList))) else (some (y283, false)))) = some (r1, r2) := by first | (rw [hy283]; with_reducible exact H) | (have H2_ := (Option.bind_some _ _).symm.trans H; rw [hy283]; with_reducible exact H2_) | (have H2_ := (Option.bind_some _ _).symm.trans H; with_reducible exact H2_) | with_reducible exact H | (rw [hy283]; exact H) | exact H
       have Ny283 := aM hy283
       clear hy283
       replace H := oB H
       obtain ⟨t286, A290, H⟩ := H
       try dsimp only at H
       have A29 := aM A290
       clear A290
       by_cases c30 : t286 = true
       ·subst c30
        rw [if_pos rfl] at H
        have c31b0 := eq_true (oD z2 : 0 ≤ a0_1)
        have c32b0 := eq_true (oD z2 : a0_1 ≤ (wrap64 (a0_1 + 1)))
        have c33b0 := eq_true (oD z2 : (wrap64 (a0_1 + 1)) ≤ (a1.size : Int))
        simp only [Option.some.injEq, Prod.mk.injEq] at H
        obtain ⟨rfl, rfl⟩ := H
        go_enter Try.func80, Try.ntmps80
        try go_wp2_with (first | ((with_reducible refine gate_dst (N := 2) rfl ?_); refine box_event ?hg (N := 2) ?hd (cs := #[.int .i64 a0_0, .int .i64 a0_1, .int .i64 a0_2, .string a0_3]) (t := 29) ?hr ?_; (case hd => rfl); (case hg => rfl); (case hr => first | (go_simp; done) | (go_simp; rfl)); intro gb262 hg w34 hbox hb; have n0_ := aM (below_step z11 hb); have n1_ := aM (hbox); have n2_ := aM ((by rw [hg]; exact (below_size z11) : w.heap.size ≤ gb262)); have n3_ := aM ((by rw [hg]; exact (below_size z11) : w.heap.size ≤ gb262)); clear HB; have HB := n0_; have BK262 := n1_; have GW262 := n2_; have GE262 := n3_; clear n0_ n1_ n2_ n3_; clear hb hbox hg; have hcz35_0 : w34.cell? ⟨gb262, 0, none⟩ = some (.int .i64 a0_0) := (bC BK262.out 0).trans rfl; have hcz35_1 : w34.cell? ⟨gb262, 1, none⟩ = some (.int .i64 a0_1) := (bC BK262.out 1).trans rfl; have hcz35_2 : w34.cell? ⟨gb262, 2, none⟩ = some (.int .i64 a0_2) := (bC BK262.out 2).trans rfl; have hcz35_3 : w34.cell? ⟨gb262, 3, none⟩ = some (.string a0_3) := (bC BK262.out 3).trans rfl; have hfz35_0 := bF BK262.out 0; have hfz35_1 := bF BK262.out 1; have hfz35_2 := bF BK262.out 2; have hfz35_3 := bF BK262.out 3) | ((with_reducible refine gate_callee (f := 52) rfl ?_); refine goesL_ (some 17) rfl rfl Try.func52 z0 rfl #[.string a1, .int .i64 a0_1] rfl z12 ?_; (with_reducible refine (impl_beginsAt.calls k a1 a0_1 t263 true _ A3.out).mono ?_); rintro e w36 ⟨rfl, hb⟩; refine ⟨_, rfl, ?_⟩; have n0_ := aM (blk_below (g := gb262) (o := .cells #[.int .i64 a0_0, .int .i64 a0_1, .int .i64 a0_2, .string a0_3] 29 (0, 0)) z7 hb); have n1_ := aM (below_step z14 hb); clear BK262; clear HB; have BK262 := n0_; have HB := n1_; clear n0_ n1_; (try clear hb); (try clear hb2); (try clear hk); (try clear hi)))
        have n0_ := aM (blk_drew BK262.out)
        have n1_ := aM (bD HB.out)
        clear BK262
        clear HB
        have BK262 := n0_
        have HB := n1_
        clear n0_ n1_
        refine start_ (n := 12) (S := fun w' => w'.cell? ⟨gb262, 0, none⟩ = some (.int .i64 a0_0) ∧ w'.cell? ⟨gb262, 1, none⟩ = some (.int .i64 a0_1) ∧ w'.cell? ⟨gb262, 2, none⟩ = some (.int .i64 a0_2) ∧ w'.cell? ⟨gb262, 3, none⟩ = some (.string a0_3)) (ds := []) #[false, false, false, false, false, false, false, false, false, false, false, false] z0 rfl rfl ⟨(bC BK262.out 0).trans rfl, (bC BK262.out 1).trans rfl, (bC BK262.out 2).trans rfl, (bC BK262.out 3).trans rfl⟩ (fun hHeld => ?_); refine with_tabW impl_Command_onElement.tab4 impl_Command_onElement.bits4 (fun HT_ HW_ => ?_)
        generalize w36.drew = w37 at BK262 HB hHeld ⊢
        refine pA 0 22 ?_
        refine pA 2 24 ?_
        refine pA 4 26 ?_
        refine pA 5 27 ?_
        refine pA 6 28 ?_
        refine pA 7 29 ?_
        refine tA 1 23 ?_ (hy := by rintro w' ⟨s0, s1, s2, s3⟩; go_simp; with_reducible rfl)
        refine pA 8 8 ?_
        refine tA 3 25 ?_ (hy := by rintro w' ⟨s0, s1, s2, s3⟩; go_simp; with_reducible rfl)
        refine pA 9 9 ?_
        refine pA 10 10 ?_
        refine pA 11 11 ?_
        refine done_ (done_of HT_.out z0) ?_
        have hcz38_0 : w37.cell? ⟨gb262, 0, none⟩ = some (.int .i64 a0_0) := (bC BK262.out 0).trans rfl
        have hcz38_1 : w37.cell? ⟨gb262, 1, none⟩ = some (.int .i64 a0_1) := (bC BK262.out 1).trans rfl
        have hcz38_2 : w37.cell? ⟨gb262, 2, none⟩ = some (.int .i64 a0_2) := (bC BK262.out 2).trans rfl
        have hcz38_3 : w37.cell? ⟨gb262, 3, none⟩ = some (.string a0_3) := (bC BK262.out 3).trans rfl
        have hfz38_0 := bF BK262.out 0
        have hfz38_1 := bF BK262.out 1
        have hfz38_2 := bF BK262.out 2
        have hfz38_3 := bF BK262.out 3
        try go_wp2
        have n0_ := aM (blk_drew BK262.out)
        have n1_ := aM (bD HB.out)
        clear BK262
        clear HB
        have BK262 := n0_
        have HB := n1_
        clear n0_ n1_
        refine start_ (n := 31) (S := fun w' => w'.cell? ⟨gb262, 0, none⟩ = some (.int .i64 a0_0) ∧ w'.cell? ⟨gb262, 1, none⟩ = some (.int .i64 a0_1) ∧ w'.cell? ⟨gb262, 2, none⟩ = some (.int .i64 a0_2) ∧ w'.cell? ⟨gb262, 3, none⟩ = some (.string a0_3)) (ds := []) #[false, false, false, false, false, false, false, false, false, false, false, false, false, false, false, false, false, false, false, false, false, false, false, false, false, false, false, false, false, false, false] z0 rfl rfl ⟨(bC BK262.out 0).trans rfl, (bC BK262.out 1).trans rfl, (bC BK262.out 2).trans rfl, (bC BK262.out 3).trans rfl⟩ (fun hHeld => ?_); refine with_tabW impl_Command_onElement.tab9 impl_Command_onElement.bits9 (fun HT_ HW_ => ?_)
        generalize w37.drew = w39 at BK262 HB hHeld ⊢
        refine pA 0 53 ?_
        refine pA 2 55 ?_
        refine pA 5 58 ?_
        refine pA 6 59 ?_
        refine pA 7 60 ?_
        refine pA 8 61 ?_
        refine pA 9 62 ?_
        refine pA 10 63 ?_
        refine pA 11 64 ?_
        refine pA 12 65 ?_
        refine pA 13 66 ?_
        refine pA 16 69 ?_
        refine tA 3 56 ?_ (hy := by rintro w' ⟨s0, s1, s2, s3⟩; go_simp; with_reducible rfl)
        refine pA 4 57 ?_
        refine tA 17 70 ?_ (hy := by rintro w' ⟨s0, s1, s2, s3⟩; go_simp; with_reducible rfl)
        refine one_ (i := 1) (N := some 54) #[true, true, true, true, true, true, true, true, true, true, true, true, true, true, false, false, true, true, false, false, false, false, false, false, false, false, false, false, false, false, false] rfl rfl (one_of HT_.out z0) (by decide) (fun K hK => ?_)
        refine goes_ Try.func77 z0 rfl #[.int .i64 0, .int .i64 a0_1] (by rfl) rfl rfl z12 ?_
        with_reducible refine (impl_keepTo.calls 0 a0_1 t277 t278 t279 _ A24.out).mono ?_
        rintro e w40 ⟨rfl, hb⟩
        refine ⟨_, rfl, ?_⟩
        have n0_ := aM (blk_below (g := gb262) (o := .cells #[.int .i64 a0_0, .int .i64 a0_1, .int .i64 a0_2, .string a0_3] 29 (0, 0)) z7 hb)
        have n1_ := aM (below_step z14 hb)
        clear BK262
        clear HB
        have BK262 := n0_
        have HB := n1_
        clear n0_ n1_
        (try clear hb)
        (try clear hb2)
        (try clear hk)
        (try clear hi)
        refine hK.out _ _ ⟨(bC BK262.out 0).trans rfl, (bC BK262.out 1).trans rfl, (bC BK262.out 2).trans rfl, (bC BK262.out 3).trans rfl⟩ (fun hHeld => ?_)
        clear hK K
        refine norm_ (a' := ?_) ?_ ?_
        rotate_left
        ·show Act.put _ (some 54) _ = _
         simp only [Act.put, sA, sB, sC, i64_w, i32_w]
         rfl
        refine one_ (i := 14) (N := some 67) #[true, true, true, true, true, true, true, true, true, true, true, true, true, true, true, false, true, true, false, false, false, false, false, false, false, false, false, false, false, false, false] rfl rfl (one_of HT_.out z0) (by decide) (fun K hK => ?_)
        refine goes_ Try.func77 z0 rfl #[.int .i64 (wrap64 (a0_1 + 1)), .int .i64 (a1.size : Int)] (by rfl) rfl rfl z12 ?_
        with_reducible refine (impl_keepTo.calls (wrap64 (a0_1 + 1)) (a1.size : Int) t280 t281 t282 _ A28.out).mono ?_
        rintro e w41 ⟨rfl, hb⟩
        refine ⟨_, rfl, ?_⟩
        have n0_ := aM (blk_below (g := gb262) (o := .cells #[.int .i64 a0_0, .int .i64 a0_1, .int .i64 a0_2, .string a0_3] 29 (0, 0)) z7 hb)
        have n1_ := aM (below_step z14 hb)
        clear BK262
        clear HB
        have BK262 := n0_
        have HB := n1_
        clear n0_ n1_
        (try clear hb)
        (try clear hb2)
        (try clear hk)
        (try clear hi)
        refine hK.out _ _ ⟨(bC BK262.out 0).trans rfl, (bC BK262.out 1).trans rfl, (bC BK262.out 2).trans rfl, (bC BK262.out 3).trans rfl⟩ (fun hHeld => ?_)
        clear hK K
        refine norm_ (a' := ?_) ?_ ?_
        rotate_left
        ·show Act.put _ (some 67) _ = _
         simp only [Act.put, sA, sB, sC, i64_w, i32_w]
         rfl
        refine join_ (σ := Value) 2 #[true, true, true, true, true, true, true, true, true, true, true, true, true, true, true, true, true, true, true, true, true, true, true, true, true, true, true, true, true, false, false] (fun s_ => [(68, s_), (71, .bool true), (72, .bool true), (73, .pointer (some ⟨gb262, 3, none⟩)), (74, .string a0_3), (75, .string a1), (76, .int .i64 a0_1), (77, .int .i64 a0_1), (78, .int .i64 (wrap64 (a0_1 + 1))), (79, .string (a1.extract (a0_1 : Int).toNat ((wrap64 (a0_1 + 1)) : Int).toNat)), (80, .bool (a0_3.toList != (a1.extract (a0_1 : Int).toNat ((wrap64 (a0_1 + 1)) : Int).toNat).toList)), (81, .bool (a0_3.toList != (a1.extract (a0_1 : Int).toNat ((wrap64 (a0_1 + 1)) : Int).toNat).toList))]) (fun s_ w' => (w'.cell? ⟨gb262, 0, none⟩ = some (.int .i64 a0_0) ∧ w'.cell? ⟨gb262, 1, none⟩ = some (.int .i64 a0_1) ∧ w'.cell? ⟨gb262, 2, none⟩ = some (.int .i64 a0_2) ∧ w'.cell? ⟨gb262, 3, none⟩ = some (.string a0_3)) ∧ (Kd.R k61 61 w' w.heap.size (fun _ => True) s_ y283) ∧ (w'.heap[gb262]? = some (.cells #[.int .i64 a0_0, .int .i64 a0_1, .int .i64 a0_2, .string a0_3] 29 (0, 0))) ∧ (Below w.heap.size w w')) ?_ ?_
        rotate_left
        ·intro hCont
         refine two_ (i := 15) (j := 18) (Ni := some 68) (Nj := some 71) #[true, true, true, true, true, true, true, true, true, true, true, true, true, true, true, true, true, true, false, false, false, false, false, false, false, false, false, false, false, false, false] #[true, true, true, true, true, true, true, true, true, true, true, true, true, true, true, false, true, true, true, false, false, false, false, false, false, false, false, false, false, false, false] rfl rfl rfl rfl (two_of HT_.out z0) (by decide) (by decide) (fun K hK => ?_) (fun K hK => ?_)
         ·skip
          refine Kd.R_lit_step k61 _ 61 ?hg (N := 68) ?hd (xs := ([(⟨t277, t278, t279⟩ : S61), (⟨0, a0_3, (⟨#[]⟩ : ByteArray)⟩ : S61), (⟨0, (⟨#[]⟩ : ByteArray), a1.extract (a0_1 : Int).toNat ((wrap64 (a0_1 + 1)) : Int).toNat⟩ : S61), (⟨t280, t281, t282⟩ : S61)] : List (S61))) (inner := [.int .i64 t277, .string t278, .string t279, .int .i64 0, .string a0_3, .string (⟨#[]⟩ : ByteArray), .int .i64 0, .string (⟨#[]⟩ : ByteArray), .string (a1.extract (a0_1 : Int).toNat ((wrap64 (a0_1 + 1)) : Int).toNat), .int .i64 t280, .string t281, .string t282]) (ok := fun _ => True) (okp := fun _ => True) ?hr ?hp (fun _ hk => hk) trivial (Below.refl _ _) (Nat.le_refl _) (by simp) ?_; (case hd => rfl); (case hg => rfl); (case hr => first | (go_simp; done) | (go_simp; rfl)); (case hp => exact (Reps.c3 (show Kd.M k61 _ _ _ (⟨t277, t278, t279⟩ : S61) [.int .i64 t277, .string t278, .string t279] from (k61_mkM _ _ _ (⟨t277, t278, t279⟩ : S61) )) (Reps.c3 (show Kd.M k61 _ _ _ (⟨0, a0_3, (⟨#[]⟩ : ByteArray)⟩ : S61) [.int .i64 0, .string a0_3, .string (⟨#[]⟩ : ByteArray)] from (k61_mkM _ _ _ (⟨0, a0_3, (⟨#[]⟩ : ByteArray)⟩ : S61) )) (Reps.c3 (show Kd.M k61 _ _ _ (⟨0, (⟨#[]⟩ : ByteArray), a1.extract (a0_1 : Int).toNat ((wrap64 (a0_1 + 1)) : Int).toNat⟩ : S61) [.int .i64 0, .string (⟨#[]⟩ : ByteArray), .string (a1.extract (a0_1 : Int).toNat ((wrap64 (a0_1 + 1)) : Int).toNat)] from (k61_mkM _ _ _ (⟨0, (⟨#[]⟩ : ByteArray), a1.extract (a0_1 : Int).toNat ((wrap64 (a0_1 + 1)) : Int).toNat⟩ : S61) )) (Reps.c3 (show Kd.M k61 _ _ _ (⟨t280, t281, t282⟩ : S61) [.int .i64 t280, .string t281, .string t282] from (k61_mkM _ _ _ (⟨t280, t281, t282⟩ : S61) )) (Reps.none _ _))))))
          intro v284 w42 ho43 hb hg_ hnew_
          clear hg_ hnew_
          (first | rw [← Ny283.out] at ho43 | (simp only [Int.reduceToNat] at ho43; rw [← Ny283.out] at ho43))
          have n0_ := aM (Kd.R_lower ho43 (below_size z14))
          have n1_ := aM (blk_below (g := gb262) (o := .cells #[.int .i64 a0_0, .int .i64 a0_1, .int .i64 a0_2, .string a0_3] 29 (0, 0)) z7 hb)
          have n2_ := aM (below_step z14 hb)
          clear BK262
          clear HB
          have HO285 := n0_
          have BK262 := n1_
          have HB := n2_
          clear n0_ n1_ n2_
          clear hb ho43
          refine hK.out _ _ ⟨(bC BK262.out 0).trans rfl, (bC BK262.out 1).trans rfl, (bC BK262.out 2).trans rfl, (bC BK262.out 3).trans rfl⟩ (fun hHeld => ?_)
          clear hK K
          refine norm_ (a' := ?_) ?_ ?_
          rotate_left
          ·show Act.put _ (some 68) _ = _
           simp only [Act.put, sA, sB, sC, i64_w, i32_w]
           rfl
          refine one_ (i := 18) (N := some 71) #[true, true, true, true, true, true, true, true, true, true, true, true, true, true, true, true, true, true, true, false, false, false, false, false, false, false, false, false, false, false, false] rfl rfl (one_of HT_.out z0) (by decide) (fun K hK => ?_)
          refine goes_ Try.func78 z0 rfl #[.string a0_3] (by rfl) rfl rfl z12 ?_
          with_reducible refine (impl_isNameText.calls a0_3 true _ A29.out).mono ?_
          rintro e w' ⟨rfl, ⟨nd, rfl⟩⟩
          refine ⟨_, rfl, ?_⟩
          refine hK.out _ _ ⟨(bC BK262.out 0).trans rfl, (bC BK262.out 1).trans rfl, (bC BK262.out 2).trans rfl, (bC BK262.out 3).trans rfl⟩ (fun hHeld => ?_)
          clear hK K
          refine norm_ (a' := ?_) ?_ ?_
          rotate_left
          ·show Act.put _ (some 71) _ = _
           simp only [Act.put, sA, sB, sC, i64_w, i32_w]
           rfl
          refine pA 19 72 ?_
          refine pA 20 73 ?_
          refine tA 21 74 ?_ (hy := by rintro w' ⟨s0, s1, s2, s3⟩; go_simp; with_reducible rfl)
          refine pA 22 75 ?_
          refine pA 23 76 ?_
          refine pA 24 77 ?_
          refine pA 25 78 ?_
          refine pA 26 79 ?_
          refine pA 27 80 ?_
          refine pA 28 81 ?_
          exact norm_ (by simp only [putAll, Act.put, sA, sB, sC] <;> rfl) (hCont (v284) _ ⟨hHeld, (by (with_reducible repeat (first | apply Kd.R_alloc | apply Kd.R_drewN | apply Kd.R_drew)); exact HO285.out), z7, z14⟩)
         ·skip
          refine goes_ Try.func78 z0 rfl #[.string a0_3] (by rfl) rfl rfl z12 ?_
          with_reducible refine (impl_isNameText.calls a0_3 true _ A29.out).mono ?_
          rintro e w' ⟨rfl, ⟨nd, rfl⟩⟩
          refine ⟨_, rfl, ?_⟩
          refine hK.out _ _ ⟨(bC BK262.out 0).trans rfl, (bC BK262.out 1).trans rfl, (bC BK262.out 2).trans rfl, (bC BK262.out 3).trans rfl⟩ (fun hHeld => ?_)
          clear hK K
          refine norm_ (a' := ?_) ?_ ?_
          rotate_left
          ·show Act.put _ (some 71) _ = _
           simp only [Act.put, sA, sB, sC, i64_w, i32_w]
           rfl
          refine pA 19 72 ?_
          refine pA 20 73 ?_
          refine tA 21 74 ?_ (hy := by rintro w' ⟨s0, s1, s2, s3⟩; go_simp; with_reducible rfl)
          refine pA 22 75 ?_
          refine pA 23 76 ?_
          refine pA 24 77 ?_
          refine pA 25 78 ?_
          refine pA 26 79 ?_
          refine pA 27 80 ?_
          refine pA 28 81 ?_
          refine one_ (i := 15) (N := some 68) #[true, true, true, true, true, true, true, true, true, true, true, true, true, true, true, true, true, true, true, true, true, true, true, true, true, true, true, true, true, false, false] rfl rfl (one_of HT_.out z0) (by decide) (fun K hK => ?_)
          refine Kd.R_lit_step k61 _ 61 ?hg (N := 68) ?hd (xs := ([(⟨t277, t278, t279⟩ : S61), (⟨0, a0_3, (⟨#[]⟩ : ByteArray)⟩ : S61), (⟨0, (⟨#[]⟩ : ByteArray), a1.extract (a0_1 : Int).toNat ((wrap64 (a0_1 + 1)) : Int).toNat⟩ : S61), (⟨t280, t281, t282⟩ : S61)] : List (S61))) (inner := [.int .i64 t277, .string t278, .string t279, .int .i64 0, .string a0_3, .string (⟨#[]⟩ : ByteArray), .int .i64 0, .string (⟨#[]⟩ : ByteArray), .string (a1.extract (a0_1 : Int).toNat ((wrap64 (a0_1 + 1)) : Int).toNat), .int .i64 t280, .string t281, .string t282]) (ok := fun _ => True) (okp := fun _ => True) ?hr ?hp (fun _ hk => hk) trivial (Below.refl _ _) (Nat.le_refl _) (by simp) ?_; (case hd => rfl); (case hg => rfl); (case hr => first | (go_simp; done) | (go_simp; rfl)); (case hp => exact (Reps.c3 (show Kd.M k61 _ _ _ (⟨t277, t278, t279⟩ : S61) [.int .i64 t277, .string t278, .string t279] from (k61_mkM _ _ _ (⟨t277, t278, t279⟩ : S61) )) (Reps.c3 (show Kd.M k61 _ _ _ (⟨0, a0_3, (⟨#[]⟩ : ByteArray)⟩ : S61) [.int .i64 0, .string a0_3, .string (⟨#[]⟩ : ByteArray)] from (k61_mkM _ _ _ (⟨0, a0_3, (⟨#[]⟩ : ByteArray)⟩ : S61) )) (Reps.c3 (show Kd.M k61 _ _ _ (⟨0, (⟨#[]⟩ : ByteArray), a1.extract (a0_1 : Int).toNat ((wrap64 (a0_1 + 1)) : Int).toNat⟩ : S61) [.int .i64 0, .string (⟨#[]⟩ : ByteArray), .string (a1.extract (a0_1 : Int).toNat ((wrap64 (a0_1 + 1)) : Int).toNat)] from (k61_mkM _ _ _ (⟨0, (⟨#[]⟩ : ByteArray), a1.extract (a0_1 : Int).toNat ((wrap64 (a0_1 + 1)) : Int).toNat⟩ : S61) )) (Reps.c3 (show Kd.M k61 _ _ _ (⟨t280, t281, t282⟩ : S61) [.int .i64 t280, .string t281, .string t282] from (k61_mkM _ _ _ (⟨t280, t281, t282⟩ : S61) )) (Reps.none _ _))))))
          intro v284 w42 ho43 hb hg_ hnew_
          clear hg_ hnew_
          (first | rw [← Ny283.out] at ho43 | (simp only [Int.reduceToNat] at ho43; rw [← Ny283.out] at ho43))
          have n0_ := aM (Kd.R_lower ho43 (below_size z14))
          have n1_ := aM (blk_below (g := gb262) (o := .cells #[.int .i64 a0_0, .int .i64 a0_1, .int .i64 a0_2, .string a0_3] 29 (0, 0)) z7 hb)
          have n2_ := aM (below_step z14 hb)
          clear BK262
          clear HB
          have HO285 := n0_
          have BK262 := n1_
          have HB := n2_
          clear n0_ n1_ n2_
          clear hb ho43
          refine hK.out _ _ ⟨(bC BK262.out 0).trans rfl, (bC BK262.out 1).trans rfl, (bC BK262.out 2).trans rfl, (bC BK262.out 3).trans rfl⟩ (fun hHeld => ?_)
          clear hK K
          refine norm_ (a' := ?_) ?_ ?_
          rotate_left
          ·show Act.put _ (some 68) _ = _
           simp only [Act.put, sA, sB, sC, i64_w, i32_w]
           rfl
          exact norm_ (by simp only [putAll, Act.put, sA, sB, sC] <;> rfl) (hCont (v284) _ ⟨hHeld, (by (with_reducible repeat (first | apply Kd.R_alloc | apply Kd.R_drewN | apply Kd.R_drew)); exact HO285.out), z7, z14⟩)
        rintro v284 w44 ⟨hS_, h0_, h1_, h2_⟩
        have n0_ : Aside0 (Kd.R k61 61 w44 w.heap.size (fun _ => True) v284 y283) := ⟨h0_⟩
        have n1_ : Aside0 (w44.heap[gb262]? = some (.cells #[.int .i64 a0_0, .int .i64 a0_1, .int .i64 a0_2, .string a0_3] 29 (0, 0))) := ⟨h1_⟩
        have n2_ : Aside0 (Below w.heap.size w w44) := ⟨h2_⟩
        clear BK262
        clear HB
        clear h0_ h1_ h2_
        have HO285 := n0_
        have BK262 := n1_
        have HB := n2_
        clear n0_ n1_ n2_
        have hHeld : w44.cell? ⟨gb262, 0, none⟩ = some (.int .i64 a0_0) ∧ w44.cell? ⟨gb262, 1, none⟩ = some (.int .i64 a0_1) ∧ w44.cell? ⟨gb262, 2, none⟩ = some (.int .i64 a0_2) ∧ w44.cell? ⟨gb262, 3, none⟩ = some (.string a0_3) := hS_
        refine norm_ (a' := ?_) ?_ ?_
        rotate_left
        ·simp only [putAll, Act.put, sA, sB, sC]
         rfl
        refine pA 29 4 ?_
        refine pA 30 5 ?_
        refine done_ (done_of HT_.out z0) ?_
        try go_wp2
        go_ret2
        exact ⟨_, y3, by (with_reducible repeat (first | apply Kd.R_alloc | apply Kd.R_drewN | apply Kd.R_drew)); exact HO285.out, y20⟩
       ·replace c30 := Bool.eq_false_iff.mpr c30
        subst c30
        rw [if_neg (show ¬ (false = true) by decide)] at H
        simp only [Option.some.injEq, Prod.mk.injEq] at H
        obtain ⟨rfl, rfl⟩ := H
        go_enter Try.func80, Try.ntmps80
        try go_wp2_with (first | ((with_reducible refine gate_dst (N := 2) rfl ?_); refine box_event ?hg (N := 2) ?hd (cs := #[.int .i64 a0_0, .int .i64 a0_1, .int .i64 a0_2, .string a0_3]) (t := 29) ?hr ?_; (case hd => rfl); (case hg => rfl); (case hr => first | (go_simp; done) | (go_simp; rfl)); intro gb262 hg w45 hbox hb; have n0_ := aM (below_step z11 hb); have n1_ := aM (hbox); have n2_ := aM ((by rw [hg]; exact (below_size z11) : w.heap.size ≤ gb262)); have n3_ := aM ((by rw [hg]; exact (below_size z11) : w.heap.size ≤ gb262)); clear HB; have HB := n0_; have BK262 := n1_; have GW262 := n2_; have GE262 := n3_; clear n0_ n1_ n2_ n3_; clear hb hbox hg; have hcz46_0 : w45.cell? ⟨gb262, 0, none⟩ = some (.int .i64 a0_0) := (bC BK262.out 0).trans rfl; have hcz46_1 : w45.cell? ⟨gb262, 1, none⟩ = some (.int .i64 a0_1) := (bC BK262.out 1).trans rfl; have hcz46_2 : w45.cell? ⟨gb262, 2, none⟩ = some (.int .i64 a0_2) := (bC BK262.out 2).trans rfl; have hcz46_3 : w45.cell? ⟨gb262, 3, none⟩ = some (.string a0_3) := (bC BK262.out 3).trans rfl; have hfz46_0 := bF BK262.out 0; have hfz46_1 := bF BK262.out 1; have hfz46_2 := bF BK262.out 2; have hfz46_3 := bF BK262.out 3) | ((with_reducible refine gate_callee (f := 52) rfl ?_); refine goesL_ (some 17) rfl rfl Try.func52 z0 rfl #[.string a1, .int .i64 a0_1] rfl z12 ?_; (with_reducible refine (impl_beginsAt.calls k a1 a0_1 t263 true _ A3.out).mono ?_); rintro e w47 ⟨rfl, hb⟩; refine ⟨_, rfl, ?_⟩; have n0_ := aM (blk_below (g := gb262) (o := .cells #[.int .i64 a0_0, .int .i64 a0_1, .int .i64 a0_2, .string a0_3] 29 (0, 0)) z7 hb); have n1_ := aM (below_step z14 hb); clear BK262; clear HB; have BK262 := n0_; have HB := n1_; clear n0_ n1_; (try clear hb); (try clear hb2); (try clear hk); (try clear hi)))
        have n0_ := aM (blk_drew BK262.out)
        have n1_ := aM (bD HB.out)
        clear BK262
        clear HB
        have BK262 := n0_
        have HB := n1_
        clear n0_ n1_
        refine start_ (n := 12) (S := fun w' => w'.cell? ⟨gb262, 0, none⟩ = some (.int .i64 a0_0) ∧ w'.cell? ⟨gb262, 1, none⟩ = some (.int .i64 a0_1) ∧ w'.cell? ⟨gb262, 2, none⟩ = some (.int .i64 a0_2) ∧ w'.cell? ⟨gb262, 3, none⟩ = some (.string a0_3)) (ds := []) #[false, false, false, false, false, false, false, false, false, false, false, false] z0 rfl rfl ⟨(bC BK262.out 0).trans rfl, (bC BK262.out 1).trans rfl, (bC BK262.out 2).trans rfl, (bC BK262.out 3).trans rfl⟩ (fun hHeld => ?_); refine with_tabW impl_Command_onElement.tab4 impl_Command_onElement.bits4 (fun HT_ HW_ => ?_)
        generalize w47.drew = w48 at BK262 HB hHeld ⊢
        refine pA 0 22 ?_
        refine pA 2 24 ?_
        refine pA 4 26 ?_
        refine pA 5 27 ?_
        refine pA 6 28 ?_
        refine pA 7 29 ?_
        refine tA 1 23 ?_ (hy := by rintro w' ⟨s0, s1, s2, s3⟩; go_simp; with_reducible rfl)
        refine pA 8 8 ?_
        refine tA 3 25 ?_ (hy := by rintro w' ⟨s0, s1, s2, s3⟩; go_simp; with_reducible rfl)
        refine pA 9 9 ?_
        refine pA 10 10 ?_
        refine pA 11 11 ?_
        refine done_ (done_of HT_.out z0) ?_
        have hcz49_0 : w48.cell? ⟨gb262, 0, none⟩ = some (.int .i64 a0_0) := (bC BK262.out 0).trans rfl
        have hcz49_1 : w48.cell? ⟨gb262, 1, none⟩ = some (.int .i64 a0_1) := (bC BK262.out 1).trans rfl
        have hcz49_2 : w48.cell? ⟨gb262, 2, none⟩ = some (.int .i64 a0_2) := (bC BK262.out 2).trans rfl
        have hcz49_3 : w48.cell? ⟨gb262, 3, none⟩ = some (.string a0_3) := (bC BK262.out 3).trans rfl
        have hfz49_0 := bF BK262.out 0
        have hfz49_1 := bF BK262.out 1
        have hfz49_2 := bF BK262.out 2
        have hfz49_3 := bF BK262.out 3
        try go_wp2
        have n0_ := aM (blk_drew BK262.out)
        have n1_ := aM (bD HB.out)
        clear BK262
        clear HB
        have BK262 := n0_
        have HB := n1_
        clear n0_ n1_
        refine start_ (n := 31) (S := fun w' => w'.cell? ⟨gb262, 0, none⟩ = some (.int .i64 a0_0) ∧ w'.cell? ⟨gb262, 1, none⟩ = some (.int .i64 a0_1) ∧ w'.cell? ⟨gb262, 2, none⟩ = some (.int .i64 a0_2) ∧ w'.cell? ⟨gb262, 3, none⟩ = some (.string a0_3)) (ds := []) #[false, false, false, false, false, false, false, false, false, false, false, false, false, false, false, false, false, false, false, false, false, false, false, false, false, false, false, false, false, false, false] z0 rfl rfl ⟨(bC BK262.out 0).trans rfl, (bC BK262.out 1).trans rfl, (bC BK262.out 2).trans rfl, (bC BK262.out 3).trans rfl⟩ (fun hHeld => ?_); refine with_tabW impl_Command_onElement.tab9 impl_Command_onElement.bits9 (fun HT_ HW_ => ?_)
        generalize w48.drew = w50 at BK262 HB hHeld ⊢
        refine pA 0 53 ?_
        refine pA 2 55 ?_
        refine pA 5 58 ?_
        refine pA 6 59 ?_
        refine pA 7 60 ?_
        refine pA 8 61 ?_
        refine pA 9 62 ?_
        refine pA 10 63 ?_
        refine pA 11 64 ?_
        refine pA 12 65 ?_
        refine pA 13 66 ?_
        refine pA 16 69 ?_
        refine tA 3 56 ?_ (hy := by rintro w' ⟨s0, s1, s2, s3⟩; go_simp; with_reducible rfl)
        refine pA 4 57 ?_
        refine tA 17 70 ?_ (hy := by rintro w' ⟨s0, s1, s2, s3⟩; go_simp; with_reducible rfl)
        refine one_ (i := 1) (N := some 54) #[true, true, true, true, true, true, true, true, true, true, true, true, true, true, false, false, true, true, false, false, false, false, false, false, false, false, false, false, false, false, false] rfl rfl (one_of HT_.out z0) (by decide) (fun K hK => ?_)
        refine goes_ Try.func77 z0 rfl #[.int .i64 0, .int .i64 a0_1] (by rfl) rfl rfl z12 ?_
        with_reducible refine (impl_keepTo.calls 0 a0_1 t277 t278 t279 _ A24.out).mono ?_
        rintro e w51 ⟨rfl, hb⟩
        refine ⟨_, rfl, ?_⟩
        have n0_ := aM (blk_below (g := gb262) (o := .cells #[.int .i64 a0_0, .int .i64 a0_1, .int .i64 a0_2, .string a0_3] 29 (0, 0)) z7 hb)
        have n1_ := aM (below_step z14 hb)
        clear BK262
        clear HB
        have BK262 := n0_
        have HB := n1_
        clear n0_ n1_
        (try clear hb)
        (try clear hb2)
        (try clear hk)
        (try clear hi)
        refine hK.out _ _ ⟨(bC BK262.out 0).trans rfl, (bC BK262.out 1).trans rfl, (bC BK262.out 2).trans rfl, (bC BK262.out 3).trans rfl⟩ (fun hHeld => ?_)
        clear hK K
        refine norm_ (a' := ?_) ?_ ?_
        rotate_left
        ·show Act.put _ (some 54) _ = _
         simp only [Act.put, sA, sB, sC, i64_w, i32_w]
         rfl
        refine one_ (i := 14) (N := some 67) #[true, true, true, true, true, true, true, true, true, true, true, true, true, true, true, false, true, true, false, false, false, false, false, false, false, false, false, false, false, false, false] rfl rfl (one_of HT_.out z0) (by decide) (fun K hK => ?_)
        refine goes_ Try.func77 z0 rfl #[.int .i64 (wrap64 (a0_1 + 1)), .int .i64 (a1.size : Int)] (by rfl) rfl rfl z12 ?_
        with_reducible refine (impl_keepTo.calls (wrap64 (a0_1 + 1)) (a1.size : Int) t280 t281 t282 _ A28.out).mono ?_
        rintro e w52 ⟨rfl, hb⟩
        refine ⟨_, rfl, ?_⟩
        have n0_ := aM (blk_below (g := gb262) (o := .cells #[.int .i64 a0_0, .int .i64 a0_1, .int .i64 a0_2, .string a0_3] 29 (0, 0)) z7 hb)
        have n1_ := aM (below_step z14 hb)
        clear BK262
        clear HB
        have BK262 := n0_
        have HB := n1_
        clear n0_ n1_
        (try clear hb)
        (try clear hb2)
        (try clear hk)
        (try clear hi)
        refine hK.out _ _ ⟨(bC BK262.out 0).trans rfl, (bC BK262.out 1).trans rfl, (bC BK262.out 2).trans rfl, (bC BK262.out 3).trans rfl⟩ (fun hHeld => ?_)
        clear hK K
        refine norm_ (a' := ?_) ?_ ?_
        rotate_left
        ·show Act.put _ (some 67) _ = _
         simp only [Act.put, sA, sB, sC, i64_w, i32_w]
         rfl
        refine join_ (σ := Value) 2 #[true, true, true, true, true, true, true, true, true, true, true, true, true, true, true, true, true, true, true, true, true, true, true, true, true, true, true, true, true, false, false] (fun s_ => [(68, s_), (71, .bool false), (72, .bool false), (81, .bool false)]) (fun s_ w' => (w'.cell? ⟨gb262, 0, none⟩ = some (.int .i64 a0_0) ∧ w'.cell? ⟨gb262, 1, none⟩ = some (.int .i64 a0_1) ∧ w'.cell? ⟨gb262, 2, none⟩ = some (.int .i64 a0_2) ∧ w'.cell? ⟨gb262, 3, none⟩ = some (.string a0_3)) ∧ (Kd.R k61 61 w' w.heap.size (fun _ => True) s_ y283) ∧ (w'.heap[gb262]? = some (.cells #[.int .i64 a0_0, .int .i64 a0_1, .int .i64 a0_2, .string a0_3] 29 (0, 0))) ∧ (Below w.heap.size w w')) ?_ ?_
        rotate_left
        ·intro hCont
         refine two_ (i := 15) (j := 18) (Ni := some 68) (Nj := some 71) #[true, true, true, true, true, true, true, true, true, true, true, true, true, true, true, true, true, true, false, false, false, false, false, false, false, false, false, false, false, false, false] #[true, true, true, true, true, true, true, true, true, true, true, true, true, true, true, false, true, true, true, false, false, false, false, false, false, false, false, false, false, false, false] rfl rfl rfl rfl (two_of HT_.out z0) (by decide) (by decide) (fun K hK => ?_) (fun K hK => ?_)
         ·skip
          refine Kd.R_lit_step k61 _ 61 ?hg (N := 68) ?hd (xs := ([(⟨t277, t278, t279⟩ : S61), (⟨0, a0_3, (⟨#[]⟩ : ByteArray)⟩ : S61), (⟨0, (⟨#[]⟩ : ByteArray), a1.extract (a0_1 : Int).toNat ((wrap64 (a0_1 + 1)) : Int).toNat⟩ : S61), (⟨t280, t281, t282⟩ : S61)] : List (S61))) (inner := [.int .i64 t277, .string t278, .string t279, .int .i64 0, .string a0_3, .string (⟨#[]⟩ : ByteArray), .int .i64 0, .string (⟨#[]⟩ : ByteArray), .string (a1.extract (a0_1 : Int).toNat ((wrap64 (a0_1 + 1)) : Int).toNat), .int .i64 t280, .string t281, .string t282]) (ok := fun _ => True) (okp := fun _ => True) ?hr ?hp (fun _ hk => hk) trivial (Below.refl _ _) (Nat.le_refl _) (by simp) ?_; (case hd => rfl); (case hg => rfl); (case hr => first | (go_simp; done) | (go_simp; rfl)); (case hp => exact (Reps.c3 (show Kd.M k61 _ _ _ (⟨t277, t278, t279⟩ : S61) [.int .i64 t277, .string t278, .string t279] from (k61_mkM _ _ _ (⟨t277, t278, t279⟩ : S61) )) (Reps.c3 (show Kd.M k61 _ _ _ (⟨0, a0_3, (⟨#[]⟩ : ByteArray)⟩ : S61) [.int .i64 0, .string a0_3, .string (⟨#[]⟩ : ByteArray)] from (k61_mkM _ _ _ (⟨0, a0_3, (⟨#[]⟩ : ByteArray)⟩ : S61) )) (Reps.c3 (show Kd.M k61 _ _ _ (⟨0, (⟨#[]⟩ : ByteArray), a1.extract (a0_1 : Int).toNat ((wrap64 (a0_1 + 1)) : Int).toNat⟩ : S61) [.int .i64 0, .string (⟨#[]⟩ : ByteArray), .string (a1.extract (a0_1 : Int).toNat ((wrap64 (a0_1 + 1)) : Int).toNat)] from (k61_mkM _ _ _ (⟨0, (⟨#[]⟩ : ByteArray), a1.extract (a0_1 : Int).toNat ((wrap64 (a0_1 + 1)) : Int).toNat⟩ : S61) )) (Reps.c3 (show Kd.M k61 _ _ _ (⟨t280, t281, t282⟩ : S61) [.int .i64 t280, .string t281, .string t282] from (k61_mkM _ _ _ (⟨t280, t281, t282⟩ : S61) )) (Reps.none _ _))))))
          intro v284 w53 ho54 hb hg_ hnew_
          clear hg_ hnew_
          (first | rw [← Ny283.out] at ho54 | (simp only [Int.reduceToNat] at ho54; rw [← Ny283.out] at ho54))
          have n0_ := aM (Kd.R_lower ho54 (below_size z14))
          have n1_ := aM (blk_below (g := gb262) (o := .cells #[.int .i64 a0_0, .int .i64 a0_1, .int .i64 a0_2, .string a0_3] 29 (0, 0)) z7 hb)
          have n2_ := aM (below_step z14 hb)
          clear BK262
          clear HB
          have HO285 := n0_
          have BK262 := n1_
          have HB := n2_
          clear n0_ n1_ n2_
          clear hb ho54
          refine hK.out _ _ ⟨(bC BK262.out 0).trans rfl, (bC BK262.out 1).trans rfl, (bC BK262.out 2).trans rfl, (bC BK262.out 3).trans rfl⟩ (fun hHeld => ?_)
          clear hK K
          refine norm_ (a' := ?_) ?_ ?_
          rotate_left
          ·show Act.put _ (some 68) _ = _
           simp only [Act.put, sA, sB, sC, i64_w, i32_w]
           rfl
          refine one_ (i := 18) (N := some 71) #[true, true, true, true, true, true, true, true, true, true, true, true, true, true, true, true, true, true, true, false, false, false, false, false, false, false, false, false, false, false, false] rfl rfl (one_of HT_.out z0) (by decide) (fun K hK => ?_)
          refine goes_ Try.func78 z0 rfl #[.string a0_3] (by rfl) rfl rfl z12 ?_
          with_reducible refine (impl_isNameText.calls a0_3 false _ A29.out).mono ?_
          rintro e w' ⟨rfl, ⟨nd, rfl⟩⟩
          refine ⟨_, rfl, ?_⟩
          refine hK.out _ _ ⟨(bC BK262.out 0).trans rfl, (bC BK262.out 1).trans rfl, (bC BK262.out 2).trans rfl, (bC BK262.out 3).trans rfl⟩ (fun hHeld => ?_)
          clear hK K
          refine norm_ (a' := ?_) ?_ ?_
          rotate_left
          ·show Act.put _ (some 71) _ = _
           simp only [Act.put, sA, sB, sC, i64_w, i32_w]
           rfl
          refine pA 19 72 ?_
          refine pB 20 73 ?_
          refine pB 21 74 ?_
          refine pB 22 75 ?_
          refine pB 23 76 ?_
          refine pB 24 77 ?_
          refine pB 25 78 ?_
          refine pB 26 79 ?_
          refine pB 27 80 ?_
          refine pA 28 81 ?_
          exact norm_ (by simp only [putAll, Act.put, sA, sB, sC] <;> rfl) (hCont (v284) _ ⟨hHeld, (by (with_reducible repeat (first | apply Kd.R_alloc | apply Kd.R_drewN | apply Kd.R_drew)); exact HO285.out), z7, z14⟩)
         ·skip
          refine goes_ Try.func78 z0 rfl #[.string a0_3] (by rfl) rfl rfl z12 ?_
          with_reducible refine (impl_isNameText.calls a0_3 false _ A29.out).mono ?_
          rintro e w' ⟨rfl, ⟨nd, rfl⟩⟩
          refine ⟨_, rfl, ?_⟩
          refine hK.out _ _ ⟨(bC BK262.out 0).trans rfl, (bC BK262.out 1).trans rfl, (bC BK262.out 2).trans rfl, (bC BK262.out 3).trans rfl⟩ (fun hHeld => ?_)
          clear hK K
          refine norm_ (a' := ?_) ?_ ?_
          rotate_left
          ·show Act.put _ (some 71) _ = _
           simp only [Act.put, sA, sB, sC, i64_w, i32_w]
           rfl
          refine pA 19 72 ?_
          refine pB 20 73 ?_
          refine pB 21 74 ?_
          refine pB 22 75 ?_
          refine pB 23 76 ?_
          refine pB 24 77 ?_
          refine pB 25 78 ?_
          refine pB 26 79 ?_
          refine pB 27 80 ?_
          refine pA 28 81 ?_
          refine one_ (i := 15) (N := some 68) #[true, true, true, true, true, true, true, true, true, true, true, true, true, true, true, true, true, true, true, true, true, true, true, true, true, true, true, true, true, false, false] rfl rfl (one_of HT_.out z0) (by decide) (fun K hK => ?_)
          refine Kd.R_lit_step k61 _ 61 ?hg (N := 68) ?hd (xs := ([(⟨t277, t278, t279⟩ : S61), (⟨0, a0_3, (⟨#[]⟩ : ByteArray)⟩ : S61), (⟨0, (⟨#[]⟩ : ByteArray), a1.extract (a0_1 : Int).toNat ((wrap64 (a0_1 + 1)) : Int).toNat⟩ : S61), (⟨t280, t281, t282⟩ : S61)] : List (S61))) (inner := [.int .i64 t277, .string t278, .string t279, .int .i64 0, .string a0_3, .string (⟨#[]⟩ : ByteArray), .int .i64 0, .string (⟨#[]⟩ : ByteArray), .string (a1.extract (a0_1 : Int).toNat ((wrap64 (a0_1 + 1)) : Int).toNat), .int .i64 t280, .string t281, .string t282]) (ok := fun _ => True) (okp := fun _ => True) ?hr ?hp (fun _ hk => hk) trivial (Below.refl _ _) (Nat.le_refl _) (by simp) ?_; (case hd => rfl); (case hg => rfl); (case hr => first | (go_simp; done) | (go_simp; rfl)); (case hp => exact (Reps.c3 (show Kd.M k61 _ _ _ (⟨t277, t278, t279⟩ : S61) [.int .i64 t277, .string t278, .string t279] from (k61_mkM _ _ _ (⟨t277, t278, t279⟩ : S61) )) (Reps.c3 (show Kd.M k61 _ _ _ (⟨0, a0_3, (⟨#[]⟩ : ByteArray)⟩ : S61) [.int .i64 0, .string a0_3, .string (⟨#[]⟩ : ByteArray)] from (k61_mkM _ _ _ (⟨0, a0_3, (⟨#[]⟩ : ByteArray)⟩ : S61) )) (Reps.c3 (show Kd.M k61 _ _ _ (⟨0, (⟨#[]⟩ : ByteArray), a1.extract (a0_1 : Int).toNat ((wrap64 (a0_1 + 1)) : Int).toNat⟩ : S61) [.int .i64 0, .string (⟨#[]⟩ : ByteArray), .string (a1.extract (a0_1 : Int).toNat ((wrap64 (a0_1 + 1)) : Int).toNat)] from (k61_mkM _ _ _ (⟨0, (⟨#[]⟩ : ByteArray), a1.extract (a0_1 : Int).toNat ((wrap64 (a0_1 + 1)) : Int).toNat⟩ : S61) )) (Reps.c3 (show Kd.M k61 _ _ _ (⟨t280, t281, t282⟩ : S61) [.int .i64 t280, .string t281, .string t282] from (k61_mkM _ _ _ (⟨t280, t281, t282⟩ : S61) )) (Reps.none _ _))))))
          intro v284 w53 ho54 hb hg_ hnew_
          clear hg_ hnew_
          (first | rw [← Ny283.out] at ho54 | (simp only [Int.reduceToNat] at ho54; rw [← Ny283.out] at ho54))
          have n0_ := aM (Kd.R_lower ho54 (below_size z14))
          have n1_ := aM (blk_below (g := gb262) (o := .cells #[.int .i64 a0_0, .int .i64 a0_1, .int .i64 a0_2, .string a0_3] 29 (0, 0)) z7 hb)
          have n2_ := aM (below_step z14 hb)
          clear BK262
          clear HB
          have HO285 := n0_
          have BK262 := n1_
          have HB := n2_
          clear n0_ n1_ n2_
          clear hb ho54
          refine hK.out _ _ ⟨(bC BK262.out 0).trans rfl, (bC BK262.out 1).trans rfl, (bC BK262.out 2).trans rfl, (bC BK262.out 3).trans rfl⟩ (fun hHeld => ?_)
          clear hK K
          refine norm_ (a' := ?_) ?_ ?_
          rotate_left
          ·show Act.put _ (some 68) _ = _
           simp only [Act.put, sA, sB, sC, i64_w, i32_w]
           rfl
          exact norm_ (by simp only [putAll, Act.put, sA, sB, sC] <;> rfl) (hCont (v284) _ ⟨hHeld, (by (with_reducible repeat (first | apply Kd.R_alloc | apply Kd.R_drewN | apply Kd.R_drew)); exact HO285.out), z7, z14⟩)
        rintro v284 w55 ⟨hS_, h0_, h1_, h2_⟩
        have n0_ : Aside0 (Kd.R k61 61 w55 w.heap.size (fun _ => True) v284 y283) := ⟨h0_⟩
        have n1_ : Aside0 (w55.heap[gb262]? = some (.cells #[.int .i64 a0_0, .int .i64 a0_1, .int .i64 a0_2, .string a0_3] 29 (0, 0))) := ⟨h1_⟩
        have n2_ : Aside0 (Below w.heap.size w w55) := ⟨h2_⟩
        clear BK262
        clear HB
        clear h0_ h1_ h2_
        have HO285 := n0_
        have BK262 := n1_
        have HB := n2_
        clear n0_ n1_ n2_
        have hHeld : w55.cell? ⟨gb262, 0, none⟩ = some (.int .i64 a0_0) ∧ w55.cell? ⟨gb262, 1, none⟩ = some (.int .i64 a0_1) ∧ w55.cell? ⟨gb262, 2, none⟩ = some (.int .i64 a0_2) ∧ w55.cell? ⟨gb262, 3, none⟩ = some (.string a0_3) := hS_
        refine norm_ (a' := ?_) ?_ ?_
        rotate_left
        ·simp only [putAll, Act.put, sA, sB, sC]
         rfl
        refine pA 29 4 ?_
        refine pA 30 5 ?_
        refine done_ (done_of HT_.out z0) ?_
        try go_wp2
        go_ret2
        exact ⟨_, y3, by (with_reducible repeat (first | apply Kd.R_alloc | apply Kd.R_drewN | apply Kd.R_drew)); exact HO285.out, y20⟩
      ·rw [if_neg c27] at H
       exact absurd H (by simp)
     ·rw [if_neg c26] at H
      exact absurd H (by simp)
    ·rw [if_neg c25] at H
     exact absurd H (by simp)
   ·rw [if_neg c23] at H
    have c23b0 : (a0_0 == 8) = false := qF c23
    have c23b1 : (a0_0 != 8) = true := nT c23
    by_cases c56 : a0_0 = 7
    ·rw [if_pos c56] at H
     have c56b0 : (a0_0 == 7) = true := qT c56
     have c56b1 : (a0_0 != 7) = false := nF c56
     clear c56
     by_cases c57 : 0 ≤ a0_1
     ·rw [if_pos c57] at H
      have c57b0 := eq_true c57
      have c57b1 : decide (0 ≤ a0_1) = true := dT c57
      clear c57
      by_cases c58 : a0_1 ≤ (wrap64 (t263 + 1))
      ·rw [if_pos c58] at H
       have c58b0 := eq_true c58
       have c58b1 : decide (a0_1 ≤ (wrap64 (t263 + 1))) = true := dT c58
       by_cases c59 : (wrap64 (t263 + 1)) ≤ (a1.size : Int)
       ·rw [if_pos c59] at H
        have c59b0 := eq_true c59
        have c59b1 : decide ((wrap64 (t263 + 1)) ≤ (a1.size : Int)) = true := dT c59
        by_cases c60 : a0_2 < a0_1
        ·rw [if_pos c60] at H
         have c60b0 : decide (a0_2 < a0_1) = true := dT c60
         clear c60
         replace H := oB H
         obtain ⟨⟨t287, t288, t289⟩, A610, H⟩ := H
         try dsimp only at H
         have A61 := aM A610
         clear A610
         replace H := oB H
         obtain ⟨⟨t290, t291, t292⟩, A620, H⟩ := H
         try dsimp only at H
         have A62 := aM A620
         clear A620
         replace H := oB H
         obtain ⟨⟨t293, t294, t295⟩, A630, H⟩ := H
         try dsimp only at H
         have A63 := aM A630
         clear A630
         obtain ⟨y296, hy296⟩ : ∃ y_ : List (S61), y_ = (([(⟨t287, t288, t289⟩ : S61), (⟨0, a1.extract (a0_1 : Int).toNat ((wrap64 (t263 + 1)) : Int).toNat, (⟨#[]⟩ : ByteArray)⟩ : S61), (⟨t290, t291, t292⟩ : S61), (⟨0, (⟨#[]⟩ : ByteArray), a1.extract (a0_1 : Int).toNat ((wrap64 (t263 + 1)) : Int).toNat⟩ : S61), (⟨t293, t294, t295⟩ : S61)] : List (S61))) := ⟨_, rfl⟩
         replace H : (some (y296, true)) = some (r1, r2) := by first | (rw [hy296]; with_reducible exact H) | (have H2_ := (Option.bind_some _ _).symm.trans H; rw [hy296]; with_reducible exact H2_) | (have H2_ := (Option.bind_some _ _).symm.trans H; with_reducible exact H2_) | with_reducible exact H | (rw [hy296]; exact H) | exact H
         have Ny296 := aM hy296
         clear hy296
         simp only [Option.some.injEq, Prod.mk.injEq] at H
         obtain ⟨rfl, rfl⟩ := H
         go_enter Try.func80, Try.ntmps80
         try go_wp2_with (first | ((with_reducible refine gate_dst (N := 2) rfl ?_); refine box_event ?hg (N := 2) ?hd (cs := #[.int .i64 a0_0, .int .i64 a0_1, .int .i64 a0_2, .string a0_3]) (t := 29) ?hr ?_; (case hd => rfl); (case hg => rfl); (case hr => first | (go_simp; done) | (go_simp; rfl)); intro gb262 hg w64 hbox hb; have n0_ := aM (below_step z11 hb); have n1_ := aM (hbox); have n2_ := aM ((by rw [hg]; exact (below_size z11) : w.heap.size ≤ gb262)); have n3_ := aM ((by rw [hg]; exact (below_size z11) : w.heap.size ≤ gb262)); clear HB; have HB := n0_; have BK262 := n1_; have GW262 := n2_; have GE262 := n3_; clear n0_ n1_ n2_ n3_; clear hb hbox hg; have hcz65_0 : w64.cell? ⟨gb262, 0, none⟩ = some (.int .i64 a0_0) := (bC BK262.out 0).trans rfl; have hcz65_1 : w64.cell? ⟨gb262, 1, none⟩ = some (.int .i64 a0_1) := (bC BK262.out 1).trans rfl; have hcz65_2 : w64.cell? ⟨gb262, 2, none⟩ = some (.int .i64 a0_2) := (bC BK262.out 2).trans rfl; have hcz65_3 : w64.cell? ⟨gb262, 3, none⟩ = some (.string a0_3) := (bC BK262.out 3).trans rfl; have hfz65_0 := bF BK262.out 0; have hfz65_1 := bF BK262.out 1; have hfz65_2 := bF BK262.out 2; have hfz65_3 := bF BK262.out 3) | ((with_reducible refine gate_callee (f := 52) rfl ?_); refine goesL_ (some 17) rfl rfl Try.func52 z0 rfl #[.string a1, .int .i64 a0_1] rfl z12 ?_; (with_reducible refine (impl_beginsAt.calls k a1 a0_1 t263 true _ A3.out).mono ?_); rintro e w66 ⟨rfl, hb⟩; refine ⟨_, rfl, ?_⟩; have n0_ := aM (blk_below (g := gb262) (o := .cells #[.int .i64 a0_0, .int .i64 a0_1, .int .i64 a0_2, .string a0_3] 29 (0, 0)) z7 hb); have n1_ := aM (below_step z14 hb); clear BK262; clear HB; have BK262 := n0_; have HB := n1_; clear n0_ n1_; (try clear hb); (try clear hb2); (try clear hk); (try clear hi)))
         have n0_ := aM (blk_drew BK262.out)
         have n1_ := aM (bD HB.out)
         clear BK262
         clear HB
         have BK262 := n0_
         have HB := n1_
         clear n0_ n1_
         refine start_ (n := 12) (S := fun w' => w'.cell? ⟨gb262, 0, none⟩ = some (.int .i64 a0_0) ∧ w'.cell? ⟨gb262, 1, none⟩ = some (.int .i64 a0_1) ∧ w'.cell? ⟨gb262, 2, none⟩ = some (.int .i64 a0_2) ∧ w'.cell? ⟨gb262, 3, none⟩ = some (.string a0_3)) (ds := []) #[false, false, false, false, false, false, false, false, false, false, false, false] z0 rfl rfl ⟨(bC BK262.out 0).trans rfl, (bC BK262.out 1).trans rfl, (bC BK262.out 2).trans rfl, (bC BK262.out 3).trans rfl⟩ (fun hHeld => ?_); refine with_tabW impl_Command_onElement.tab4 impl_Command_onElement.bits4 (fun HT_ HW_ => ?_)
         generalize w66.drew = w67 at BK262 HB hHeld ⊢
         refine pA 0 22 ?_
         refine pA 2 24 ?_
         refine pA 4 26 ?_
         refine pA 5 27 ?_
         refine pA 6 28 ?_
         refine pA 7 29 ?_
         refine tA 1 23 ?_ (hy := by rintro w' ⟨s0, s1, s2, s3⟩; go_simp; with_reducible rfl)
         refine pA 8 8 ?_
         refine tA 3 25 ?_ (hy := by rintro w' ⟨s0, s1, s2, s3⟩; go_simp; with_reducible rfl)
         refine pA 9 9 ?_
         refine pA 10 10 ?_
         refine pA 11 11 ?_
         refine done_ (done_of HT_.out z0) ?_
         have hcz68_0 : w67.cell? ⟨gb262, 0, none⟩ = some (.int .i64 a0_0) := (bC BK262.out 0).trans rfl
         have hcz68_1 : w67.cell? ⟨gb262, 1, none⟩ = some (.int .i64 a0_1) := (bC BK262.out 1).trans rfl
         have hcz68_2 : w67.cell? ⟨gb262, 2, none⟩ = some (.int .i64 a0_2) := (bC BK262.out 2).trans rfl
         have hcz68_3 : w67.cell? ⟨gb262, 3, none⟩ = some (.string a0_3) := (bC BK262.out 3).trans rfl
         have hfz68_0 := bF BK262.out 0
         have hfz68_1 := bF BK262.out 1
         have hfz68_2 := bF BK262.out 2
         have hfz68_3 := bF BK262.out 3
         try go_wp2_with (first | ((with_reducible refine gate_callee (f := 77) rfl ?_); refine goesL_ (some 92) rfl rfl Try.func77 z0 rfl #[.int .i64 0, .int .i64 a0_2] rfl z12 ?_; (with_reducible refine (impl_keepTo.calls 0 a0_2 t287 t288 t289 _ A61.out).mono ?_); rintro e w69 ⟨rfl, hb⟩; refine ⟨_, rfl, ?_⟩; have n0_ := aM (blk_below (g := gb262) (o := .cells #[.int .i64 a0_0, .int .i64 a0_1, .int .i64 a0_2, .string a0_3] 29 (0, 0)) z7 hb); have n1_ := aM (below_step z14 hb); clear BK262; clear HB; have BK262 := n0_; have HB := n1_; clear n0_ n1_; (try clear hb); (try clear hb2); (try clear hk); (try clear hi)) | ((with_reducible refine gate_callee (f := 77) rfl ?_); refine goesL_ (some 97) rfl rfl Try.func77 z0 rfl #[.int .i64 a0_2, .int .i64 a0_1] rfl z12 ?_; (with_reducible refine (impl_keepTo.calls a0_2 a0_1 t290 t291 t292 _ A62.out).mono ?_); rintro e w70 ⟨rfl, hb⟩; refine ⟨_, rfl, ?_⟩; have n0_ := aM (blk_below (g := gb262) (o := .cells #[.int .i64 a0_0, .int .i64 a0_1, .int .i64 a0_2, .string a0_3] 29 (0, 0)) z7 hb); have n1_ := aM (below_step z14 hb); clear BK262; clear HB; have BK262 := n0_; have HB := n1_; clear n0_ n1_; (try clear hb); (try clear hb2); (try clear hk); (try clear hi)) | ((with_reducible refine gate_callee (f := 77) rfl ?_); refine goesL_ (some 102) rfl rfl Try.func77 z0 rfl #[.int .i64 (wrap64 (t263 + 1)), .int .i64 (a1.size : Int)] rfl z12 ?_; (with_reducible refine (impl_keepTo.calls (wrap64 (t263 + 1)) (a1.size : Int) t293 t294 t295 _ A63.out).mono ?_); rintro e w71 ⟨rfl, hb⟩; refine ⟨_, rfl, ?_⟩; have n0_ := aM (blk_below (g := gb262) (o := .cells #[.int .i64 a0_0, .int .i64 a0_1, .int .i64 a0_2, .string a0_3] 29 (0, 0)) z7 hb); have n1_ := aM (below_step z14 hb); clear BK262; clear HB; have BK262 := n0_; have HB := n1_; clear n0_ n1_; (try clear hb); (try clear hb2); (try clear hk); (try clear hi)) | ((with_reducible refine gate_dst (N := 103) rfl ?_); refine Kd.R_lit k61 _ 61 ?hg (N := 103) ?hd (xs := ([(⟨t287, t288, t289⟩ : S61), (⟨0, a1.extract (a0_1 : Int).toNat ((wrap64 (t263 + 1)) : Int).toNat, (⟨#[]⟩ : ByteArray)⟩ : S61), (⟨t290, t291, t292⟩ : S61), (⟨0, (⟨#[]⟩ : ByteArray), a1.extract (a0_1 : Int).toNat ((wrap64 (t263 + 1)) : Int).toNat⟩ : S61), (⟨t293, t294, t295⟩ : S61)] : List (S61))) (inner := [.int .i64 t287, .string t288, .string t289, .int .i64 0, .string (a1.extract (a0_1 : Int).toNat ((wrap64 (t263 + 1)) : Int).toNat), .string (⟨#[]⟩ : ByteArray), .int .i64 t290, .string t291, .string t292, .int .i64 0, .string (⟨#[]⟩ : ByteArray), .string (a1.extract (a0_1 : Int).toNat ((wrap64 (t263 + 1)) : Int).toNat), .int .i64 t293, .string t294, .string t295]) (ok := fun _ => True) (okp := fun _ => True) ?hr ?hp (fun _ hk => hk) trivial (Below.refl _ _) (Nat.le_refl _) (by simp) ?_; (case hd => rfl); (case hg => rfl); (case hr => first | (go_simp; done) | (go_simp; rfl)); (case hp => exact (Reps.c3 (show Kd.M k61 _ _ _ (⟨t287, t288, t289⟩ : S61) [.int .i64 t287, .string t288, .string t289] from (k61_mkM _ _ _ (⟨t287, t288, t289⟩ : S61) )) (Reps.c3 (show Kd.M k61 _ _ _ (⟨0, a1.extract (a0_1 : Int).toNat ((wrap64 (t263 + 1)) : Int).toNat, (⟨#[]⟩ : ByteArray)⟩ : S61) [.int .i64 0, .string (a1.extract (a0_1 : Int).toNat ((wrap64 (t263 + 1)) : Int).toNat), .string (⟨#[]⟩ : ByteArray)] from (k61_mkM _ _ _ (⟨0, a1.extract (a0_1 : Int).toNat ((wrap64 (t263 + 1)) : Int).toNat, (⟨#[]⟩ : ByteArray)⟩ : S61) )) (Reps.c3 (show Kd.M k61 _ _ _ (⟨t290, t291, t292⟩ : S61) [.int .i64 t290, .string t291, .string t292] from (k61_mkM _ _ _ (⟨t290, t291, t292⟩ : S61) )) (Reps.c3 (show Kd.M k61 _ _ _ (⟨0, (⟨#[]⟩ : ByteArray), a1.extract (a0_1 : Int).toNat ((wrap64 (t263 + 1)) : Int).toNat⟩ : S61) [.int .i64 0, .string (⟨#[]⟩ : ByteArray), .string (a1.extract (a0_1 : Int).toNat ((wrap64 (t263 + 1)) : Int).toNat)] from (k61_mkM _ _ _ (⟨0, (⟨#[]⟩ : ByteArray), a1.extract (a0_1 : Int).toNat ((wrap64 (t263 + 1)) : Int).toNat⟩ : S61) )) (Reps.c3 (show Kd.M k61 _ _ _ (⟨t293, t294, t295⟩ : S61) [.int .i64 t293, .string t294, .string t295] from (k61_mkM _ _ _ (⟨t293, t294, t295⟩ : S61) )) (Reps.none _ _))))))); intro v297 w72 ho73 hb hg_ hnew_; clear hg_ hnew_; (first | rw [← Ny296.out] at ho73 | (simp only [Int.reduceToNat] at ho73; rw [← Ny296.out] at ho73)); have n0_ := aM (Kd.R_lower ho73 (below_size z14)); have n1_ := aM (blk_below (g := gb262) (o := .cells #[.int .i64 a0_0, .int .i64 a0_1, .int .i64 a0_2, .string a0_3] 29 (0, 0)) z7 hb); have n2_ := aM (below_step z14 hb); clear BK262; clear HB; have HO298 := n0_; have BK262 := n1_; have HB := n2_; clear n0_ n1_ n2_; clear hb ho73))
         go_ret2
         exact ⟨_, y3, by (with_reducible repeat (first | apply Kd.R_alloc | apply Kd.R_drewN | apply Kd.R_drew)); exact HO298.out, y20⟩
        ·rw [if_neg c60] at H
         have c60b0 : decide (a0_2 < a0_1) = false := dF c60
         clear c60
         replace H := oB H
         obtain ⟨⟨t299, t300, t301⟩, A740, H⟩ := H
         try dsimp only at H
         have A74 := aM A740
         clear A740
         replace H := oB H
         obtain ⟨⟨t302, t303, t304⟩, A750, H⟩ := H
         try dsimp only at H
         have A75 := aM A750
         clear A750
         replace H := oB H
         obtain ⟨⟨t305, t306, t307⟩, A760, H⟩ := H
         try dsimp only at H
         have A76 := aM A760
         clear A760
         obtain ⟨y308, hy308⟩ : ∃ y_ : List (S61), y_ = (([(⟨t299, t300, t301⟩ : S61), (⟨0, (⟨#[]⟩ : ByteArray), a1.extract (a0_1 : Int).toNat ((wrap64 (t263 + 1)) : Int).toNat⟩ : S61), (⟨t302, t303, t304⟩ : S61), (⟨0, a1.extract (a0_1 : Int).toNat ((wrap64 (t263 + 1)) : Int).toNat, (⟨#[]⟩ : ByteArray)⟩ : S61), (⟨t305, t306, t307⟩ : S61)] : List (S61))) := ⟨_, rfl⟩
         replace H : (some (y308, decide (a0_2 > (wrap64 (t263 + 1))))) = some (r1, r2) := by first | (rw [hy308]; with_reducible exact H) | (have H2_ := (Option.bind_some _ _).symm.trans H; rw [hy308]; with_reducible exact H2_) | (have H2_ := (Option.bind_some _ _).symm.trans H; with_reducible exact H2_) | with_reducible exact H | (rw [hy308]; exact H) | exact H
         have Ny308 := aM hy308
         clear hy308
         simp only [Option.some.injEq, Prod.mk.injEq] at H
         obtain ⟨rfl, rfl⟩ := H
         go_enter Try.func80, Try.ntmps80
         try go_wp2_with (first | ((with_reducible refine gate_dst (N := 2) rfl ?_); refine box_event ?hg (N := 2) ?hd (cs := #[.int .i64 a0_0, .int .i64 a0_1, .int .i64 a0_2, .string a0_3]) (t := 29) ?hr ?_; (case hd => rfl); (case hg => rfl); (case hr => first | (go_simp; done) | (go_simp; rfl)); intro gb262 hg w77 hbox hb; have n0_ := aM (below_step z11 hb); have n1_ := aM (hbox); have n2_ := aM ((by rw [hg]; exact (below_size z11) : w.heap.size ≤ gb262)); have n3_ := aM ((by rw [hg]; exact (below_size z11) : w.heap.size ≤ gb262)); clear HB; have HB := n0_; have BK262 := n1_; have GW262 := n2_; have GE262 := n3_; clear n0_ n1_ n2_ n3_; clear hb hbox hg; have hcz78_0 : w77.cell? ⟨gb262, 0, none⟩ = some (.int .i64 a0_0) := (bC BK262.out 0).trans rfl; have hcz78_1 : w77.cell? ⟨gb262, 1, none⟩ = some (.int .i64 a0_1) := (bC BK262.out 1).trans rfl; have hcz78_2 : w77.cell? ⟨gb262, 2, none⟩ = some (.int .i64 a0_2) := (bC BK262.out 2).trans rfl; have hcz78_3 : w77.cell? ⟨gb262, 3, none⟩ = some (.string a0_3) := (bC BK262.out 3).trans rfl; have hfz78_0 := bF BK262.out 0; have hfz78_1 := bF BK262.out 1; have hfz78_2 := bF BK262.out 2; have hfz78_3 := bF BK262.out 3) | ((with_reducible refine gate_callee (f := 52) rfl ?_); refine goesL_ (some 17) rfl rfl Try.func52 z0 rfl #[.string a1, .int .i64 a0_1] rfl z12 ?_; (with_reducible refine (impl_beginsAt.calls k a1 a0_1 t263 true _ A3.out).mono ?_); rintro e w79 ⟨rfl, hb⟩; refine ⟨_, rfl, ?_⟩; have n0_ := aM (blk_below (g := gb262) (o := .cells #[.int .i64 a0_0, .int .i64 a0_1, .int .i64 a0_2, .string a0_3] 29 (0, 0)) z7 hb); have n1_ := aM (below_step z14 hb); clear BK262; clear HB; have BK262 := n0_; have HB := n1_; clear n0_ n1_; (try clear hb); (try clear hb2); (try clear hk); (try clear hi)))
         have n0_ := aM (blk_drew BK262.out)
         have n1_ := aM (bD HB.out)
         clear BK262
         clear HB
         have BK262 := n0_
         have HB := n1_
         clear n0_ n1_
         refine start_ (n := 12) (S := fun w' => w'.cell? ⟨gb262, 0, none⟩ = some (.int .i64 a0_0) ∧ w'.cell? ⟨gb262, 1, none⟩ = some (.int .i64 a0_1) ∧ w'.cell? ⟨gb262, 2, none⟩ = some (.int .i64 a0_2) ∧ w'.cell? ⟨gb262, 3, none⟩ = some (.string a0_3)) (ds := []) #[false, false, false, false, false, false, false, false, false, false, false, false] z0 rfl rfl ⟨(bC BK262.out 0).trans rfl, (bC BK262.out 1).trans rfl, (bC BK262.out 2).trans rfl, (bC BK262.out 3).trans rfl⟩ (fun hHeld => ?_); refine with_tabW impl_Command_onElement.tab4 impl_Command_onElement.bits4 (fun HT_ HW_ => ?_)
         generalize w79.drew = w80 at BK262 HB hHeld ⊢
         refine pA 0 22 ?_
         refine pA 2 24 ?_
         refine pA 4 26 ?_
         refine pA 5 27 ?_
         refine pA 6 28 ?_
         refine pA 7 29 ?_
         refine tA 1 23 ?_ (hy := by rintro w' ⟨s0, s1, s2, s3⟩; go_simp; with_reducible rfl)
         refine pA 8 8 ?_
         refine tA 3 25 ?_ (hy := by rintro w' ⟨s0, s1, s2, s3⟩; go_simp; with_reducible rfl)
         refine pA 9 9 ?_
         refine pA 10 10 ?_
         refine pA 11 11 ?_
         refine done_ (done_of HT_.out z0) ?_
         have hcz81_0 : w80.cell? ⟨gb262, 0, none⟩ = some (.int .i64 a0_0) := (bC BK262.out 0).trans rfl
         have hcz81_1 : w80.cell? ⟨gb262, 1, none⟩ = some (.int .i64 a0_1) := (bC BK262.out 1).trans rfl
         have hcz81_2 : w80.cell? ⟨gb262, 2, none⟩ = some (.int .i64 a0_2) := (bC BK262.out 2).trans rfl
         have hcz81_3 : w80.cell? ⟨gb262, 3, none⟩ = some (.string a0_3) := (bC BK262.out 3).trans rfl
         have hfz81_0 := bF BK262.out 0
         have hfz81_1 := bF BK262.out 1
         have hfz81_2 := bF BK262.out 2
         have hfz81_3 := bF BK262.out 3
         try go_wp2_with (first | ((with_reducible refine gate_callee (f := 77) rfl ?_); refine goesL_ (some 105) rfl rfl Try.func77 z0 rfl #[.int .i64 0, .int .i64 a0_1] rfl z12 ?_; (with_reducible refine (impl_keepTo.calls 0 a0_1 t299 t300 t301 _ A74.out).mono ?_); rintro e w82 ⟨rfl, hb⟩; refine ⟨_, rfl, ?_⟩; have n0_ := aM (blk_below (g := gb262) (o := .cells #[.int .i64 a0_0, .int .i64 a0_1, .int .i64 a0_2, .string a0_3] 29 (0, 0)) z7 hb); have n1_ := aM (below_step z14 hb); clear BK262; clear HB; have BK262 := n0_; have HB := n1_; clear n0_ n1_; (try clear hb); (try clear hb2); (try clear hk); (try clear hi)) | ((with_reducible refine gate_callee (f := 77) rfl ?_); refine goesL_ (some 110) rfl rfl Try.func77 z0 rfl #[.int .i64 (wrap64 (t263 + 1)), .int .i64 a0_2] rfl z12 ?_; (with_reducible refine (impl_keepTo.calls (wrap64 (t263 + 1)) a0_2 t302 t303 t304 _ A75.out).mono ?_); rintro e w83 ⟨rfl, hb⟩; refine ⟨_, rfl, ?_⟩; have n0_ := aM (blk_below (g := gb262) (o := .cells #[.int .i64 a0_0, .int .i64 a0_1, .int .i64 a0_2, .string a0_3] 29 (0, 0)) z7 hb); have n1_ := aM (below_step z14 hb); clear BK262; clear HB; have BK262 := n0_; have HB := n1_; clear n0_ n1_; (try clear hb); (try clear hb2); (try clear hk); (try clear hi)) | ((with_reducible refine gate_callee (f := 77) rfl ?_); refine goesL_ (some 115) rfl rfl Try.func77 z0 rfl #[.int .i64 a0_2, .int .i64 (a1.size : Int)] rfl z12 ?_; (with_reducible refine (impl_keepTo.calls a0_2 (a1.size : Int) t305 t306 t307 _ A76.out).mono ?_); rintro e w84 ⟨rfl, hb⟩; refine ⟨_, rfl, ?_⟩; have n0_ := aM (blk_below (g := gb262) (o := .cells #[.int .i64 a0_0, .int .i64 a0_1, .int .i64 a0_2, .string a0_3] 29 (0, 0)) z7 hb); have n1_ := aM (below_step z14 hb); clear BK262; clear HB; have BK262 := n0_; have HB := n1_; clear n0_ n1_; (try clear hb); (try clear hb2); (try clear hk); (try clear hi)) | ((with_reducible refine gate_dst (N := 116) rfl ?_); refine Kd.R_lit k61 _ 61 ?hg (N := 116) ?hd (xs := ([(⟨t299, t300, t301⟩ : S61), (⟨0, (⟨#[]⟩ : ByteArray), a1.extract (a0_1 : Int).toNat ((wrap64 (t263 + 1)) : Int).toNat⟩ : S61), (⟨t302, t303, t304⟩ : S61), (⟨0, a1.extract (a0_1 : Int).toNat ((wrap64 (t263 + 1)) : Int).toNat, (⟨#[]⟩ : ByteArray)⟩ : S61), (⟨t305, t306, t307⟩ : S61)] : List (S61))) (inner := [.int .i64 t299, .string t300, .string t301, .int .i64 0, .string (⟨#[]⟩ : ByteArray), .string (a1.extract (a0_1 : Int).toNat ((wrap64 (t263 + 1)) : Int).toNat), .int .i64 t302, .string t303, .string t304, .int .i64 0, .string (a1.extract (a0_1 : Int).toNat ((wrap64 (t263 + 1)) : Int).toNat), .string (⟨#[]⟩ : ByteArray), .int .i64 t305, .string t306, .string t307]) (ok := fun _ => True) (okp := fun _ => True) ?hr ?hp (fun _ hk => hk) trivial (Below.refl _ _) (Nat.le_refl _) (by simp) ?_; (case hd => rfl); (case hg => rfl); (case hr => first | (go_simp; done) | (go_simp; rfl)); (case hp => exact (Reps.c3 (show Kd.M k61 _ _ _ (⟨t299, t300, t301⟩ : S61) [.int .i64 t299, .string t300, .string t301] from (k61_mkM _ _ _ (⟨t299, t300, t301⟩ : S61) )) (Reps.c3 (show Kd.M k61 _ _ _ (⟨0, (⟨#[]⟩ : ByteArray), a1.extract (a0_1 : Int).toNat ((wrap64 (t263 + 1)) : Int).toNat⟩ : S61) [.int .i64 0, .string (⟨#[]⟩ : ByteArray), .string (a1.extract (a0_1 : Int).toNat ((wrap64 (t263 + 1)) : Int).toNat)] from (k61_mkM _ _ _ (⟨0, (⟨#[]⟩ : ByteArray), a1.extract (a0_1 : Int).toNat ((wrap64 (t263 + 1)) : Int).toNat⟩ : S61) )) (Reps.c3 (show Kd.M k61 _ _ _ (⟨t302, t303, t304⟩ : S61) [.int .i64 t302, .string t303, .string t304] from (k61_mkM _ _ _ (⟨t302, t303, t304⟩ : S61) )) (Reps.c3 (show Kd.M k61 _ _ _ (⟨0, a1.extract (a0_1 : Int).toNat ((wrap64 (t263 + 1)) : Int).toNat, (⟨#[]⟩ : ByteArray)⟩ : S61) [.int .i64 0, .string (a1.extract (a0_1 : Int).toNat ((wrap64 (t263 + 1)) : Int).toNat), .string (⟨#[]⟩ : ByteArray)] from (k61_mkM _ _ _ (⟨0, a1.extract (a0_1 : Int).toNat ((wrap64 (t263 + 1)) : Int).toNat, (⟨#[]⟩ : ByteArray)⟩ : S61) )) (Reps.c3 (show Kd.M k61 _ _ _ (⟨t305, t306, t307⟩ : S61) [.int .i64 t305, .string t306, .string t307] from (k61_mkM _ _ _ (⟨t305, t306, t307⟩ : S61) )) (Reps.none _ _))))))); intro v309 w85 ho86 hb hg_ hnew_; clear hg_ hnew_; (first | rw [← Ny308.out] at ho86 | (simp only [Int.reduceToNat] at ho86; rw [← Ny308.out] at ho86)); have n0_ := aM (Kd.R_lower ho86 (below_size z14)); have n1_ := aM (blk_below (g := gb262) (o := .cells #[.int .i64 a0_0, .int .i64 a0_1, .int .i64 a0_2, .string a0_3] 29 (0, 0)) z7 hb); have n2_ := aM (below_step z14 hb); clear BK262; clear HB; have HO310 := n0_; have BK262 := n1_; have HB := n2_; clear n0_ n1_ n2_; clear hb ho86))
         go_ret2
         exact ⟨_, y3, by (with_reducible repeat (first | apply Kd.R_alloc | apply Kd.R_drewN | apply Kd.R_drew)); exact HO310.out, y20⟩
       ·rw [if_neg c59] at H
        exact absurd H (by simp)
      ·rw [if_neg c58] at H
       exact absurd H (by simp)
     ·rw [if_neg c57] at H
      exact absurd H (by simp)
    ·rw [if_neg c56] at H
     have c56b0 : (a0_0 == 7) = false := qF c56
     have c56b1 : (a0_0 != 7) = true := nT c56
     simp only [Option.some.injEq, Prod.mk.injEq] at H
     obtain ⟨rfl, rfl⟩ := H
     go_enter Try.func80, Try.ntmps80
     try go_wp2_with (first | ((with_reducible refine gate_dst (N := 2) rfl ?_); refine box_event ?hg (N := 2) ?hd (cs := #[.int .i64 a0_0, .int .i64 a0_1, .int .i64 a0_2, .string a0_3]) (t := 29) ?hr ?_; (case hd => rfl); (case hg => rfl); (case hr => first | (go_simp; done) | (go_simp; rfl)); intro gb262 hg w87 hbox hb; have n0_ := aM (below_step z11 hb); have n1_ := aM (hbox); have n2_ := aM ((by rw [hg]; exact (below_size z11) : w.heap.size ≤ gb262)); have n3_ := aM ((by rw [hg]; exact (below_size z11) : w.heap.size ≤ gb262)); clear HB; have HB := n0_; have BK262 := n1_; have GW262 := n2_; have GE262 := n3_; clear n0_ n1_ n2_ n3_; clear hb hbox hg; have hcz88_0 : w87.cell? ⟨gb262, 0, none⟩ = some (.int .i64 a0_0) := (bC BK262.out 0).trans rfl; have hcz88_1 : w87.cell? ⟨gb262, 1, none⟩ = some (.int .i64 a0_1) := (bC BK262.out 1).trans rfl; have hcz88_2 : w87.cell? ⟨gb262, 2, none⟩ = some (.int .i64 a0_2) := (bC BK262.out 2).trans rfl; have hcz88_3 : w87.cell? ⟨gb262, 3, none⟩ = some (.string a0_3) := (bC BK262.out 3).trans rfl; have hfz88_0 := bF BK262.out 0; have hfz88_1 := bF BK262.out 1; have hfz88_2 := bF BK262.out 2; have hfz88_3 := bF BK262.out 3) | ((with_reducible refine gate_callee (f := 52) rfl ?_); refine goesL_ (some 17) rfl rfl Try.func52 z0 rfl #[.string a1, .int .i64 a0_1] rfl z12 ?_; (with_reducible refine (impl_beginsAt.calls k a1 a0_1 t263 true _ A3.out).mono ?_); rintro e w89 ⟨rfl, hb⟩; refine ⟨_, rfl, ?_⟩; have n0_ := aM (blk_below (g := gb262) (o := .cells #[.int .i64 a0_0, .int .i64 a0_1, .int .i64 a0_2, .string a0_3] 29 (0, 0)) z7 hb); have n1_ := aM (below_step z14 hb); clear BK262; clear HB; have BK262 := n0_; have HB := n1_; clear n0_ n1_; (try clear hb); (try clear hb2); (try clear hk); (try clear hi)))
     have n0_ := aM (blk_drew BK262.out)
     have n1_ := aM (bD HB.out)
     clear BK262
     clear HB
     have BK262 := n0_
     have HB := n1_
     clear n0_ n1_
     refine start_ (n := 12) (S := fun w' => w'.cell? ⟨gb262, 0, none⟩ = some (.int .i64 a0_0) ∧ w'.cell? ⟨gb262, 1, none⟩ = some (.int .i64 a0_1) ∧ w'.cell? ⟨gb262, 2, none⟩ = some (.int .i64 a0_2) ∧ w'.cell? ⟨gb262, 3, none⟩ = some (.string a0_3)) (ds := []) #[false, false, false, false, false, false, false, false, false, false, false, false] z0 rfl rfl ⟨(bC BK262.out 0).trans rfl, (bC BK262.out 1).trans rfl, (bC BK262.out 2).trans rfl, (bC BK262.out 3).trans rfl⟩ (fun hHeld => ?_); refine with_tabW impl_Command_onElement.tab4 impl_Command_onElement.bits4 (fun HT_ HW_ => ?_)
     generalize w89.drew = w90 at BK262 HB hHeld ⊢
     refine pA 0 22 ?_
     refine pA 2 24 ?_
     refine pA 4 26 ?_
     refine pA 5 27 ?_
     refine pA 6 28 ?_
     refine pA 7 29 ?_
     refine tA 1 23 ?_ (hy := by rintro w' ⟨s0, s1, s2, s3⟩; go_simp; with_reducible rfl)
     refine pA 8 8 ?_
     refine tA 3 25 ?_ (hy := by rintro w' ⟨s0, s1, s2, s3⟩; go_simp; with_reducible rfl)
     refine pA 9 9 ?_
     refine pA 10 10 ?_
     refine pA 11 11 ?_
     refine done_ (done_of HT_.out z0) ?_
     have hcz91_0 : w90.cell? ⟨gb262, 0, none⟩ = some (.int .i64 a0_0) := (bC BK262.out 0).trans rfl
     have hcz91_1 : w90.cell? ⟨gb262, 1, none⟩ = some (.int .i64 a0_1) := (bC BK262.out 1).trans rfl
     have hcz91_2 : w90.cell? ⟨gb262, 2, none⟩ = some (.int .i64 a0_2) := (bC BK262.out 2).trans rfl
     have hcz91_3 : w90.cell? ⟨gb262, 3, none⟩ = some (.string a0_3) := (bC BK262.out 3).trans rfl
     have hfz91_0 := bF BK262.out 0
     have hfz91_1 := bF BK262.out 1
     have hfz91_2 := bF BK262.out 2
     have hfz91_3 := bF BK262.out 3
     try go_wp2
     go_ret2
     exact ⟨_, y3, y21, y20⟩
 ·replace c4 := Bool.eq_false_iff.mpr c4
  subst c4
  rw [if_neg (show ¬ (false = true) by decide)] at H
  simp only [Option.some.injEq, Prod.mk.injEq] at H
  obtain ⟨rfl, rfl⟩ := H
  go_enter Try.func80, Try.ntmps80
  go_wp2_with (first | ((with_reducible refine gate_dst (N := 2) rfl ?_); refine box_event ?hg (N := 2) ?hd (cs := #[.int .i64 a0_0, .int .i64 a0_1, .int .i64 a0_2, .string a0_3]) (t := 29) ?hr ?_; (case hd => rfl); (case hg => rfl); (case hr => first | (go_simp; done) | (go_simp; rfl)); intro gb262 hg w92 hbox hb; have n0_ := aM (below_step z11 hb); have n1_ := aM (hbox); have n2_ := aM ((by rw [hg]; exact (below_size z11) : w.heap.size ≤ gb262)); have n3_ := aM ((by rw [hg]; exact (below_size z11) : w.heap.size ≤ gb262)); clear HB; have HB := n0_; have BK262 := n1_; have GW262 := n2_; have GE262 := n3_; clear n0_ n1_ n2_ n3_; clear hb hbox hg; have hcz93_0 : w92.cell? ⟨gb262, 0, none⟩ = some (.int .i64 a0_0) := (bC BK262.out 0).trans rfl; have hcz93_1 : w92.cell? ⟨gb262, 1, none⟩ = some (.int .i64 a0_1) := (bC BK262.out 1).trans rfl; have hcz93_2 : w92.cell? ⟨gb262, 2, none⟩ = some (.int .i64 a0_2) := (bC BK262.out 2).trans rfl; have hcz93_3 : w92.cell? ⟨gb262, 3, none⟩ = some (.string a0_3) := (bC BK262.out 3).trans rfl; have hfz93_0 := bF BK262.out 0; have hfz93_1 := bF BK262.out 1; have hfz93_2 := bF BK262.out 2; have hfz93_3 := bF BK262.out 3) | ((with_reducible refine gate_callee (f := 52) rfl ?_); refine goesL_ (some 17) rfl rfl Try.func52 z0 rfl #[.string a1, .int .i64 a0_1] rfl z12 ?_; (with_reducible refine (impl_beginsAt.calls k a1 a0_1 t263 false _ A3.out).mono ?_); rintro e w94 ⟨rfl, hb⟩; refine ⟨_, rfl, ?_⟩; have n0_ := aM (blk_below (g := gb262) (o := .cells #[.int .i64 a0_0, .int .i64 a0_1, .int .i64 a0_2, .string a0_3] 29 (0, 0)) z7 hb); have n1_ := aM (below_step z14 hb); clear BK262; clear HB; have BK262 := n0_; have HB := n1_; clear n0_ n1_; (try clear hb); (try clear hb2); (try clear hk); (try clear hi)))
  go_ret2
  exact ⟨_, y3, y21, y20⟩

end Go.Proofs.Ytmigfgcpdelnfaa.AFnExactCompileCommand
