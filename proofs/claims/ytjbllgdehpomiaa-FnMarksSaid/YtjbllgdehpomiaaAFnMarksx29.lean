-- this session's own text: written by wip/tools/ownprint.py over the kit's print
import Derived.Test.YtjbllgdehpomiaaAFnMarksx0
import Derived.Test.YtjbllgdehpomiaaAFnMarksx8
import Derived.Test.YtjbllgdehpomiaaAFnMarksx10
import Derived.Test.YtjbllgdehpomiaaAFnMarksx20
import Derived.Test.YtjbllgdehpomiaaAFnMarksx23
namespace Go.Proofs.Ytjbllgdehpomiaa.AFnMarks
open Go.RowKit Go.Proofs.YtjbllgdehpomiaaW.PrintWords Go.Proofs.YtjbllgdehpomiaaW.PrintLast Go.Proofs.YtjbllgdehpomiaaW.PrintMore
attribute [local go_sem] max2_int min2_int max_two min_two max_three min_three max_four min_four   -- for this text's walks alone
set_option linter.unusedVariables false
set_option maxHeartbeats 8000000
set_option maxRecDepth 100000
set_option linter.unusedSimpArgs false
/-! ### impl_AddMark: function 11 -/
def impl_AddMark.j0 : Nat → List (S34) → Int → Bool → Int → Int → ByteArray → Option ((List (S34)) × Bool)
 | 0, _, _, _, _, _, _ => none
 | k + 1, x0, x1, x17, x637000, x637001, x637002 => if x17 = true then (some (([] : List (S34)), false)) else ((impl_Mark_31.f x0).bind fun iT => ((some (([(⟨x637000, x637001, x637002⟩ : S34)] : List (S34)) : List (S34))).bind fun y642 => (if iT.length + y642.length < 4398046511104 then ((impl_joined.f k (iT ++ y642)).bind fun jk => ((impl_goodMarks.f k jk x1).bind fun iO => (some (iO.1, iO.2)))) else (none))))
def impl_AddMark.f (k : Nat) (l0 : List (S34)) (a1 : Int) (a2_0 : Int) (a2_1 : Int) (a2_2 : ByteArray) : Option ((List (S34)) × Bool) := (impl_GoodMarks.f k l0 a1).bind fun n0 => (if n0 = true then ((impl_isMark.f k a2_0 a2_1 a2_2 a1).bind fun nl => (impl_AddMark.j0 k l0 a1 (!nl) a2_0 a2_1 a2_2)) else (impl_AddMark.j0 k l0 a1 true a2_0 a2_1 a2_2))
theorem impl_AddMark.mono_l : ∀ k, (∀ y0 y1 y2 y3 y4 y5, LeO (impl_AddMark.j0 k y0 y1 y2 y3 y4 y5) (impl_AddMark.j0 (k + 1) y0 y1 y2 y3 y4 y5))
 | 0 => fun _ _ _ _ _ _ r h => by simp [impl_AddMark.j0] at h
 | k + 1 => by
  have ih0 := impl_AddMark.mono_l k
  ·intro y0 y1 y2 y3 y4 y5
   unfold impl_AddMark.j0
   with_reducible repeat' first | exact ih0 _ _ _ _ _ _ | exact impl_GoodMarks.mono _ _ _ | exact impl_goodMarks.mono _ _ _ | exact impl_isMark.mono _ _ _ _ _ | exact impl_joined.mono _ _ | exact lR_ _ | exact lN_ _ | refine lI_ ?_ ?_ | refine lB_ ?_ fun _ => ?_
theorem impl_AddMark.mono : ∀ a0 a1 a2 a3 a4 k, LeO (impl_AddMark.f k a0 a1 a2 a3 a4) (impl_AddMark.f (k + 1) a0 a1 a2 a3 a4) := by
 intro a0 a1 a2 a3 a4 k
 have ih0 := impl_AddMark.mono_l k
 unfold impl_AddMark.f
 with_reducible repeat' first | exact ih0 _ _ _ _ _ _ | exact impl_GoodMarks.mono _ _ _ | exact impl_goodMarks.mono _ _ _ | exact impl_isMark.mono _ _ _ _ _ | exact impl_joined.mono _ _ | exact lR_ _ | exact lN_ _ | refine lI_ ?_ ?_ | refine lB_ ?_ fun _ => ?_
def impl_AddMark.T3 : Bool × List (List Nat × List Nat) := (true, [([], []), ([0], [0]), ([], []), ([2], [2]), ([1, 3, 1], [1, 3]), ([4, 4], [4]), ([], []), ([5, 6, 5], [5, 6]), ([7], [7]), ([7], [7]), ([8, 7, 0, 1, 2, 3, 4, 5, 6, 7, 8, 9], [8]), ([9, 10, 0, 1, 2, 3, 4, 5, 6, 7, 8, 9, 10], [9])])
def impl_AddMark.B3 : List Nat := [0, 1, 0, 4, 15, 31, 0, 127, 255, 255, 1023, 2047]
theorem impl_AddMark.tab3 : rtab .any (opsOf Try.f11 3) = impl_AddMark.T3 := by kernel_rfl
theorem impl_AddMark.bits3 : waitsOk impl_AddMark.T3.2 impl_AddMark.B3 = true := by kernel_rfl
theorem impl_AddMark.calls (k : Nat) (A0 : Option Addr) (c0 : Nat) (l0 : List (S34)) (a1 : Int) (a2_0 : Int) (a2_1 : Int) (a2_2 : ByteArray) (r1 : List (S34)) (r2 : Bool) (w : World) (hr0 : Kd.C k34 w A0 l0.length l0) (hc0 : l0.length ≤ c0) (h : impl_AddMark.f k l0 a1 a2_0 a2_1 a2_2 = some (r1, r2)) :
  Calls Try.prog 11 #[.slice A0 l0.length c0, .int .i64 a1, .agg #[.int .i64 a2_0, .int .i64 a2_1, .string a2_2]] w fun e w' => ∃ v0_ : Value, e = .returned (.tuple #[v0_, .bool r2]) ∧ Kd.R k34 34 w' w.heap.size (fun _ => True) v0_ r1 ∧ Below w.heap.size w w' := by
 have hu34 := Try.underlying34
 have bH := aM hr0
 have cH := aM hc0
 clear hr0 hc0
 have HB := aM (Below.refl w.heap.size w)
 have H : ((impl_GoodMarks.f k l0 a1).bind fun n0 => (if n0 = true then ((impl_isMark.f k a2_0 a2_1 a2_2 a1).bind fun nl => (impl_AddMark.j0 k l0 a1 (!nl) a2_0 a2_1 a2_2)) else (impl_AddMark.j0 k l0 a1 true a2_0 a2_1 a2_2))) = some (r1, r2) := h
 clear h
 have iJ := aM H
 clear H
 go_enter Try.func11, Try.ntmps11
 go_upto_region 1 with (first | ((with_reducible refine ay (N := 5) rfl ?_); refine bE_ (N := 5) (cs := #[.int .i64 a2_0, .int .i64 a2_1, .string a2_2]) (t := 34) (h := ?_); intro bQ hg w5 hbox hb; have br := aM (hbox); have GW636 := aM ((zg_ : w.heap.size ≤ bQ)); have lN := aM ((zg_ : w.heap.size ≤ bQ)); replace HB := aM (ap z9 hb); clear hb hbox hg))
 (try simp only [Act.put, sA, sB, sC])
 go_cut [17] (fun v17 wc => ∃ (kq : Nat) (x17_3 : Bool), v17 = .bool x17_3 ∧ Aside0 (impl_AddMark.j0 kq l0 a1 x17_3 a2_0 a2_1 a2_2 = some (r1, r2)) ∧ Aside0 (kq ≤ k) ∧ Aside0 (wc.heap[bQ]? = some (.cells #[.int .i64 a2_0, .int .i64 a2_1, .string a2_2] 34 (0, 0))) ∧ Aside0 (Below w.heap.size w wc))
 case first =>
  have H := iJ.out
  clear iJ
  obtain ⟨n0, A6, H⟩ := oA_ H
  try dsimp only at H
  by_cases c7 : n0 = true
  ·subst c7
   rw [if_pos rfl] at H
   obtain ⟨nl, A8, H⟩ := oA_ H
   try dsimp only at H
   have H' := aM H
   clear H
   go_wp2_with (first | ((with_reducible refine ax (f := 9) rfl ?_); refine aC (some 10) rfl rfl Try.func9 z0 rfl #[.slice A0 l0.length c0, .int .i64 a1] rfl z10 ?_; (with_reducible refine (impl_GoodMarks.calls k _ _ l0 a1 true _ ?side1 ?side2 A6.out).mono ?_); (case side1 => exact y64); (case side2 => exact y51); rintro e w9 ⟨rfl, hb⟩; refine ⟨_, rfl, ?_⟩; replace br := aM (bK_ br.out hb); replace HB := aM (ap z13 hb); (try clear hb); obtain ⟨cG, cF, cE, cD, cC, cB⟩ := cc3 br.out) | (go_at_call 28; (with_reducible refine (impl_isMark.calls k a2_0 a2_1 a2_2 a1 nl _ A8.out).mono ?_); rintro e w11 ⟨rfl, hb⟩; replace br := aM (bK_ br.out hb); replace HB := aM (ap z13 hb); (try clear hb)))
   go_meet
   case rel => exact ⟨_, (!nl), z1, H', ⟨y1⟩, ⟨kB_ br.out⟩, ⟨zb_⟩⟩
  ·replace c7 := Bool.eq_false_iff.mpr c7
   subst c7
   rw [if_neg nF_] at H
   have H' := aM H
   clear H
   go_wp2_with (first | ((with_reducible refine ax (f := 9) rfl ?_); refine aC (some 10) rfl rfl Try.func9 z0 rfl #[.slice A0 l0.length c0, .int .i64 a1] rfl z10 ?_; (with_reducible refine (impl_GoodMarks.calls k _ _ l0 a1 false _ ?side1 ?side2 A6.out).mono ?_); (case side1 => exact y64); (case side2 => exact y51); rintro e w12 ⟨rfl, hb⟩; refine ⟨_, rfl, ?_⟩; replace br := aM (bK_ br.out hb); replace HB := aM (ap z13 hb); (try clear hb)))
   go_meet
   case rel => exact ⟨_, (true), z1, H', ⟨y1⟩, ⟨kB_ br.out⟩, ⟨zb_⟩⟩
 case rest =>
  clear iJ
  obtain ⟨kq, x17_3, rfl, HA, jh, br, HB⟩ := hcut
  cases kq with
  | zero => exact absurd HA.out (by simp [impl_AddMark.j0])
  | succ kj3 =>
   have H := HA.out
   clear HA
   simp only [impl_AddMark.j0] at H
   by_cases bU : x17_3 = true
   ·subst bU
    rw [if_pos rfl] at H
    simp only [Option.some.injEq, Prod.mk.injEq] at H
    obtain ⟨rfl, rfl⟩ := H
    go_wp2
    go_ret2
    exact ⟨_, y5, y29, zb_⟩
   ·replace bU := Bool.eq_false_iff.mpr bU
    subst bU
    rw [if_neg nF_] at H
    obtain ⟨iT, j5, H⟩ := oA_ H
    try dsimp only at H
    obtain ⟨y642, hy642⟩ : ∃ y_ : List (S34), y_ = (([(⟨a2_0, a2_1, a2_2⟩ : S34)] : List (S34))) := ⟨_, rfl⟩
    replace H : (if iT.length + y642.length < 4398046511104 then ((impl_joined.f kj3 (iT ++ y642)).bind fun jk => ((impl_goodMarks.f kj3 jk a1).bind fun iO => (some (iO.1, iO.2)))) else (none)) = some (r1, r2) := zh_ hy642
    have Ny642 := aM hy642
    clear hy642
    by_cases ce : iT.length + y642.length < 4398046511104
    ·rw [if_pos ce] at H
     have LMc15 := aM ce
     clear ce
     obtain ⟨y645, hy645⟩ : ∃ y_ : List (S34), y_ = (iT ++ y642) := ⟨_, rfl⟩
     replace H : ((impl_joined.f kj3 y645).bind fun jk => ((impl_goodMarks.f kj3 jk a1).bind fun iO => (some (iO.1, iO.2)))) = some (r1, r2) := zh_ hy645
     have Ny645 := aM hy645
     clear hy645
     obtain ⟨jk, nP, H⟩ := oA_ H
     try dsimp only at H
     obtain ⟨⟨t651, t654⟩, rk, H⟩ := oA_ H
     try dsimp only at H
     simp only [Option.some.injEq, Prod.mk.injEq] at H
     obtain ⟨rfl, rfl⟩ := H
     try go_wp2
     replace br := aM (aj br.out)
     replace HB := aM (bD HB.out)
     refine start_ (n := 12) (S := fun w' => w'.cell? ⟨bQ, 0, none⟩ = some (.int .i64 a2_0) ∧ w'.cell? ⟨bQ, 1, none⟩ = some (.int .i64 a2_1) ∧ w'.cell? ⟨bQ, 2, none⟩ = some (.string a2_2)) (ds := []) #[false, false, false, false, false, false, false, false, false, false, false, false] z0 rfl rfl ⟨(bC br.out 0).trans rfl, (bC br.out 1).trans rfl, (bC br.out 2).trans rfl⟩ (fun hHeld => ?_); refine with_tabW impl_AddMark.tab3 impl_AddMark.bits3 (fun HT_ HW_ => ?_)
     generalize wc.drew = w18 at br HB hHeld ⊢
     refine pA 0 18 ?_
     refine pA 6 24 ?_
     refine t3_ 2 20 ?_
     refine join_ (σ := Value × Value) 7 #[true, true, true, true, false, false, true, false, false, false, false, false] (fun s_ => [(19, s_.1), (21, s_.2)]) (fun s_ w' => (w'.cell? ⟨bQ, 0, none⟩ = some (.int .i64 a2_0) ∧ w'.cell? ⟨bQ, 1, none⟩ = some (.int .i64 a2_1) ∧ w'.cell? ⟨bQ, 2, none⟩ = some (.string a2_2)) ∧ (Kd.R k34 34 w' w.heap.size (fun k_ => some k_ ≠ (s_.2 : Value).ownBlock ∧ k_ ≠ bQ) s_.1 iT) ∧ (Kd.R k34 34 w' w.heap.size (fun k_ => some k_ ≠ (s_.1 : Value).ownBlock ∧ k_ ≠ bQ) s_.2 y642) ∧ (w'.heap[bQ]? = some (.cells #[.int .i64 a2_0, .int .i64 a2_1, .string a2_2] 34 (0, 0))) ∧ (Below w.heap.size w w')) ?_ ?_
     rotate_left
     ·intro hCont
      refine two_ (i := 1) (j := 3) (Ni := some 19) (Nj := some 21) #[true, true, true, false, false, false, true, false, false, false, false, false] #[true, false, true, true, false, false, true, false, false, false, false, false] rfl rfl rfl rfl (two_of HT_.out z0) (by decide) (by decide) (fun K hK => ?_) (fun K hK => ?_)
      ·skip
       refine goes_ Try.func31 z0 rfl #[.slice A0 l0.length c0] (by rfl) rfl rfl z10 ?_
       with_reducible refine (impl_Mark_31.calls _ _ l0 iT _ ?side1 ?side2 j5.out).mono ?_
       (case side1 => exact y64)
       (case side2 => exact y51)
       rintro e w19 ⟨v640, rfl, ho0, hb⟩
       refine ⟨_, rfl, ?_⟩
       have fY := aM (aD (Kd.R_newB ho0 (g := bQ) (o := .cells #[.int .i64 a2_0, .int .i64 a2_1, .string a2_2] 34 (0, 0)) z8) (aq z13))
       replace br := aM (bK_ br.out hb)
       replace HB := aM (ap z13 hb)
       (try clear hb)
       skip
       skip
       skip
       (try clear ho0)
       refine hK.out _ _ ⟨(bC br.out 0).trans rfl, (bC br.out 1).trans rfl, (bC br.out 2).trans rfl⟩ (fun hHeld => ?_)
       clear hK K
       refine norm_ (a' := ?_) ?_ ?_
       rotate_left
       ·show Act.put _ (some 19) _ = _
        simp only [Act.put, sA, sB, sC, i64_w, i32_w]
        rfl
       refine one_ (i := 3) (N := some 21) #[true, true, true, true, false, false, true, false, false, false, false, false] rfl rfl (one_of HT_.out z0) (by decide) (fun K hK => ?_)
       refine Kd.R_lit_step k34 _ 34 ?hg (N := 21) ?hd (xs := ([(⟨a2_0, a2_1, a2_2⟩ : S34)] : List (S34))) (inner := [.int .i64 a2_0, .int .i64 a2_1, .string a2_2]) (ok := fun _ => True) (okp := fun _ => True) ?hr ?hp (fun _ hk => hk) trivial (Below.refl _ _) (Nat.le_refl _) (by simp) ?_; (case hd => rfl); (case hg => rfl); (case hr => first | (go_simp; done) | (go_simp; rfl)); (case hp => exact (Reps.c3 (show Kd.M k34 _ _ _ (⟨a2_0, a2_1, a2_2⟩ : S34) [.int .i64 a2_0, .int .i64 a2_1, .string a2_2] from (k34_mkM _ _ _ (⟨a2_0, a2_1, a2_2⟩ : S34) )) (Reps.none _ _)))
       intro v643 w20 ho21 hb hg_ hnew_
       clear hg_ hnew_
       (first | rw [← Ny642.out] at ho21 | (simp only [Int.reduceToNat] at ho21; rw [← Ny642.out] at ho21))
       have cM := aM (aD (Kd.R_newB (Kd.R_new' ho21 (Kd.R_lt (kR_ fY.out))) (g := bQ) (o := .cells #[.int .i64 a2_0, .int .i64 a2_1, .string a2_2] 34 (0, 0)) z8) (aq z13))
       replace fY := aM (Kd.R_elder' (kR_ fY.out) (Kd.R_base ho21) hb)
       replace br := aM (bK_ br.out hb)
       replace HB := aM (ap z13 hb)
       clear hb ho21
       refine hK.out _ _ ⟨(bC br.out 0).trans rfl, (bC br.out 1).trans rfl, (bC br.out 2).trans rfl⟩ (fun hHeld => ?_)
       clear hK K
       refine norm_ (a' := ?_) ?_ ?_
       rotate_left
       ·show Act.put _ (some 21) _ = _
        simp only [Act.put, sA, sB, sC, i64_w, i32_w]
        rfl
       exact norm_ (by simp only [putAll, Act.put, sA, sB, sC] <;> rfl) (hCont (v640, v643) _ ⟨hHeld, (kM_ fY.out (fun _ hk => ⟨hk.2, hk.1.2⟩)), (kM_ cM.out (fun _ hk => ⟨hk.1.2, hk.2⟩)), z8, z13⟩)
      ·skip
       refine Kd.R_lit_step k34 _ 34 ?hg (N := 21) ?hd (xs := ([(⟨a2_0, a2_1, a2_2⟩ : S34)] : List (S34))) (inner := [.int .i64 a2_0, .int .i64 a2_1, .string a2_2]) (ok := fun _ => True) (okp := fun _ => True) ?hr ?hp (fun _ hk => hk) trivial (Below.refl _ _) (Nat.le_refl _) (by simp) ?_; (case hd => rfl); (case hg => rfl); (case hr => first | (go_simp; done) | (go_simp; rfl)); (case hp => exact (Reps.c3 (show Kd.M k34 _ _ _ (⟨a2_0, a2_1, a2_2⟩ : S34) [.int .i64 a2_0, .int .i64 a2_1, .string a2_2] from (k34_mkM _ _ _ (⟨a2_0, a2_1, a2_2⟩ : S34) )) (Reps.none _ _)))
       intro v643 w19 ho20 hb hg_ hnew_
       clear hg_ hnew_
       (first | rw [← Ny642.out] at ho20 | (simp only [Int.reduceToNat] at ho20; rw [← Ny642.out] at ho20))
       have cM := aM (aD (Kd.R_newB ho20 (g := bQ) (o := .cells #[.int .i64 a2_0, .int .i64 a2_1, .string a2_2] 34 (0, 0)) z8) (aq z13))
       replace br := aM (bK_ br.out hb)
       replace HB := aM (ap z13 hb)
       clear hb ho20
       refine hK.out _ _ ⟨(bC br.out 0).trans rfl, (bC br.out 1).trans rfl, (bC br.out 2).trans rfl⟩ (fun hHeld => ?_)
       clear hK K
       refine norm_ (a' := ?_) ?_ ?_
       rotate_left
       ·show Act.put _ (some 21) _ = _
        simp only [Act.put, sA, sB, sC, i64_w, i32_w]
        rfl
       refine one_ (i := 1) (N := some 19) #[true, true, true, true, false, false, true, false, false, false, false, false] rfl rfl (one_of HT_.out z0) (by decide) (fun K hK => ?_)
       refine goes_ Try.func31 z0 rfl #[.slice A0 l0.length c0] (by rfl) rfl rfl z10 ?_
       with_reducible refine (impl_Mark_31.calls _ _ l0 iT _ ?side1 ?side2 j5.out).mono ?_
       (case side1 => exact y64)
       (case side2 => exact y51)
       rintro e w21 ⟨v640, rfl, ho0, hb⟩
       refine ⟨_, rfl, ?_⟩
       have fY := aM (aD (Kd.R_newB (Kd.R_new' ho0 (Kd.R_lt (kR_ cM.out))) (g := bQ) (o := .cells #[.int .i64 a2_0, .int .i64 a2_1, .string a2_2] 34 (0, 0)) z8) (aq z13))
       replace cM := aM (Kd.R_elder' (kR_ cM.out) (Kd.R_base ho0) hb)
       replace br := aM (bK_ br.out hb)
       replace HB := aM (ap z13 hb)
       (try clear hb)
       skip
       skip
       skip
       (try clear ho0)
       refine hK.out _ _ ⟨(bC br.out 0).trans rfl, (bC br.out 1).trans rfl, (bC br.out 2).trans rfl⟩ (fun hHeld => ?_)
       clear hK K
       refine norm_ (a' := ?_) ?_ ?_
       rotate_left
       ·show Act.put _ (some 19) _ = _
        simp only [Act.put, sA, sB, sC, i64_w, i32_w]
        rfl
       exact norm_ (by simp only [putAll, Act.put, sA, sB, sC] <;> rfl) (hCont (v640, v643) _ ⟨hHeld, (kM_ fY.out (fun _ hk => ⟨hk.1.2, hk.2⟩)), (kM_ cM.out (fun _ hk => ⟨hk.2, hk.1.2⟩)), z8, z13⟩)
     rintro ⟨v640, v643⟩ w22 ⟨hS_, h0_, h1_, h2_, h3_⟩
     have aI : Aside0 (Kd.R k34 34 w22 w.heap.size (fun k_ => some k_ ≠ (v643 : Value).ownBlock ∧ k_ ≠ bQ) v640 iT) := ⟨h0_⟩
     have aJ : Aside0 (Kd.R k34 34 w22 w.heap.size (fun k_ => some k_ ≠ (v640 : Value).ownBlock ∧ k_ ≠ bQ) v643 y642) := ⟨h1_⟩
     have aK : Aside0 (w22.heap[bQ]? = some (.cells #[.int .i64 a2_0, .int .i64 a2_1, .string a2_2] 34 (0, 0))) := ⟨h2_⟩
     have aN : Aside0 (Below w.heap.size w w22) := ⟨h3_⟩
     clear br
     clear HB
     clear h0_ h1_ h2_ h3_
     have fY := aI
     have cM := aJ
     have br := aK
     have HB := aN
     clear aI aJ aK aN
     have hHeld : w22.cell? ⟨bQ, 0, none⟩ = some (.int .i64 a2_0) ∧ w22.cell? ⟨bQ, 1, none⟩ = some (.int .i64 a2_1) ∧ w22.cell? ⟨bQ, 2, none⟩ = some (.string a2_2) := hS_
     obtain ⟨re, qI, eo24⟩ := Kd.R_slice cM.out
     (first | subst eo24 | (injection eo24 with f1_ f2_ f3_; have f4_ := f1_.symm; have f5_ := f3_.symm; clear f1_ f2_ f3_; subst f4_; subst f5_))
     refine norm_ (a' := ?_) ?_ ?_
     rotate_left
     ·simp only [putAll, Act.put, sA, sB, sC]
      rfl
     refine one_ (i := 4) (N := some 22) #[true, true, true, true, true, false, true, false, false, false, false, false] rfl rfl (one_of HT_.out z0) (by decide) (fun K hK => ?_)
     refine Kd.R_append_rows_step k34 (w0 := w) w.heap.size (by rfl) (.tmp 19) (.tmp 21) 24 34 (.agg #[(.int .i64 0), (.int .i64 0), (.string ⟨#[]⟩)]) 32 rfl Try.underlying24 info34 rfl (by decide) (by omega) v640 iT y642 _ _ _ (fun k_ => some k_ ≠ (.slice re y642.length qI : Value).ownBlock ∧ k_ ≠ bQ) (fun _ => False) rfl rfl ?aO ?aR (fun _ _ h => h) (fun _ h => h.elim) ?aF ?aB ?aS ?aL ?_
     (case aR => repeat (first | exact (ah cM.out).2.2 | (with_reducible refine au ?_ _) | (with_reducible refine av ?_ _) | (with_reducible refine aw ?_)))
     (case aB => exact z13)
     (case aF => exact (fun k_ hk => ⟨Kd.fresh' (Kd.R_lt (kR_ cM.out)) k_ hk, Kd.freshB (g := bQ) (o := .cells #[.int .i64 a2_0, .int .i64 a2_1, .string a2_2] 34 (0, 0)) z8 k_ hk⟩))
     (case aO => exact (kR_ fY.out))
     (case aS => exact (aq z13))
     (case aL => have := LMc15.out; omega)
     intro v646 w23 ho hb hg hat
     rw [← Ny645.out] at ho
     replace br := aM (blk_grown (g := bQ) (o := .cells #[.int .i64 a2_0, .int .i64 a2_1, .string a2_2] 34 (0, 0)) z8 hg (Kd.R_away fY.out (fun _ hk => hk.2)))
     replace cM := aM (Kd.R_after (ok := (fun k_ => k_ ≠ bQ)) (kM_ cM.out (fun _ hk => ⟨hk.2, hk.1⟩)) hg hat)
     replace HB := aM (hb)
     have fD := aM (ho)
     clear fY
     clear ho hb hg hat
     obtain ⟨pf, oJ, eo25⟩ := Kd.R_slice fD.out
     (first | subst eo25 | (injection eo25 with f1_ f2_ f3_; have f4_ := f1_.symm; have f5_ := f3_.symm; clear f1_ f2_ f3_; subst f4_; subst f5_))
     refine hK.out _ _ ⟨(bC br.out 0).trans rfl, (bC br.out 1).trans rfl, (bC br.out 2).trans rfl⟩ (fun hHeld => ?_)
     clear hK K
     refine norm_ (a' := ?_) ?_ ?_
     rotate_left
     ·show Act.put _ (some 22) _ = _
      simp only [Act.put, sA, sB, sC, i64_w, i32_w]
      rfl
     refine one_ (i := 5) (N := some 23) #[true, true, true, true, true, true, true, false, false, false, false, false] rfl rfl (one_of HT_.out z0) (by decide) (fun K hK => ?_)
     refine goes_ Try.func23 z0 rfl #[.slice pf y645.length oJ] (by rfl) rfl rfl z10 ?_
     with_reducible refine (impl_joined.calls kj3 _ _ y645 jk _ ?side1 ?side2 nP.out).mono ?_
     (case side1 => repeat (first | exact (ah fD.out).2.2 | (with_reducible refine au ?_ _) | (with_reducible refine av ?_ _) | (with_reducible refine aw ?_)))
     (case side2 => exact (ah fD.out).2.1)
     rintro e w26 ⟨v649, rfl, ho0, hb⟩
     refine ⟨_, rfl, ?_⟩
     have lL := aM (aD (Kd.R_newB (Kd.R_new' (Kd.R_new' ho0 (Kd.R_lt (kR_ cM.out))) (Kd.R_lt (kR_ fD.out))) (g := bQ) (o := .cells #[.int .i64 a2_0, .int .i64 a2_1, .string a2_2] 34 (0, 0)) z8) (aq z13))
     replace cM := aM (Kd.R_elder' (kR_ cM.out) (Kd.R_base ho0) hb)
     replace fD := aM (Kd.R_elder' (kR_ fD.out) (Kd.R_base ho0) hb)
     replace br := aM (bK_ br.out hb)
     replace HB := aM (ap z13 hb)
     (try clear hb)
     skip
     skip
     skip
     (try clear ho0)
     obtain ⟨rc, qH, eo27⟩ := Kd.R_slice lL.out
     (first | subst eo27 | (injection eo27 with f1_ f2_ f3_; have f4_ := f1_.symm; have f5_ := f3_.symm; clear f1_ f2_ f3_; subst f4_; subst f5_))
     refine hK.out _ _ ⟨(bC br.out 0).trans rfl, (bC br.out 1).trans rfl, (bC br.out 2).trans rfl⟩ (fun hHeld => ?_)
     clear hK K
     refine norm_ (a' := ?_) ?_ ?_
     rotate_left
     ·show Act.put _ (some 23) _ = _
      simp only [Act.put, sA, sB, sC, i64_w, i32_w]
      rfl
     refine one_ (i := 7) (N := some 25) #[true, true, true, true, true, true, true, true, false, false, false, false] rfl rfl (one_of HT_.out z0) (by decide) (fun K hK => ?_)
     refine goes_ Try.func22 z0 rfl #[.slice rc jk.length qH, .int .i64 a1] (by rfl) rfl rfl z10 ?_
     with_reducible refine (impl_goodMarks.calls kj3 (fun k_ => some k_ = (.slice rc jk.length qH : Value).ownBlock) (.slice rc jk.length qH) jk a1 t651 t654 w _ ?side1 ?side2 rk.out).mono ?_
     (case side1 => repeat (first | (with_reducible first | exact HB.out | apply bA | apply pD | apply bD | refine ao ?_ lN.out) | exact HB.out))
     (case side2 => exact Kd.R_tight rfl lL.out)
     rintro e w28 ⟨v652, rfl, ho0, hb, hkp⟩
     refine ⟨_, rfl, ?_⟩
     have HO653 := aM (ag (ok' := fun k_ => some k_ ≠ (.slice re y642.length qI : Value).ownBlock ∧ some k_ ≠ (.slice pf y645.length oJ : Value).ownBlock ∧ k_ ≠ bQ) ho0 (fun k_ hk_ => ⟨Or.elim hk_ (fun hs_ => fun e_ => (((cM.out).1 k_ e_.symm).2) hs_) (fun hn_ => (Kd.fresh' (Kd.R_lt (kR_ cM.out)) k_ hn_)), Or.elim hk_ (fun hs_ => fun e_ => (((fD.out).1 k_ e_.symm).2) hs_) (fun hn_ => (Kd.fresh' (Kd.R_lt (kR_ fD.out)) k_ hn_)), Or.elim hk_ (fun hs_ => fun e_ => (Kd.R_away lL.out (fun _ hk => hk.2)) (by rw [← e_]; exact hs_)) (fun hn_ => (Kd.freshB (g := bQ) (o := .cells #[.int .i64 a2_0, .int .i64 a2_1, .string a2_2] 34 (0, 0)) z8 k_ hn_))⟩))
     replace br := aM (blk_kept z8 hkp (fun hs_ => (fun e_ => (Kd.R_away lL.out (fun _ hk => hk.2)) e_) hs_))
     replace cM := aM (ag (ok' := fun k_ => some k_ ≠ (.slice pf y645.length oJ : Value).ownBlock ∧ k_ ≠ bQ ∧ some k_ ≠ (v652 : Value).ownBlock) (Kd.R_keptB (cM.out) hkp (fun k_ hk_ hs_ => (hk_.2) hs_)) (fun k_ hk_ => ⟨hk_.1.1.2, hk_.1.1.1, fun e_ => Or.elim (ho0.1 k_ e_.symm) (fun hs_ => hk_.2.1 hs_) (fun hn_ => Nat.not_le.2 hk_.2.2 hn_)⟩))
     replace fD := aM (ag (ok' := fun k_ => some k_ ≠ (.slice re y642.length qI : Value).ownBlock ∧ k_ ≠ bQ ∧ some k_ ≠ (v652 : Value).ownBlock) (Kd.R_keptB (fD.out) hkp (fun k_ hk_ hs_ => (hk_.2) hs_)) (fun k_ hk_ => ⟨hk_.1.1.1, hk_.1.1.2, fun e_ => Or.elim (ho0.1 k_ e_.symm) (fun hs_ => hk_.2.1 hs_) (fun hn_ => Nat.not_le.2 hk_.2.2 hn_)⟩))
     replace HB := aM (hb)
     clear lL
     (try clear hb)
     (try clear hkp)
     (try clear ho0)
     refine hK.out _ _ ⟨(bC br.out 0).trans rfl, (bC br.out 1).trans rfl, (bC br.out 2).trans rfl⟩ (fun hHeld => ?_)
     clear hK K
     refine norm_ (a' := ?_) ?_ ?_
     rotate_left
     ·show Act.put _ (some 25) _ = _
      simp only [Act.put, sA, sB, sC, i64_w, i32_w]
      rfl
     refine pA 8 26 ?_
     refine pA 9 27 ?_
     refine pA 10 6 ?_
     refine pA 11 7 ?_
     refine done_ (done_of HT_.out z0) ?_
     try go_wp2
     go_ret2
     exact ⟨_, y5, by (with_reducible repeat (first | apply ac | apply ab | apply aa)); exact ag HO653.out (fun _ hk => trivial), zb_⟩
    ·rw [if_neg ce] at H
     exact absurd H (by simp)

/-! ### impl_CutMarks: function 13 -/
mutual
def impl_CutMarks.j0 : Nat → List (S34) → Int → Int → Int → ByteArray → Bool → Option ((List (S34)) × Bool)
 | 0, _, _, _, _, _, _ => none
 | k + 1, x0, x1, x2, x3, x4, x37 => if x37 = true then (some (([] : List (S34)), false)) else (impl_CutMarks.l0 k x1 x2 x3 x4 ([] : List (S34)) x0 (x0.length : Int) 0)
def impl_CutMarks.l0 : Nat → Int → Int → Int → ByteArray → List (S34) → List (S34) → Int → Int → Option ((List (S34)) × Bool)
 | 0, _, _, _, _, _, _, _, _ => none
 | k + 1, x1, x2, x3, x4, x12, x38, x39, x40 => if x40 < x39 then (if 0 ≤ x40 then (if x40 < (x38.length : Int) then (if ((so x38 x40).f2).toList = x4.toList then (if x2 = x3 then (impl_CutMarks.j2 k x1 x2 x3 x4 x12 x38 x39 x40 true ((so x38 x40).f0) ((so x38 x40).f1) ((so x38 x40).f2)) else (if ((so x38 x40).f1) ≤ x2 then (impl_CutMarks.j2 k x1 x2 x3 x4 x12 x38 x39 x40 true ((so x38 x40).f0) ((so x38 x40).f1) ((so x38 x40).f2)) else (impl_CutMarks.j2 k x1 x2 x3 x4 x12 x38 x39 x40 (decide (((so x38 x40).f0) ≥ x3)) ((so x38 x40).f0) ((so x38 x40).f1) ((so x38 x40).f2)))) else (impl_CutMarks.j2 k x1 x2 x3 x4 x12 x38 x39 x40 true ((so x38 x40).f0) ((so x38 x40).f1) ((so x38 x40).f2))) else (none)) else (none)) else ((impl_goodMarks.f k x12 x1).bind fun pM => (some (pM.1, pM.2)))
def impl_CutMarks.j2 : Nat → Int → Int → Int → ByteArray → List (S34) → List (S34) → Int → Int → Bool → Int → Int → ByteArray → Option ((List (S34)) × Bool)
 | 0, _, _, _, _, _, _, _, _, _, _, _, _ => none
 | k + 1, x1, x2, x3, x4, x12, x38, x39, x40, x64, x663000, x663001, x663002 => if x64 = true then (if x12.length < 4398046511104 then (impl_CutMarks.l0 k x1 x2 x3 x4 (x12 ++ [(⟨x663000, x663001, x663002⟩ : S34)]) x38 x39 (wrap64 (x40 + 1))) else (none)) else (if x663000 < x2 then (if x12.length < 4398046511104 then ((some (x12 ++ [(⟨x663000, x2, x4⟩ : S34)] : List (S34))).bind fun y666 => (if x663001 > x3 then (if y666.length < 4398046511104 then (impl_CutMarks.l0 k x1 x2 x3 x4 (y666 ++ [(⟨x3, x663001, x4⟩ : S34)]) x38 x39 (wrap64 (x40 + 1))) else (none)) else (impl_CutMarks.l0 k x1 x2 x3 x4 y666 x38 x39 (wrap64 (x40 + 1))))) else (none)) else (if x663001 > x3 then (if x12.length < 4398046511104 then (impl_CutMarks.l0 k x1 x2 x3 x4 (x12 ++ [(⟨x3, x663001, x4⟩ : S34)]) x38 x39 (wrap64 (x40 + 1))) else (none)) else (impl_CutMarks.l0 k x1 x2 x3 x4 x12 x38 x39 (wrap64 (x40 + 1)))))
end
def impl_CutMarks.f (k : Nat) (l0 : List (S34)) (a1 : Int) (a2 : Int) (a3 : Int) (a4 : ByteArray) : Option ((List (S34)) × Bool) := (impl_GoodMarks.f k l0 a1).bind fun nZ => (if nZ = true then (if a2 < 0 then (impl_CutMarks.j0 k l0 a1 a2 a3 a4 true) else (if a2 > a3 then (impl_CutMarks.j0 k l0 a1 a2 a3 a4 true) else (if a3 > a1 then (impl_CutMarks.j0 k l0 a1 a2 a3 a4 true) else ((impl_isStyle.f k a4).bind fun nk => (impl_CutMarks.j0 k l0 a1 a2 a3 a4 (!nk)))))) else (impl_CutMarks.j0 k l0 a1 a2 a3 a4 true))
theorem impl_CutMarks.mono_l : ∀ k, (∀ y0 y1 y2 y3 y4 y5, LeO (impl_CutMarks.j0 k y0 y1 y2 y3 y4 y5) (impl_CutMarks.j0 (k + 1) y0 y1 y2 y3 y4 y5)) ∧ (∀ y0 y1 y2 y3 y4 y5 y6 y7, LeO (impl_CutMarks.l0 k y0 y1 y2 y3 y4 y5 y6 y7) (impl_CutMarks.l0 (k + 1) y0 y1 y2 y3 y4 y5 y6 y7)) ∧ (∀ y0 y1 y2 y3 y4 y5 y6 y7 y8 y9 y10 y11, LeO (impl_CutMarks.j2 k y0 y1 y2 y3 y4 y5 y6 y7 y8 y9 y10 y11) (impl_CutMarks.j2 (k + 1) y0 y1 y2 y3 y4 y5 y6 y7 y8 y9 y10 y11))
 | 0 => ⟨fun _ _ _ _ _ _ r h => by simp [impl_CutMarks.j0] at h, fun _ _ _ _ _ _ _ _ r h => by simp [impl_CutMarks.l0] at h, fun _ _ _ _ _ _ _ _ _ _ _ _ r h => by simp [impl_CutMarks.j2] at h⟩
 | k + 1 => by
  obtain ⟨ih0, ih1, ih2⟩ := impl_CutMarks.mono_l k
  refine ⟨?_, ?_, ?_⟩
  ·intro y0 y1 y2 y3 y4 y5
   unfold impl_CutMarks.j0
   with_reducible repeat' first | exact ih0 _ _ _ _ _ _ | exact ih1 _ _ _ _ _ _ _ _ | exact ih2 _ _ _ _ _ _ _ _ _ _ _ _ | exact impl_GoodMarks.mono _ _ _ | exact impl_goodMarks.mono _ _ _ | exact impl_isStyle.mono _ _ | exact lR_ _ | exact lN_ _ | refine lI_ ?_ ?_ | refine lB_ ?_ fun _ => ?_
  ·intro y0 y1 y2 y3 y4 y5 y6 y7
   unfold impl_CutMarks.l0
   with_reducible repeat' first | exact ih0 _ _ _ _ _ _ | exact ih1 _ _ _ _ _ _ _ _ | exact ih2 _ _ _ _ _ _ _ _ _ _ _ _ | exact impl_GoodMarks.mono _ _ _ | exact impl_goodMarks.mono _ _ _ | exact impl_isStyle.mono _ _ | exact lR_ _ | exact lN_ _ | refine lI_ ?_ ?_ | refine lB_ ?_ fun _ => ?_
  ·intro y0 y1 y2 y3 y4 y5 y6 y7 y8 y9 y10 y11
   unfold impl_CutMarks.j2
   with_reducible repeat' first | exact ih0 _ _ _ _ _ _ | exact ih1 _ _ _ _ _ _ _ _ | exact ih2 _ _ _ _ _ _ _ _ _ _ _ _ | exact impl_GoodMarks.mono _ _ _ | exact impl_goodMarks.mono _ _ _ | exact impl_isStyle.mono _ _ | exact lR_ _ | exact lN_ _ | refine lI_ ?_ ?_ | refine lB_ ?_ fun _ => ?_
theorem impl_CutMarks.mono : ∀ a0 a1 a2 a3 a4 k, LeO (impl_CutMarks.f k a0 a1 a2 a3 a4) (impl_CutMarks.f (k + 1) a0 a1 a2 a3 a4) := by
 intro a0 a1 a2 a3 a4 k
 obtain ⟨ih0, ih1, ih2⟩ := impl_CutMarks.mono_l k
 unfold impl_CutMarks.f
 with_reducible repeat' first | exact ih0 _ _ _ _ _ _ | exact ih1 _ _ _ _ _ _ _ _ | exact ih2 _ _ _ _ _ _ _ _ _ _ _ _ | exact impl_GoodMarks.mono _ _ _ | exact impl_goodMarks.mono _ _ _ | exact impl_isStyle.mono _ _ | exact lR_ _ | exact lN_ _ | refine lI_ ?_ ?_ | refine lB_ ?_ fun _ => ?_
theorem impl_CutMarks.calls (k : Nat) (A0 : Option Addr) (c0 : Nat) (l0 : List (S34)) (a1 : Int) (a2 : Int) (a3 : Int) (a4 : ByteArray) (r1 : List (S34)) (r2 : Bool) (w : World) (hr0 : Kd.C k34 w A0 l0.length l0) (hc0 : l0.length ≤ c0) (h : impl_CutMarks.f k l0 a1 a2 a3 a4 = some (r1, r2)) :
  Calls Try.prog 13 #[.slice A0 l0.length c0, .int .i64 a1, .int .i64 a2, .int .i64 a3, .string a4] w fun e w' => ∃ v0_ : Value, e = .returned (.tuple #[v0_, .bool r2]) ∧ Kd.R k34 34 w' w.heap.size (fun _ => True) v0_ r1 ∧ Below w.heap.size w w' := by
 have hu34 := Try.underlying34
 have bH := aM hr0
 have cH := aM hc0
 clear hr0 hc0
 have HB := aM (Below.refl w.heap.size w)
 have H : ((impl_GoodMarks.f k l0 a1).bind fun nZ => (if nZ = true then (if a2 < 0 then (impl_CutMarks.j0 k l0 a1 a2 a3 a4 true) else (if a2 > a3 then (impl_CutMarks.j0 k l0 a1 a2 a3 a4 true) else (if a3 > a1 then (impl_CutMarks.j0 k l0 a1 a2 a3 a4 true) else ((impl_isStyle.f k a4).bind fun nk => (impl_CutMarks.j0 k l0 a1 a2 a3 a4 (!nk)))))) else (impl_CutMarks.j0 k l0 a1 a2 a3 a4 true))) = some (r1, r2) := h
 clear h
 have qR := aM H
 clear H
 go_enter Try.func13, Try.ntmps13
 go_upto_region 1 with (fail)
 go_cut [37] (fun v37 wc => ∃ (kq : Nat) (x37_5 : Bool), v37 = .bool x37_5 ∧ Aside0 (impl_CutMarks.j0 kq l0 a1 a2 a3 a4 x37_5 = some (r1, r2)) ∧ Aside0 (kq ≤ k) ∧ Aside0 (Below w.heap.size w wc))
 case first =>
  have H := qR.out
  clear qR
  obtain ⟨nZ, A7, H⟩ := oA_ H
  try dsimp only at H
  by_cases c8 : nZ = true
  ·subst c8
   rw [if_pos rfl] at H
   by_cases c9 : a2 < 0
   ·rw [if_pos c9] at H
    have c9b0 : decide (a2 < 0) = true := dT c9
    clear c9
    (first | rw [c9b0] | (simp only [i64_w, i32_w]; rw [c9b0]) | skip)
    have H' := aM H
    clear H
    go_wp2_with (first | ((with_reducible refine ax (f := 9) rfl ?_); refine aC (some 17) rfl rfl Try.func9 z0 rfl #[.slice A0 l0.length c0, .int .i64 a1] rfl z10 ?_; (with_reducible refine (impl_GoodMarks.calls k _ _ l0 a1 true _ ?side1 ?side2 A7.out).mono ?_); (case side1 => exact y64); (case side2 => exact y51); rintro e w10 ⟨rfl, hb⟩; refine ⟨_, rfl, ?_⟩; replace HB := aM (ap z9 hb); (try clear hb)))
    go_meet
    case rel => exact ⟨_, (true), z1, H', ⟨y1⟩, ⟨y6⟩⟩
   ·rw [if_neg c9] at H
    have c9b0 : decide (a2 < 0) = false := dF c9
    clear c9
    (first | rw [c9b0] | (simp only [i64_w, i32_w]; rw [c9b0]) | skip)
    by_cases b4 : a2 > a3
    ·rw [if_pos b4] at H
     have c11b0 : decide (a3 < a2) = true := dT b4
     clear b4
     have H' := aM H
     clear H
     go_wp2_with (first | ((with_reducible refine ax (f := 9) rfl ?_); refine aC (some 17) rfl rfl Try.func9 z0 rfl #[.slice A0 l0.length c0, .int .i64 a1] rfl z10 ?_; (with_reducible refine (impl_GoodMarks.calls k _ _ l0 a1 true _ ?side1 ?side2 A7.out).mono ?_); (case side1 => exact y64); (case side2 => exact y51); rintro e w12 ⟨rfl, hb⟩; refine ⟨_, rfl, ?_⟩; replace HB := aM (ap z9 hb); (try clear hb)))
     go_meet
     case rel => exact ⟨_, (true), z1, H', ⟨y1⟩, ⟨y6⟩⟩
    ·rw [if_neg b4] at H
     have c11b0 : decide (a3 < a2) = false := dF b4
     clear b4
     by_cases bU : a3 > a1
     ·rw [if_pos bU] at H
      have c13b0 : decide (a1 < a3) = true := dT bU
      clear bU
      have H' := aM H
      clear H
      go_wp2_with (first | ((with_reducible refine ax (f := 9) rfl ?_); refine aC (some 17) rfl rfl Try.func9 z0 rfl #[.slice A0 l0.length c0, .int .i64 a1] rfl z10 ?_; (with_reducible refine (impl_GoodMarks.calls k _ _ l0 a1 true _ ?side1 ?side2 A7.out).mono ?_); (case side1 => exact y64); (case side2 => exact y51); rintro e w14 ⟨rfl, hb⟩; refine ⟨_, rfl, ?_⟩; replace HB := aM (ap z9 hb); (try clear hb)))
      go_meet
      case rel => exact ⟨_, (true), z1, H', ⟨y1⟩, ⟨y6⟩⟩
     ·rw [if_neg bU] at H
      have c13b0 : decide (a1 < a3) = false := dF bU
      clear bU
      obtain ⟨nk, rl, H⟩ := oA_ H
      try dsimp only at H
      have H' := aM H
      clear H
      go_wp2_with (first | ((with_reducible refine ax (f := 9) rfl ?_); refine aC (some 17) rfl rfl Try.func9 z0 rfl #[.slice A0 l0.length c0, .int .i64 a1] rfl z10 ?_; (with_reducible refine (impl_GoodMarks.calls k _ _ l0 a1 true _ ?side1 ?side2 A7.out).mono ?_); (case side1 => exact y64); (case side2 => exact y51); rintro e w16 ⟨rfl, hb⟩; refine ⟨_, rfl, ?_⟩; replace HB := aM (ap z9 hb); (try clear hb)) | (go_at_call 33; (with_reducible refine (impl_isStyle.calls k a4 nk _ rl.out).mono ?_); rintro e w' ⟨rfl, ⟨nd, rfl⟩⟩))
      go_meet
      case rel => exact ⟨_, (!nk), z1, H', ⟨y1⟩, ⟨y6⟩⟩
  ·replace c8 := Bool.eq_false_iff.mpr c8
   subst c8
   rw [if_neg nF_] at H
   have H' := aM H
   clear H
   go_wp2_with (first | ((with_reducible refine ax (f := 9) rfl ?_); refine aC (some 17) rfl rfl Try.func9 z0 rfl #[.slice A0 l0.length c0, .int .i64 a1] rfl z10 ?_; (with_reducible refine (impl_GoodMarks.calls k _ _ l0 a1 false _ ?side1 ?side2 A7.out).mono ?_); (case side1 => exact y64); (case side2 => exact y51); rintro e w17 ⟨rfl, hb⟩; refine ⟨_, rfl, ?_⟩; replace HB := aM (ap z9 hb); (try clear hb)))
   go_meet
   case rel => exact ⟨_, (true), z1, H', ⟨y1⟩, ⟨y6⟩⟩
 case rest =>
  clear qR
  obtain ⟨kq, x37_5, rfl, HA, kd, HB⟩ := hcut
  cases kq with
  | zero => exact absurd HA.out (by simp [impl_CutMarks.j0])
  | succ kj5 =>
   have H := HA.out
   clear HA
   simp only [impl_CutMarks.j0] at H
   by_cases cJ : x37_5 = true
   ·subst cJ
    rw [if_pos rfl] at H
    simp only [Option.some.injEq, Prod.mk.injEq] at H
    obtain ⟨rfl, rfl⟩ := H
    go_wp2
    go_ret2
    exact ⟨_, y5, y29, y6⟩
   ·replace cJ := Bool.eq_false_iff.mpr cJ
    subst cJ
    rw [if_neg nF_] at H
    have H' := aM H
    clear H
    go_wp2
    go_loopg [12, 40] kj5 (fun kq v12 v40 w' => ∃ (x12_2 : List (S34)) (x40_2 : Int), v40 = .int .i64 x40_2 ∧ Aside0 (impl_CutMarks.l0 kq a1 a2 a3 a4 x12_2 l0 (l0.length : Int) x40_2 = some (r1, r2)) ∧ Aside0 (kq ≤ kj5) ∧ Aside0 (Kd.R k34 34 w' w.heap.size (fun _ => True) v12 x12_2) ∧ Aside0 (Below w.heap.size w w'))
    case atStart => exact ⟨(([] : List (S34))), (0), z1, H', ⟨Nat.le_refl _⟩, ⟨y29⟩, ⟨y6⟩⟩
    case round =>
     clear H'
     try clear cJ
     obtain ⟨x12_2, x40_2, rfl, HA, HK2, dk, HB⟩ := hrel
     cases gk with
     | zero => exact absurd HA.out (by simp [impl_CutMarks.l0])
     | succ k2 =>
      have H := HA.out
      clear HA
      simp only [impl_CutMarks.l0] at H
      by_cases iN : x40_2 < (l0.length : Int)
      ·rw [if_pos iN] at H
       have c19b0 : decide (x40_2 < (l0.length : Int)) = true := dT iN
       clear iN
       by_cases oO : 0 ≤ x40_2
       ·rw [if_pos oO] at H
        have c20b0 : decide (0 ≤ x40_2) = true := dT oO
        clear oO
        by_cases lX : x40_2 < (l0.length : Int)
        ·rw [if_pos lX] at H
         have c21b0 : decide (x40_2 < (l0.length : Int)) = true := dT lX
         clear lX
         have qX := aM H
         clear H
         have p661 : 0 ≤ (x40_2 : Int) := oD z2
         have q661 : x40_2 < (l0.length : Int) := oD z2
         obtain ⟨ad661, e661, hx661_0, hx661_1, hx661_2⟩ := at_T34 bH.out x40_2 p661 q661
         cases e661
         replace hx661_0 := hC_ HB.out hx661_0
         replace hx661_1 := hC_ HB.out hx661_1
         replace hx661_2 := hC_ HB.out hx661_2
         replace p661 := eq_true p661
         replace q661 := eq_true q661
         go_upto_region 7 with (first | ((with_reducible refine ay (N := 14) rfl ?_); refine bE_ (N := 14) (cs := #[.int .i64 0, .int .i64 0, .string ⟨#[]⟩]) (t := 34) (h := ?_); intro bz hg w23 hbox hb; replace dk := aM (af (Kd.R_elderB (kR_ dk.out) bz (Nat.le_of_eq hg.symm)) hb); have ba := aM (hbox); have GW662 := aM ((zg_ : w.heap.size ≤ bz)); have GE662 := aM ((zg_ : w.heap.size ≤ bz)); replace HB := aM (ap z9 hb); clear hb hbox hg; obtain ⟨fp, fo, fm, e9, e8, e7⟩ := cc3 ba.out))
         (try simp only [Act.put, sA, sB, sC])
         go_cut [64] (fun v64 wc => ∃ (kq : Nat) (x64_21 : Bool), v64 = .bool x64_21 ∧ Aside0 (impl_CutMarks.j2 kq a1 a2 a3 a4 x12_2 l0 (l0.length : Int) x40_2 x64_21 ((so l0 x40_2).f0) ((so l0 x40_2).f1) ((so l0 x40_2).f2) = some (r1, r2)) ∧ Aside0 (kq ≤ k2) ∧ Aside0 (Kd.R k34 34 wc w.heap.size (fun k_ => k_ ≠ bz) u12 x12_2) ∧ Aside0 (wc.heap[bz]? = some (.cells #[.int .i64 ((so l0 x40_2).f0), .int .i64 ((so l0 x40_2).f1), .string ((so l0 x40_2).f2)] 34 (0, 0))) ∧ Aside0 (Below w.heap.size w wc))
         case first =>
          have H := qX.out
          clear qX
          by_cases im : ((so l0 x40_2).f2).toList = a4.toList
          ·rw [if_pos im] at H
           have c25b0 : (((so l0 x40_2).f2).toList == a4.toList) = true := qT im
           have c25b1 : (((so l0 x40_2).f2).toList != a4.toList) = false := nF im
           clear im
           (first | rw [c25b0] | (simp only [i64_w, i32_w]; rw [c25b0]) | skip)
           by_cases jt : a2 = a3
           ·rw [if_pos jt] at H
            have c26b0 : (a2 == a3) = true := qT jt
            have c26b1 : (a2 != a3) = false := nF jt
            clear jt
            have H' := aM H
            clear H
            obtain ⟨la, k9, k7, kP, kN, kM⟩ := cc3 ba.out
            go_wp2
            all_goals (try (exfalso; rename_i h_; rw [c25b0] at h_; cases h_; done))
            go_meet
            case rel => exact ⟨_, (true), z1, H', ⟨by have := kd.out; have := HK2.out; first | omega | exact Nat.le_refl _⟩, ⟨y39⟩, ⟨y45⟩, ⟨y23⟩⟩
           ·rw [if_neg jt] at H
            have c26b0 : (a2 == a3) = false := qF jt
            have c26b1 : (a2 != a3) = true := nT jt
            by_cases gH : ((so l0 x40_2).f1) ≤ a2
            ·rw [if_pos gH] at H
             have c28b0 : decide (((so l0 x40_2).f1) ≤ a2) = true := dT gH
             clear gH
             have H' := aM H
             clear H
             obtain ⟨k4, k3, k0, kL, kK, kJ⟩ := cc3 ba.out
             go_wp2
             all_goals (try (exfalso; rename_i h_; rw [c25b0] at h_; cases h_; done))
             go_meet
             case rel => exact ⟨_, (true), z1, H', ⟨by have := kd.out; have := HK2.out; first | omega | exact Nat.le_refl _⟩, ⟨y39⟩, ⟨y45⟩, ⟨y23⟩⟩
            ·rw [if_neg gH] at H
             have c28b0 : decide (((so l0 x40_2).f1) ≤ a2) = false := dF gH
             clear gH
             have H' := aM H
             clear H
             obtain ⟨fl, fk, fj, e6, e5, e4⟩ := cc3 ba.out
             go_wp2
             all_goals (try (exfalso; rename_i h_; rw [c25b0] at h_; cases h_; done))
             go_meet
             case rel => exact ⟨_, (decide (((so l0 x40_2).f0) ≥ a3)), z1, H', ⟨by have := kd.out; have := HK2.out; first | omega | exact Nat.le_refl _⟩, ⟨y39⟩, ⟨y45⟩, ⟨y23⟩⟩
          ·rw [if_neg im] at H
           have c25b0 : (((so l0 x40_2).f2).toList == a4.toList) = false := qF im
           have c25b1 : (((so l0 x40_2).f2).toList != a4.toList) = true := nT im
           (first | rw [c25b0] | (simp only [i64_w, i32_w]; rw [c25b0]) | skip)
           have H' := aM H
           clear H
           obtain ⟨gz, gy, gx, gl, gj, gi⟩ := cc3 ba.out
           go_wp2
           all_goals (try (exfalso; rename_i h_; rw [c25b0] at h_; cases h_; done))
           go_meet
           case rel => exact ⟨_, (true), z1, H', ⟨by have := kd.out; have := HK2.out; first | omega | exact Nat.le_refl _⟩, ⟨y39⟩, ⟨y45⟩, ⟨y23⟩⟩
         case rest =>
          clear qX
          try clear c1
          try clear p2
          try clear c8
          try clear c9
          try clear c9b0
          try clear b4
          try clear c11b0
          try clear bU
          try clear c13b0
          try clear cJ
          try clear iN
          try clear c19b0
          try clear oO
          try clear c20b0
          try clear lX
          try clear c21b0
          try clear fp
          try clear fo
          try clear fm
          try clear e9
          try clear e8
          try clear e7
          try clear hx661_0
          try clear hx661_1
          try clear hx661_2
          try clear p2
          try clear p661
          try clear q661
          obtain ⟨kq, x64_21, rfl, HA, ke, dk, ba, HB⟩ := hcut
          cases kq with
          | zero => exact absurd HA.out (by simp [impl_CutMarks.j2])
          | succ kj21 =>
           have H := HA.out
           clear HA
           simp only [impl_CutMarks.j2] at H
           by_cases nL : x64_21 = true
           ·subst nL
            rw [if_pos rfl] at H
            by_cases ln : x12_2.length < 4398046511104
            ·rw [if_pos ln] at H
             have LMc33 := aM ln
             clear ln
             obtain ⟨y663, hy663⟩ : ∃ y_ : List (S34), y_ = (x12_2 ++ [(⟨((so l0 x40_2).f0), ((so l0 x40_2).f1), ((so l0 x40_2).f2)⟩ : S34)]) := ⟨_, rfl⟩
             replace H : (impl_CutMarks.l0 kj21 a1 a2 a3 a4 y663 l0 (l0.length : Int) (wrap64 (x40_2 + 1))) = some (r1, r2) := zh_ hy663
             have Ny663 := aM hy663
             clear hy663
             have H' := aM H
             clear H
             obtain ⟨mU, mT, mS, mz, my, mw⟩ := cc3 ba.out
             go_wp2_with (first | ((with_reducible refine gate_builtin (b := .append) (xs := #[.tmp 65, .tmp 67]) rfl ?_); at_builtin; refine aE k34 (w0 := w) w.heap.size rfl (.tmp 65) (.tmp 67) 24 34 (.agg #[(.int .i64 0), (.int .i64 0), (.string ⟨#[]⟩)]) 32 rfl Try.underlying24 info34 rfl (by decide) (by omega) u12 x12_2 (⟨((so l0 x40_2).f0), ((so l0 x40_2).f1), ((so l0 x40_2).f2)⟩ : S34) [.int .i64 ((so l0 x40_2).f0), .int .i64 ((so l0 x40_2).f1), .string ((so l0 x40_2).f2)] (fun k_ => k_ ≠ bz) (fun _ => False) rfl rfl ?aP (fun _ hk => hk.elim) ?aF ?aO ?aB ?aS ?aL ?_; (case aP => exact k34_mkM _ _ _ (⟨((so l0 x40_2).f0), ((so l0 x40_2).f1), ((so l0 x40_2).f2)⟩ : S34)); (case aB => exact z14); (case aF => exact (fun k_ hk => Kd.freshB (g := bz) (o := .cells #[.int .i64 ((so l0 x40_2).f0), .int .i64 ((so l0 x40_2).f1), .string ((so l0 x40_2).f2)] 34 (0, 0)) (kB_ ba.out) k_ hk)); (case aO => exact (kR_ dk.out)); (case aS => exact (aq z14)); (case aL => have := LMc33.out; omega); intro v664 w35 ho hb hg hat; rw [← Ny663.out] at ho; replace ba := aM (blk_grown (g := bz) (o := .cells #[.int .i64 ((so l0 x40_2).f0), .int .i64 ((so l0 x40_2).f1), .string ((so l0 x40_2).f2)] 34 (0, 0)) (kB_ ba.out) hg (Kd.R_away dk.out (fun _ hk => hk))); replace HB := aM hb; have HO665 := aM (ho); clear dk; clear ho hb hg hat))
             go_roundg kj21
             case measure => have := kd.out; have := HK2.out; have := ke.out; omega
             case rel => exact ⟨(y663), (wrap64 (x40_2 + 1)), z1, H', ⟨by have := kd.out; have := HK2.out; have := ke.out; omega⟩, ⟨kM_ HO665.out (fun _ hk => trivial)⟩, ⟨y23⟩⟩
            ·rw [if_neg ln] at H
             exact absurd H (by simp)
           ·replace nL := Bool.eq_false_iff.mpr nL
            subst nL
            rw [if_neg nF_] at H
            by_cases iM : ((so l0 x40_2).f0) < a2
            ·rw [if_pos iM] at H
             have c36b0 : decide (((so l0 x40_2).f0) < a2) = true := dT iM
             clear iM
             by_cases gM : x12_2.length < 4398046511104
             ·rw [if_pos gM] at H
              have LMc37 := aM gM
              clear gM
              obtain ⟨y666, hy666⟩ : ∃ y_ : List (S34), y_ = (x12_2 ++ [(⟨((so l0 x40_2).f0), a2, a4⟩ : S34)]) := ⟨_, rfl⟩
              replace H : (if ((so l0 x40_2).f1) > a3 then (if y666.length < 4398046511104 then (impl_CutMarks.l0 kj21 a1 a2 a3 a4 (y666 ++ [(⟨a3, ((so l0 x40_2).f1), a4⟩ : S34)]) l0 (l0.length : Int) (wrap64 (x40_2 + 1))) else (none)) else (impl_CutMarks.l0 kj21 a1 a2 a3 a4 y666 l0 (l0.length : Int) (wrap64 (x40_2 + 1)))) = some (r1, r2) := zh_ hy666
              have Ny666 := aM hy666
              clear hy666
              by_cases m9 : ((so l0 x40_2).f1) > a3
              ·rw [if_pos m9] at H
               have c38b0 : decide (a3 < ((so l0 x40_2).f1)) = true := dT m9
               clear m9
               by_cases tD : y666.length < 4398046511104
               ·rw [if_pos tD] at H
                have LMc39 := aM tD
                clear tD
                obtain ⟨y669, hy669⟩ : ∃ y_ : List (S34), y_ = (y666 ++ [(⟨a3, ((so l0 x40_2).f1), a4⟩ : S34)]) := ⟨_, rfl⟩
                replace H : (impl_CutMarks.l0 kj21 a1 a2 a3 a4 y669 l0 (l0.length : Int) (wrap64 (x40_2 + 1))) = some (r1, r2) := zh_ hy669
                have Ny669 := aM hy669
                clear hy669
                have H' := aM H
                clear H
                obtain ⟨hcz40_0, hcz40_1, hcz40_2, hfz40_0, hfz40_1, hfz40_2⟩ := cc3 ba.out
                go_wp2_with (first | ((with_reducible refine gate_builtin (b := .append) (xs := #[.tmp 73, .tmp 79]) rfl ?_); at_builtin; refine aE k34 (w0 := w) w.heap.size rfl (.tmp 73) (.tmp 79) 24 34 (.agg #[(.int .i64 0), (.int .i64 0), (.string ⟨#[]⟩)]) 32 rfl Try.underlying24 info34 rfl (by decide) (by omega) u12 x12_2 (⟨((so l0 x40_2).f0), a2, a4⟩ : S34) [.int .i64 ((so l0 x40_2).f0), .int .i64 a2, .string a4] (fun k_ => k_ ≠ bz) (fun _ => False) rfl rfl ?aP (fun _ hk => hk.elim) ?aF ?aO ?aB ?aS ?aL ?_; (case aP => exact k34_mkM _ _ _ (⟨((so l0 x40_2).f0), a2, a4⟩ : S34)); (case aB => exact z14); (case aF => exact (fun k_ hk => Kd.freshB (g := bz) (o := .cells #[.int .i64 ((so l0 x40_2).f0), .int .i64 ((so l0 x40_2).f1), .string ((so l0 x40_2).f2)] 34 (0, 0)) (kB_ ba.out) k_ hk)); (case aO => exact (kR_ dk.out)); (case aS => exact (aq z14)); (case aL => have := LMc37.out; omega); intro v667 w41 ho hb hg hat; rw [← Ny666.out] at ho; replace ba := aM (blk_grown (g := bz) (o := .cells #[.int .i64 ((so l0 x40_2).f0), .int .i64 ((so l0 x40_2).f1), .string ((so l0 x40_2).f2)] 34 (0, 0)) (kB_ ba.out) hg (Kd.R_away dk.out (fun _ hk => hk))); replace HB := aM hb; have lK := aM (ho); clear dk; clear ho hb hg hat; obtain ⟨dx, dw, dv, du, dt, dr⟩ := cc3 ba.out) | ((with_reducible refine gate_builtin (b := .append) (xs := #[.tmp 85, .tmp 91]) rfl ?_); at_builtin; refine aE k34 (w0 := w) w.heap.size rfl (.tmp 85) (.tmp 91) 24 34 (.agg #[(.int .i64 0), (.int .i64 0), (.string ⟨#[]⟩)]) 32 rfl Try.underlying24 info34 rfl (by decide) (by omega) v667 y666 (⟨a3, ((so l0 x40_2).f1), a4⟩ : S34) [.int .i64 a3, .int .i64 ((so l0 x40_2).f1), .string a4] (fun k_ => k_ ≠ bz) (fun _ => False) rfl rfl ?aP (fun _ hk => hk.elim) ?aF ?aO ?aB ?aS ?aL ?_; (case aP => exact k34_mkM _ _ _ (⟨a3, ((so l0 x40_2).f1), a4⟩ : S34)); (case aB => exact z14); (case aF => exact (fun k_ hk => Kd.freshB (g := bz) (o := .cells #[.int .i64 ((so l0 x40_2).f0), .int .i64 ((so l0 x40_2).f1), .string ((so l0 x40_2).f2)] 34 (0, 0)) (kB_ ba.out) k_ hk)); (case aO => exact (kR_ lK.out)); (case aS => exact (aq z14)); (case aL => have := LMc39.out; omega); intro v670 w43 ho hb hg hat; rw [← Ny669.out] at ho; replace ba := aM (blk_grown (g := bz) (o := .cells #[.int .i64 ((so l0 x40_2).f0), .int .i64 ((so l0 x40_2).f1), .string ((so l0 x40_2).f2)] 34 (0, 0)) (kB_ ba.out) hg (Kd.R_away lK.out (fun _ hk => hk))); replace HB := aM hb; have HO671 := aM (ho); clear lK; clear ho hb hg hat))
                go_roundg kj21
                case measure => have := kd.out; have := HK2.out; have := ke.out; omega
                case rel => exact ⟨(y669), (wrap64 (x40_2 + 1)), z1, H', ⟨by have := kd.out; have := HK2.out; have := ke.out; omega⟩, ⟨kM_ HO671.out (fun _ hk => trivial)⟩, ⟨y23⟩⟩
               ·rw [if_neg tD] at H
                exact absurd H (by simp)
              ·rw [if_neg m9] at H
               have c38b0 : decide (a3 < ((so l0 x40_2).f1)) = false := dF m9
               clear m9
               have H' := aM H
               clear H
               obtain ⟨hcz44_0, hcz44_1, hcz44_2, hfz44_0, hfz44_1, hfz44_2⟩ := cc3 ba.out
               go_wp2_with (first | ((with_reducible refine gate_builtin (b := .append) (xs := #[.tmp 73, .tmp 79]) rfl ?_); at_builtin; refine aE k34 (w0 := w) w.heap.size rfl (.tmp 73) (.tmp 79) 24 34 (.agg #[(.int .i64 0), (.int .i64 0), (.string ⟨#[]⟩)]) 32 rfl Try.underlying24 info34 rfl (by decide) (by omega) u12 x12_2 (⟨((so l0 x40_2).f0), a2, a4⟩ : S34) [.int .i64 ((so l0 x40_2).f0), .int .i64 a2, .string a4] (fun k_ => k_ ≠ bz) (fun _ => False) rfl rfl ?aP (fun _ hk => hk.elim) ?aF ?aO ?aB ?aS ?aL ?_; (case aP => exact k34_mkM _ _ _ (⟨((so l0 x40_2).f0), a2, a4⟩ : S34)); (case aB => exact z14); (case aF => exact (fun k_ hk => Kd.freshB (g := bz) (o := .cells #[.int .i64 ((so l0 x40_2).f0), .int .i64 ((so l0 x40_2).f1), .string ((so l0 x40_2).f2)] 34 (0, 0)) (kB_ ba.out) k_ hk)); (case aO => exact (kR_ dk.out)); (case aS => exact (aq z14)); (case aL => have := LMc37.out; omega); intro v667 w45 ho hb hg hat; rw [← Ny666.out] at ho; replace ba := aM (blk_grown (g := bz) (o := .cells #[.int .i64 ((so l0 x40_2).f0), .int .i64 ((so l0 x40_2).f1), .string ((so l0 x40_2).f2)] 34 (0, 0)) (kB_ ba.out) hg (Kd.R_away dk.out (fun _ hk => hk))); replace HB := aM hb; have lK := aM (ho); clear dk; clear ho hb hg hat; obtain ⟨hcz46_0, hcz46_1, hcz46_2, hfz46_0, hfz46_1, hfz46_2⟩ := cc3 ba.out))
               go_roundg kj21
               case measure => have := kd.out; have := HK2.out; have := ke.out; omega
               case rel => exact ⟨(y666), (wrap64 (x40_2 + 1)), z1, H', ⟨by have := kd.out; have := HK2.out; have := ke.out; omega⟩, ⟨kM_ lK.out (fun _ hk => trivial)⟩, ⟨y23⟩⟩
             ·rw [if_neg gM] at H
              exact absurd H (by simp)
            ·rw [if_neg iM] at H
             have c36b0 : decide (((so l0 x40_2).f0) < a2) = false := dF iM
             clear iM
             by_cases kh : ((so l0 x40_2).f1) > a3
             ·rw [if_pos kh] at H
              have c47b0 : decide (a3 < ((so l0 x40_2).f1)) = true := dT kh
              clear kh
              by_cases jr : x12_2.length < 4398046511104
              ·rw [if_pos jr] at H
               have LMc48 := aM jr
               clear jr
               obtain ⟨y672, hy672⟩ : ∃ y_ : List (S34), y_ = (x12_2 ++ [(⟨a3, ((so l0 x40_2).f1), a4⟩ : S34)]) := ⟨_, rfl⟩
               replace H : (impl_CutMarks.l0 kj21 a1 a2 a3 a4 y672 l0 (l0.length : Int) (wrap64 (x40_2 + 1))) = some (r1, r2) := zh_ hy672
               have Ny672 := aM hy672
               clear hy672
               have H' := aM H
               clear H
               obtain ⟨hcz49_0, hcz49_1, hcz49_2, hfz49_0, hfz49_1, hfz49_2⟩ := cc3 ba.out
               go_wp2_with (first | ((with_reducible refine gate_builtin (b := .append) (xs := #[.tmp 85, .tmp 91]) rfl ?_); at_builtin; refine aE k34 (w0 := w) w.heap.size rfl (.tmp 85) (.tmp 91) 24 34 (.agg #[(.int .i64 0), (.int .i64 0), (.string ⟨#[]⟩)]) 32 rfl Try.underlying24 info34 rfl (by decide) (by omega) u12 x12_2 (⟨a3, ((so l0 x40_2).f1), a4⟩ : S34) [.int .i64 a3, .int .i64 ((so l0 x40_2).f1), .string a4] (fun k_ => k_ ≠ bz) (fun _ => False) rfl rfl ?aP (fun _ hk => hk.elim) ?aF ?aO ?aB ?aS ?aL ?_; (case aP => exact k34_mkM _ _ _ (⟨a3, ((so l0 x40_2).f1), a4⟩ : S34)); (case aB => exact z14); (case aF => exact (fun k_ hk => Kd.freshB (g := bz) (o := .cells #[.int .i64 ((so l0 x40_2).f0), .int .i64 ((so l0 x40_2).f1), .string ((so l0 x40_2).f2)] 34 (0, 0)) (kB_ ba.out) k_ hk)); (case aO => exact (kR_ dk.out)); (case aS => exact (aq z14)); (case aL => have := LMc48.out; omega); intro v673 w50 ho hb hg hat; rw [← Ny672.out] at ho; replace ba := aM (blk_grown (g := bz) (o := .cells #[.int .i64 ((so l0 x40_2).f0), .int .i64 ((so l0 x40_2).f1), .string ((so l0 x40_2).f2)] 34 (0, 0)) (kB_ ba.out) hg (Kd.R_away dk.out (fun _ hk => hk))); replace HB := aM hb; have HO674 := aM (ho); clear dk; clear ho hb hg hat))
               go_roundg kj21
               case measure => have := kd.out; have := HK2.out; have := ke.out; omega
               case rel => exact ⟨(y672), (wrap64 (x40_2 + 1)), z1, H', ⟨by have := kd.out; have := HK2.out; have := ke.out; omega⟩, ⟨kM_ HO674.out (fun _ hk => trivial)⟩, ⟨y23⟩⟩
              ·rw [if_neg jr] at H
               exact absurd H (by simp)
             ·rw [if_neg kh] at H
              have c47b0 : decide (a3 < ((so l0 x40_2).f1)) = false := dF kh
              clear kh
              have H' := aM H
              clear H
              obtain ⟨hcz51_0, hcz51_1, hcz51_2, hfz51_0, hfz51_1, hfz51_2⟩ := cc3 ba.out
              go_wp2
              go_roundg kj21
              case measure => have := kd.out; have := HK2.out; have := ke.out; omega
              case rel => exact ⟨(x12_2), (wrap64 (x40_2 + 1)), z1, H', ⟨by have := kd.out; have := HK2.out; have := ke.out; omega⟩, ⟨kM_ dk.out (fun _ hk => trivial)⟩, ⟨y23⟩⟩
        ·rw [if_neg lX] at H
         exact absurd H (by simp)
       ·rw [if_neg oO] at H
        exact absurd H (by simp)
      ·rw [if_neg iN] at H
       have c19b0 : decide (x40_2 < (l0.length : Int)) = false := dF iN
       clear iN
       obtain ⟨⟨t657, t660⟩, tF, H⟩ := oA_ H
       try dsimp only at H
       simp only [Option.some.injEq, Prod.mk.injEq] at H
       obtain ⟨rfl, rfl⟩ := H
       obtain ⟨ra, qE, eo53⟩ := Kd.R_slice dk.out
       subst eo53
       go_wp2_with (first | ((with_reducible refine ax (f := 22) rfl ?_); refine aC (some 96) rfl rfl Try.func22 z0 rfl #[.slice ra x12_2.length qE, .int .i64 a1] rfl z10 ?_; (with_reducible refine (impl_goodMarks.calls k2 (fun k_ => some k_ = (.slice ra x12_2.length qE : Value).ownBlock) (.slice ra x12_2.length qE) x12_2 a1 t657 t660 w _ ?side1 ?side2 tF.out).mono ?_); (case side1 => exact y52); (case side2 => exact Kd.R_tight rfl dk.out); rintro e w54 ⟨v658, rfl, ho0, hb, hkp⟩; refine ⟨_, rfl, ?_⟩; have HO659 := aM (ag (ok' := fun k_ => True) ho0 (fun k_ hk_ => trivial)); replace HB := aM hb; clear dk; (try clear hb); (try clear hkp); (try clear ho0)))
       go_ret2
       exact ⟨_, y5, by (with_reducible repeat (first | apply ac | apply ab | apply aa)); exact HO659.out, y6⟩

/-! ### impl_CoveredBy: function 14 -/
mutual
def impl_CoveredBy.j0 : Nat → List (S34) → ByteArray → Bool → Option (Int × Bool)
 | 0, _, _, _ => none
 | k + 1, x0, x2, x19 => if x19 = true then (some (0, false)) else (impl_CoveredBy.l0 k x2 0 x0 (x0.length : Int) 0)
def impl_CoveredBy.l0 : Nat → ByteArray → Int → List (S34) → Int → Int → Option (Int × Bool)
 | 0, _, _, _, _, _ => none
 | k + 1, x2, x8, x20, x21, x22 => if x22 < x21 then (if 0 ≤ x22 then (if x22 < (x20.length : Int) then (if ((so x20 x22).f2).toList = x2.toList then (impl_CoveredBy.l0 k x2 (wrap64 (x8 + (wrap64 (((so x20 x22).f1) - ((so x20 x22).f0))))) x20 x21 (wrap64 (x22 + 1))) else (impl_CoveredBy.l0 k x2 x8 x20 x21 (wrap64 (x22 + 1)))) else (none)) else (none)) else (some (x8, true))
end
def impl_CoveredBy.f (k : Nat) (l0 : List (S34)) (a1 : Int) (a2 : ByteArray) : Option (Int × Bool) := (impl_GoodMarks.f k l0 a1).bind fun nY => (if nY = true then ((impl_isStyle.f k a2).bind fun nj => (impl_CoveredBy.j0 k l0 a2 (!nj))) else (impl_CoveredBy.j0 k l0 a2 true))
theorem impl_CoveredBy.mono_l : ∀ k, (∀ y0 y1 y2, LeO (impl_CoveredBy.j0 k y0 y1 y2) (impl_CoveredBy.j0 (k + 1) y0 y1 y2)) ∧ (∀ y0 y1 y2 y3 y4, LeO (impl_CoveredBy.l0 k y0 y1 y2 y3 y4) (impl_CoveredBy.l0 (k + 1) y0 y1 y2 y3 y4))
 | 0 => ⟨fun _ _ _ r h => by simp [impl_CoveredBy.j0] at h, fun _ _ _ _ _ r h => by simp [impl_CoveredBy.l0] at h⟩
 | k + 1 => by
  obtain ⟨ih0, ih1⟩ := impl_CoveredBy.mono_l k
  refine ⟨?_, ?_⟩
  ·intro y0 y1 y2
   unfold impl_CoveredBy.j0
   with_reducible repeat' first | exact ih0 _ _ _ | exact ih1 _ _ _ _ _ | exact impl_GoodMarks.mono _ _ _ | exact impl_isStyle.mono _ _ | exact lR_ _ | exact lN_ _ | refine lI_ ?_ ?_ | refine lB_ ?_ fun _ => ?_
  ·intro y0 y1 y2 y3 y4
   unfold impl_CoveredBy.l0
   with_reducible repeat' first | exact ih0 _ _ _ | exact ih1 _ _ _ _ _ | exact impl_GoodMarks.mono _ _ _ | exact impl_isStyle.mono _ _ | exact lR_ _ | exact lN_ _ | refine lI_ ?_ ?_ | refine lB_ ?_ fun _ => ?_
theorem impl_CoveredBy.mono : ∀ a0 a1 a2 k, LeO (impl_CoveredBy.f k a0 a1 a2) (impl_CoveredBy.f (k + 1) a0 a1 a2) := by
 intro a0 a1 a2 k
 obtain ⟨ih0, ih1⟩ := impl_CoveredBy.mono_l k
 unfold impl_CoveredBy.f
 with_reducible repeat' first | exact ih0 _ _ _ | exact ih1 _ _ _ _ _ | exact impl_GoodMarks.mono _ _ _ | exact impl_isStyle.mono _ _ | exact lR_ _ | exact lN_ _ | refine lI_ ?_ ?_ | refine lB_ ?_ fun _ => ?_
theorem impl_CoveredBy.calls (k : Nat) (A0 : Option Addr) (c0 : Nat) (l0 : List (S34)) (a1 : Int) (a2 : ByteArray) (r1 : Int) (r2 : Bool) (w : World) (hr0 : Kd.C k34 w A0 l0.length l0) (hc0 : l0.length ≤ c0) (h : impl_CoveredBy.f k l0 a1 a2 = some (r1, r2)) :
  Calls Try.prog 14 #[.slice A0 l0.length c0, .int .i64 a1, .string a2] w fun e w' => e = .returned (.tuple #[.int .i64 r1, .bool r2]) ∧ Below w.heap.size w w' := by
 have hu34 := Try.underlying34
 have bH := aM hr0
 have cH := aM hc0
 clear hr0 hc0
 have HB := aM (Below.refl w.heap.size w)
 have H : ((impl_GoodMarks.f k l0 a1).bind fun nY => (if nY = true then ((impl_isStyle.f k a2).bind fun nj => (impl_CoveredBy.j0 k l0 a2 (!nj))) else (impl_CoveredBy.j0 k l0 a2 true))) = some (r1, r2) := h
 clear h
 have iJ := aM H
 clear H
 go_enter Try.func14, Try.ntmps14
 go_upto_region 1 with (fail)
 go_cut [19] (fun v19 wc => ∃ (kq : Nat) (x19_3 : Bool), v19 = .bool x19_3 ∧ Aside0 (impl_CoveredBy.j0 kq l0 a2 x19_3 = some (r1, r2)) ∧ Aside0 (kq ≤ k) ∧ Aside0 (Below w.heap.size w wc))
 case first =>
  have H := iJ.out
  clear iJ
  obtain ⟨nY, A5, H⟩ := oA_ H
  try dsimp only at H
  by_cases c6 : nY = true
  ·subst c6
   rw [if_pos rfl] at H
   obtain ⟨nj, A7, H⟩ := oA_ H
   try dsimp only at H
   have H' := aM H
   clear H
   go_wp2_with (first | ((with_reducible refine ax (f := 9) rfl ?_); refine aC (some 13) rfl rfl Try.func9 z0 rfl #[.slice A0 l0.length c0, .int .i64 a1] rfl z10 ?_; (with_reducible refine (impl_GoodMarks.calls k _ _ l0 a1 true _ ?side1 ?side2 A5.out).mono ?_); (case side1 => exact y64); (case side2 => exact y51); rintro e w8 ⟨rfl, hb⟩; refine ⟨_, rfl, ?_⟩; replace HB := aM (ap z9 hb); (try clear hb)) | (go_at_call 33; (with_reducible refine (impl_isStyle.calls k a2 nj _ A7.out).mono ?_); rintro e w' ⟨rfl, ⟨nd, rfl⟩⟩))
   go_meet
   case rel => exact ⟨_, (!nj), z1, H', ⟨y1⟩, ⟨y6⟩⟩
  ·replace c6 := Bool.eq_false_iff.mpr c6
   subst c6
   rw [if_neg nF_] at H
   have H' := aM H
   clear H
   go_wp2_with (first | ((with_reducible refine ax (f := 9) rfl ?_); refine aC (some 13) rfl rfl Try.func9 z0 rfl #[.slice A0 l0.length c0, .int .i64 a1] rfl z10 ?_; (with_reducible refine (impl_GoodMarks.calls k _ _ l0 a1 false _ ?side1 ?side2 A5.out).mono ?_); (case side1 => exact y64); (case side2 => exact y51); rintro e w9 ⟨rfl, hb⟩; refine ⟨_, rfl, ?_⟩; replace HB := aM (ap z9 hb); (try clear hb)))
   go_meet
   case rel => exact ⟨_, (true), z1, H', ⟨y1⟩, ⟨y6⟩⟩
 case rest =>
  clear iJ
  obtain ⟨kq, x19_3, rfl, HA, jh, HB⟩ := hcut
  cases kq with
  | zero => exact absurd HA.out (by simp [impl_CoveredBy.j0])
  | succ kj3 =>
   have H := HA.out
   clear HA
   simp only [impl_CoveredBy.j0] at H
   by_cases cq : x19_3 = true
   ·subst cq
    rw [if_pos rfl] at H
    simp only [Option.some.injEq, Prod.mk.injEq] at H
    obtain ⟨rfl, rfl⟩ := H
    go_wp2
    go_ret2
    exact ⟨y5, y6⟩
   ·replace cq := Bool.eq_false_iff.mpr cq
    subst cq
    rw [if_neg nF_] at H
    have H' := aM H
    clear H
    go_wp2
    go_loopg [8, 22] kj3 (fun kq v8 v22 w' => ∃ (x8_2 : Int) (x22_2 : Int), v8 = .int .i64 x8_2 ∧ v22 = .int .i64 x22_2 ∧ Aside0 (impl_CoveredBy.l0 kq a2 x8_2 l0 (l0.length : Int) x22_2 = some (r1, r2)) ∧ Aside0 (kq ≤ kj3) ∧ Aside0 (Below w.heap.size w w'))
    case atStart => exact ⟨(0), (0), z1, z1, H', ⟨Nat.le_refl _⟩, ⟨y6⟩⟩
    case round =>
     clear H'
     try clear cq
     obtain ⟨x8_2, x22_2, rfl, rfl, HA, HK2, HB⟩ := hrel
     cases gk with
     | zero => exact absurd HA.out (by simp [impl_CoveredBy.l0])
     | succ k2 =>
      have H := HA.out
      clear HA
      simp only [impl_CoveredBy.l0] at H
      by_cases b4 : x22_2 < (l0.length : Int)
      ·rw [if_pos b4] at H
       have c11b0 : decide (x22_2 < (l0.length : Int)) = true := dT b4
       clear b4
       by_cases bT : 0 ≤ x22_2
       ·rw [if_pos bT] at H
        have c12b0 : decide (0 ≤ x22_2) = true := dT bT
        clear bT
        by_cases bU : x22_2 < (l0.length : Int)
        ·rw [if_pos bU] at H
         have c13b0 : decide (x22_2 < (l0.length : Int)) = true := dT bU
         clear bU
         by_cases cO : ((so l0 x22_2).f2).toList = a2.toList
         ·rw [if_pos cO] at H
          have c14b0 : (((so l0 x22_2).f2).toList == a2.toList) = true := qT cO
          have c14b1 : (((so l0 x22_2).f2).toList != a2.toList) = false := nF cO
          clear cO
          have H' := aM H
          clear H
          have p677 : 0 ≤ (x22_2 : Int) := oD z2
          have q677 : x22_2 < (l0.length : Int) := oD z2
          obtain ⟨ad677, e677, hx677_0, hx677_1, hx677_2⟩ := at_T34 bH.out x22_2 p677 q677
          cases e677
          replace hx677_0 := hC_ HB.out hx677_0
          replace hx677_1 := hC_ HB.out hx677_1
          replace hx677_2 := hC_ HB.out hx677_2
          replace p677 := eq_true p677
          replace q677 := eq_true q677
          go_wp2_with (first | ((with_reducible refine ay (N := 10) rfl ?_); refine bE_ (N := 10) (cs := #[.int .i64 0, .int .i64 0, .string ⟨#[]⟩]) (t := 34) (h := ?_); intro fP hg w15 hbox hb; have eU := aM (hbox); have GW678 := aM ((zg_ : w.heap.size ≤ fP)); have pa := aM ((zg_ : w.heap.size ≤ fP)); replace HB := aM (ap z9 hb); clear hb hbox hg; obtain ⟨jg, jf, je, i6, i5, i4⟩ := cc3 eU.out))
          all_goals (try (exfalso; rename_i h_; rw [c14b0] at h_; cases h_; done))
          go_roundg k2
          case measure => have := jh.out; have := HK2.out; omega
          case rel => exact ⟨(wrap64 (x8_2 + (wrap64 (((so l0 x22_2).f1) - ((so l0 x22_2).f0))))), (wrap64 (x22_2 + 1)), z1, z1, H', ⟨by have := jh.out; have := HK2.out; omega⟩, ⟨zb_⟩⟩
         ·rw [if_neg cO] at H
          have c14b0 : (((so l0 x22_2).f2).toList == a2.toList) = false := qF cO
          have c14b1 : (((so l0 x22_2).f2).toList != a2.toList) = true := nT cO
          have H' := aM H
          clear H
          have p677 : 0 ≤ (x22_2 : Int) := oD z2
          have q677 : x22_2 < (l0.length : Int) := oD z2
          obtain ⟨ad677, e677, hx677_0, hx677_1, hx677_2⟩ := at_T34 bH.out x22_2 p677 q677
          cases e677
          replace hx677_0 := hC_ HB.out hx677_0
          replace hx677_1 := hC_ HB.out hx677_1
          replace hx677_2 := hC_ HB.out hx677_2
          replace p677 := eq_true p677
          replace q677 := eq_true q677
          go_wp2_with (first | ((with_reducible refine ay (N := 10) rfl ?_); refine bE_ (N := 10) (cs := #[.int .i64 0, .int .i64 0, .string ⟨#[]⟩]) (t := 34) (h := ?_); intro fP hg w17 hbox hb; have eU := aM (hbox); have GW678 := aM ((zg_ : w.heap.size ≤ fP)); have pa := aM ((zg_ : w.heap.size ≤ fP)); replace HB := aM (ap z9 hb); clear hb hbox hg; obtain ⟨fx, fw, fv, ff, fe, fd⟩ := cc3 eU.out))
          all_goals (try (exfalso; rename_i h_; rw [c14b0] at h_; cases h_; done))
          go_roundg k2
          case measure => have := jh.out; have := HK2.out; omega
          case rel => exact ⟨(x8_2), (wrap64 (x22_2 + 1)), z1, z1, H', ⟨by have := jh.out; have := HK2.out; omega⟩, ⟨zb_⟩⟩
        ·rw [if_neg bU] at H
         exact absurd H (by simp)
       ·rw [if_neg bT] at H
        exact absurd H (by simp)
      ·rw [if_neg b4] at H
       have c11b0 : decide (x22_2 < (l0.length : Int)) = false := dF b4
       clear b4
       simp only [Option.some.injEq, Prod.mk.injEq] at H
       obtain ⟨rfl, rfl⟩ := H
       go_wp2
       go_ret2
       exact ⟨y5, y6⟩

/-! ### impl_StylesAt: function 15 -/
mutual
def impl_StylesAt.j0 : Nat → List (S34) → Int → Bool → Option (List ByteArray × Bool)
 | 0, _, _, _ => none
 | k + 1, x0, x2, x23 => if x23 = true then (some (([] : List ByteArray), false)) else (impl_StylesAt.l0 k x2 ([] : List ByteArray) x0 (x0.length : Int) 0)
def impl_StylesAt.l0 : Nat → Int → List ByteArray → List (S34) → Int → Int → Option (List ByteArray × Bool)
 | 0, _, _, _, _, _ => none
 | k + 1, x2, x8, x24, x25, x26 => if x26 < x25 then (if 0 ≤ x26 then (if x26 < (x24.length : Int) then (if ((so x24 x26).f0) ≤ x2 then (if x2 < ((so x24 x26).f1) then (if x8.length < 8796093022208 then (impl_StylesAt.l0 k x2 (x8 ++ [(so x24 x26).f2]) x24 x25 (wrap64 (x26 + 1))) else (none)) else (impl_StylesAt.l0 k x2 x8 x24 x25 (wrap64 (x26 + 1)))) else (impl_StylesAt.l0 k x2 x8 x24 x25 (wrap64 (x26 + 1)))) else (none)) else (none)) else (some (x8, true))
end
def impl_StylesAt.f (k : Nat) (l0 : List (S34)) (a1 : Int) (a2 : Int) : Option (List ByteArray × Bool) := (impl_GoodMarks.f k l0 a1).bind fun nX => (if nX = true then (if a2 < 0 then (impl_StylesAt.j0 k l0 a2 true) else (impl_StylesAt.j0 k l0 a2 (decide (a2 ≥ a1)))) else (impl_StylesAt.j0 k l0 a2 true))
theorem impl_StylesAt.mono_l : ∀ k, (∀ y0 y1 y2, LeO (impl_StylesAt.j0 k y0 y1 y2) (impl_StylesAt.j0 (k + 1) y0 y1 y2)) ∧ (∀ y0 y1 y2 y3 y4, LeO (impl_StylesAt.l0 k y0 y1 y2 y3 y4) (impl_StylesAt.l0 (k + 1) y0 y1 y2 y3 y4))
 | 0 => ⟨fun _ _ _ r h => by simp [impl_StylesAt.j0] at h, fun _ _ _ _ _ r h => by simp [impl_StylesAt.l0] at h⟩
 | k + 1 => by
  obtain ⟨ih0, ih1⟩ := impl_StylesAt.mono_l k
  refine ⟨?_, ?_⟩
  ·intro y0 y1 y2
   unfold impl_StylesAt.j0
   with_reducible repeat' first | exact ih0 _ _ _ | exact ih1 _ _ _ _ _ | exact impl_GoodMarks.mono _ _ _ | exact lR_ _ | exact lN_ _ | refine lI_ ?_ ?_ | refine lB_ ?_ fun _ => ?_
  ·intro y0 y1 y2 y3 y4
   unfold impl_StylesAt.l0
   with_reducible repeat' first | exact ih0 _ _ _ | exact ih1 _ _ _ _ _ | exact impl_GoodMarks.mono _ _ _ | exact lR_ _ | exact lN_ _ | refine lI_ ?_ ?_ | refine lB_ ?_ fun _ => ?_
theorem impl_StylesAt.mono : ∀ a0 a1 a2 k, LeO (impl_StylesAt.f k a0 a1 a2) (impl_StylesAt.f (k + 1) a0 a1 a2) := by
 intro a0 a1 a2 k
 obtain ⟨ih0, ih1⟩ := impl_StylesAt.mono_l k
 unfold impl_StylesAt.f
 with_reducible repeat' first | exact ih0 _ _ _ | exact ih1 _ _ _ _ _ | exact impl_GoodMarks.mono _ _ _ | exact lR_ _ | exact lN_ _ | refine lI_ ?_ ?_ | refine lB_ ?_ fun _ => ?_
theorem impl_StylesAt.calls (k : Nat) (A0 : Option Addr) (c0 : Nat) (l0 : List (S34)) (a1 : Int) (a2 : Int) (r1 : List ByteArray) (r2 : Bool) (w : World) (hr0 : Kd.C k34 w A0 l0.length l0) (hc0 : l0.length ≤ c0) (h : impl_StylesAt.f k l0 a1 a2 = some (r1, r2)) :
  Calls Try.prog 15 #[.slice A0 l0.length c0, .int .i64 a1, .int .i64 a2] w fun e w' => ∃ v0_ : Value, e = .returned (.tuple #[v0_, .bool r2]) ∧ Kd.R Kd.string 9 w' w.heap.size (fun _ => True) v0_ r1 ∧ Below w.heap.size w w' := by
 have hu34 := Try.underlying34
 have bH := aM hr0
 have cH := aM hc0
 clear hr0 hc0
 have HB := aM (Below.refl w.heap.size w)
 have H : ((impl_GoodMarks.f k l0 a1).bind fun nX => (if nX = true then (if a2 < 0 then (impl_StylesAt.j0 k l0 a2 true) else (impl_StylesAt.j0 k l0 a2 (decide (a2 ≥ a1)))) else (impl_StylesAt.j0 k l0 a2 true))) = some (r1, r2) := h
 clear h
 have iJ := aM H
 clear H
 go_enter Try.func15, Try.ntmps15
 go_upto_region 1 with (fail)
 go_cut [23] (fun v23 wc => ∃ (kq : Nat) (x23_3 : Bool), v23 = .bool x23_3 ∧ Aside0 (impl_StylesAt.j0 kq l0 a2 x23_3 = some (r1, r2)) ∧ Aside0 (kq ≤ k) ∧ Aside0 (Below w.heap.size w wc))
 case first =>
  have H := iJ.out
  clear iJ
  obtain ⟨nX, A5, H⟩ := oA_ H
  try dsimp only at H
  by_cases c6 : nX = true
  ·subst c6
   rw [if_pos rfl] at H
   by_cases c7 : a2 < 0
   ·rw [if_pos c7] at H
    have c7b0 : decide (a2 < 0) = true := dT c7
    clear c7
    (first | rw [c7b0] | (simp only [i64_w, i32_w]; rw [c7b0]) | skip)
    have H' := aM H
    clear H
    go_wp2_with (first | ((with_reducible refine ax (f := 9) rfl ?_); refine aC (some 13) rfl rfl Try.func9 z0 rfl #[.slice A0 l0.length c0, .int .i64 a1] rfl z10 ?_; (with_reducible refine (impl_GoodMarks.calls k _ _ l0 a1 true _ ?side1 ?side2 A5.out).mono ?_); (case side1 => exact y64); (case side2 => exact y51); rintro e w8 ⟨rfl, hb⟩; refine ⟨_, rfl, ?_⟩; replace HB := aM (ap z9 hb); (try clear hb)))
    go_meet
    case rel => exact ⟨_, (true), z1, H', ⟨y1⟩, ⟨y6⟩⟩
   ·rw [if_neg c7] at H
    have c7b0 : decide (a2 < 0) = false := dF c7
    clear c7
    (first | rw [c7b0] | (simp only [i64_w, i32_w]; rw [c7b0]) | skip)
    have H' := aM H
    clear H
    go_wp2_with (first | ((with_reducible refine ax (f := 9) rfl ?_); refine aC (some 13) rfl rfl Try.func9 z0 rfl #[.slice A0 l0.length c0, .int .i64 a1] rfl z10 ?_; (with_reducible refine (impl_GoodMarks.calls k _ _ l0 a1 true _ ?side1 ?side2 A5.out).mono ?_); (case side1 => exact y64); (case side2 => exact y51); rintro e w9 ⟨rfl, hb⟩; refine ⟨_, rfl, ?_⟩; replace HB := aM (ap z9 hb); (try clear hb)))
    go_meet
    case rel => exact ⟨_, (decide (a2 ≥ a1)), z1, H', ⟨y1⟩, ⟨y6⟩⟩
  ·replace c6 := Bool.eq_false_iff.mpr c6
   subst c6
   rw [if_neg nF_] at H
   have H' := aM H
   clear H
   go_wp2_with (first | ((with_reducible refine ax (f := 9) rfl ?_); refine aC (some 13) rfl rfl Try.func9 z0 rfl #[.slice A0 l0.length c0, .int .i64 a1] rfl z10 ?_; (with_reducible refine (impl_GoodMarks.calls k _ _ l0 a1 false _ ?side1 ?side2 A5.out).mono ?_); (case side1 => exact y64); (case side2 => exact y51); rintro e w10 ⟨rfl, hb⟩; refine ⟨_, rfl, ?_⟩; replace HB := aM (ap z9 hb); (try clear hb)))
   go_meet
   case rel => exact ⟨_, (true), z1, H', ⟨y1⟩, ⟨y6⟩⟩
 case rest =>
  clear iJ
  obtain ⟨kq, x23_3, rfl, HA, jh, HB⟩ := hcut
  cases kq with
  | zero => exact absurd HA.out (by simp [impl_StylesAt.j0])
  | succ kj3 =>
   have H := HA.out
   clear HA
   simp only [impl_StylesAt.j0] at H
   by_cases b4 : x23_3 = true
   ·subst b4
    rw [if_pos rfl] at H
    simp only [Option.some.injEq, Prod.mk.injEq] at H
    obtain ⟨rfl, rfl⟩ := H
    go_wp2
    go_ret2
    exact ⟨_, y5, y29, y6⟩
   ·replace b4 := Bool.eq_false_iff.mpr b4
    subst b4
    rw [if_neg nF_] at H
    have H' := aM H
    clear H
    go_wp2
    go_loopg [8, 26] kj3 (fun kq v8 v26 w' => ∃ (x8_2 : List ByteArray) (x26_2 : Int), v26 = .int .i64 x26_2 ∧ Aside0 (impl_StylesAt.l0 kq a2 x8_2 l0 (l0.length : Int) x26_2 = some (r1, r2)) ∧ Aside0 (kq ≤ kj3) ∧ Aside0 (Kd.R Kd.string 9 w' w.heap.size (fun _ => True) v8 x8_2) ∧ Aside0 (Below w.heap.size w w'))
    case atStart => exact ⟨(([] : List ByteArray)), (0), z1, H', ⟨Nat.le_refl _⟩, ⟨y29⟩, ⟨y6⟩⟩
    case round =>
     clear H'
     try clear b4
     obtain ⟨x8_2, x26_2, rfl, HA, HK2, ci, HB⟩ := hrel
     cases gk with
     | zero => exact absurd HA.out (by simp [impl_StylesAt.l0])
     | succ k2 =>
      have H := HA.out
      clear HA
      simp only [impl_StylesAt.l0] at H
      by_cases bT : x26_2 < (l0.length : Int)
      ·rw [if_pos bT] at H
       have c12b0 : decide (x26_2 < (l0.length : Int)) = true := dT bT
       clear bT
       by_cases bU : 0 ≤ x26_2
       ·rw [if_pos bU] at H
        have c13b0 : decide (0 ≤ x26_2) = true := dT bU
        clear bU
        by_cases cO : x26_2 < (l0.length : Int)
        ·rw [if_pos cO] at H
         have c14b0 : decide (x26_2 < (l0.length : Int)) = true := dT cO
         clear cO
         by_cases ce : ((so l0 x26_2).f0) ≤ a2
         ·rw [if_pos ce] at H
          have c15b0 : decide (((so l0 x26_2).f0) ≤ a2) = true := dT ce
          clear ce
          by_cases dV : a2 < ((so l0 x26_2).f1)
          ·rw [if_pos dV] at H
           have c16b0 : decide (a2 < ((so l0 x26_2).f1)) = true := dT dV
           clear dV
           by_cases cA : x8_2.length < 8796093022208
           ·rw [if_pos cA] at H
            have LMc17 := aM cA
            clear cA
            obtain ⟨y682, hy682⟩ : ∃ y_ : List ByteArray, y_ = (x8_2 ++ [(so l0 x26_2).f2]) := ⟨_, rfl⟩
            replace H : (impl_StylesAt.l0 k2 a2 y682 l0 (l0.length : Int) (wrap64 (x26_2 + 1))) = some (r1, r2) := zh_ hy682
            have Ny682 := aM hy682
            clear hy682
            have H' := aM H
            clear H
            have p680 : 0 ≤ (x26_2 : Int) := oD z2
            have q680 : x26_2 < (l0.length : Int) := oD z2
            obtain ⟨ad680, e680, hx680_0, hx680_1, hx680_2⟩ := at_T34 bH.out x26_2 p680 q680
            cases e680
            replace hx680_0 := hC_ HB.out hx680_0
            replace hx680_1 := hC_ HB.out hx680_1
            replace hx680_2 := hC_ HB.out hx680_2
            replace p680 := eq_true p680
            replace q680 := eq_true q680
            go_wp2_with (first | ((with_reducible refine ay (N := 10) rfl ?_); refine bE_ (N := 10) (cs := #[.int .i64 0, .int .i64 0, .string ⟨#[]⟩]) (t := 34) (h := ?_); intro ck hg w18 hbox hb; replace ci := aM (af (kR_ ci.out) hb); have cn := aM (hbox); have pV := aM ((zg_ : w.heap.size ≤ ck)); have jR := aM ((zg_ : w.heap.size ≤ ck)); replace HB := aM (ap z9 hb); clear hb hbox hg; obtain ⟨ld, lc, lb, kT, kR, kQ⟩ := cc3 cn.out) | ((with_reducible refine gate_builtin (b := .append) (xs := #[.tmp 40, .tmp 43]) rfl ?_); at_builtin; refine aE Kd.string (w0 := w) w.heap.size rfl (.tmp 40) (.tmp 43) 41 9 (.string ⟨#[]⟩) 16 rfl Try.underlying41 info9 rfl (by decide) (by omega) u8 x8_2 ((so l0 x26_2).f2) [.string ((so l0 x26_2).f2)] (fun _ => True) (fun _ => False) rfl (by first | (go_simp; done) | (go_simp; rfl)) ?aP (fun _ hk => hk.elim) ?aF ?aO ?aB ?aS ?aL ?_; (case aP => exact rfl); (case aB => exact zb_); (case aF => exact (fun _ _ => trivial)); (case aO => exact (by (with_reducible repeat (first | apply ac | apply ab | apply aa)); exact ag (ai (p := ⟨ck, 2, none⟩) (ai (p := ⟨ck, 1, none⟩) (ai (p := ⟨ck, 0, none⟩) (Kd.R_types ci.out cn.out (by decide)) (fun _ hk => hk.2) (.int .i64 ((so l0 x26_2).f0))) (fun _ hk => hk.2) (.int .i64 ((so l0 x26_2).f1))) (fun _ hk => hk.2) (.string ((so l0 x26_2).f2))) (fun _ hk => trivial))); (case aS => exact (aq zb_)); (case aL => have := LMc17.out; omega); intro v683 w20 ho hb hg hat; rw [← Ny682.out] at ho; replace cn := aM (blk_grown (g := ck) (o := .cells #[.int .i64 ((so l0 x26_2).f0), .int .i64 ((so l0 x26_2).f1), .string ((so l0 x26_2).f2)] 34 (0, 0)) (by (with_reducible repeat (first | refine ak ?_ _ | refine aj ?_ | refine al ?_ _)); refine am (cs := #[.int .i64 ((so l0 x26_2).f0), .int .i64 ((so l0 x26_2).f1), .string ⟨#[]⟩]) ?_ 2 _ rfl; (with_reducible repeat (first | refine ak ?_ _ | refine aj ?_ | refine al ?_ _)); refine am (cs := #[.int .i64 ((so l0 x26_2).f0), .int .i64 0, .string ⟨#[]⟩]) ?_ 1 _ rfl; (with_reducible repeat (first | refine ak ?_ _ | refine aj ?_ | refine al ?_ _)); refine am (cs := #[.int .i64 0, .int .i64 0, .string ⟨#[]⟩]) ?_ 0 _ rfl; (with_reducible repeat (first | refine ak ?_ _ | refine aj ?_ | refine al ?_ _)); exact cn.out) hg (Kd.R_ne ci.out cn.out (by decide))); replace HB := aM hb; have HO684 := aM (ho); clear ci; clear ho hb hg hat))
            go_roundg k2
            case measure => have := jh.out; have := HK2.out; omega
            case rel => exact ⟨(y682), (wrap64 (x26_2 + 1)), z1, H', ⟨by have := jh.out; have := HK2.out; omega⟩, ⟨kR_ HO684.out⟩, ⟨zb_⟩⟩
           ·rw [if_neg cA] at H
            exact absurd H (by simp)
          ·rw [if_neg dV] at H
           have c16b0 : decide (a2 < ((so l0 x26_2).f1)) = false := dF dV
           clear dV
           have H' := aM H
           clear H
           have p680 : 0 ≤ (x26_2 : Int) := oD z2
           have q680 : x26_2 < (l0.length : Int) := oD z2
           obtain ⟨ad680, e680, hx680_0, hx680_1, hx680_2⟩ := at_T34 bH.out x26_2 p680 q680
           cases e680
           replace hx680_0 := hC_ HB.out hx680_0
           replace hx680_1 := hC_ HB.out hx680_1
           replace hx680_2 := hC_ HB.out hx680_2
           replace p680 := eq_true p680
           replace q680 := eq_true q680
           go_wp2_with (first | ((with_reducible refine ay (N := 10) rfl ?_); refine bE_ (N := 10) (cs := #[.int .i64 0, .int .i64 0, .string ⟨#[]⟩]) (t := 34) (h := ?_); intro ck hg w21 hbox hb; replace ci := aM (af (kR_ ci.out) hb); have cn := aM (hbox); have pV := aM ((zg_ : w.heap.size ≤ ck)); have jR := aM ((zg_ : w.heap.size ≤ ck)); replace HB := aM (ap z9 hb); clear hb hbox hg; obtain ⟨dN, dM, dL, dK, dJ, dI⟩ := cc3 cn.out))
           go_roundg k2
           case measure => have := jh.out; have := HK2.out; omega
           case rel => exact ⟨(x8_2), (wrap64 (x26_2 + 1)), z1, H', ⟨by have := jh.out; have := HK2.out; omega⟩, ⟨by (with_reducible repeat (first | apply ac | apply ab | apply aa)); exact ag (ai (p := ⟨ck, 2, none⟩) (ai (p := ⟨ck, 1, none⟩) (ai (p := ⟨ck, 0, none⟩) (Kd.R_types ci.out cn.out (by decide)) (fun _ hk => hk.2) (.int .i64 ((so l0 x26_2).f0))) (fun _ hk => hk.2) (.int .i64 ((so l0 x26_2).f1))) (fun _ hk => hk.2) (.string ((so l0 x26_2).f2))) (fun _ hk => trivial)⟩, ⟨zb_⟩⟩
         ·rw [if_neg ce] at H
          have c15b0 : decide (((so l0 x26_2).f0) ≤ a2) = false := dF ce
          clear ce
          have H' := aM H
          clear H
          have p680 : 0 ≤ (x26_2 : Int) := oD z2
          have q680 : x26_2 < (l0.length : Int) := oD z2
          obtain ⟨ad680, e680, hx680_0, hx680_1, hx680_2⟩ := at_T34 bH.out x26_2 p680 q680
          cases e680
          replace hx680_0 := hC_ HB.out hx680_0
          replace hx680_1 := hC_ HB.out hx680_1
          replace hx680_2 := hC_ HB.out hx680_2
          replace p680 := eq_true p680
          replace q680 := eq_true q680
          go_wp2_with (first | ((with_reducible refine ay (N := 10) rfl ?_); refine bE_ (N := 10) (cs := #[.int .i64 0, .int .i64 0, .string ⟨#[]⟩]) (t := 34) (h := ?_); intro ck hg w23 hbox hb; replace ci := aM (af (kR_ ci.out) hb); have cn := aM (hbox); have pV := aM ((zg_ : w.heap.size ≤ ck)); have jR := aM ((zg_ : w.heap.size ≤ ck)); replace HB := aM (ap z9 hb); clear hb hbox hg; obtain ⟨fp, fo, fm, e9, e8, e7⟩ := cc3 cn.out))
          go_roundg k2
          case measure => have := jh.out; have := HK2.out; omega
          case rel => exact ⟨(x8_2), (wrap64 (x26_2 + 1)), z1, H', ⟨by have := jh.out; have := HK2.out; omega⟩, ⟨by (with_reducible repeat (first | apply ac | apply ab | apply aa)); exact ag (ai (p := ⟨ck, 2, none⟩) (ai (p := ⟨ck, 1, none⟩) (ai (p := ⟨ck, 0, none⟩) (Kd.R_types ci.out cn.out (by decide)) (fun _ hk => hk.2) (.int .i64 ((so l0 x26_2).f0))) (fun _ hk => hk.2) (.int .i64 ((so l0 x26_2).f1))) (fun _ hk => hk.2) (.string ((so l0 x26_2).f2))) (fun _ hk => trivial)⟩, ⟨zb_⟩⟩
        ·rw [if_neg cO] at H
         exact absurd H (by simp)
       ·rw [if_neg bU] at H
        exact absurd H (by simp)
      ·rw [if_neg bT] at H
       have c12b0 : decide (x26_2 < (l0.length : Int)) = false := dF bT
       clear bT
       simp only [Option.some.injEq, Prod.mk.injEq] at H
       obtain ⟨rfl, rfl⟩ := H
       go_wp2
       go_ret2
       exact ⟨_, y5, by (with_reducible repeat (first | apply ac | apply ab | apply aa)); exact ci.out, y6⟩

end Go.Proofs.Ytjbllgdehpomiaa.AFnMarks
