-- this session's own text: written by wip/tools/ownprint.py over the kit's print
import Derived.Test.YtmkenlejdaphnaaAFnExactSplitRopex0
import Derived.Test.YtmkenlejdaphnaaAFnExactSplitRopex3
import Derived.Test.YtmkenlejdaphnaaAFnExactSplitRopex6
namespace Go.Proofs.Ytmkenlejdaphnaa.AFnExactSplitRope
open Go.RowKit Go.Proofs.YtmkenlejdaphnaaW.PrintWords Go.Proofs.YtmkenlejdaphnaaW.PrintLast Go.Proofs.YtmkenlejdaphnaaW.PrintMore
attribute [local go_sem] max2_int min2_int max_two min_two max_three min_three max_four min_four   -- for this text's walks alone
set_option linter.unusedVariables false
set_option linter.unusedSimpArgs false

/-! ### spec_l12Split: function 70 -/
def spec_l12Split.f : Nat → List (S58) → Int → Option ((List (S58)) × (List (S58)))
 | 0, _, _ => none
 | k + 1, l0, a1 => if a1 = 0 then (some (([] : List (S58)), l0)) else ((spec_l12Size.f l0).bind fun gA => (if a1 = gA then (some (l0, ([] : List (S58)))) else (if 0 ≤ (wrap64 ((l0.length : Int) - 1)) then (if (wrap64 ((l0.length : Int) - 1)) < (l0.length : Int) then (if ((rd_T58 l0 (wrap64 ((l0.length : Int) - 1))).f0) < 0 then (if 0 ≤ a1 then (if a1 ≤ (((rd_T58 l0 (wrap64 ((l0.length : Int) - 1))).f2).size : Int) then ((spec_l12Piece.f (((rd_T58 l0 (wrap64 ((l0.length : Int) - 1))).f2).extract 0 (a1 : Int).toNat)).bind fun lH => ((spec_l12Piece.f (((rd_T58 l0 (wrap64 ((l0.length : Int) - 1))).f2).extract (a1 : Int).toNat ((rd_T58 l0 (wrap64 ((l0.length : Int) - 1))).f2).size)).bind fun lG => (some (lH, lG)))) else (none)) else (none)) else ((spec_l12Part.f k l0 ((rd_T58 l0 (wrap64 ((l0.length : Int) - 1))).f0)).bind fun es => ((spec_l12Part.f k l0 ((rd_T58 l0 (wrap64 ((l0.length : Int) - 1))).f1)).bind fun fh => ((spec_l12Size.f es).bind fun fN => (if a1 < fN then ((spec_l12Split.f k es a1).bind fun gY => ((spec_l12Join.f k gY.2 fh).bind fun lF => (some (gY.1, lF)))) else ((spec_l12Split.f k fh (wrap64 (a1 - fN))).bind fun gX => ((spec_l12Join.f k es gX.1).bind fun lE => (some (lE, gX.2))))))))) else (none)) else (none))))
theorem spec_l12Split.mono_l : ∀ k, (∀ y0 y1, LeO (spec_l12Split.f k y0 y1) (spec_l12Split.f (k + 1) y0 y1))
 | 0 => fun _ _ r h => by simp [spec_l12Split.f] at h
 | k + 1 => by
  have ih0 := spec_l12Split.mono_l k
  ·intro y0 y1
   unfold spec_l12Split.f
   repeat' first
   | (with_reducible exact ih0 _ _)
   | (with_reducible exact spec_l12Join.mono _ _ _)
   | (with_reducible exact spec_l12Part.mono _ _ _)
   | (with_reducible exact LeO.refl _)
   | (with_reducible exact LeO.none _)
   | (with_reducible refine LeO.ite ?_ ?_)
   | (with_reducible refine LeO.bind ?_ (fun _ => ?_))
   | exact ih0 _ _
   | exact spec_l12Join.mono _ _ _
   | exact spec_l12Part.mono _ _ _
   | exact LeO.none _
   | refine LeO.ite ?_ ?_
   | refine LeO.bind ?_ (fun _ => ?_)
theorem spec_l12Split.mono : ∀ a0 a1 k, LeO (spec_l12Split.f k a0 a1) (spec_l12Split.f (k + 1) a0 a1) := by
 intro a0 a1 k
 have ih0 := spec_l12Split.mono_l k
 exact ih0 a0 a1
def spec_l12Split.T7 : Bool × List (List Nat × List Nat) := (true, [([], []), ([0], [0]), ([], []), ([1, 2], [1, 2]), ([3], [3]), ([], []), ([5], [5]), ([], []), ([6, 7], [6, 7]), ([8, 4], [8]), ([4, 9, 0, 1, 2, 3, 4], [4]), ([9, 10, 0, 1, 2, 3, 4, 5, 6, 7, 8, 9, 10], [9])])
def spec_l12Split.B7 : List Nat := [0, 1, 0, 7, 15, 0, 32, 0, 224, 511, 1023, 2047]
theorem spec_l12Split.tab7 : rtab .any (opsOf Try.f70 7) = spec_l12Split.T7 := by kernel_rfl
theorem spec_l12Split.bits7 : waitsOk spec_l12Split.T7.2 spec_l12Split.B7 = true := by kernel_rfl
set_option maxHeartbeats 8000000 in
set_option maxRecDepth 100000 in
theorem spec_l12Split.calls (k : Nat) : ∀ (P0_ : Nat → Prop) (u9000_ : Value) (l0 : List (S58)) (a1 : Int) (r1 : List (S58)) (r2 : List (S58)) (w0 w : World) (hB : Below w0.heap.size w0 w) (ho0 : Kd.R k58 58 w w0.heap.size P0_ u9000_ l0) (h : spec_l12Split.f k l0 a1 = some (r1, r2)),
  Calls Try.prog 70 #[u9000_, .int .i64 a1] w fun e w' => ∃ v0_ v1_ : Value, e = .returned (.tuple #[v0_, v1_]) ∧ Kd.R k58 58 w' w0.heap.size (fun k_ => (P0_ k_ ∨ w.heap.size ≤ k_) ∧ some k_ ≠ (v1_ : Value).ownBlock) v0_ r1 ∧ Kd.R k58 58 w' w0.heap.size (fun k_ => (P0_ k_ ∨ w.heap.size ≤ k_) ∧ some k_ ≠ (v0_ : Value).ownBlock) v1_ r2 ∧ Below w0.heap.size w0 w' ∧ Kept w w' (fun k_ => P0_ k_) := by
 induction k using Nat.strongRecOn with
 | _ k ih =>
 intro P0_ u9000_ l0 a1 r1 r2 w0 w hB ho0 h
 cases k with
 | zero => exact absurd h (by simp [spec_l12Split.f])
 | succ k =>
 simp only [spec_l12Split.f] at h
 have hu58 := Try.underlying58
 have dA := aM (show Kd.R k58 58 w w0.heap.size (fun k_ => (P0_ k_ ∨ w.heap.size ≤ k_)) u9000_ l0 from ag ho0 (fun k_ hk => (.inl hk)))
 have HK := aM (Kept.refl w (fun k_ => P0_ k_))
 have HW0 := aM hB.size
 have HB := aM hB
 clear hB
 have H : (if a1 = 0 then (some (([] : List (S58)), l0)) else ((spec_l12Size.f l0).bind fun gA => (if a1 = gA then (some (l0, ([] : List (S58)))) else (if 0 ≤ (wrap64 ((l0.length : Int) - 1)) then (if (wrap64 ((l0.length : Int) - 1)) < (l0.length : Int) then (if ((rd_T58 l0 (wrap64 ((l0.length : Int) - 1))).f0) < 0 then (if 0 ≤ a1 then (if a1 ≤ (((rd_T58 l0 (wrap64 ((l0.length : Int) - 1))).f2).size : Int) then ((spec_l12Piece.f (((rd_T58 l0 (wrap64 ((l0.length : Int) - 1))).f2).extract 0 (a1 : Int).toNat)).bind fun lH => ((spec_l12Piece.f (((rd_T58 l0 (wrap64 ((l0.length : Int) - 1))).f2).extract (a1 : Int).toNat ((rd_T58 l0 (wrap64 ((l0.length : Int) - 1))).f2).size)).bind fun lG => (some (lH, lG)))) else (none)) else (none)) else ((spec_l12Part.f k l0 ((rd_T58 l0 (wrap64 ((l0.length : Int) - 1))).f0)).bind fun es => ((spec_l12Part.f k l0 ((rd_T58 l0 (wrap64 ((l0.length : Int) - 1))).f1)).bind fun fh => ((spec_l12Size.f es).bind fun fN => (if a1 < fN then ((spec_l12Split.f k es a1).bind fun gY => ((spec_l12Join.f k gY.2 fh).bind fun lF => (some (gY.1, lF)))) else ((spec_l12Split.f k fh (wrap64 (a1 - fN))).bind fun gX => ((spec_l12Join.f k es gX.1).bind fun lE => (some (lE, gX.2))))))))) else (none)) else (none))))) = some (r1, r2) := h
 clear h
 by_cases c3 : a1 = 0
 ·rw [if_pos c3] at H
  have c3b0 : (a1 == 0) = true := qT c3
  have c3b1 : (a1 != 0) = false := nF c3
  clear c3
  simp only [Option.some.injEq, Prod.mk.injEq] at H
  obtain ⟨rfl, rfl⟩ := H
  go_enter Try.func70, Try.ntmps70
  go_wp2
  go_ret2
  exact ⟨_, _, y2, y13, by (with_reducible repeat (first | apply ac | apply ab | apply aa)); exact ag dA.out (fun _ hk => ⟨hk, (by simp [Value.ownBlock])⟩), y3, y11⟩
 ·rw [if_neg c3] at H
  have c3b0 : (a1 == 0) = false := qF c3
  have c3b1 : (a1 != 0) = true := nT c3
  replace H := oB H
  obtain ⟨gA, rh, H⟩ := H
  try dsimp only at H
  have A4 := aM rh
  clear rh
  by_cases c5 : a1 = gA
  ·rw [if_pos c5] at H
   have c5b0 : (a1 == gA) = true := qT c5
   have c5b1 : (a1 != gA) = false := nF c5
   clear c5
   simp only [Option.some.injEq, Prod.mk.injEq] at H
   obtain ⟨rfl, rfl⟩ := H
   obtain ⟨rf, qo, eo6⟩ := Kd.R_slice dA.out
   subst eo6
   go_enter Try.func70, Try.ntmps70
   go_wp2_with (first | ((with_reducible refine aJ (f := 51) rfl ?_); refine aQ (some 21) rfl rfl Try.func51 z1 rfl #[.slice rf l0.length qo] rfl z25 ?_; (with_reducible refine (spec_l12Size.calls _ _ l0 gA _ ?side1 ?side2 A4.out).mono ?_); (case side1 => repeat (first | exact (ah dA.out).2.2 | (with_reducible refine aE ?_ _) | (with_reducible refine aG ?_ _) | (with_reducible refine aH ?_))); (case side2 => exact (ah dA.out).2.1); rintro e w' ⟨rfl, ⟨nd, rfl⟩⟩; refine ⟨_, rfl, ?_⟩))
   go_ret2
   exact ⟨_, _, y2, by (with_reducible repeat (first | apply ac | apply ab | apply aa)); exact ag dA.out (fun _ hk => ⟨hk, (by simp [Value.ownBlock])⟩), y13, y3, y11⟩
  ·rw [if_neg c5] at H
   have c5b0 : (a1 == gA) = false := qF c5
   have c5b1 : (a1 != gA) = true := nT c5
   obtain ⟨ce, gB⟩ : ∃ j_ : Int, (wrap64 ((l0.length : Int) - 1)) = j_ := ⟨_, rfl⟩
   replace H : (if 0 ≤ (ce) then (if (ce) < (l0.length : Int) then (if ((rd_T58 l0 (ce)).f0) < 0 then (if 0 ≤ a1 then (if a1 ≤ (((rd_T58 l0 (ce)).f2).size : Int) then ((spec_l12Piece.f (((rd_T58 l0 (ce)).f2).extract 0 (a1 : Int).toNat)).bind fun lH => ((spec_l12Piece.f (((rd_T58 l0 (ce)).f2).extract (a1 : Int).toNat ((rd_T58 l0 (ce)).f2).size)).bind fun lG => (some (lH, lG)))) else (none)) else (none)) else ((spec_l12Part.f k l0 ((rd_T58 l0 (ce)).f0)).bind fun es => ((spec_l12Part.f k l0 ((rd_T58 l0 (ce)).f1)).bind fun fh => ((spec_l12Size.f es).bind fun fN => (if a1 < fN then ((spec_l12Split.f k es a1).bind fun gY => ((spec_l12Join.f k gY.2 fh).bind fun lF => (some (gY.1, lF)))) else ((spec_l12Split.f k fh (wrap64 (a1 - fN))).bind fun gX => ((spec_l12Join.f k es gX.1).bind fun lE => (some (lE, gX.2))))))))) else (none)) else (none)) = some (r1, r2) := by first | (rw [gB] at H; exact H) | (simp only [gB] at H ⊢; exact H)
   (try rw [gB] at A4)
   have hji7w : (IntKind.i64.wrap ((l0.length : Int) - 1)) = ce := (i64_w _).trans gB
   by_cases c8 : 0 ≤ (ce)
   ·rw [if_pos c8] at H
    have c8b0 : decide (0 ≤ (ce)) = true := dT c8
    clear c8
    by_cases c9 : (ce) < (l0.length : Int)
    ·rw [if_pos c9] at H
     have c9b0 : decide ((ce) < (l0.length : Int)) = true := dT c9
     clear c9
     by_cases eK : ((rd_T58 l0 (ce)).f0) < 0
     ·rw [if_pos eK] at H
      have c10b0 : decide (((rd_T58 l0 (ce)).f0) < 0) = true := dT eK
      clear eK
      by_cases fd : 0 ≤ a1
      ·rw [if_pos fd] at H
       have c11b0 := eq_true fd
       have c11b1 : decide (0 ≤ a1) = true := dT fd
       clear fd
       by_cases fi : a1 ≤ (((rd_T58 l0 (ce)).f2).size : Int)
       ·rw [if_pos fi] at H
        have c12b0 := eq_true fi
        have c12b1 : decide (a1 ≤ (((rd_T58 l0 (ce)).f2).size : Int)) = true := dT fi
        clear fi
        replace H := oB H
        obtain ⟨lH, qa, H⟩ := H
        try dsimp only at H
        have A13 := aM qa
        clear qa
        have c14b0 := eq_true (oD z3 : 0 ≤ a1)
        have c15b0 := eq_true (oD z3 : a1 ≤ (((rd_T58 l0 (ce)).f2).size : Int))
        replace H := oB H
        obtain ⟨lG, p0, H⟩ := H
        try dsimp only at H
        have A16 := aM p0
        clear p0
        simp only [Option.some.injEq, Prod.mk.injEq] at H
        obtain ⟨rfl, rfl⟩ := H
        obtain ⟨pL, oW, eo17⟩ := Kd.R_slice dA.out
        subst eo17
        go_enter Try.func70, Try.ntmps70
        try go_wp2_with (first | ((with_reducible refine aJ (f := 51) rfl ?_); refine aQ (some 21) rfl rfl Try.func51 z1 rfl #[.slice pL l0.length oW] rfl z25 ?_; (with_reducible refine (spec_l12Size.calls _ _ l0 gA _ ?side1 ?side2 A4.out).mono ?_); (case side1 => repeat (first | exact (ah dA.out).2.2 | (with_reducible refine aE ?_ _) | (with_reducible refine aG ?_ _) | (with_reducible refine aH ?_))); (case side2 => exact (ah dA.out).2.1); rintro e w' ⟨rfl, ⟨nd, rfl⟩⟩; refine ⟨_, rfl, ?_⟩; (try (rw [drewN_self w]; generalize hq_ : World.drewN w _ = wq_; have ba : Aside0 (Kd.R k58 58 wq_ w0.heap.size (fun k_ => (P0_ k_ ∨ w.heap.size ≤ k_)) (.slice pL l0.length oW) l0) := ⟨by rw [← hq_]; exact z4⟩; have bb : Aside0 (Kept w wq_ (fun k_ => P0_ k_)) := ⟨by rw [← hq_]; exact z22⟩; have bf : Aside0 (Below w0.heap.size w0 wq_) := ⟨by rw [← hq_]; exact z23⟩; clear dA HK HB hq_; have dA := ba; have HK := bb; have HB := bf; clear ba bb bf)); have p214 : 0 ≤ ((ce) : Int) := oD z3; have q214 : (ce) < (l0.length : Int) := oD z3; obtain ⟨ad214, e214, hx214_0, hx214_1, hx214_2, hx214_3, hx214_4⟩ := at_T58 (ah dA.out).2.2 (ce) p214 q214; cases e214; replace p214 := eq_true p214; replace q214 := eq_true q214) | ((with_reducible refine aK (N := 6) rfl ?_); refine aN ?hg (N := 6) ?hd (cs := #[.int .i64 0, .int .i64 0, .string (⟨#[]⟩ : ByteArray), .int .i64 0, .int .i64 0]) (t := 58) ?hr ?_; (case hd => rfl); (case hg => rfl); (case hr => first | (go_simp; done) | (go_simp; rfl)); intro bw hg w18 hbox hb; have ba := aM (af (Kd.R_elderB z4 bw (Nat.le_of_eq hg.symm)) hb); have bb := aM (Kept.below (S := (fun k_ => P0_ k_)) z22 hb); have bf := aM (ay z23 hb); have bk := aM (hbox); have bn := aM ((by rw [hg]; exact (by first | exact HK.out.1 | exact (show Kept w _ (fun k_ => P0_ k_) from by repeat (first | (with_reducible first | exact HK.out | apply Kept.alloc | apply Kept.drewN | apply Kept.drew) | exact HK.out)).1) : w.heap.size ≤ bw)); have br := aM ((by rw [hg]; exact (az z23) : w0.heap.size ≤ bw)); clear dA; clear HK; clear HB; have dA := ba; have HK := bb; have HB := bf; have bL := bk; have mC := bn; have fO := br; clear ba bb bf bk bn br; clear hb hbox hg; have fD : w18.cell? ⟨bw, 0, none⟩ = some (.int .i64 0) := (bC bL.out 0).trans rfl; have iJ : w18.cell? ⟨bw, 1, none⟩ = some (.int .i64 0) := (bC bL.out 1).trans rfl; have iI : w18.cell? ⟨bw, 2, none⟩ = some (.string (⟨#[]⟩ : ByteArray)) := (bC bL.out 2).trans rfl; have iH : w18.cell? ⟨bw, 3, none⟩ = some (.int .i64 0) := (bC bL.out 3).trans rfl; have iG : w18.cell? ⟨bw, 4, none⟩ = some (.int .i64 0) := (bC bL.out 4).trans rfl; have fB := bF bL.out 0; have ip := bF bL.out 1; have im := bF bL.out 2; have il := bF bL.out 3; have ik := bF bL.out 4))
        have ba : Aside0 (Kd.R k58 58 (((((w18.setCell ⟨bw, 0, none⟩ (.int .i64 ((rd_T58 l0 (ce)).f0))).setCell ⟨bw, 1, none⟩ (.int .i64 ((rd_T58 l0 (ce)).f1))).setCell ⟨bw, 2, none⟩ (.string ((rd_T58 l0 (ce)).f2))).setCell ⟨bw, 3, none⟩ (.int .i64 ((rd_T58 l0 (ce)).f3))).setCell ⟨bw, 4, none⟩ (.int .i64 ((rd_T58 l0 (ce)).f4))) w0.heap.size (fun k_ => (P0_ k_ ∨ w.heap.size ≤ k_) ∧ k_ ≠ bw) (.slice (some ad214) l0.length oW) l0) := ⟨by (with_reducible repeat (first | apply ac | apply ab | apply aa)); exact ag (am (p := ⟨bw, 4, none⟩) (am (p := ⟨bw, 3, none⟩) (am (p := ⟨bw, 2, none⟩) (am (p := ⟨bw, 1, none⟩) (am (p := ⟨bw, 0, none⟩) (ag dA.out (fun k_ hk => (⟨hk, hk.2⟩ : _ ∧ k_ ≠ bw))) (fun _ hk => hk.2) (.int .i64 ((rd_T58 l0 (ce)).f0))) (fun _ hk => hk.2) (.int .i64 ((rd_T58 l0 (ce)).f1))) (fun _ hk => hk.2) (.string ((rd_T58 l0 (ce)).f2))) (fun _ hk => hk.2) (.int .i64 ((rd_T58 l0 (ce)).f3))) (fun _ hk => hk.2) (.int .i64 ((rd_T58 l0 (ce)).f4))) (fun _ hk => ⟨hk.1.1, hk.1.2⟩)⟩
        have bb : Aside0 ((((((w18.setCell ⟨bw, 0, none⟩ (.int .i64 ((rd_T58 l0 (ce)).f0))).setCell ⟨bw, 1, none⟩ (.int .i64 ((rd_T58 l0 (ce)).f1))).setCell ⟨bw, 2, none⟩ (.string ((rd_T58 l0 (ce)).f2))).setCell ⟨bw, 3, none⟩ (.int .i64 ((rd_T58 l0 (ce)).f3))).setCell ⟨bw, 4, none⟩ (.int .i64 ((rd_T58 l0 (ce)).f4))).heap[bw]? = some (.cells #[.int .i64 ((rd_T58 l0 (ce)).f0), .int .i64 ((rd_T58 l0 (ce)).f1), .string ((rd_T58 l0 (ce)).f2), .int .i64 ((rd_T58 l0 (ce)).f3), .int .i64 ((rd_T58 l0 (ce)).f4)] 58 (0, 0))) := ⟨by (with_reducible repeat (first | refine aq ?_ _ | refine ap ?_ | refine ar ?_ _)); refine av (cs := #[.int .i64 ((rd_T58 l0 (ce)).f0), .int .i64 ((rd_T58 l0 (ce)).f1), .string ((rd_T58 l0 (ce)).f2), .int .i64 ((rd_T58 l0 (ce)).f3), .int .i64 0]) ?_ 4 _ rfl; (with_reducible repeat (first | refine aq ?_ _ | refine ap ?_ | refine ar ?_ _)); refine av (cs := #[.int .i64 ((rd_T58 l0 (ce)).f0), .int .i64 ((rd_T58 l0 (ce)).f1), .string ((rd_T58 l0 (ce)).f2), .int .i64 0, .int .i64 0]) ?_ 3 _ rfl; (with_reducible repeat (first | refine aq ?_ _ | refine ap ?_ | refine ar ?_ _)); refine av (cs := #[.int .i64 ((rd_T58 l0 (ce)).f0), .int .i64 ((rd_T58 l0 (ce)).f1), .string (⟨#[]⟩ : ByteArray), .int .i64 0, .int .i64 0]) ?_ 2 _ rfl; (with_reducible repeat (first | refine aq ?_ _ | refine ap ?_ | refine ar ?_ _)); refine av (cs := #[.int .i64 ((rd_T58 l0 (ce)).f0), .int .i64 0, .string (⟨#[]⟩ : ByteArray), .int .i64 0, .int .i64 0]) ?_ 1 _ rfl; (with_reducible repeat (first | refine aq ?_ _ | refine ap ?_ | refine ar ?_ _)); refine av (cs := #[.int .i64 0, .int .i64 0, .string (⟨#[]⟩ : ByteArray), .int .i64 0, .int .i64 0]) ?_ 0 _ rfl; (with_reducible repeat (first | refine aq ?_ _ | refine ap ?_ | refine ar ?_ _)); exact bL.out⟩
        have bf : Aside0 (Kept w (((((w18.setCell ⟨bw, 0, none⟩ (.int .i64 ((rd_T58 l0 (ce)).f0))).setCell ⟨bw, 1, none⟩ (.int .i64 ((rd_T58 l0 (ce)).f1))).setCell ⟨bw, 2, none⟩ (.string ((rd_T58 l0 (ce)).f2))).setCell ⟨bw, 3, none⟩ (.int .i64 ((rd_T58 l0 (ce)).f3))).setCell ⟨bw, 4, none⟩ (.int .i64 ((rd_T58 l0 (ce)).f4))) (fun k_ => P0_ k_)) := ⟨y15⟩
        have bk : Aside0 (Below w0.heap.size w0 (((((w18.setCell ⟨bw, 0, none⟩ (.int .i64 ((rd_T58 l0 (ce)).f0))).setCell ⟨bw, 1, none⟩ (.int .i64 ((rd_T58 l0 (ce)).f1))).setCell ⟨bw, 2, none⟩ (.string ((rd_T58 l0 (ce)).f2))).setCell ⟨bw, 3, none⟩ (.int .i64 ((rd_T58 l0 (ce)).f3))).setCell ⟨bw, 4, none⟩ (.int .i64 ((rd_T58 l0 (ce)).f4)))) := ⟨by repeat (first | (with_reducible first | exact HB.out | apply bA | apply pD | apply bD | refine ax ?_ fO.out) | exact HB.out)⟩
        (try clear dA)
        (try clear bL)
        (try clear HK)
        (try clear HB)
        generalize (((((w18.setCell ⟨bw, 0, none⟩ (.int .i64 ((rd_T58 l0 (ce)).f0))).setCell ⟨bw, 1, none⟩ (.int .i64 ((rd_T58 l0 (ce)).f1))).setCell ⟨bw, 2, none⟩ (.string ((rd_T58 l0 (ce)).f2))).setCell ⟨bw, 3, none⟩ (.int .i64 ((rd_T58 l0 (ce)).f3))).setCell ⟨bw, 4, none⟩ (.int .i64 ((rd_T58 l0 (ce)).f4))) = w20 at ba bb bf bk ⊢
        have dA := ba
        have bL := bb
        have HK := bf
        have HB := bk
        clear ba bb bf bk
        have ba := aM (aa dA.out)
        have bb := aM (ap bL.out)
        have bf := aM (Kept.drew HK.out)
        have bk := aM (bD HB.out)
        clear dA
        clear bL
        clear HK
        clear HB
        have dA := ba
        have bL := bb
        have HK := bf
        have HB := bk
        clear ba bb bf bk
        refine start_ (n := 12) (S := fun w' => w'.cell? ⟨bw, 0, none⟩ = some (.int .i64 ((rd_T58 l0 (ce)).f0)) ∧ w'.cell? ⟨bw, 1, none⟩ = some (.int .i64 ((rd_T58 l0 (ce)).f1)) ∧ w'.cell? ⟨bw, 2, none⟩ = some (.string ((rd_T58 l0 (ce)).f2)) ∧ w'.cell? ⟨bw, 3, none⟩ = some (.int .i64 ((rd_T58 l0 (ce)).f3)) ∧ w'.cell? ⟨bw, 4, none⟩ = some (.int .i64 ((rd_T58 l0 (ce)).f4))) (ds := []) #[false, false, false, false, false, false, false, false, false, false, false, false] z1 rfl rfl ⟨(bC bL.out 0).trans rfl, (bC bL.out 1).trans rfl, (bC bL.out 2).trans rfl, (bC bL.out 3).trans rfl, (bC bL.out 4).trans rfl⟩ (fun hHeld => ?_); refine with_tabW spec_l12Split.tab7 spec_l12Split.bits7 (fun HT_ HW_ => ?_)
        generalize w20.drew = w21 at dA bL HK HB hHeld ⊢
        refine pA 0 33 ?_
        refine pA 2 35 ?_
        refine pA 5 38 ?_
        refine pA 7 40 ?_
        refine tA 1 34 ?_ (hy := by rintro w' ⟨s0, s1, s2, s3, s4⟩; go_simp; with_reducible rfl)
        refine pA 3 36 ?_
        refine tA 6 39 ?_ (hy := by rintro w' ⟨s0, s1, s2, s3, s4⟩; go_simp; with_reducible rfl)
        refine pA 8 41 ?_
        refine one_ (i := 4) (N := some 37) #[true, true, true, true, true, true, true, true, true, false, false, false] rfl rfl (one_of HT_.out z1) z0 (fun K hK => ?_)
        refine goes_ Try.func80 z1 rfl #[.string (((rd_T58 l0 (ce)).f2).extract 0 (a1 : Int).toNat)] (by rfl) rfl rfl (by (try simp only [List.map_toArray, List.map_cons, List.map_nil]); first | done | (simp only [gB]; rfl) | rfl | (simp only [List.length_drop, List.length_take]; rfl)) ?_
        with_reducible refine (spec_l12Piece.calls (((rd_T58 l0 (ce)).f2).extract 0 (a1 : Int).toNat) lH _ A13.out).mono ?_
        rintro e w22 ⟨v217, rfl, ho0, hb⟩
        refine ⟨_, rfl, ?_⟩
        have ba := aM (ai z4 (ak ho0) hb)
        have bb := aM (aU (Kd.R_newB (aj (Kd.R_newM (M := fun k_ => (P0_ k_ ∨ w.heap.size ≤ k_)) ho0 z31 (fun k_ h_ => .inr h_)) (al z4)) (g := bw) (o := .cells #[.int .i64 ((rd_T58 l0 (ce)).f0), .int .i64 ((rd_T58 l0 (ce)).f1), .string ((rd_T58 l0 (ce)).f2), .int .i64 ((rd_T58 l0 (ce)).f3), .int .i64 ((rd_T58 l0 (ce)).f4)] 58 (0, 0)) z12) (az z27))
        have bf := aM (ae (g := bw) (o := .cells #[.int .i64 ((rd_T58 l0 (ce)).f0), .int .i64 ((rd_T58 l0 (ce)).f1), .string ((rd_T58 l0 (ce)).f2), .int .i64 ((rd_T58 l0 (ce)).f3), .int .i64 ((rd_T58 l0 (ce)).f4)] 58 (0, 0)) z12 hb)
        have bk := aM (Kept.below (S := (fun k_ => P0_ k_)) z28 hb)
        have bn := aM (ay z27 hb)
        clear dA
        clear bL
        clear HK
        clear HB
        have dA := ba
        have lv := bb
        have bL := bf
        have HK := bk
        have HB := bn
        clear ba bb bf bk bn
        (try clear hb)
        (try clear hb2)
        (try clear hk)
        (try clear hi)
        (try clear ho0)
        refine hK.out _ _ ⟨(bC bL.out 0).trans rfl, (bC bL.out 1).trans rfl, (bC bL.out 2).trans rfl, (bC bL.out 3).trans rfl, (bC bL.out 4).trans rfl⟩ (fun hHeld => ?_)
        clear hK K
        refine norm_ (a' := ?_) ?_ ?_
        rotate_left
        ·show Act.put _ (some 37) _ = _
         simp only [Act.put, sA, sB, sC, i64_w, i32_w]
         rfl
        refine one_ (i := 9) (N := some 42) #[true, true, true, true, true, true, true, true, true, true, false, false] rfl rfl (one_of HT_.out z1) z0 (fun K hK => ?_)
        refine goes_ Try.func80 z1 rfl #[.string (((rd_T58 l0 (ce)).f2).extract (a1 : Int).toNat ((rd_T58 l0 (ce)).f2).size)] (by rfl) rfl rfl (by (try simp only [List.map_toArray, List.map_cons, List.map_nil]); first | done | (simp only [gB]; rfl) | rfl | (simp only [List.length_drop, List.length_take]; rfl)) ?_
        with_reducible refine (spec_l12Piece.calls (((rd_T58 l0 (ce)).f2).extract (a1 : Int).toNat ((rd_T58 l0 (ce)).f2).size) lG _ A16.out).mono ?_
        rintro e w23 ⟨v220, rfl, ho0, hb⟩
        refine ⟨_, rfl, ?_⟩
        have ba := aM (ai z4 (ak ho0) hb)
        have bb := aM (ai (by (with_reducible repeat (first | apply ac | apply ab | apply aa)); exact lv.out) (ak ho0) hb)
        have bf := aM (aU (Kd.R_newB (aj (aj (Kd.R_newM (M := fun k_ => (P0_ k_ ∨ w.heap.size ≤ k_)) ho0 z31 (fun k_ h_ => .inr h_)) (al z4)) (al (by (with_reducible repeat (first | apply ac | apply ab | apply aa)); exact lv.out))) (g := bw) (o := .cells #[.int .i64 ((rd_T58 l0 (ce)).f0), .int .i64 ((rd_T58 l0 (ce)).f1), .string ((rd_T58 l0 (ce)).f2), .int .i64 ((rd_T58 l0 (ce)).f3), .int .i64 ((rd_T58 l0 (ce)).f4)] 58 (0, 0)) z12) (az z27))
        have bk := aM (ae (g := bw) (o := .cells #[.int .i64 ((rd_T58 l0 (ce)).f0), .int .i64 ((rd_T58 l0 (ce)).f1), .string ((rd_T58 l0 (ce)).f2), .int .i64 ((rd_T58 l0 (ce)).f3), .int .i64 ((rd_T58 l0 (ce)).f4)] 58 (0, 0)) z12 hb)
        have bn := aM (Kept.below (S := (fun k_ => P0_ k_)) z28 hb)
        have br := aM (ay z27 hb)
        clear dA
        clear lv
        clear bL
        clear HK
        clear HB
        have dA := ba
        have lv := bb
        have HO221 := bf
        have bL := bk
        have HK := bn
        have HB := br
        clear ba bb bf bk bn br
        (try clear hb)
        (try clear hb2)
        (try clear hk)
        (try clear hi)
        (try clear ho0)
        refine hK.out _ _ ⟨(bC bL.out 0).trans rfl, (bC bL.out 1).trans rfl, (bC bL.out 2).trans rfl, (bC bL.out 3).trans rfl, (bC bL.out 4).trans rfl⟩ (fun hHeld => ?_)
        clear hK K
        refine norm_ (a' := ?_) ?_ ?_
        rotate_left
        ·show Act.put _ (some 42) _ = _
         simp only [Act.put, sA, sB, sC, i64_w, i32_w]
         rfl
        refine pA 10 4 ?_
        refine pA 11 5 ?_
        refine done_ (done_of HT_.out z1) ?_
        try go_wp2
        go_ret2
        exact ⟨_, _, by first | rfl | (simp [errW_none, errW_some] <;> rfl) | (simp only [← gB]; first | rfl | (simp [errW_none, errW_some] <;> rfl)) | (simp [*, errW_none, errW_some] <;> rfl), by (with_reducible repeat (first | apply ac | apply ab | apply aa)); exact ag lv.out (fun _ hk => ⟨hk.1.1.1.1, hk.2⟩), by (with_reducible repeat (first | apply ac | apply ab | apply aa)); exact ag HO221.out (fun _ hk => ⟨hk.1.1.1.1, hk.1.2⟩), by repeat (first | (with_reducible first | exact HB.out | apply bA | apply pD | apply bD | refine ax ?_ fO.out) | exact HB.out), y15⟩
       ·rw [if_neg fi] at H
        exact absurd H (by simp)
      ·rw [if_neg fd] at H
       exact absurd H (by simp)
     ·rw [if_neg eK] at H
      have c10b0 : decide (((rd_T58 l0 (ce)).f0) < 0) = false := dF eK
      clear eK
      replace H := oB H
      obtain ⟨es, pZ, H⟩ := H
      try dsimp only at H
      have rk := aM pZ
      clear pZ
      replace H := oB H
      obtain ⟨fh, pY, H⟩ := H
      try dsimp only at H
      have rj := aM pY
      clear pY
      replace H := oB H
      obtain ⟨fN, pX, H⟩ := H
      try dsimp only at H
      have ri := aM pX
      clear pX
      by_cases mw : a1 < fN
      ·rw [if_pos mw] at H
       have c27b0 : decide (a1 < fN) = true := dT mw
       clear mw
       replace H := oB H
       obtain ⟨⟨t229, m8⟩, pV, H⟩ := H
       try dsimp only at H
       have A28 := aM pV
       clear pV
       replace H := oB H
       obtain ⟨lF, pU, H⟩ := H
       try dsimp only at H
       have A29 := aM pU
       clear pU
       simp only [Option.some.injEq, Prod.mk.injEq] at H
       obtain ⟨rfl, rfl⟩ := H
       obtain ⟨pK, jg, eo30⟩ := Kd.R_slice dA.out
       subst eo30
       go_enter Try.func70, Try.ntmps70
       go_wp2_with (first | ((with_reducible refine aJ (f := 51) rfl ?_); refine aQ (some 21) rfl rfl Try.func51 z1 rfl #[.slice pK l0.length jg] rfl z25 ?_; (with_reducible refine (spec_l12Size.calls _ _ l0 gA _ ?side1 ?side2 A4.out).mono ?_); (case side1 => repeat (first | exact (ah dA.out).2.2 | (with_reducible refine aE ?_ _) | (with_reducible refine aG ?_ _) | (with_reducible refine aH ?_))); (case side2 => exact (ah dA.out).2.1); rintro e w' ⟨rfl, ⟨nd, rfl⟩⟩; refine ⟨_, rfl, ?_⟩; (try (rw [drewN_self w]; generalize hq_ : World.drewN w _ = wq_; have ba : Aside0 (Kd.R k58 58 wq_ w0.heap.size (fun k_ => (P0_ k_ ∨ w.heap.size ≤ k_)) (.slice pK l0.length jg) l0) := ⟨by rw [← hq_]; exact z4⟩; have bb : Aside0 (Kept w wq_ (fun k_ => P0_ k_)) := ⟨by rw [← hq_]; exact z22⟩; have bf : Aside0 (Below w0.heap.size w0 wq_) := ⟨by rw [← hq_]; exact z23⟩; clear dA HK HB hq_; have dA := ba; have HK := bb; have HB := bf; clear ba bb bf)); have p214 : 0 ≤ ((ce) : Int) := oD z3; have q214 : (ce) < (l0.length : Int) := oD z3; obtain ⟨ad214, e214, hx214_0, hx214_1, hx214_2, hx214_3, hx214_4⟩ := at_T58 (ah dA.out).2.2 (ce) p214 q214; cases e214; replace p214 := eq_true p214; replace q214 := eq_true q214) | ((with_reducible refine aK (N := 6) rfl ?_); refine aN ?hg (N := 6) ?hd (cs := #[.int .i64 0, .int .i64 0, .string (⟨#[]⟩ : ByteArray), .int .i64 0, .int .i64 0]) (t := 58) ?hr ?_; (case hd => rfl); (case hg => rfl); (case hr => first | (go_simp; done) | (go_simp; rfl)); intro bw hg w31 hbox hb; have ba := aM (af (Kd.R_elderB z4 bw (Nat.le_of_eq hg.symm)) hb); have bb := aM (Kept.below (S := (fun k_ => P0_ k_)) z22 hb); have bf := aM (ay z23 hb); have bk := aM (hbox); have bn := aM ((by rw [hg]; exact (by first | exact HK.out.1 | exact (show Kept w _ (fun k_ => P0_ k_) from by repeat (first | (with_reducible first | exact HK.out | apply Kept.alloc | apply Kept.drewN | apply Kept.drew) | exact HK.out)).1) : w.heap.size ≤ bw)); have br := aM ((by rw [hg]; exact (az z23) : w0.heap.size ≤ bw)); clear dA; clear HK; clear HB; have dA := ba; have HK := bb; have HB := bf; have bL := bk; have mC := bn; have fO := br; clear ba bb bf bk bn br; clear hb hbox hg; have hcz32_0 : w31.cell? ⟨bw, 0, none⟩ = some (.int .i64 0) := (bC bL.out 0).trans rfl; have hcz32_1 : w31.cell? ⟨bw, 1, none⟩ = some (.int .i64 0) := (bC bL.out 1).trans rfl; have hcz32_2 : w31.cell? ⟨bw, 2, none⟩ = some (.string (⟨#[]⟩ : ByteArray)) := (bC bL.out 2).trans rfl; have hcz32_3 : w31.cell? ⟨bw, 3, none⟩ = some (.int .i64 0) := (bC bL.out 3).trans rfl; have hcz32_4 : w31.cell? ⟨bw, 4, none⟩ = some (.int .i64 0) := (bC bL.out 4).trans rfl; have hfz32_0 := bF bL.out 0; have hfz32_1 := bF bL.out 1; have hfz32_2 := bF bL.out 2; have hfz32_3 := bF bL.out 3; have hfz32_4 := bF bL.out 4) | ((with_reducible refine aJ (f := 84) rfl ?_); refine aQ (some 46) rfl rfl Try.func84 z1 rfl #[.slice (some ad214) l0.length jg, .int .i64 ((rd_T58 l0 (ce)).f0)] rfl (by (try simp only [List.map_toArray, List.map_cons, List.map_nil]); first | done | (simp only [gB]; rfl) | rfl | (simp only [List.length_drop, List.length_take]; rfl)) ?_; (with_reducible refine (spec_l12Part.calls k _ _ l0 ((rd_T58 l0 (ce)).f0) es _ ?side1 ?side2 rk.out).mono ?_); (case side1 => refine (ah (e := 58) (base := w0.heap.size) (ok := fun k_ => ((P0_ k_ ∨ w.heap.size ≤ k_) ∧ k_ ≠ bw)) (n := l0.length) (c := jg) ?_).2.2; exact z42); (case side2 => exact (ah dA.out).2.1); rintro e w33 ⟨v223, rfl, ho0, hb⟩; refine ⟨_, rfl, ?_⟩; have ba := aM (ai z42 (ak ho0) hb); have bb := aM (aU (Kd.R_newB (aj (Kd.R_newM (M := fun k_ => (P0_ k_ ∨ w.heap.size ≤ k_)) ho0 (show Kept w _ (fun k_ => P0_ k_) from by repeat (first | (with_reducible first | exact HK.out | apply Kept.alloc | apply Kept.drewN | apply Kept.drew | refine Kept.setCell ?_ (.inr mC.out) _) | exact HK.out)).1 (fun k_ h_ => .inr h_)) (al z42)) (g := bw) (o := .cells #[.int .i64 ((rd_T58 l0 (ce)).f0), .int .i64 ((rd_T58 l0 (ce)).f1), .string ((rd_T58 l0 (ce)).f2), .int .i64 ((rd_T58 l0 (ce)).f3), .int .i64 ((rd_T58 l0 (ce)).f4)] 58 (0, 0)) z44) (az z27)); have bf := aM (ae (g := bw) (o := .cells #[.int .i64 ((rd_T58 l0 (ce)).f0), .int .i64 ((rd_T58 l0 (ce)).f1), .string ((rd_T58 l0 (ce)).f2), .int .i64 ((rd_T58 l0 (ce)).f3), .int .i64 ((rd_T58 l0 (ce)).f4)] 58 (0, 0)) z44 hb); have bk := aM (Kept.below (S := (fun k_ => P0_ k_)) z28 hb); have bn := aM (ay z27 hb); clear dA; clear bL; clear HK; clear HB; have dA := ba; have dd := bb; have bL := bf; have HK := bk; have HB := bn; clear ba bb bf bk bn; (try clear hb); (try clear hb2); (try clear hk); (try clear hi); (try clear ho0); have mi : w33.cell? ⟨bw, 0, none⟩ = some (.int .i64 ((rd_T58 l0 (ce)).f0)) := (bC bL.out 0).trans rfl; have mh : w33.cell? ⟨bw, 1, none⟩ = some (.int .i64 ((rd_T58 l0 (ce)).f1)) := (bC bL.out 1).trans rfl; have mg : w33.cell? ⟨bw, 2, none⟩ = some (.string ((rd_T58 l0 (ce)).f2)) := (bC bL.out 2).trans rfl; have mf : w33.cell? ⟨bw, 3, none⟩ = some (.int .i64 ((rd_T58 l0 (ce)).f3)) := (bC bL.out 3).trans rfl; have me : w33.cell? ⟨bw, 4, none⟩ = some (.int .i64 ((rd_T58 l0 (ce)).f4)) := (bC bL.out 4).trans rfl; have lW := bF bL.out 0; have lV := bF bL.out 1; have lU := bF bL.out 2; have lT := bF bL.out 3; have lS := bF bL.out 4) | ((with_reducible refine aJ (f := 84) rfl ?_); refine aQ (some 50) rfl rfl Try.func84 z1 rfl #[.slice (some ad214) l0.length jg, .int .i64 ((rd_T58 l0 (ce)).f1)] rfl (by (try simp only [List.map_toArray, List.map_cons, List.map_nil]); first | done | (simp only [gB]; rfl) | rfl | (simp only [List.length_drop, List.length_take]; rfl)) ?_; (with_reducible refine (spec_l12Part.calls k _ _ l0 ((rd_T58 l0 (ce)).f1) fh _ ?side1 ?side2 rj.out).mono ?_); (case side1 => repeat (first | exact (ah dA.out).2.2 | (with_reducible refine aE ?_ _) | (with_reducible refine aG ?_ _) | (with_reducible refine aH ?_))); (case side2 => exact (ah dA.out).2.1); rintro e w35 ⟨v226, rfl, ho0, hb⟩; refine ⟨_, rfl, ?_⟩; have ba := aM (ai z4 (ak ho0) hb); have bb := aM (ai (by (with_reducible repeat (first | apply ac | apply ab | apply aa)); exact dd.out) (ak ho0) hb); have bf := aM (aU (Kd.R_newB (aj (aj (Kd.R_newM (M := fun k_ => (P0_ k_ ∨ w.heap.size ≤ k_)) ho0 z31 (fun k_ h_ => .inr h_)) (al z4)) (al (by (with_reducible repeat (first | apply ac | apply ab | apply aa)); exact dd.out))) (g := bw) (o := .cells #[.int .i64 ((rd_T58 l0 (ce)).f0), .int .i64 ((rd_T58 l0 (ce)).f1), .string ((rd_T58 l0 (ce)).f2), .int .i64 ((rd_T58 l0 (ce)).f3), .int .i64 ((rd_T58 l0 (ce)).f4)] 58 (0, 0)) z12) (az z27)); have bk := aM (ae (g := bw) (o := .cells #[.int .i64 ((rd_T58 l0 (ce)).f0), .int .i64 ((rd_T58 l0 (ce)).f1), .string ((rd_T58 l0 (ce)).f2), .int .i64 ((rd_T58 l0 (ce)).f3), .int .i64 ((rd_T58 l0 (ce)).f4)] 58 (0, 0)) z12 hb); have bn := aM (Kept.below (S := (fun k_ => P0_ k_)) z28 hb); have br := aM (ay z27 hb); clear dA; clear dd; clear bL; clear HK; clear HB; have dA := ba; have dd := bb; have dS := bf; have bL := bk; have HK := bn; have HB := br; clear ba bb bf bk bn br; (try clear hb); (try clear hb2); (try clear hk); (try clear hi); (try clear ho0); obtain ⟨nP, nN, eo36⟩ := Kd.R_slice dd.out; subst eo36) | ((with_reducible refine aJ (f := 51) rfl ?_); refine aQ (some 52) rfl rfl Try.func51 z1 rfl #[.slice nP es.length nN] rfl z25 ?_; (with_reducible refine (spec_l12Size.calls _ _ es fN _ ?side1 ?side2 ri.out).mono ?_); (case side1 => repeat (first | exact (ah dd.out).2.2 | (with_reducible refine aE ?_ _) | (with_reducible refine aG ?_ _) | (with_reducible refine aH ?_))); (case side2 => exact (ah dd.out).2.1); rintro e w' ⟨rfl, ⟨nd, rfl⟩⟩; refine ⟨_, rfl, ?_⟩) | ((with_reducible refine aJ (f := 70) rfl ?_); refine aQ (some 59) rfl rfl Try.func70 z1 rfl #[.slice nP es.length nN, .int .i64 a1] rfl z25 ?_; (with_reducible refine (ih k (by omega) (fun k_ => some k_ = (.slice nP es.length nN : Value).ownBlock) (.slice nP es.length nN) es a1 t229 m8 w0 _ ?side1 ?side2 A28.out).mono ?_); (case side1 => repeat (first | (with_reducible first | exact HB.out | apply bA | apply pD | apply bD | refine ax ?_ fO.out) | exact HB.out)); (case side2 => exact Kd.R_tight rfl dd.out); rintro e w37 ⟨v230, v233, rfl, ho0, ho1, hb, hkp⟩; refine ⟨_, rfl, ?_⟩; have ba := aM (ag (ok' := fun k_ => (P0_ k_ ∨ w.heap.size ≤ k_) ∧ some k_ ≠ (v226 : Value).ownBlock ∧ k_ ≠ bw ∧ some k_ ≠ (v230 : Value).ownBlock ∧ some k_ ≠ (v233 : Value).ownBlock) (Kd.R_keptB (dA.out) hkp (fun k_ hk_ hs_ => (hk_.1.2) hs_)) (fun k_ hk_ => ⟨hk_.1.1.1.1, hk_.1.2, hk_.1.1.1.2, fun e_ => Or.elim (ho0.1 k_ e_.symm).1 (fun hs_ => hk_.2.1 hs_) (fun hn_ => Nat.not_le.2 hk_.2.2 hn_), fun e_ => Or.elim (ho1.1 k_ e_.symm).1 (fun hs_ => hk_.2.1 hs_) (fun hn_ => Nat.not_le.2 hk_.2.2 hn_)⟩)); have bb := aM (blk_kept z12 hkp (fun hs_ => (fun e_ => (Kd.R_away dd.out (fun _ hk => hk.1.2)) e_) hs_)); have bf := aM (ag (ok' := fun k_ => (P0_ k_ ∨ w.heap.size ≤ k_) ∧ some k_ ≠ (.slice (some ad214) l0.length jg : Value).ownBlock ∧ k_ ≠ bw ∧ some k_ ≠ (v230 : Value).ownBlock ∧ some k_ ≠ (v233 : Value).ownBlock) (Kd.R_keptB (dS.out) hkp (fun k_ hk_ hs_ => (hk_.1.2) hs_)) (fun k_ hk_ => ⟨hk_.1.1.1.1.1, hk_.1.1.1.2, hk_.1.2, fun e_ => Or.elim (ho0.1 k_ e_.symm).1 (fun hs_ => hk_.2.1 hs_) (fun hn_ => Nat.not_le.2 hk_.2.2 hn_), fun e_ => Or.elim (ho1.1 k_ e_.symm).1 (fun hs_ => hk_.2.1 hs_) (fun hn_ => Nat.not_le.2 hk_.2.2 hn_)⟩)); have bk := aM (ag (ok' := fun k_ => (P0_ k_ ∨ w.heap.size ≤ k_) ∧ some k_ ≠ (v233 : Value).ownBlock ∧ some k_ ≠ (.slice (some ad214) l0.length jg : Value).ownBlock ∧ some k_ ≠ (v226 : Value).ownBlock ∧ k_ ≠ bw) ho0 (fun k_ hk_ => ⟨Or.elim hk_.1 (fun hs_ => (dd.out.1 k_ (hs_).symm).1.1.1.1) (fun hn_ => (.inr (Nat.le_trans z31 hn_))), hk_.2, Or.elim hk_.1 (fun hs_ => fun e_ => (((dA.out).1 k_ e_.symm).1.2) hs_) (fun hn_ => (Kd.fresh' (al z4) k_ hn_)), Or.elim hk_.1 (fun hs_ => fun e_ => (((dS.out).1 k_ e_.symm).1.2) hs_) (fun hn_ => (Kd.fresh' (al (by (with_reducible repeat (first | apply ac | apply ab | apply aa)); exact dS.out)) k_ hn_)), Or.elim hk_.1 (fun hs_ => fun e_ => (Kd.R_away dd.out (fun _ hk => hk.1.2)) (by rw [← e_]; exact hs_)) (fun hn_ => (Kd.freshB (g := bw) (o := .cells #[.int .i64 ((rd_T58 l0 (ce)).f0), .int .i64 ((rd_T58 l0 (ce)).f1), .string ((rd_T58 l0 (ce)).f2), .int .i64 ((rd_T58 l0 (ce)).f3), .int .i64 ((rd_T58 l0 (ce)).f4)] 58 (0, 0)) z12 k_ hn_))⟩)); have bn := aM (ag (ok' := fun k_ => (P0_ k_ ∨ w.heap.size ≤ k_) ∧ some k_ ≠ (v230 : Value).ownBlock ∧ some k_ ≠ (.slice (some ad214) l0.length jg : Value).ownBlock ∧ some k_ ≠ (v226 : Value).ownBlock ∧ k_ ≠ bw) ho1 (fun k_ hk_ => ⟨Or.elim hk_.1 (fun hs_ => (dd.out.1 k_ (hs_).symm).1.1.1.1) (fun hn_ => (.inr (Nat.le_trans z31 hn_))), hk_.2, Or.elim hk_.1 (fun hs_ => fun e_ => (((dA.out).1 k_ e_.symm).1.2) hs_) (fun hn_ => (Kd.fresh' (al z4) k_ hn_)), Or.elim hk_.1 (fun hs_ => fun e_ => (((dS.out).1 k_ e_.symm).1.2) hs_) (fun hn_ => (Kd.fresh' (al (by (with_reducible repeat (first | apply ac | apply ab | apply aa)); exact dS.out)) k_ hn_)), Or.elim hk_.1 (fun hs_ => fun e_ => (Kd.R_away dd.out (fun _ hk => hk.1.2)) (by rw [← e_]; exact hs_)) (fun hn_ => (Kd.freshB (g := bw) (o := .cells #[.int .i64 ((rd_T58 l0 (ce)).f0), .int .i64 ((rd_T58 l0 (ce)).f1), .string ((rd_T58 l0 (ce)).f2), .int .i64 ((rd_T58 l0 (ce)).f3), .int .i64 ((rd_T58 l0 (ce)).f4)] 58 (0, 0)) z12 k_ hn_))⟩)); have br := aM (Kept.then_ (S := (fun k_ => P0_ k_)) z28 hkp (fun k_ hs_ => (fun e_ => (dd.out.1 k_ e_.symm).1.1.1.1) hs_)); have bM := aM (hb); clear dA; clear bL; clear dS; clear HK; clear HB; clear dd; have dA := ba; have bL := bb; have dS := bf; have i4 := bk; have g5 := bn; have HK := br; have HB := bM; clear ba bb bf bk bn br bM; (try clear hb); (try clear hkp); (try clear ho0); (try clear ho1); obtain ⟨pc, oU, eo38⟩ := Kd.R_slice g5.out; subst eo38; obtain ⟨pb, oT, eo39⟩ := Kd.R_slice dS.out; subst eo39) | ((with_reducible refine aJ (f := 68) rfl ?_); refine aQ (some 65) rfl rfl Try.func68 z1 rfl #[.slice pc m8.length oU, .slice pb fh.length oT] rfl z25 ?_; (with_reducible refine (spec_l12Join.calls k (fun k_ => some k_ = (.slice pc m8.length oU : Value).ownBlock) (.slice pc m8.length oU) m8 (fun k_ => some k_ = (.slice pb fh.length oT : Value).ownBlock) (.slice pb fh.length oT) fh lF w0 _ ?side1 ?side2 ?side3 ?side4 ?side5 A29.out).mono ?_); (case side1 => repeat (first | (with_reducible first | exact HB.out | apply bA | apply pD | apply bD | refine ax ?_ fO.out) | exact HB.out)); (case side2 => exact Kd.R_tight rfl g5.out); (case side3 => exact fun k_ e_ => (g5.out.1 k_ e_.symm).2.2.2.1); (case side4 => exact Kd.R_tight rfl dS.out); (case side5 => exact fun k_ e_ => (dS.out.1 k_ e_.symm).2.2.2.2); rintro e w40 ⟨v236, rfl, ho0, hb, hkp⟩; refine ⟨_, rfl, ?_⟩; have ba := aM (ag (ok' := fun k_ => (P0_ k_ ∨ w.heap.size ≤ k_) ∧ some k_ ≠ (v230 : Value).ownBlock ∧ k_ ≠ bw ∧ some k_ ≠ (v236 : Value).ownBlock) (Kd.R_keptB (dA.out) hkp (fun k_ hk_ hs_ => Or.elim hs_ (fun e_ => (hk_.2.2.2.2) e_) (fun e_ => (hk_.2.1) e_))) (fun k_ hk_ => ⟨hk_.1.1, hk_.1.2.2.2.1, hk_.1.2.2.1, fun e_ => Or.elim (ho0.1 k_ e_.symm) (fun hs_ => hk_.2.1 hs_) (fun hn_ => Nat.not_le.2 hk_.2.2 hn_)⟩)); have bb := aM (blk_kept z12 hkp (fun hs_ => Or.elim hs_ (fun e_ => (fun e_ => (Kd.R_away g5.out (fun _ hk => hk.2.2.2.2)) e_) e_) (fun e_ => (fun e_ => (Kd.R_away dS.out (fun _ hk => hk.2.2.1)) e_) e_))); have bf := aM (ag (ok' := fun k_ => (P0_ k_ ∨ w.heap.size ≤ k_) ∧ some k_ ≠ (.slice (some ad214) l0.length jg : Value).ownBlock ∧ k_ ≠ bw ∧ some k_ ≠ (v236 : Value).ownBlock) (Kd.R_keptB (i4.out) hkp (fun k_ hk_ hs_ => Or.elim hs_ (fun e_ => (hk_.2.1) e_) (fun e_ => (hk_.2.2.2.1) e_))) (fun k_ hk_ => ⟨hk_.1.1, hk_.1.2.2.1, hk_.1.2.2.2.2, fun e_ => Or.elim (ho0.1 k_ e_.symm) (fun hs_ => hk_.2.1 hs_) (fun hn_ => Nat.not_le.2 hk_.2.2 hn_)⟩)); have bk := aM (ag (ok' := fun k_ => (P0_ k_ ∨ w.heap.size ≤ k_) ∧ some k_ ≠ (.slice (some ad214) l0.length jg : Value).ownBlock ∧ some k_ ≠ (v230 : Value).ownBlock ∧ k_ ≠ bw) ho0 (fun k_ hk_ => ⟨Or.elim hk_ (fun hs_ => Or.elim hs_ (fun hs_ => (g5.out.1 k_ (hs_).symm).1) (fun hs_ => (dS.out.1 k_ (hs_).symm).1)) (fun hn_ => (.inr (Nat.le_trans z31 hn_))), Or.elim hk_ (fun hs_ => Or.elim hs_ (fun hs_ => fun e_ => (((dA.out).1 k_ e_.symm).2.2.2.2) hs_) (fun hs_ => fun e_ => (((dA.out).1 k_ e_.symm).2.1) hs_)) (fun hn_ => (Kd.fresh' (al z4) k_ hn_)), Or.elim hk_ (fun hs_ => Or.elim hs_ (fun hs_ => fun e_ => (((i4.out).1 k_ e_.symm).2.1) hs_) (fun hs_ => fun e_ => (((i4.out).1 k_ e_.symm).2.2.2.1) hs_)) (fun hn_ => (Kd.fresh' (al (by (with_reducible repeat (first | apply ac | apply ab | apply aa)); exact i4.out)) k_ hn_)), Or.elim hk_ (fun hs_ => Or.elim hs_ (fun hs_ => fun e_ => (Kd.R_away g5.out (fun _ hk => hk.2.2.2.2)) (by rw [← e_]; exact hs_)) (fun hs_ => fun e_ => (Kd.R_away dS.out (fun _ hk => hk.2.2.1)) (by rw [← e_]; exact hs_))) (fun hn_ => (Kd.freshB (g := bw) (o := .cells #[.int .i64 ((rd_T58 l0 (ce)).f0), .int .i64 ((rd_T58 l0 (ce)).f1), .string ((rd_T58 l0 (ce)).f2), .int .i64 ((rd_T58 l0 (ce)).f3), .int .i64 ((rd_T58 l0 (ce)).f4)] 58 (0, 0)) z12 k_ hn_))⟩)); have bn := aM (Kept.then_ (S := (fun k_ => P0_ k_)) z28 hkp (fun k_ hs_ => Or.elim hs_ (fun e_ => (fun e_ => (g5.out.1 k_ e_.symm).1) e_) (fun e_ => (fun e_ => (dS.out.1 k_ e_.symm).1) e_))); have br := aM (hb); clear dA; clear bL; clear i4; clear HK; clear HB; clear dS; clear g5; have dA := ba; have bL := bb; have i4 := bf; have HO237 := bk; have HK := bn; have HB := br; clear ba bb bf bk bn br; (try clear hb); (try clear hkp); (try clear ho0)))
       go_ret2
       exact ⟨_, _, by first | rfl | (simp [errW_none, errW_some] <;> rfl) | (simp only [← gB]; first | rfl | (simp [errW_none, errW_some] <;> rfl)) | (simp [*, errW_none, errW_some] <;> rfl), by (with_reducible repeat (first | apply ac | apply ab | apply aa)); exact ag i4.out (fun _ hk => ⟨hk.1, hk.2.2.2⟩), by (with_reducible repeat (first | apply ac | apply ab | apply aa)); exact ag HO237.out (fun _ hk => ⟨hk.1, hk.2.2.1⟩), by repeat (first | (with_reducible first | exact HB.out | apply bA | apply pD | apply bD | refine ax ?_ fO.out) | exact HB.out), y15⟩
      ·rw [if_neg mw] at H
       have c27b0 : decide (a1 < fN) = false := dF mw
       clear mw
       replace H := oB H
       obtain ⟨⟨m7, t241⟩, pS, H⟩ := H
       try dsimp only at H
       have A41 := aM pS
       clear pS
       replace H := oB H
       obtain ⟨lE, pR, H⟩ := H
       try dsimp only at H
       have A42 := aM pR
       clear pR
       simp only [Option.some.injEq, Prod.mk.injEq] at H
       obtain ⟨rfl, rfl⟩ := H
       obtain ⟨pJ, jf, eo43⟩ := Kd.R_slice dA.out
       subst eo43
       go_enter Try.func70, Try.ntmps70
       go_wp2_with (first | ((with_reducible refine aJ (f := 51) rfl ?_); refine aQ (some 21) rfl rfl Try.func51 z1 rfl #[.slice pJ l0.length jf] rfl z25 ?_; (with_reducible refine (spec_l12Size.calls _ _ l0 gA _ ?side1 ?side2 A4.out).mono ?_); (case side1 => repeat (first | exact (ah dA.out).2.2 | (with_reducible refine aE ?_ _) | (with_reducible refine aG ?_ _) | (with_reducible refine aH ?_))); (case side2 => exact (ah dA.out).2.1); rintro e w' ⟨rfl, ⟨nd, rfl⟩⟩; refine ⟨_, rfl, ?_⟩; (try (rw [drewN_self w]; generalize hq_ : World.drewN w _ = wq_; have ba : Aside0 (Kd.R k58 58 wq_ w0.heap.size (fun k_ => (P0_ k_ ∨ w.heap.size ≤ k_)) (.slice pJ l0.length jf) l0) := ⟨by rw [← hq_]; exact z4⟩; have bb : Aside0 (Kept w wq_ (fun k_ => P0_ k_)) := ⟨by rw [← hq_]; exact z22⟩; have bf : Aside0 (Below w0.heap.size w0 wq_) := ⟨by rw [← hq_]; exact z23⟩; clear dA HK HB hq_; have dA := ba; have HK := bb; have HB := bf; clear ba bb bf)); have p214 : 0 ≤ ((ce) : Int) := oD z3; have q214 : (ce) < (l0.length : Int) := oD z3; obtain ⟨ad214, e214, hx214_0, hx214_1, hx214_2, hx214_3, hx214_4⟩ := at_T58 (ah dA.out).2.2 (ce) p214 q214; cases e214; replace p214 := eq_true p214; replace q214 := eq_true q214) | ((with_reducible refine aK (N := 6) rfl ?_); refine aN ?hg (N := 6) ?hd (cs := #[.int .i64 0, .int .i64 0, .string (⟨#[]⟩ : ByteArray), .int .i64 0, .int .i64 0]) (t := 58) ?hr ?_; (case hd => rfl); (case hg => rfl); (case hr => first | (go_simp; done) | (go_simp; rfl)); intro bw hg w44 hbox hb; have ba := aM (af (Kd.R_elderB z4 bw (Nat.le_of_eq hg.symm)) hb); have bb := aM (Kept.below (S := (fun k_ => P0_ k_)) z22 hb); have bf := aM (ay z23 hb); have bk := aM (hbox); have bn := aM ((by rw [hg]; exact (by first | exact HK.out.1 | exact (show Kept w _ (fun k_ => P0_ k_) from by repeat (first | (with_reducible first | exact HK.out | apply Kept.alloc | apply Kept.drewN | apply Kept.drew) | exact HK.out)).1) : w.heap.size ≤ bw)); have br := aM ((by rw [hg]; exact (az z23) : w0.heap.size ≤ bw)); clear dA; clear HK; clear HB; have dA := ba; have HK := bb; have HB := bf; have bL := bk; have mC := bn; have fO := br; clear ba bb bf bk bn br; clear hb hbox hg; have hcz45_0 : w44.cell? ⟨bw, 0, none⟩ = some (.int .i64 0) := (bC bL.out 0).trans rfl; have hcz45_1 : w44.cell? ⟨bw, 1, none⟩ = some (.int .i64 0) := (bC bL.out 1).trans rfl; have hcz45_2 : w44.cell? ⟨bw, 2, none⟩ = some (.string (⟨#[]⟩ : ByteArray)) := (bC bL.out 2).trans rfl; have hcz45_3 : w44.cell? ⟨bw, 3, none⟩ = some (.int .i64 0) := (bC bL.out 3).trans rfl; have hcz45_4 : w44.cell? ⟨bw, 4, none⟩ = some (.int .i64 0) := (bC bL.out 4).trans rfl; have hfz45_0 := bF bL.out 0; have hfz45_1 := bF bL.out 1; have hfz45_2 := bF bL.out 2; have hfz45_3 := bF bL.out 3; have hfz45_4 := bF bL.out 4) | ((with_reducible refine aJ (f := 84) rfl ?_); refine aQ (some 46) rfl rfl Try.func84 z1 rfl #[.slice (some ad214) l0.length jf, .int .i64 ((rd_T58 l0 (ce)).f0)] rfl (by (try simp only [List.map_toArray, List.map_cons, List.map_nil]); first | done | (simp only [gB]; rfl) | rfl | (simp only [List.length_drop, List.length_take]; rfl)) ?_; (with_reducible refine (spec_l12Part.calls k _ _ l0 ((rd_T58 l0 (ce)).f0) es _ ?side1 ?side2 rk.out).mono ?_); (case side1 => refine (ah (e := 58) (base := w0.heap.size) (ok := fun k_ => ((P0_ k_ ∨ w.heap.size ≤ k_) ∧ k_ ≠ bw)) (n := l0.length) (c := jf) ?_).2.2; exact z42); (case side2 => exact (ah dA.out).2.1); rintro e w46 ⟨v223, rfl, ho0, hb⟩; refine ⟨_, rfl, ?_⟩; have ba := aM (ai z42 (ak ho0) hb); have bb := aM (aU (Kd.R_newB (aj (Kd.R_newM (M := fun k_ => (P0_ k_ ∨ w.heap.size ≤ k_)) ho0 (show Kept w _ (fun k_ => P0_ k_) from by repeat (first | (with_reducible first | exact HK.out | apply Kept.alloc | apply Kept.drewN | apply Kept.drew | refine Kept.setCell ?_ (.inr mC.out) _) | exact HK.out)).1 (fun k_ h_ => .inr h_)) (al z42)) (g := bw) (o := .cells #[.int .i64 ((rd_T58 l0 (ce)).f0), .int .i64 ((rd_T58 l0 (ce)).f1), .string ((rd_T58 l0 (ce)).f2), .int .i64 ((rd_T58 l0 (ce)).f3), .int .i64 ((rd_T58 l0 (ce)).f4)] 58 (0, 0)) z44) (az z27)); have bf := aM (ae (g := bw) (o := .cells #[.int .i64 ((rd_T58 l0 (ce)).f0), .int .i64 ((rd_T58 l0 (ce)).f1), .string ((rd_T58 l0 (ce)).f2), .int .i64 ((rd_T58 l0 (ce)).f3), .int .i64 ((rd_T58 l0 (ce)).f4)] 58 (0, 0)) z44 hb); have bk := aM (Kept.below (S := (fun k_ => P0_ k_)) z28 hb); have bn := aM (ay z27 hb); clear dA; clear bL; clear HK; clear HB; have dA := ba; have dd := bb; have bL := bf; have HK := bk; have HB := bn; clear ba bb bf bk bn; (try clear hb); (try clear hb2); (try clear hk); (try clear hi); (try clear ho0); have hcz47_0 : w46.cell? ⟨bw, 0, none⟩ = some (.int .i64 ((rd_T58 l0 (ce)).f0)) := (bC bL.out 0).trans rfl; have hcz47_1 : w46.cell? ⟨bw, 1, none⟩ = some (.int .i64 ((rd_T58 l0 (ce)).f1)) := (bC bL.out 1).trans rfl; have hcz47_2 : w46.cell? ⟨bw, 2, none⟩ = some (.string ((rd_T58 l0 (ce)).f2)) := (bC bL.out 2).trans rfl; have hcz47_3 : w46.cell? ⟨bw, 3, none⟩ = some (.int .i64 ((rd_T58 l0 (ce)).f3)) := (bC bL.out 3).trans rfl; have hcz47_4 : w46.cell? ⟨bw, 4, none⟩ = some (.int .i64 ((rd_T58 l0 (ce)).f4)) := (bC bL.out 4).trans rfl; have hfz47_0 := bF bL.out 0; have hfz47_1 := bF bL.out 1; have hfz47_2 := bF bL.out 2; have hfz47_3 := bF bL.out 3; have hfz47_4 := bF bL.out 4) | ((with_reducible refine aJ (f := 84) rfl ?_); refine aQ (some 50) rfl rfl Try.func84 z1 rfl #[.slice (some ad214) l0.length jf, .int .i64 ((rd_T58 l0 (ce)).f1)] rfl (by (try simp only [List.map_toArray, List.map_cons, List.map_nil]); first | done | (simp only [gB]; rfl) | rfl | (simp only [List.length_drop, List.length_take]; rfl)) ?_; (with_reducible refine (spec_l12Part.calls k _ _ l0 ((rd_T58 l0 (ce)).f1) fh _ ?side1 ?side2 rj.out).mono ?_); (case side1 => repeat (first | exact (ah dA.out).2.2 | (with_reducible refine aE ?_ _) | (with_reducible refine aG ?_ _) | (with_reducible refine aH ?_))); (case side2 => exact (ah dA.out).2.1); rintro e w48 ⟨v226, rfl, ho0, hb⟩; refine ⟨_, rfl, ?_⟩; have ba := aM (ai z4 (ak ho0) hb); have bb := aM (ai (by (with_reducible repeat (first | apply ac | apply ab | apply aa)); exact dd.out) (ak ho0) hb); have bf := aM (aU (Kd.R_newB (aj (aj (Kd.R_newM (M := fun k_ => (P0_ k_ ∨ w.heap.size ≤ k_)) ho0 z31 (fun k_ h_ => .inr h_)) (al z4)) (al (by (with_reducible repeat (first | apply ac | apply ab | apply aa)); exact dd.out))) (g := bw) (o := .cells #[.int .i64 ((rd_T58 l0 (ce)).f0), .int .i64 ((rd_T58 l0 (ce)).f1), .string ((rd_T58 l0 (ce)).f2), .int .i64 ((rd_T58 l0 (ce)).f3), .int .i64 ((rd_T58 l0 (ce)).f4)] 58 (0, 0)) z12) (az z27)); have bk := aM (ae (g := bw) (o := .cells #[.int .i64 ((rd_T58 l0 (ce)).f0), .int .i64 ((rd_T58 l0 (ce)).f1), .string ((rd_T58 l0 (ce)).f2), .int .i64 ((rd_T58 l0 (ce)).f3), .int .i64 ((rd_T58 l0 (ce)).f4)] 58 (0, 0)) z12 hb); have bn := aM (Kept.below (S := (fun k_ => P0_ k_)) z28 hb); have br := aM (ay z27 hb); clear dA; clear dd; clear bL; clear HK; clear HB; have dA := ba; have dd := bb; have dS := bf; have bL := bk; have HK := bn; have HB := br; clear ba bb bf bk bn br; (try clear hb); (try clear hb2); (try clear hk); (try clear hi); (try clear ho0); obtain ⟨kH, kF, eo49⟩ := Kd.R_slice dd.out; subst eo49) | ((with_reducible refine aJ (f := 51) rfl ?_); refine aQ (some 52) rfl rfl Try.func51 z1 rfl #[.slice kH es.length kF] rfl z25 ?_; (with_reducible refine (spec_l12Size.calls _ _ es fN _ ?side1 ?side2 ri.out).mono ?_); (case side1 => repeat (first | exact (ah dd.out).2.2 | (with_reducible refine aE ?_ _) | (with_reducible refine aG ?_ _) | (with_reducible refine aH ?_))); (case side2 => exact (ah dd.out).2.1); rintro e w' ⟨rfl, ⟨nd, rfl⟩⟩; refine ⟨_, rfl, ?_⟩; obtain ⟨pa, oS, eo50⟩ := Kd.R_slice dS.out; subst eo50) | ((with_reducible refine aJ (f := 70) rfl ?_); refine aQ (some 71) rfl rfl Try.func70 z1 rfl #[.slice pa fh.length oS, .int .i64 (wrap64 (a1 - fN))] rfl z25 ?_; (with_reducible refine (ih k (by omega) (fun k_ => some k_ = (.slice pa fh.length oS : Value).ownBlock) (.slice pa fh.length oS) fh (wrap64 (a1 - fN)) m7 t241 w0 _ ?side1 ?side2 A41.out).mono ?_); (case side1 => repeat (first | (with_reducible first | exact HB.out | apply bA | apply pD | apply bD | refine ax ?_ fO.out) | exact HB.out)); (case side2 => exact Kd.R_tight rfl dS.out); rintro e w51 ⟨v239, v242, rfl, ho0, ho1, hb, hkp⟩; refine ⟨_, rfl, ?_⟩; have ba := aM (ag (ok' := fun k_ => (P0_ k_ ∨ w.heap.size ≤ k_) ∧ some k_ ≠ (.slice kH es.length kF : Value).ownBlock ∧ k_ ≠ bw ∧ some k_ ≠ (v239 : Value).ownBlock ∧ some k_ ≠ (v242 : Value).ownBlock) (Kd.R_keptB (dA.out) hkp (fun k_ hk_ hs_ => (hk_.2) hs_)) (fun k_ hk_ => ⟨hk_.1.1.1.1, hk_.1.1.2, hk_.1.1.1.2, fun e_ => Or.elim (ho0.1 k_ e_.symm).1 (fun hs_ => hk_.2.1 hs_) (fun hn_ => Nat.not_le.2 hk_.2.2 hn_), fun e_ => Or.elim (ho1.1 k_ e_.symm).1 (fun hs_ => hk_.2.1 hs_) (fun hn_ => Nat.not_le.2 hk_.2.2 hn_)⟩)); have bb := aM (blk_kept z12 hkp (fun hs_ => (fun e_ => (Kd.R_away dS.out (fun _ hk => hk.2)) e_) hs_)); have bf := aM (ag (ok' := fun k_ => (P0_ k_ ∨ w.heap.size ≤ k_) ∧ some k_ ≠ (.slice (some ad214) l0.length jf : Value).ownBlock ∧ k_ ≠ bw ∧ some k_ ≠ (v239 : Value).ownBlock ∧ some k_ ≠ (v242 : Value).ownBlock) (Kd.R_keptB (dd.out) hkp (fun k_ hk_ hs_ => (hk_.2) hs_)) (fun k_ hk_ => ⟨hk_.1.1.1.1.1, hk_.1.1.1.2, hk_.1.1.2, fun e_ => Or.elim (ho0.1 k_ e_.symm).1 (fun hs_ => hk_.2.1 hs_) (fun hn_ => Nat.not_le.2 hk_.2.2 hn_), fun e_ => Or.elim (ho1.1 k_ e_.symm).1 (fun hs_ => hk_.2.1 hs_) (fun hn_ => Nat.not_le.2 hk_.2.2 hn_)⟩)); have bk := aM (ag (ok' := fun k_ => (P0_ k_ ∨ w.heap.size ≤ k_) ∧ some k_ ≠ (v242 : Value).ownBlock ∧ some k_ ≠ (.slice (some ad214) l0.length jf : Value).ownBlock ∧ some k_ ≠ (.slice kH es.length kF : Value).ownBlock ∧ k_ ≠ bw) ho0 (fun k_ hk_ => ⟨Or.elim hk_.1 (fun hs_ => (dS.out.1 k_ (hs_).symm).1.1.1.1) (fun hn_ => (.inr (Nat.le_trans z31 hn_))), hk_.2, Or.elim hk_.1 (fun hs_ => fun e_ => (((dA.out).1 k_ e_.symm).2) hs_) (fun hn_ => (Kd.fresh' (al z4) k_ hn_)), Or.elim hk_.1 (fun hs_ => fun e_ => (((dd.out).1 k_ e_.symm).2) hs_) (fun hn_ => (Kd.fresh' (al (by (with_reducible repeat (first | apply ac | apply ab | apply aa)); exact dd.out)) k_ hn_)), Or.elim hk_.1 (fun hs_ => fun e_ => (Kd.R_away dS.out (fun _ hk => hk.2)) (by rw [← e_]; exact hs_)) (fun hn_ => (Kd.freshB (g := bw) (o := .cells #[.int .i64 ((rd_T58 l0 (ce)).f0), .int .i64 ((rd_T58 l0 (ce)).f1), .string ((rd_T58 l0 (ce)).f2), .int .i64 ((rd_T58 l0 (ce)).f3), .int .i64 ((rd_T58 l0 (ce)).f4)] 58 (0, 0)) z12 k_ hn_))⟩)); have bn := aM (ag (ok' := fun k_ => (P0_ k_ ∨ w.heap.size ≤ k_) ∧ some k_ ≠ (v239 : Value).ownBlock ∧ some k_ ≠ (.slice (some ad214) l0.length jf : Value).ownBlock ∧ some k_ ≠ (.slice kH es.length kF : Value).ownBlock ∧ k_ ≠ bw) ho1 (fun k_ hk_ => ⟨Or.elim hk_.1 (fun hs_ => (dS.out.1 k_ (hs_).symm).1.1.1.1) (fun hn_ => (.inr (Nat.le_trans z31 hn_))), hk_.2, Or.elim hk_.1 (fun hs_ => fun e_ => (((dA.out).1 k_ e_.symm).2) hs_) (fun hn_ => (Kd.fresh' (al z4) k_ hn_)), Or.elim hk_.1 (fun hs_ => fun e_ => (((dd.out).1 k_ e_.symm).2) hs_) (fun hn_ => (Kd.fresh' (al (by (with_reducible repeat (first | apply ac | apply ab | apply aa)); exact dd.out)) k_ hn_)), Or.elim hk_.1 (fun hs_ => fun e_ => (Kd.R_away dS.out (fun _ hk => hk.2)) (by rw [← e_]; exact hs_)) (fun hn_ => (Kd.freshB (g := bw) (o := .cells #[.int .i64 ((rd_T58 l0 (ce)).f0), .int .i64 ((rd_T58 l0 (ce)).f1), .string ((rd_T58 l0 (ce)).f2), .int .i64 ((rd_T58 l0 (ce)).f3), .int .i64 ((rd_T58 l0 (ce)).f4)] 58 (0, 0)) z12 k_ hn_))⟩)); have br := aM (Kept.then_ (S := (fun k_ => P0_ k_)) z28 hkp (fun k_ hs_ => (fun e_ => (dS.out.1 k_ e_.symm).1.1.1.1) hs_)); have bM := aM (hb); clear dA; clear bL; clear dd; clear HK; clear HB; clear dS; have dA := ba; have bL := bb; have dd := bf; have gZ := bk; have i3 := bn; have HK := br; have HB := bM; clear ba bb bf bk bn br bM; (try clear hb); (try clear hkp); (try clear ho0); (try clear ho1); obtain ⟨o9, oR, eo52⟩ := Kd.R_slice gZ.out; subst eo52) | ((with_reducible refine aJ (f := 68) rfl ?_); refine aQ (some 76) rfl rfl Try.func68 z1 rfl #[.slice kH es.length kF, .slice o9 m7.length oR] rfl z25 ?_; (with_reducible refine (spec_l12Join.calls k (fun k_ => some k_ = (.slice kH es.length kF : Value).ownBlock) (.slice kH es.length kF) es (fun k_ => some k_ = (.slice o9 m7.length oR : Value).ownBlock) (.slice o9 m7.length oR) m7 lE w0 _ ?side1 ?side2 ?side3 ?side4 ?side5 A42.out).mono ?_); (case side1 => repeat (first | (with_reducible first | exact HB.out | apply bA | apply pD | apply bD | refine ax ?_ fO.out) | exact HB.out)); (case side2 => exact Kd.R_tight rfl dd.out); (case side3 => exact fun k_ e_ => (dd.out.1 k_ e_.symm).2.2.2.1); (case side4 => exact Kd.R_tight rfl gZ.out); (case side5 => exact fun k_ e_ => (gZ.out.1 k_ e_.symm).2.2.2.1); rintro e w53 ⟨v245, rfl, ho0, hb, hkp⟩; refine ⟨_, rfl, ?_⟩; have ba := aM (ag (ok' := fun k_ => (P0_ k_ ∨ w.heap.size ≤ k_) ∧ some k_ ≠ (v242 : Value).ownBlock ∧ k_ ≠ bw ∧ some k_ ≠ (v245 : Value).ownBlock) (Kd.R_keptB (dA.out) hkp (fun k_ hk_ hs_ => Or.elim hs_ (fun e_ => (hk_.2.1) e_) (fun e_ => (hk_.2.2.2.1) e_))) (fun k_ hk_ => ⟨hk_.1.1, hk_.1.2.2.2.2, hk_.1.2.2.1, fun e_ => Or.elim (ho0.1 k_ e_.symm) (fun hs_ => hk_.2.1 hs_) (fun hn_ => Nat.not_le.2 hk_.2.2 hn_)⟩)); have bb := aM (blk_kept z12 hkp (fun hs_ => Or.elim hs_ (fun e_ => (fun e_ => (Kd.R_away dd.out (fun _ hk => hk.2.2.1)) e_) e_) (fun e_ => (fun e_ => (Kd.R_away gZ.out (fun _ hk => hk.2.2.2.2)) e_) e_))); have bf := aM (ag (ok' := fun k_ => (P0_ k_ ∨ w.heap.size ≤ k_) ∧ some k_ ≠ (.slice (some ad214) l0.length jf : Value).ownBlock ∧ k_ ≠ bw ∧ some k_ ≠ (v245 : Value).ownBlock) (Kd.R_keptB (i3.out) hkp (fun k_ hk_ hs_ => Or.elim hs_ (fun e_ => (hk_.2.2.2.1) e_) (fun e_ => (hk_.2.1) e_))) (fun k_ hk_ => ⟨hk_.1.1, hk_.1.2.2.1, hk_.1.2.2.2.2, fun e_ => Or.elim (ho0.1 k_ e_.symm) (fun hs_ => hk_.2.1 hs_) (fun hn_ => Nat.not_le.2 hk_.2.2 hn_)⟩)); have bk := aM (ag (ok' := fun k_ => (P0_ k_ ∨ w.heap.size ≤ k_) ∧ some k_ ≠ (.slice (some ad214) l0.length jf : Value).ownBlock ∧ some k_ ≠ (v242 : Value).ownBlock ∧ k_ ≠ bw) ho0 (fun k_ hk_ => ⟨Or.elim hk_ (fun hs_ => Or.elim hs_ (fun hs_ => (dd.out.1 k_ (hs_).symm).1) (fun hs_ => (gZ.out.1 k_ (hs_).symm).1)) (fun hn_ => (.inr (Nat.le_trans z31 hn_))), Or.elim hk_ (fun hs_ => Or.elim hs_ (fun hs_ => fun e_ => (((dA.out).1 k_ e_.symm).2.1) hs_) (fun hs_ => fun e_ => (((dA.out).1 k_ e_.symm).2.2.2.1) hs_)) (fun hn_ => (Kd.fresh' (al z4) k_ hn_)), Or.elim hk_ (fun hs_ => Or.elim hs_ (fun hs_ => fun e_ => (((i3.out).1 k_ e_.symm).2.2.2.1) hs_) (fun hs_ => fun e_ => (((i3.out).1 k_ e_.symm).2.1) hs_)) (fun hn_ => (Kd.fresh' (al (by (with_reducible repeat (first | apply ac | apply ab | apply aa)); exact i3.out)) k_ hn_)), Or.elim hk_ (fun hs_ => Or.elim hs_ (fun hs_ => fun e_ => (Kd.R_away dd.out (fun _ hk => hk.2.2.1)) (by rw [← e_]; exact hs_)) (fun hs_ => fun e_ => (Kd.R_away gZ.out (fun _ hk => hk.2.2.2.2)) (by rw [← e_]; exact hs_))) (fun hn_ => (Kd.freshB (g := bw) (o := .cells #[.int .i64 ((rd_T58 l0 (ce)).f0), .int .i64 ((rd_T58 l0 (ce)).f1), .string ((rd_T58 l0 (ce)).f2), .int .i64 ((rd_T58 l0 (ce)).f3), .int .i64 ((rd_T58 l0 (ce)).f4)] 58 (0, 0)) z12 k_ hn_))⟩)); have bn := aM (Kept.then_ (S := (fun k_ => P0_ k_)) z28 hkp (fun k_ hs_ => Or.elim hs_ (fun e_ => (fun e_ => (dd.out.1 k_ e_.symm).1) e_) (fun e_ => (fun e_ => (gZ.out.1 k_ e_.symm).1) e_))); have br := aM (hb); clear dA; clear bL; clear i3; clear HK; clear HB; clear dd; clear gZ; have dA := ba; have bL := bb; have i3 := bf; have HO246 := bk; have HK := bn; have HB := br; clear ba bb bf bk bn br; (try clear hb); (try clear hkp); (try clear ho0)))
       go_ret2
       exact ⟨_, _, by first | rfl | (simp [errW_none, errW_some] <;> rfl) | (simp only [← gB]; first | rfl | (simp [errW_none, errW_some] <;> rfl)) | (simp [*, errW_none, errW_some] <;> rfl), by (with_reducible repeat (first | apply ac | apply ab | apply aa)); exact ag HO246.out (fun _ hk => ⟨hk.1, hk.2.2.1⟩), by (with_reducible repeat (first | apply ac | apply ab | apply aa)); exact ag i3.out (fun _ hk => ⟨hk.1, hk.2.2.2⟩), by repeat (first | (with_reducible first | exact HB.out | apply bA | apply pD | apply bD | refine ax ?_ fO.out) | exact HB.out), y15⟩
    ·rw [if_neg c9] at H
     exact absurd H (by simp)
   ·rw [if_neg c8] at H
    exact absurd H (by simp)

/-! ### spec_SplitRope: function 38 -/
def spec_SplitRope.f (k : Nat) (l0_0 : List (S58)) (a1 : Int) : Option ((List (S58)) × (List (S58)) × Bool) := (spec_GoodRope.f k l0_0).bind fun m0 => (if m0 = true then ((spec_l12Size.f l0_0).bind fun kK => ((spec_l1In.f a1 0 kK).bind fun mZ => (if mZ = true then ((spec_l12Split.f k l0_0 a1).bind fun gx => ((some (([] : List (S58)) : List (S58))).bind fun y259 => (if y259.length + gx.1.length < 2932031007402 then ((some (([] : List (S58)) : List (S58))).bind fun y266 => (if y266.length + gx.2.length < 2932031007402 then (some ((y259 ++ gx.1), (y266 ++ gx.2), true)) else (none))) else (none)))) else (some (([] : List (S58)), ([] : List (S58)), false))))) else (some (([] : List (S58)), ([] : List (S58)), false)))
theorem spec_SplitRope.mono : ∀ a0 a1 k, LeO (spec_SplitRope.f k a0 a1) (spec_SplitRope.f (k + 1) a0 a1) := by
 intro a0 a1 k
 unfold spec_SplitRope.f
 repeat' first
   | (with_reducible exact spec_GoodRope.mono _ _)
   | (with_reducible exact spec_l12Split.mono _ _ _)
   | (with_reducible exact LeO.refl _)
   | (with_reducible exact LeO.none _)
   | (with_reducible refine LeO.ite ?_ ?_)
   | (with_reducible refine LeO.bind ?_ (fun _ => ?_))
   | exact spec_GoodRope.mono _ _
   | exact spec_l12Split.mono _ _ _
   | exact LeO.none _
   | refine LeO.ite ?_ ?_
   | refine LeO.bind ?_ (fun _ => ?_)
set_option maxHeartbeats 8000000 in
set_option maxRecDepth 100000 in
theorem spec_SplitRope.calls (k : Nat) (P0_0_ : Nat → Prop) (u9000_ : Value) (l0_0 : List (S58)) (a1 : Int) (r1 : List (S58)) (r2 : List (S58)) (r3 : Bool) (w0 w : World) (hB : Below w0.heap.size w0 w) (ho0_0 : Kd.R k58 58 w w0.heap.size P0_0_ u9000_ l0_0) (h : spec_SplitRope.f k l0_0 a1 = some (r1, r2, r3)) :
  Calls Try.prog 38 #[.agg #[u9000_], .int .i64 a1] w fun e w' => ∃ v0_ v1_ : Value, e = .returned (.tuple #[.agg #[v0_], .agg #[v1_], .bool r3]) ∧ Kd.R k58 58 w' w0.heap.size (fun k_ => (P0_0_ k_ ∨ w.heap.size ≤ k_) ∧ some k_ ≠ (v1_ : Value).ownBlock) v0_ r1 ∧ Kd.R k58 58 w' w0.heap.size (fun k_ => (P0_0_ k_ ∨ w.heap.size ≤ k_) ∧ some k_ ≠ (v0_ : Value).ownBlock) v1_ r2 ∧ Below w0.heap.size w0 w' ∧ Kept w w' (fun k_ => P0_0_ k_) := by
 have hu29 := Try.underlying29
 have cd := aM (show Kd.R k58 58 w w0.heap.size (fun k_ => (P0_0_ k_ ∨ w.heap.size ≤ k_)) u9000_ l0_0 from ag ho0_0 (fun k_ hk => (.inl hk)))
 have HK := aM (Kept.refl w (fun k_ => P0_0_ k_))
 have HW0 := aM hB.size
 have HB := aM hB
 clear hB
 have H : ((spec_GoodRope.f k l0_0).bind fun m0 => (if m0 = true then ((spec_l12Size.f l0_0).bind fun kK => ((spec_l1In.f a1 0 kK).bind fun mZ => (if mZ = true then ((spec_l12Split.f k l0_0 a1).bind fun gx => ((some (([] : List (S58)) : List (S58))).bind fun y259 => (if y259.length + gx.1.length < 2932031007402 then ((some (([] : List (S58)) : List (S58))).bind fun y266 => (if y266.length + gx.2.length < 2932031007402 then (some ((y259 ++ gx.1), (y266 ++ gx.2), true)) else (none))) else (none)))) else (some (([] : List (S58)), ([] : List (S58)), false))))) else (some (([] : List (S58)), ([] : List (S58)), false)))) = some (r1, r2, r3) := h
 clear h
 replace H := oB H
 obtain ⟨m0, iP, H⟩ := H
 try dsimp only at H
 have A3 := aM iP
 clear iP
 by_cases c4 : m0 = true
 ·subst c4
  rw [if_pos rfl] at H
  replace H := oB H
  obtain ⟨kK, nQ, H⟩ := H
  try dsimp only at H
  have A5 := aM nQ
  clear nQ
  replace H := oB H
  obtain ⟨mZ, nD, H⟩ := H
  try dsimp only at H
  have A6 := aM nD
  clear nD
  by_cases c7 : mZ = true
  ·subst c7
   rw [if_pos rfl] at H
   replace H := oB H
   obtain ⟨⟨fM, fp⟩, nC, H⟩ := H
   try dsimp only at H
   have A8 := aM nC
   clear nC
   obtain ⟨y259, hy259⟩ : ∃ y_ : List (S58), y_ = (([] : List (S58))) := ⟨_, rfl⟩
   replace H : (if y259.length + fM.length < 2932031007402 then ((some (([] : List (S58)) : List (S58))).bind fun y266 => (if y266.length + fp.length < 2932031007402 then (some ((y259 ++ fM), (y266 ++ fp), true)) else (none))) else (none)) = some (r1, r2, r3) := by first | (rw [hy259]; with_reducible exact H) | (have H2_ := (Option.bind_some _ _).symm.trans H; rw [hy259]; with_reducible exact H2_) | (have H2_ := (Option.bind_some _ _).symm.trans H; with_reducible exact H2_) | with_reducible exact H | (rw [hy259]; exact H) | exact H
   have Ny259 := aM hy259
   clear hy259
   by_cases c9 : y259.length + fM.length < 2932031007402
   ·rw [if_pos c9] at H
    have LMc9 := aM c9
    clear c9
    obtain ⟨y262, hy262⟩ : ∃ y_ : List (S58), y_ = (y259 ++ fM) := ⟨_, rfl⟩
    replace H : ((some (([] : List (S58)) : List (S58))).bind fun y266 => (if y266.length + fp.length < 2932031007402 then (some (y262, (y266 ++ fp), true)) else (none))) = some (r1, r2, r3) := by first | (rw [hy262]; with_reducible exact H) | (have H2_ := (Option.bind_some _ _).symm.trans H; rw [hy262]; with_reducible exact H2_) | (have H2_ := (Option.bind_some _ _).symm.trans H; with_reducible exact H2_) | with_reducible exact H | (rw [hy262]; exact H) | exact H
    have Ny262 := aM hy262
    clear hy262
    obtain ⟨y266, hy266⟩ : ∃ y_ : List (S58), y_ = (([] : List (S58))) := ⟨_, rfl⟩
    replace H : (if y266.length + fp.length < 2932031007402 then (some (y262, (y266 ++ fp), true)) else (none)) = some (r1, r2, r3) := by first | (rw [hy266]; with_reducible exact H) | (have H2_ := (Option.bind_some _ _).symm.trans H; rw [hy266]; with_reducible exact H2_) | (have H2_ := (Option.bind_some _ _).symm.trans H; with_reducible exact H2_) | with_reducible exact H | (rw [hy266]; exact H) | exact H
    have Ny266 := aM hy266
    clear hy266
    by_cases eK : y266.length + fp.length < 2932031007402
    ·rw [if_pos eK] at H
     have LMc10 := aM eK
     clear eK
     obtain ⟨y269, hy269⟩ : ∃ y_ : List (S58), y_ = (y266 ++ fp) := ⟨_, rfl⟩
     replace H : (some (y262, y269, true)) = some (r1, r2, r3) := by first | (rw [hy269]; with_reducible exact H) | (have H2_ := (Option.bind_some _ _).symm.trans H; rw [hy269]; with_reducible exact H2_) | (have H2_ := (Option.bind_some _ _).symm.trans H; with_reducible exact H2_) | with_reducible exact H | (rw [hy269]; exact H) | exact H
     have Ny269 := aM hy269
     clear hy269
     simp only [Option.some.injEq, Prod.mk.injEq] at H
     obtain ⟨rfl, rfl, rfl⟩ := H
     obtain ⟨er, dN, eo11⟩ := Kd.R_slice cd.out
     subst eo11
     go_enter Try.func38, Try.ntmps38
     try go_wp2_with (first | ((with_reducible refine aK (N := 2) rfl ?_); refine aN ?hg (N := 2) ?hd (cs := #[.slice er l0_0.length dN]) (t := 29) ?hr ?_; (case hd => rfl); (case hg => rfl); (case hr => first | (go_simp; done) | (go_simp; rfl)); intro ca hg w12 hbox hb; have ba := aM (af z5 hb); have bb := aM (Kept.below (S := (fun k_ => P0_0_ k_)) z22 hb); have bf := aM (ay z23 hb); have bk := aM (hbox); have bn := aM ((by rw [hg]; exact (by first | exact HK.out.1 | exact (show Kept w _ (fun k_ => P0_0_ k_) from by repeat (first | (with_reducible first | exact HK.out | apply Kept.alloc | apply Kept.drewN | apply Kept.drew) | exact HK.out)).1) : w.heap.size ≤ ca)); have br := aM ((by rw [hg]; exact (az z23) : w0.heap.size ≤ ca)); clear cd; clear HK; clear HB; have cd := ba; have HK := bb; have HB := bf; have ch := bk; have dY := bn; have ev := br; clear ba bb bf bk bn br; clear hb hbox hg) | ((with_reducible refine aK (N := 4) rfl ?_); refine aN ?hg (N := 4) ?hd (cs := #[.slice none 0 0]) (t := 29) ?hr ?_; (case hd => rfl); (case hg => rfl); (case hr => first | (go_simp; done) | (go_simp; rfl)); intro cj hg w13 hbox hb; have ba := aM (af z5 hb); have bb := aM (ae (g := ca) (o := .cells #[.slice er l0_0.length dN] 29 (0, 0)) z13 hb); have bf := aM (Kept.below (S := (fun k_ => P0_0_ k_)) (by repeat (first | (with_reducible first | exact HK.out | apply Kept.alloc | apply Kept.drewN | apply Kept.drew | refine Kept.setCell ?_ (.inr dY.out) _) | exact HK.out)) hb); have bk := aM (ay (by repeat (first | (with_reducible first | exact HB.out | apply bA | apply pD | apply bD | refine ax ?_ ev.out) | exact HB.out)) hb); have bn := aM (hbox); have br := aM ((by rw [hg]; exact (by first | exact HK.out.1 | exact (show Kept w _ (fun k_ => P0_0_ k_) from by repeat (first | (with_reducible first | exact HK.out | apply Kept.alloc | apply Kept.drewN | apply Kept.drew | refine Kept.setCell ?_ (.inr dY.out) _) | exact HK.out)).1) : w.heap.size ≤ cj)); have bM := aM ((by rw [hg]; exact (az (by repeat (first | (with_reducible first | exact HB.out | apply bA | apply pD | apply bD | refine ax ?_ ev.out) | exact HB.out))) : w0.heap.size ≤ cj)); have b3 := aM ((by rw [hg]; exact aA (aw (g := ca) (o := .cells #[.slice er l0_0.length dN] 29 (0, 0)) z13) : ca ≠ cj)); have b6 := aM ((by rw [hg]; exact aC (aw (g := ca) (o := .cells #[.slice er l0_0.length dN] 29 (0, 0)) z13) : cj ≠ ca)); clear cd; clear ch; clear HK; clear HB; have cd := ba; have ch := bb; have HK := bf; have HB := bk; have cm := bn; have ey := br; have fg := bM; have eU := b3; have eS := b6; clear ba bb bf bk bn br bM b3 b6; clear hb hbox hg) | ((with_reducible refine aK (N := 5) rfl ?_); refine aN ?hg (N := 5) ?hd (cs := #[.slice none 0 0]) (t := 29) ?hr ?_; (case hd => rfl); (case hg => rfl); (case hr => first | (go_simp; done) | (go_simp; rfl)); intro cw hg w14 hbox hb; have ba := aM (af z5 hb); have bb := aM (ae (g := ca) (o := .cells #[.slice er l0_0.length dN] 29 (0, 0)) z13 hb); have bf := aM (ae (g := cj) (o := .cells #[.slice none 0 0] 29 (0, 0)) z14 hb); have bk := aM (Kept.below (S := (fun k_ => P0_0_ k_)) (by repeat (first | (with_reducible first | exact HK.out | apply Kept.alloc | apply Kept.drewN | apply Kept.drew | refine Kept.setCell ?_ (.inr dY.out) _ | refine Kept.setCell ?_ (.inr ey.out) _) | exact HK.out)) hb); have bn := aM (ay (by repeat (first | (with_reducible first | exact HB.out | apply bA | apply pD | apply bD | refine ax ?_ ev.out | refine ax ?_ fg.out) | exact HB.out)) hb); have br := aM (hbox); have bM := aM ((by rw [hg]; exact (by first | exact HK.out.1 | exact (show Kept w _ (fun k_ => P0_0_ k_) from by repeat (first | (with_reducible first | exact HK.out | apply Kept.alloc | apply Kept.drewN | apply Kept.drew | refine Kept.setCell ?_ (.inr dY.out) _ | refine Kept.setCell ?_ (.inr ey.out) _) | exact HK.out)).1) : w.heap.size ≤ cw)); have b3 := aM ((by rw [hg]; exact (az (by repeat (first | (with_reducible first | exact HB.out | apply bA | apply pD | apply bD | refine ax ?_ ev.out | refine ax ?_ fg.out) | exact HB.out))) : w0.heap.size ≤ cw)); have b6 := aM ((by rw [hg]; exact aA (aw (g := ca) (o := .cells #[.slice er l0_0.length dN] 29 (0, 0)) z13) : ca ≠ cw)); have b9 := aM ((by rw [hg]; exact aC (aw (g := ca) (o := .cells #[.slice er l0_0.length dN] 29 (0, 0)) z13) : cw ≠ ca)); have bm := aM ((by rw [hg]; exact aA (aw (g := cj) (o := .cells #[.slice none 0 0] 29 (0, 0)) z14) : cj ≠ cw)); have bq := aM ((by rw [hg]; exact aC (aw (g := cj) (o := .cells #[.slice none 0 0] 29 (0, 0)) z14) : cw ≠ cj)); clear cd; clear ch; clear cm; clear HK; clear HB; have cd := ba; have ch := bb; have cm := bf; have HK := bk; have HB := bn; have cx := br; have fl := bM; have i7 := b3; have eT := b6; have eR := b9; have ea := bm; have d9 := bq; clear ba bb bf bk bn br bM b3 b6 b9 bm bq; clear hb hbox hg; have hnb15 := eU.out; have hnc15 := eS.out; have hnb16 := eT.out; have hnc16 := eR.out; have hcz17_0 : w14.cell? ⟨ca, 0, none⟩ = some (.slice er l0_0.length dN) := (bC ch.out 0).trans rfl; have hfz17_0 := bF ch.out 0) | ((with_reducible refine aJ (f := 15) rfl ?_); refine aQ (some 12) rfl rfl Try.func15 z1 rfl #[.agg #[.slice er l0_0.length dN]] rfl z25 ?_; (with_reducible refine (spec_GoodRope.calls k _ _ l0_0 true _ ?side1 ?side2 A3.out).mono ?_); (case side1 => repeat (first | exact (ah cd.out).2.2 | (with_reducible refine aE ?_ _) | (with_reducible refine aG ?_ _) | (with_reducible refine aH ?_))); (case side2 => exact (ah cd.out).2.1); rintro e w18 ⟨rfl, hb⟩; refine ⟨_, rfl, ?_⟩; have ba := aM (af z5 hb); have bb := aM (ae (g := ca) (o := .cells #[.slice er l0_0.length dN] 29 (0, 0)) z13 hb); have bf := aM (ae (g := cj) (o := .cells #[.slice none 0 0] 29 (0, 0)) z14 hb); have bk := aM (ae (g := cw) (o := .cells #[.slice none 0 0] 29 (0, 0)) z15 hb); have bn := aM (Kept.below (S := (fun k_ => P0_0_ k_)) z32 hb); have br := aM (ay z30 hb); clear cd; clear ch; clear cm; clear cx; clear HK; clear HB; have cd := ba; have ch := bb; have cm := bf; have cx := bk; have HK := bn; have HB := br; clear ba bb bf bk bn br; (try clear hb); (try clear hb2); (try clear hk); (try clear hi); have fD : w18.cell? ⟨ca, 0, none⟩ = some (.slice er l0_0.length dN) := (bC ch.out 0).trans rfl; have fB := bF ch.out 0) | (go_at_call 51; (with_reducible refine (spec_l12Size.calls _ _ l0_0 kK _ ?side1 ?side2 A5.out).mono ?_); (case side1 => repeat (first | exact (ah cd.out).2.2 | (with_reducible refine aE ?_ _) | (with_reducible refine aG ?_ _) | (with_reducible refine aH ?_))); (case side2 => exact (ah cd.out).2.1); rintro e w' ⟨rfl, ⟨nd, rfl⟩⟩; (try (rw [drewN_self w18]; generalize hq_ : World.drewN w18 _ = w18; have ba : Aside0 (Kd.R k58 58 w18 w0.heap.size (fun k_ => (P0_0_ k_ ∨ w.heap.size ≤ k_)) (.slice er l0_0.length dN) l0_0) := ⟨by rw [← hq_]; exact z5⟩; have bb : Aside0 (w18.heap[ca]? = some (.cells #[.slice er l0_0.length dN] 29 (0, 0))) := ⟨by rw [← hq_]; exact z13⟩; have bf : Aside0 (w18.heap[cj]? = some (.cells #[.slice none 0 0] 29 (0, 0))) := ⟨by rw [← hq_]; exact z14⟩; have bk : Aside0 (w18.heap[cw]? = some (.cells #[.slice none 0 0] 29 (0, 0))) := ⟨by rw [← hq_]; exact z15⟩; have bn : Aside0 (Kept w w18 (fun k_ => P0_0_ k_)) := ⟨by rw [← hq_]; exact z32⟩; have br : Aside0 (Below w0.heap.size w0 w18) := ⟨by rw [← hq_]; exact z30⟩; clear cd ch cm cx HK HB hq_; have cd := ba; have ch := bb; have cm := bf; have cx := bk; have HK := bn; have HB := br; clear ba bb bf bk bn br; have hqch0_ : w18.cell? ⟨ca, 0, none⟩ = some (.slice er l0_0.length dN) := (bC ch.out 0).trans rfl; have hrch0_ := bF ch.out 0; have hqcm0_ : w18.cell? ⟨cj, 0, none⟩ = some (.slice none 0 0) := (bC cm.out 0).trans rfl; have hrcm0_ := bF cm.out 0; have hqcx0_ : w18.cell? ⟨cw, 0, none⟩ = some (.slice none 0 0) := (bC cx.out 0).trans rfl; have hrcx0_ := bF cx.out 0))) | (go_at_call 50; (with_reducible refine (spec_l1In.calls a1 0 kK true _ A6.out).mono ?_); rintro e w' ⟨rfl, ⟨nd, rfl⟩⟩; (try (rw [drewN_self w18]; generalize hq_ : World.drewN w18 _ = w18; have ba : Aside0 (Kd.R k58 58 w18 w0.heap.size (fun k_ => (P0_0_ k_ ∨ w.heap.size ≤ k_)) (.slice er l0_0.length dN) l0_0) := ⟨by rw [← hq_]; exact z5⟩; have bb : Aside0 (w18.heap[ca]? = some (.cells #[.slice er l0_0.length dN] 29 (0, 0))) := ⟨by rw [← hq_]; exact z13⟩; have bf : Aside0 (w18.heap[cj]? = some (.cells #[.slice none 0 0] 29 (0, 0))) := ⟨by rw [← hq_]; exact z14⟩; have bk : Aside0 (w18.heap[cw]? = some (.cells #[.slice none 0 0] 29 (0, 0))) := ⟨by rw [← hq_]; exact z15⟩; have bn : Aside0 (Kept w w18 (fun k_ => P0_0_ k_)) := ⟨by rw [← hq_]; exact z32⟩; have br : Aside0 (Below w0.heap.size w0 w18) := ⟨by rw [← hq_]; exact z30⟩; clear cd ch cm cx HK HB hq_; have cd := ba; have ch := bb; have cm := bf; have cx := bk; have HK := bn; have HB := br; clear ba bb bf bk bn br; have hqch0_ : w18.cell? ⟨ca, 0, none⟩ = some (.slice er l0_0.length dN) := (bC ch.out 0).trans rfl; have hrch0_ := bF ch.out 0; have hqcm0_ : w18.cell? ⟨cj, 0, none⟩ = some (.slice none 0 0) := (bC cm.out 0).trans rfl; have hrcm0_ := bF cm.out 0; have hqcx0_ : w18.cell? ⟨cw, 0, none⟩ = some (.slice none 0 0) := (bC cx.out 0).trans rfl; have hrcx0_ := bF cx.out 0))) | ((with_reducible refine aJ (f := 70) rfl ?_); refine aQ (some 28) rfl rfl Try.func70 z1 rfl #[.slice er l0_0.length dN, .int .i64 a1] rfl z25 ?_; (with_reducible refine (spec_l12Split.calls k (fun k_ => some k_ = (.slice er l0_0.length dN : Value).ownBlock) (.slice er l0_0.length dN) l0_0 a1 fM fp w0 _ ?side1 ?side2 A8.out).mono ?_); (case side1 => repeat (first | (with_reducible first | exact HB.out | apply bA | apply pD | apply bD | refine ax ?_ ev.out | refine ax ?_ fg.out | refine ax ?_ i7.out) | exact HB.out)); (case side2 => exact Kd.R_tight rfl cd.out); rintro e w20 ⟨v254, v257, rfl, ho0, ho1, hb, hkp⟩; refine ⟨_, rfl, ?_⟩; have ba := aM (blk_kept z13 hkp (fun hs_ => (fun e_ => (aI cd.out ch.out z0) e_) hs_)); have bb := aM (blk_kept z14 hkp (fun hs_ => (fun e_ => (aI cd.out cm.out z0) e_) hs_)); have bf := aM (blk_kept z15 hkp (fun hs_ => (fun e_ => (aI cd.out cx.out z0) e_) hs_)); have bk := aM (ag (ok' := fun k_ => (P0_0_ k_ ∨ w.heap.size ≤ k_) ∧ some k_ ≠ (v257 : Value).ownBlock) ho0 (fun k_ hk_ => ⟨Or.elim hk_.1 (fun hs_ => (cd.out.1 k_ (hs_).symm)) (fun hn_ => (.inr (Nat.le_trans z36 hn_))), hk_.2⟩)); have bn := aM (ag (ok' := fun k_ => (P0_0_ k_ ∨ w.heap.size ≤ k_) ∧ some k_ ≠ (v254 : Value).ownBlock) ho1 (fun k_ hk_ => ⟨Or.elim hk_.1 (fun hs_ => (cd.out.1 k_ (hs_).symm)) (fun hn_ => (.inr (Nat.le_trans z36 hn_))), hk_.2⟩)); have br := aM (Kept.then_ (S := (fun k_ => P0_0_ k_)) z32 hkp (fun k_ hs_ => (fun e_ => (cd.out.1 k_ e_.symm)) hs_)); have bM := aM (hb); clear ch; clear cm; clear cx; clear HK; clear HB; clear cd; have ch := ba; have cm := bb; have cx := bf; have dp := bk; have dn := bn; have HK := br; have HB := bM; clear ba bb bf bk bn br bM; (try clear hb); (try clear hkp); (try clear ho0); (try clear ho1)) | ((with_reducible refine aK (N := 31) rfl ?_); refine Kd.R_lit k58 _ 58 ?hg (N := 31) ?hd (xs := ([] : List (S58))) (inner := []) (ok := fun _ => True) (okp := fun _ => True) ?hr ?hp (fun _ hk => hk) trivial (Below.refl _ _) (Nat.le_refl _) (by simp) ?_; (case hd => rfl); (case hg => rfl); (case hr => first | (go_simp; done) | (go_simp; rfl)); (case hp => exact (Reps.none _ _)); intro v260 w21 ho22 hb hg_ hnew_; clear hg_ hnew_; (first | rw [← Ny259.out] at ho22 | (simp only [Int.reduceToNat] at ho22; rw [← Ny259.out] at ho22)); have ba := aM (ai (by (with_reducible repeat (first | apply ac | apply ab | apply aa)); exact dp.out) (ak ho22) hb); have bb := aM (ai (by (with_reducible repeat (first | apply ac | apply ab | apply aa)); exact dn.out) (ak ho22) hb); have bf := aM (aU (aj (aj (Kd.R_newM (M := fun k_ => (P0_0_ k_ ∨ w.heap.size ≤ k_)) ho22 z36 (fun k_ h_ => .inr h_)) (al (by (with_reducible repeat (first | apply ac | apply ab | apply aa)); exact dp.out))) (al (by (with_reducible repeat (first | apply ac | apply ab | apply aa)); exact dn.out))) (az z30)); have bk := aM (ae (g := ca) (o := .cells #[.slice er l0_0.length dN] 29 (0, 0)) z13 hb); have bn := aM (ae (g := cj) (o := .cells #[.slice none 0 0] 29 (0, 0)) z14 hb); have br := aM (ae (g := cw) (o := .cells #[.slice none 0 0] 29 (0, 0)) z15 hb); have bM := aM (Kept.below (S := (fun k_ => P0_0_ k_)) z32 hb); have b3 := aM (ay z30 hb); clear dp; clear dn; clear ch; clear cm; clear cx; clear HK; clear HB; have dp := ba; have dn := bb; have jo := bf; have ch := bk; have cm := bn; have cx := br; have HK := bM; have HB := b3; clear ba bb bf bk bn br bM b3; clear hb ho22; obtain ⟨kI, kG, eo24⟩ := Kd.R_slice dp.out; subst eo24) | ((with_reducible refine gate_builtin (b := .append) (xs := #[.tmp 31, .tmp 32]) rfl ?_); at_builtin; refine Kd.R_append_rows k58 (w0 := w0) w0.heap.size rfl (.tmp 31) (.tmp 32) 27 58 (.agg #[(.int .i64 0), (.int .i64 0), (.string ⟨#[]⟩), (.int .i64 0), (.int .i64 0)]) 48 rfl Try.underlying27 info58 rfl z0 (by omega) v260 y259 fM _ _ _ (fun k_ => (P0_0_ k_ ∨ w.heap.size ≤ k_) ∧ some k_ ≠ (.slice kI fM.length kG : Value).ownBlock ∧ some k_ ≠ (v257 : Value).ownBlock) (fun _ => False) rfl rfl ?aO ?aR (fun _ _ h => h) (fun _ h => h.elim) ?aF ?aB ?aS ?aL ?_; (case aR => repeat (first | exact (ah dp.out).2.2 | (with_reducible refine aE ?_ _) | (with_reducible refine aG ?_ _) | (with_reducible refine aH ?_))); (case aB => exact z30); (case aF => exact (fun k_ hk => ⟨(.inr (Nat.le_trans z36 hk)), Kd.fresh' (al (by (with_reducible repeat (first | apply ac | apply ab | apply aa)); exact dp.out)) k_ hk, Kd.fresh' (al (by (with_reducible repeat (first | apply ac | apply ab | apply aa)); exact dn.out)) k_ hk⟩)); (case aO => exact (by (with_reducible repeat (first | apply ac | apply ab | apply aa)); exact ag jo.out (fun _ hk => ⟨hk.1.1.1, ⟨hk.1.2, hk.2⟩⟩))); (case aS => exact (az z30)); (case aL => have := LMc9.out; omega); intro v263 w23 ho hb hg hat; rw [← Ny262.out] at ho; have ba := aM (blk_grown (g := ca) (o := .cells #[.slice er l0_0.length dN] 29 (0, 0)) z13 hg (aI jo.out ch.out z0)); have bb := aM (blk_grown (g := cj) (o := .cells #[.slice none 0 0] 29 (0, 0)) z14 hg (aI jo.out cm.out z0)); have bf := aM (blk_grown (g := cw) (o := .cells #[.slice none 0 0] 29 (0, 0)) z15 hg (aI jo.out cx.out z0)); have bk := aM (Kd.R_after (ok := (fun k_ => (P0_0_ k_ ∨ w.heap.size ≤ k_) ∧ some k_ ≠ (v257 : Value).ownBlock)) (by (with_reducible repeat (first | apply ac | apply ab | apply aa)); exact dp.out) hg hat); have bn := aM (Kd.R_after (ok := (fun k_ => (P0_0_ k_ ∨ w.heap.size ≤ k_) ∧ some k_ ≠ (.slice kI fM.length kG : Value).ownBlock)) (by (with_reducible repeat (first | apply ac | apply ab | apply aa)); exact dn.out) hg hat); have br := aM (hb); have bM := aM (Kept.of_grown (S := (fun k_ => P0_0_ k_)) hg z32 (fun k_ e_ => (jo.out.1 k_ e_).1.1.1)); have b3 := aM (ho); clear ch; clear cm; clear cx; clear dp; clear dn; clear HB; clear HK; clear jo; have ch := ba; have cm := bb; have cx := bf; have dp := bk; have dn := bn; have HB := br; have HK := bM; have d0 := b3; clear ba bb bf bk bn br bM b3; clear ho hb hg hat; obtain ⟨e9, eZ, eo25⟩ := Kd.R_slice d0.out; subst eo25) | ((with_reducible refine aK (N := 9) rfl ?_); refine aN ?hg (N := 9) ?hd (cs := #[.slice none 0 0]) (t := 29) ?hr ?_; (case hd => rfl); (case hg => rfl); (case hr => first | (go_simp; done) | (go_simp; rfl)); intro dW hg w26 hbox hb; have ba := aM (af (by (with_reducible repeat (first | apply ac | apply ab | apply aa)); exact dp.out) hb); have bb := aM (af (by (with_reducible repeat (first | apply ac | apply ab | apply aa)); exact dn.out) hb); have bf := aM (af (by (with_reducible repeat (first | apply ac | apply ab | apply aa)); exact d0.out) hb); have bk := aM (ae (g := ca) (o := .cells #[.slice er l0_0.length dN] 29 (0, 0)) z13 hb); have bn := aM (ae (g := cj) (o := .cells #[.slice none 0 0] 29 (0, 0)) z14 hb); have br := aM (ae (g := cw) (o := .cells #[.slice none 0 0] 29 (0, 0)) z15 hb); have bM := aM (Kept.below (S := (fun k_ => P0_0_ k_)) z32 hb); have b3 := aM (ay z30 hb); have b6 := aM (hbox); have b9 := aM ((by rw [hg]; exact z36 : w.heap.size ≤ dW)); have bm := aM ((by rw [hg]; exact (az z30) : w0.heap.size ≤ dW)); have bq := aM ((by rw [hg]; exact aA (aw (g := ca) (o := .cells #[.slice er l0_0.length dN] 29 (0, 0)) z13) : ca ≠ dW)); have ci := aM ((by rw [hg]; exact aC (aw (g := ca) (o := .cells #[.slice er l0_0.length dN] 29 (0, 0)) z13) : dW ≠ ca)); have cX := aM ((by rw [hg]; exact aA (aw (g := cj) (o := .cells #[.slice none 0 0] 29 (0, 0)) z14) : cj ≠ dW)); have cW := aM ((by rw [hg]; exact aC (aw (g := cj) (o := .cells #[.slice none 0 0] 29 (0, 0)) z14) : dW ≠ cj)); have db := aM ((by rw [hg]; exact aA (aw (g := cw) (o := .cells #[.slice none 0 0] 29 (0, 0)) z15) : cw ≠ dW)); have ed := aM ((by rw [hg]; exact aC (aw (g := cw) (o := .cells #[.slice none 0 0] 29 (0, 0)) z15) : dW ≠ cw)); clear dp; clear dn; clear d0; clear ch; clear cm; clear cx; clear HK; clear HB; have dp := ba; have dn := bb; have d0 := bf; have ch := bk; have cm := bn; have cx := br; have HK := bM; have HB := b3; have dB := b6; have g7 := b9; have oc := bm; have jm := bq; have NB265_247 := ci; have gP := cX; have gL := cW; have gN := db; have gK := ed; clear ba bb bf bk bn br bM b3 b6 b9 bm bq ci cX cW db ed; clear hb hbox hg; have hnb27 := NB265_247.out; have hnc27 := jm.out; have hnb28 := gL.out; have hnc28 := gP.out; have hnb29 := gK.out; have hnc29 := gN.out; have hcz30_0 : w26.cell? ⟨dW, 0, none⟩ = some (.slice none 0 0) := (bC dB.out 0).trans rfl; have hfz30_0 := bF dB.out 0) | ((with_reducible refine aK (N := 35) rfl ?_); refine Kd.R_lit k58 _ 58 ?hg (N := 35) ?hd (xs := ([] : List (S58))) (inner := []) (ok := fun _ => True) (okp := fun _ => True) ?hr ?hp (fun _ hk => hk) trivial (Below.refl _ _) (Nat.le_refl _) (by simp) ?_; (case hd => rfl); (case hg => rfl); (case hr => first | (go_simp; done) | (go_simp; rfl)); (case hp => exact (Reps.none _ _)); intro v267 w31 ho32 hb hg_ hnew_; clear hg_ hnew_; (first | rw [← Ny266.out] at ho32 | (simp only [Int.reduceToNat] at ho32; rw [← Ny266.out] at ho32)); have ba := aM (ai (by (with_reducible repeat (first | apply ac | apply ab | apply aa)); exact (ag (am (p := ⟨dW, 0, none⟩) (ao dp.out dB.out z0) (fun _ hk => hk.2) (.slice e9 y262.length eZ)) (fun _ h_ => h_.1))) (ak ho32) hb); have bb := aM (ai (by (with_reducible repeat (first | apply ac | apply ab | apply aa)); exact (ag (am (p := ⟨dW, 0, none⟩) (ao dn.out dB.out z0) (fun _ hk => hk.2) (.slice e9 y262.length eZ)) (fun _ h_ => h_.1))) (ak ho32) hb); have bf := aM (ai (by (with_reducible repeat (first | apply ac | apply ab | apply aa)); exact (ag (am (p := ⟨dW, 0, none⟩) (ao d0.out dB.out z0) (fun _ hk => hk.2) (.slice e9 y262.length eZ)) (fun _ h_ => h_.1))) (ak ho32) hb); have bk := aM (aU (aj (aj (aj (Kd.R_newM (M := fun k_ => (P0_0_ k_ ∨ w.heap.size ≤ k_)) ho32 (show Kept w _ (fun k_ => P0_0_ k_) from by repeat (first | (with_reducible first | exact HK.out | apply Kept.alloc | apply Kept.drewN | apply Kept.drew | refine Kept.setCell ?_ (.inr dY.out) _ | refine Kept.setCell ?_ (.inr ey.out) _ | refine Kept.setCell ?_ (.inr fl.out) _ | refine Kept.setCell ?_ (.inr g7.out) _) | exact HK.out)).1 (fun k_ h_ => .inr h_)) (al (by (with_reducible repeat (first | apply ac | apply ab | apply aa)); exact (ag (am (p := ⟨dW, 0, none⟩) (ao dp.out dB.out z0) (fun _ hk => hk.2) (.slice e9 y262.length eZ)) (fun _ h_ => h_.1))))) (al (by (with_reducible repeat (first | apply ac | apply ab | apply aa)); exact (ag (am (p := ⟨dW, 0, none⟩) (ao dn.out dB.out z0) (fun _ hk => hk.2) (.slice e9 y262.length eZ)) (fun _ h_ => h_.1))))) (al (by (with_reducible repeat (first | apply ac | apply ab | apply aa)); exact (ag (am (p := ⟨dW, 0, none⟩) (ao d0.out dB.out z0) (fun _ hk => hk.2) (.slice e9 y262.length eZ)) (fun _ h_ => h_.1))))) (az z33)); have bn := aM (ae (g := ca) (o := .cells #[.slice er l0_0.length dN] 29 (0, 0)) (by (with_reducible repeat (first | refine aq ?_ _ | refine ap ?_ | refine ar ?_ _)); refine au ?_ jm.out _; (with_reducible repeat (first | refine aq ?_ _ | refine ap ?_ | refine ar ?_ _)); exact ch.out) hb); have br := aM (ae (g := cj) (o := .cells #[.slice none 0 0] 29 (0, 0)) (by (with_reducible repeat (first | refine aq ?_ _ | refine ap ?_ | refine ar ?_ _)); refine au ?_ gP.out _; (with_reducible repeat (first | refine aq ?_ _ | refine ap ?_ | refine ar ?_ _)); exact cm.out) hb); have bM := aM (ae (g := cw) (o := .cells #[.slice none 0 0] 29 (0, 0)) (by (with_reducible repeat (first | refine aq ?_ _ | refine ap ?_ | refine ar ?_ _)); refine au ?_ gN.out _; (with_reducible repeat (first | refine aq ?_ _ | refine ap ?_ | refine ar ?_ _)); exact cx.out) hb); have b3 := aM (ae (g := dW) (o := .cells #[.slice e9 y262.length eZ] 29 (0, 0)) (by (with_reducible repeat (first | refine aq ?_ _ | refine ap ?_ | refine ar ?_ _)); refine av (cs := #[.slice none 0 0]) ?_ 0 _ rfl; (with_reducible repeat (first | refine aq ?_ _ | refine ap ?_ | refine ar ?_ _)); exact dB.out) hb); have b6 := aM (Kept.below (S := (fun k_ => P0_0_ k_)) (by repeat (first | (with_reducible first | exact HK.out | apply Kept.alloc | apply Kept.drewN | apply Kept.drew | refine Kept.setCell ?_ (.inr dY.out) _ | refine Kept.setCell ?_ (.inr ey.out) _ | refine Kept.setCell ?_ (.inr fl.out) _ | refine Kept.setCell ?_ (.inr g7.out) _) | exact HK.out)) hb); have b9 := aM (ay z33 hb); clear dp; clear dn; clear d0; clear ch; clear cm; clear cx; clear dB; clear HK; clear HB; have dp := ba; have dn := bb; have d0 := bf; have i2 := bk; have ch := bn; have cm := br; have cx := bM; have dB := b3; have HK := b6; have HB := b9; clear ba bb bf bk bn br bM b3 b6 b9; clear hb ho32; obtain ⟨lQ, lI, eo34⟩ := Kd.R_slice dn.out; subst eo34) | ((with_reducible refine gate_builtin (b := .append) (xs := #[.tmp 35, .tmp 36]) rfl ?_); at_builtin; refine Kd.R_append_rows k58 (w0 := w0) w0.heap.size rfl (.tmp 35) (.tmp 36) 27 58 (.agg #[(.int .i64 0), (.int .i64 0), (.string ⟨#[]⟩), (.int .i64 0), (.int .i64 0)]) 48 rfl Try.underlying27 info58 rfl z0 (by omega) v267 y266 fp _ _ _ (fun k_ => (P0_0_ k_ ∨ w.heap.size ≤ k_) ∧ some k_ ≠ (.slice kI fM.length kG : Value).ownBlock ∧ some k_ ≠ (.slice lQ fp.length lI : Value).ownBlock ∧ some k_ ≠ (.slice e9 y262.length eZ : Value).ownBlock) (fun _ => False) rfl rfl ?aO ?aR (fun _ _ h => h) (fun _ h => h.elim) ?aF ?aB ?aS ?aL ?_; (case aR => repeat (first | exact (ah dn.out).2.2 | (with_reducible refine aE ?_ _) | (with_reducible refine aG ?_ _) | (with_reducible refine aH ?_))); (case aB => exact z33); (case aF => exact (fun k_ hk => ⟨(.inr (Nat.le_trans (by first | exact HK.out.1 | exact (show Kept w _ (fun k_ => P0_0_ k_) from by repeat (first | (with_reducible first | exact HK.out | apply Kept.alloc | apply Kept.drewN | apply Kept.drew | refine Kept.setCell ?_ (.inr dY.out) _ | refine Kept.setCell ?_ (.inr ey.out) _ | refine Kept.setCell ?_ (.inr fl.out) _ | refine Kept.setCell ?_ (.inr g7.out) _) | exact HK.out)).1) hk)), Kd.fresh' (al (by (with_reducible repeat (first | apply ac | apply ab | apply aa)); exact dp.out)) k_ hk, Kd.fresh' (al (by (with_reducible repeat (first | apply ac | apply ab | apply aa)); exact dn.out)) k_ hk, Kd.fresh' (al (by (with_reducible repeat (first | apply ac | apply ab | apply aa)); exact d0.out)) k_ hk⟩)); (case aO => exact (by (with_reducible repeat (first | apply ac | apply ab | apply aa)); exact ag i2.out (fun _ hk => ⟨hk.1.1.1.1, ⟨hk.1.1.2, ⟨hk.1.2, hk.2⟩⟩⟩))); (case aS => exact (az z33)); (case aL => have := LMc10.out; omega); intro v270 w33 ho hb hg hat; rw [← Ny269.out] at ho; have ba := aM (blk_grown (g := ca) (o := .cells #[.slice er l0_0.length dN] 29 (0, 0)) z13 hg (aI i2.out ch.out z0)); have bb := aM (blk_grown (g := cj) (o := .cells #[.slice none 0 0] 29 (0, 0)) z14 hg (aI i2.out cm.out z0)); have bf := aM (blk_grown (g := cw) (o := .cells #[.slice none 0 0] 29 (0, 0)) z15 hg (aI i2.out cx.out z0)); have bk := aM (Kd.R_after (ok := (fun k_ => (P0_0_ k_ ∨ w.heap.size ≤ k_) ∧ some k_ ≠ (.slice lQ fp.length lI : Value).ownBlock ∧ some k_ ≠ (.slice e9 y262.length eZ : Value).ownBlock)) (by (with_reducible repeat (first | apply ac | apply ab | apply aa)); exact ag dp.out (fun _ hk => ⟨⟨hk.1.1.1, ⟨hk.1.1.2, hk.1.2⟩⟩, hk.2⟩)) hg hat); have bn := aM (Kd.R_after (ok := (fun k_ => (P0_0_ k_ ∨ w.heap.size ≤ k_) ∧ some k_ ≠ (.slice kI fM.length kG : Value).ownBlock ∧ some k_ ≠ (.slice e9 y262.length eZ : Value).ownBlock)) (by (with_reducible repeat (first | apply ac | apply ab | apply aa)); exact ag dn.out (fun _ hk => ⟨⟨hk.1.1.1, ⟨hk.1.1.2, hk.1.2⟩⟩, hk.2⟩)) hg hat); have br := aM (Kd.R_after (ok := (fun k_ => (P0_0_ k_ ∨ w.heap.size ≤ k_) ∧ some k_ ≠ (.slice kI fM.length kG : Value).ownBlock ∧ some k_ ≠ (.slice lQ fp.length lI : Value).ownBlock)) (by (with_reducible repeat (first | apply ac | apply ab | apply aa)); exact d0.out) hg hat); have bM := aM (blk_grown (g := dW) (o := .cells #[.slice e9 y262.length eZ] 29 (0, 0)) (by (with_reducible repeat (first | refine aq ?_ _ | refine ap ?_ | refine ar ?_ _)); exact dB.out) hg (aI i2.out dB.out z0)); have b3 := aM (hb); have b6 := aM (Kept.of_grown (S := (fun k_ => P0_0_ k_)) hg (by repeat (first | (with_reducible first | exact HK.out | apply Kept.alloc | apply Kept.drewN | apply Kept.drew | refine Kept.setCell ?_ (.inr dY.out) _ | refine Kept.setCell ?_ (.inr ey.out) _ | refine Kept.setCell ?_ (.inr fl.out) _ | refine Kept.setCell ?_ (.inr g7.out) _) | exact HK.out)) (fun k_ e_ => (i2.out.1 k_ e_).1.1.1.1)); have b9 := aM (ho); clear ch; clear cm; clear cx; clear dp; clear dn; clear d0; clear dB; clear HB; clear HK; clear i2; have ch := ba; have cm := bb; have cx := bf; have dp := bk; have dn := bn; have d0 := br; have dB := bM; have HB := b3; have HK := b6; have fj := b9; clear ba bb bf bk bn br bM b3 b6 b9; clear ho hb hg hat; obtain ⟨eL, eJ, eo35⟩ := Kd.R_slice fj.out; subst eo35) | ((with_reducible refine aK (N := 10) rfl ?_); refine aN ?hg (N := 10) ?hd (cs := #[.slice none 0 0]) (t := 29) ?hr ?_; (case hd => rfl); (case hg => rfl); (case hr => first | (go_simp; done) | (go_simp; rfl)); intro dv hg w36 hbox hb; have ba := aM (af (by (with_reducible repeat (first | apply ac | apply ab | apply aa)); exact dp.out) hb); have bb := aM (af (by (with_reducible repeat (first | apply ac | apply ab | apply aa)); exact dn.out) hb); have bf := aM (af (by (with_reducible repeat (first | apply ac | apply ab | apply aa)); exact d0.out) hb); have bk := aM (af (by (with_reducible repeat (first | apply ac | apply ab | apply aa)); exact fj.out) hb); have bn := aM (ae (g := ca) (o := .cells #[.slice er l0_0.length dN] 29 (0, 0)) z13 hb); have br := aM (ae (g := cj) (o := .cells #[.slice none 0 0] 29 (0, 0)) z14 hb); have bM := aM (ae (g := cw) (o := .cells #[.slice none 0 0] 29 (0, 0)) z15 hb); have b3 := aM (ae (g := dW) (o := .cells #[.slice e9 y262.length eZ] 29 (0, 0)) (by (with_reducible repeat (first | refine aq ?_ _ | refine ap ?_ | refine ar ?_ _)); exact dB.out) hb); have b6 := aM (Kept.below (S := (fun k_ => P0_0_ k_)) (by repeat (first | (with_reducible first | exact HK.out | apply Kept.alloc | apply Kept.drewN | apply Kept.drew | refine Kept.setCell ?_ (.inr dY.out) _ | refine Kept.setCell ?_ (.inr ey.out) _ | refine Kept.setCell ?_ (.inr fl.out) _ | refine Kept.setCell ?_ (.inr g7.out) _) | exact HK.out)) hb); have b9 := aM (ay z33 hb); have bm := aM (hbox); have bq := aM ((by rw [hg]; exact (by first | exact HK.out.1 | exact (show Kept w _ (fun k_ => P0_0_ k_) from by repeat (first | (with_reducible first | exact HK.out | apply Kept.alloc | apply Kept.drewN | apply Kept.drew | refine Kept.setCell ?_ (.inr dY.out) _ | refine Kept.setCell ?_ (.inr ey.out) _ | refine Kept.setCell ?_ (.inr fl.out) _ | refine Kept.setCell ?_ (.inr g7.out) _) | exact HK.out)).1) : w.heap.size ≤ dv)); have ci := aM ((by rw [hg]; exact (az z33) : w0.heap.size ≤ dv)); have cX := aM ((by rw [hg]; exact aA (aw (g := ca) (o := .cells #[.slice er l0_0.length dN] 29 (0, 0)) z13) : ca ≠ dv)); have cW := aM ((by rw [hg]; exact aC (aw (g := ca) (o := .cells #[.slice er l0_0.length dN] 29 (0, 0)) z13) : dv ≠ ca)); have db := aM ((by rw [hg]; exact aA (aw (g := cj) (o := .cells #[.slice none 0 0] 29 (0, 0)) z14) : cj ≠ dv)); have ed := aM ((by rw [hg]; exact aC (aw (g := cj) (o := .cells #[.slice none 0 0] 29 (0, 0)) z14) : dv ≠ cj)); have gj := aM ((by rw [hg]; exact aA (aw (g := cw) (o := .cells #[.slice none 0 0] 29 (0, 0)) z15) : cw ≠ dv)); have gi := aM ((by rw [hg]; exact aC (aw (g := cw) (o := .cells #[.slice none 0 0] 29 (0, 0)) z15) : dv ≠ cw)); have gh := aM ((by rw [hg]; exact aA (aw (g := dW) (o := .cells #[.slice e9 y262.length eZ] 29 (0, 0)) (by (with_reducible repeat (first | refine aq ?_ _ | refine ap ?_ | refine ar ?_ _)); exact dB.out)) : dW ≠ dv)); have gg := aM ((by rw [hg]; exact aC (aw (g := dW) (o := .cells #[.slice e9 y262.length eZ] 29 (0, 0)) (by (with_reducible repeat (first | refine aq ?_ _ | refine ap ?_ | refine ar ?_ _)); exact dB.out)) : dv ≠ dW)); clear dp; clear dn; clear d0; clear fj; clear ch; clear cm; clear cx; clear dB; clear HK; clear HB; have dp := ba; have dn := bb; have d0 := bf; have fj := bk; have ch := bn; have cm := br; have cx := bM; have dB := b3; have HK := b6; have HB := b9; have fc := bm; have n8 := bq; have ob := ci; have jl := cX; have NB272_247 := cW; have gO := db; have gJ := ed; have gM := gj; have gI := gi; have jk := gh; have NB272_265 := gg; clear ba bb bf bk bn br bM b3 b6 b9 bm bq ci cX cW db ed gj gi gh gg; clear hb hbox hg; have hnb37 := NB272_247.out; have hnc37 := jl.out; have hnb38 := gJ.out; have hnc38 := gO.out; have hnb39 := gI.out; have hnc39 := gM.out; have hnb40 := NB272_265.out; have hnc40 := jk.out; have hcz41_0 : w36.cell? ⟨dv, 0, none⟩ = some (.slice none 0 0) := (bC fc.out 0).trans rfl; have hfz41_0 := bF fc.out 0))
     have ba : Aside0 (Kd.R k58 58 (w36.setCell ⟨dv, 0, none⟩ (.slice eL y269.length eJ)) w0.heap.size (fun k_ => (P0_0_ k_ ∨ w.heap.size ≤ k_) ∧ some k_ ≠ (.slice lQ fp.length lI : Value).ownBlock ∧ some k_ ≠ (.slice e9 y262.length eZ : Value).ownBlock ∧ some k_ ≠ (.slice eL y269.length eJ : Value).ownBlock) (.slice kI fM.length kG) fM) := ⟨by (with_reducible repeat (first | apply ac | apply ab | apply aa)); exact ag (am (p := ⟨dv, 0, none⟩) (ao dp.out fc.out z0) (fun _ hk => hk.2) (.slice eL y269.length eJ)) (fun _ hk => ⟨hk.1.1.1, ⟨hk.1.1.2.1, ⟨hk.1.1.2.2, hk.1.2⟩⟩⟩)⟩
     have bb : Aside0 (Kd.R k58 58 (w36.setCell ⟨dv, 0, none⟩ (.slice eL y269.length eJ)) w0.heap.size (fun k_ => (P0_0_ k_ ∨ w.heap.size ≤ k_) ∧ some k_ ≠ (.slice kI fM.length kG : Value).ownBlock ∧ some k_ ≠ (.slice e9 y262.length eZ : Value).ownBlock ∧ some k_ ≠ (.slice eL y269.length eJ : Value).ownBlock) (.slice lQ fp.length lI) fp) := ⟨by (with_reducible repeat (first | apply ac | apply ab | apply aa)); exact ag (am (p := ⟨dv, 0, none⟩) (ao dn.out fc.out z0) (fun _ hk => hk.2) (.slice eL y269.length eJ)) (fun _ hk => ⟨hk.1.1.1, ⟨hk.1.1.2.1, ⟨hk.1.1.2.2, hk.1.2⟩⟩⟩)⟩
     have bf : Aside0 (Kd.R k58 58 (w36.setCell ⟨dv, 0, none⟩ (.slice eL y269.length eJ)) w0.heap.size (fun k_ => (P0_0_ k_ ∨ w.heap.size ≤ k_) ∧ some k_ ≠ (.slice kI fM.length kG : Value).ownBlock ∧ some k_ ≠ (.slice lQ fp.length lI : Value).ownBlock ∧ some k_ ≠ (.slice eL y269.length eJ : Value).ownBlock) (.slice e9 y262.length eZ) y262) := ⟨by (with_reducible repeat (first | apply ac | apply ab | apply aa)); exact ag (am (p := ⟨dv, 0, none⟩) (ao d0.out fc.out z0) (fun _ hk => hk.2) (.slice eL y269.length eJ)) (fun _ hk => ⟨hk.1.1.1, ⟨hk.1.1.2.1, ⟨hk.1.1.2.2, hk.1.2⟩⟩⟩)⟩
     have bk : Aside0 (Kd.R k58 58 (w36.setCell ⟨dv, 0, none⟩ (.slice eL y269.length eJ)) w0.heap.size (fun k_ => (P0_0_ k_ ∨ w.heap.size ≤ k_) ∧ some k_ ≠ (.slice kI fM.length kG : Value).ownBlock ∧ some k_ ≠ (.slice lQ fp.length lI : Value).ownBlock ∧ some k_ ≠ (.slice e9 y262.length eZ : Value).ownBlock) (.slice eL y269.length eJ) y269) := ⟨by (with_reducible repeat (first | apply ac | apply ab | apply aa)); exact ag (am (p := ⟨dv, 0, none⟩) (ao fj.out fc.out z0) (fun _ hk => hk.2) (.slice eL y269.length eJ)) (fun _ hk => ⟨hk.1.1, ⟨hk.1.2.1, ⟨hk.1.2.2.1, hk.1.2.2.2⟩⟩⟩)⟩
     have bn : Aside0 ((w36.setCell ⟨dv, 0, none⟩ (.slice eL y269.length eJ)).heap[ca]? = some (.cells #[.slice er l0_0.length dN] 29 (0, 0))) := ⟨by (with_reducible repeat (first | refine aq ?_ _ | refine ap ?_ | refine ar ?_ _)); refine au ?_ jl.out _; (with_reducible repeat (first | refine aq ?_ _ | refine ap ?_ | refine ar ?_ _)); exact ch.out⟩
     have br : Aside0 ((w36.setCell ⟨dv, 0, none⟩ (.slice eL y269.length eJ)).heap[cj]? = some (.cells #[.slice none 0 0] 29 (0, 0))) := ⟨by (with_reducible repeat (first | refine aq ?_ _ | refine ap ?_ | refine ar ?_ _)); refine au ?_ gO.out _; (with_reducible repeat (first | refine aq ?_ _ | refine ap ?_ | refine ar ?_ _)); exact cm.out⟩
     have bM : Aside0 ((w36.setCell ⟨dv, 0, none⟩ (.slice eL y269.length eJ)).heap[cw]? = some (.cells #[.slice none 0 0] 29 (0, 0))) := ⟨by (with_reducible repeat (first | refine aq ?_ _ | refine ap ?_ | refine ar ?_ _)); refine au ?_ gM.out _; (with_reducible repeat (first | refine aq ?_ _ | refine ap ?_ | refine ar ?_ _)); exact cx.out⟩
     have b3 : Aside0 ((w36.setCell ⟨dv, 0, none⟩ (.slice eL y269.length eJ)).heap[dW]? = some (.cells #[.slice e9 y262.length eZ] 29 (0, 0))) := ⟨by (with_reducible repeat (first | refine aq ?_ _ | refine ap ?_ | refine ar ?_ _)); refine au ?_ jk.out _; (with_reducible repeat (first | refine aq ?_ _ | refine ap ?_ | refine ar ?_ _)); exact dB.out⟩
     have b6 : Aside0 ((w36.setCell ⟨dv, 0, none⟩ (.slice eL y269.length eJ)).heap[dv]? = some (.cells #[.slice eL y269.length eJ] 29 (0, 0))) := ⟨by (with_reducible repeat (first | refine aq ?_ _ | refine ap ?_ | refine ar ?_ _)); refine av (cs := #[.slice none 0 0]) ?_ 0 _ rfl; (with_reducible repeat (first | refine aq ?_ _ | refine ap ?_ | refine ar ?_ _)); exact fc.out⟩
     have b9 : Aside0 (Kept w (w36.setCell ⟨dv, 0, none⟩ (.slice eL y269.length eJ)) (fun k_ => P0_0_ k_)) := ⟨by repeat (first | (with_reducible first | exact HK.out | apply Kept.alloc | apply Kept.drewN | apply Kept.drew | refine Kept.setCell ?_ (.inr dY.out) _ | refine Kept.setCell ?_ (.inr ey.out) _ | refine Kept.setCell ?_ (.inr fl.out) _ | refine Kept.setCell ?_ (.inr g7.out) _ | refine Kept.setCell ?_ (.inr n8.out) _) | exact HK.out)⟩
     have bm : Aside0 (Below w0.heap.size w0 (w36.setCell ⟨dv, 0, none⟩ (.slice eL y269.length eJ))) := ⟨by repeat (first | (with_reducible first | exact HB.out | apply bA | apply pD | apply bD | refine ax ?_ ev.out | refine ax ?_ fg.out | refine ax ?_ i7.out | refine ax ?_ oc.out | refine ax ?_ ob.out) | exact HB.out)⟩
     (try clear dp)
     (try clear dn)
     (try clear d0)
     (try clear fj)
     (try clear ch)
     (try clear cm)
     (try clear cx)
     (try clear dB)
     (try clear fc)
     (try clear HK)
     (try clear HB)
     generalize (w36.setCell ⟨dv, 0, none⟩ (.slice eL y269.length eJ)) = w42 at ba bb bf bk bn br bM b3 b6 b9 bm ⊢
     have dp := ba
     have dn := bb
     have d0 := bf
     have fj := bk
     have ch := bn
     have cm := br
     have cx := bM
     have dB := b3
     have fc := b6
     have HK := b9
     have HB := bm
     clear ba bb bf bk bn br bM b3 b6 b9 bm
     have ba := aM (aa dp.out)
     have bb := aM (aa dn.out)
     have bf := aM (aa d0.out)
     have bk := aM (aa fj.out)
     have bn := aM (ap ch.out)
     have br := aM (ap cm.out)
     have bM := aM (ap cx.out)
     have b3 := aM (ap dB.out)
     have b6 := aM (ap fc.out)
     have b9 := aM (Kept.drew HK.out)
     have bm := aM (bD HB.out)
     clear dp
     clear dn
     clear d0
     clear fj
     clear ch
     clear cm
     clear cx
     clear dB
     clear fc
     clear HK
     clear HB
     have dp := ba
     have dn := bb
     have d0 := bf
     have fj := bk
     have ch := bn
     have cm := br
     have cx := bM
     have dB := b3
     have fc := b6
     have HK := b9
     have HB := bm
     clear ba bb bf bk bn br bM b3 b6 b9 bm
     refine start_ (n := 5) (S := fun w' => w'.cell? ⟨dW, 0, none⟩ = some (.slice e9 y262.length eZ) ∧ w'.cell? ⟨dv, 0, none⟩ = some (.slice eL y269.length eJ)) (ds := []) #[false, false, false, false, false] z1 rfl rfl ⟨(bC dB.out 0).trans rfl, (bC fc.out 0).trans rfl⟩ (fun hHeld => ?_)
     generalize w42.drew = w43 at dp dn d0 fj ch cm cx dB fc HK HB hHeld ⊢
     refine tA 0 39 ?_ (hy := by rintro w' ⟨s0, s1⟩; go_simp; with_reducible rfl)
     refine tA 1 40 ?_ (hy := by rintro w' ⟨s0, s1⟩; go_simp; with_reducible rfl)
     refine one_ (i := 2) (N := none) #[true, true, true, false, false] rfl rfl z1 z0 (fun K hK => ?_)
     have hs44 : w43.cell? ⟨cj, 0, none⟩ = some (.slice none 0 0) := (bC cm.out 0).trans rfl
     have hfs44 := bF cm.out 0
     have hns44_0 := eU.out
     have hns44_2 := d9.out
     have hns44_3 := gL.out
     have hns44_4 := gJ.out
     have hms44_0 := eS.out
     have hms44_2 := ea.out
     have hms44_3 := gP.out
     have hms44_4 := gO.out
     refine skip_ (w1 := ?_) (by rfl) rfl ?_ ?_
     rotate_left
     ·go_simp
      rfl
     refine hK.out _ _ ⟨((cell_far (p := ⟨cj, _, none⟩) gL.out _).trans (hHeld.1)), ((cell_far (p := ⟨cj, _, none⟩) gJ.out _).trans (hHeld.2))⟩ (fun hHeld => ?_)
     clear hK K
     refine one_ (i := 3) (N := none) #[true, true, true, true, false] rfl rfl z1 z0 (fun K hK => ?_)
     have hs45 : w43.cell? ⟨cw, 0, none⟩ = some (.slice none 0 0) := (bC cx.out 0).trans rfl
     have hfs45 := bF cx.out 0
     have hns45_0 := eT.out
     have hns45_1 := ea.out
     have hns45_3 := gK.out
     have hns45_4 := gI.out
     have hms45_0 := eR.out
     have hms45_1 := d9.out
     have hms45_3 := gN.out
     have hms45_4 := gM.out
     refine skip_ (w1 := ?_) (by rfl) rfl ?_ ?_
     rotate_left
     ·go_simp
      rfl
     refine hK.out _ _ ⟨((cell_far (p := ⟨cw, _, none⟩) gK.out _).trans (hHeld.1)), ((cell_far (p := ⟨cw, _, none⟩) gI.out _).trans (hHeld.2))⟩ (fun hHeld => ?_)
     clear hK K
     refine pA 4 6 ?_
     refine done_ z1 ?_
     try go_wp2
     refine aT (results_list (rs := [.cell 4 29, .cell 5 29, .tmp 6]) rfl (by simp) (.cell cj 29 #[.slice e9 y262.length eZ] (0, 0) _ rfl (by (with_reducible repeat (first | refine aq ?_ _ | refine ap ?_ | refine ar ?_ _)); refine au ?_ ea.out _; (with_reducible repeat (first | refine aq ?_ _ | refine ap ?_ | refine ar ?_ _)); refine av (cs := #[.slice none 0 0]) ?_ 0 _ rfl; (with_reducible repeat (first | refine aq ?_ _ | refine ap ?_ | refine ar ?_ _)); exact cm.out) Try.underlying29 rfl z1 (.cell cw 29 #[.slice eL y269.length eJ] (0, 0) _ rfl (by (with_reducible repeat (first | refine aq ?_ _ | refine ap ?_ | refine ar ?_ _)); refine av (cs := #[.slice none 0 0]) ?_ 0 _ rfl; (with_reducible repeat (first | refine aq ?_ _ | refine ap ?_ | refine ar ?_ _)); refine au ?_ d9.out _; (with_reducible repeat (first | refine aq ?_ _ | refine ap ?_ | refine ar ?_ _)); exact cx.out) Try.underlying29 rfl z1 (.tmp .nil)))) rfl ?_
     exact ⟨_, _, y2, by (with_reducible repeat (first | apply ac | apply ab | apply aa)); exact ag (am (p := ⟨cw, 0, none⟩) (am (p := ⟨cj, 0, none⟩) (ao (ao d0.out cm.out z0) cx.out z0) (fun _ hk => hk.1.2) (.slice e9 y262.length eZ)) (fun _ hk => hk.2) (.slice eL y269.length eJ)) (fun _ hk => ⟨hk.1.1.1, hk.1.1.2.2.2⟩), by (with_reducible repeat (first | apply ac | apply ab | apply aa)); exact ag (am (p := ⟨cw, 0, none⟩) (am (p := ⟨cj, 0, none⟩) (ao (ao fj.out cm.out z0) cx.out z0) (fun _ hk => hk.1.2) (.slice e9 y262.length eZ)) (fun _ hk => hk.2) (.slice eL y269.length eJ)) (fun _ hk => ⟨hk.1.1.1, hk.1.1.2.2.2⟩), by repeat (first | (with_reducible first | exact HB.out | apply bA | apply pD | apply bD | refine ax ?_ ev.out | refine ax ?_ fg.out | refine ax ?_ i7.out | refine ax ?_ oc.out | refine ax ?_ ob.out) | exact HB.out), by repeat (first | (with_reducible first | exact HK.out | apply Kept.alloc | apply Kept.drewN | apply Kept.drew | refine Kept.setCell ?_ (.inr dY.out) _ | refine Kept.setCell ?_ (.inr ey.out) _ | refine Kept.setCell ?_ (.inr fl.out) _ | refine Kept.setCell ?_ (.inr g7.out) _ | refine Kept.setCell ?_ (.inr n8.out) _) | exact HK.out)⟩
    ·rw [if_neg eK] at H
     exact absurd H (by simp)
   ·rw [if_neg c9] at H
    exact absurd H (by simp)
  ·replace c7 := Bool.eq_false_iff.mpr c7
   subst c7
   rw [if_neg (show ¬ (false = true) by decide)] at H
   simp only [Option.some.injEq, Prod.mk.injEq] at H
   obtain ⟨rfl, rfl, rfl⟩ := H
   obtain ⟨f9, f8, eo46⟩ := Kd.R_slice cd.out
   subst eo46
   go_enter Try.func38, Try.ntmps38
   go_wp2_with (first | ((with_reducible refine aK (N := 2) rfl ?_); refine aN ?hg (N := 2) ?hd (cs := #[.slice f9 l0_0.length f8]) (t := 29) ?hr ?_; (case hd => rfl); (case hg => rfl); (case hr => first | (go_simp; done) | (go_simp; rfl)); intro ca hg w47 hbox hb; have ba := aM (af z5 hb); have bb := aM (Kept.below (S := (fun k_ => P0_0_ k_)) z22 hb); have bf := aM (ay z23 hb); have bk := aM (hbox); have bn := aM ((by rw [hg]; exact (by first | exact HK.out.1 | exact (show Kept w _ (fun k_ => P0_0_ k_) from by repeat (first | (with_reducible first | exact HK.out | apply Kept.alloc | apply Kept.drewN | apply Kept.drew) | exact HK.out)).1) : w.heap.size ≤ ca)); have br := aM ((by rw [hg]; exact (az z23) : w0.heap.size ≤ ca)); clear cd; clear HK; clear HB; have cd := ba; have HK := bb; have HB := bf; have ch := bk; have dY := bn; have ev := br; clear ba bb bf bk bn br; clear hb hbox hg) | ((with_reducible refine aK (N := 4) rfl ?_); refine aN ?hg (N := 4) ?hd (cs := #[.slice none 0 0]) (t := 29) ?hr ?_; (case hd => rfl); (case hg => rfl); (case hr => first | (go_simp; done) | (go_simp; rfl)); intro cj hg w48 hbox hb; have ba := aM (af z5 hb); have bb := aM (ae (g := ca) (o := .cells #[.slice f9 l0_0.length f8] 29 (0, 0)) z13 hb); have bf := aM (Kept.below (S := (fun k_ => P0_0_ k_)) (by repeat (first | (with_reducible first | exact HK.out | apply Kept.alloc | apply Kept.drewN | apply Kept.drew | refine Kept.setCell ?_ (.inr dY.out) _) | exact HK.out)) hb); have bk := aM (ay (by repeat (first | (with_reducible first | exact HB.out | apply bA | apply pD | apply bD | refine ax ?_ ev.out) | exact HB.out)) hb); have bn := aM (hbox); have br := aM ((by rw [hg]; exact (by first | exact HK.out.1 | exact (show Kept w _ (fun k_ => P0_0_ k_) from by repeat (first | (with_reducible first | exact HK.out | apply Kept.alloc | apply Kept.drewN | apply Kept.drew | refine Kept.setCell ?_ (.inr dY.out) _) | exact HK.out)).1) : w.heap.size ≤ cj)); have bM := aM ((by rw [hg]; exact (az (by repeat (first | (with_reducible first | exact HB.out | apply bA | apply pD | apply bD | refine ax ?_ ev.out) | exact HB.out))) : w0.heap.size ≤ cj)); have b3 := aM ((by rw [hg]; exact aA (aw (g := ca) (o := .cells #[.slice f9 l0_0.length f8] 29 (0, 0)) z13) : ca ≠ cj)); have b6 := aM ((by rw [hg]; exact aC (aw (g := ca) (o := .cells #[.slice f9 l0_0.length f8] 29 (0, 0)) z13) : cj ≠ ca)); clear cd; clear ch; clear HK; clear HB; have cd := ba; have ch := bb; have HK := bf; have HB := bk; have cm := bn; have ey := br; have fg := bM; have eU := b3; have eS := b6; clear ba bb bf bk bn br bM b3 b6; clear hb hbox hg) | ((with_reducible refine aK (N := 5) rfl ?_); refine aN ?hg (N := 5) ?hd (cs := #[.slice none 0 0]) (t := 29) ?hr ?_; (case hd => rfl); (case hg => rfl); (case hr => first | (go_simp; done) | (go_simp; rfl)); intro cw hg w49 hbox hb; have ba := aM (af z5 hb); have bb := aM (ae (g := ca) (o := .cells #[.slice f9 l0_0.length f8] 29 (0, 0)) z13 hb); have bf := aM (ae (g := cj) (o := .cells #[.slice none 0 0] 29 (0, 0)) z14 hb); have bk := aM (Kept.below (S := (fun k_ => P0_0_ k_)) (by repeat (first | (with_reducible first | exact HK.out | apply Kept.alloc | apply Kept.drewN | apply Kept.drew | refine Kept.setCell ?_ (.inr dY.out) _ | refine Kept.setCell ?_ (.inr ey.out) _) | exact HK.out)) hb); have bn := aM (ay (by repeat (first | (with_reducible first | exact HB.out | apply bA | apply pD | apply bD | refine ax ?_ ev.out | refine ax ?_ fg.out) | exact HB.out)) hb); have br := aM (hbox); have bM := aM ((by rw [hg]; exact (by first | exact HK.out.1 | exact (show Kept w _ (fun k_ => P0_0_ k_) from by repeat (first | (with_reducible first | exact HK.out | apply Kept.alloc | apply Kept.drewN | apply Kept.drew | refine Kept.setCell ?_ (.inr dY.out) _ | refine Kept.setCell ?_ (.inr ey.out) _) | exact HK.out)).1) : w.heap.size ≤ cw)); have b3 := aM ((by rw [hg]; exact (az (by repeat (first | (with_reducible first | exact HB.out | apply bA | apply pD | apply bD | refine ax ?_ ev.out | refine ax ?_ fg.out) | exact HB.out))) : w0.heap.size ≤ cw)); have b6 := aM ((by rw [hg]; exact aA (aw (g := ca) (o := .cells #[.slice f9 l0_0.length f8] 29 (0, 0)) z13) : ca ≠ cw)); have b9 := aM ((by rw [hg]; exact aC (aw (g := ca) (o := .cells #[.slice f9 l0_0.length f8] 29 (0, 0)) z13) : cw ≠ ca)); have bm := aM ((by rw [hg]; exact aA (aw (g := cj) (o := .cells #[.slice none 0 0] 29 (0, 0)) z14) : cj ≠ cw)); have bq := aM ((by rw [hg]; exact aC (aw (g := cj) (o := .cells #[.slice none 0 0] 29 (0, 0)) z14) : cw ≠ cj)); clear cd; clear ch; clear cm; clear HK; clear HB; have cd := ba; have ch := bb; have cm := bf; have HK := bk; have HB := bn; have cx := br; have fl := bM; have i7 := b3; have eT := b6; have eR := b9; have ea := bm; have d9 := bq; clear ba bb bf bk bn br bM b3 b6 b9 bm bq; clear hb hbox hg; have hnb50 := eU.out; have hnc50 := eS.out; have hnb51 := eT.out; have hnc51 := eR.out; have iy : w49.cell? ⟨ca, 0, none⟩ = some (.slice f9 l0_0.length f8) := (bC ch.out 0).trans rfl; have hX := bF ch.out 0) | ((with_reducible refine aJ (f := 15) rfl ?_); refine aQ (some 12) rfl rfl Try.func15 z1 rfl #[.agg #[.slice f9 l0_0.length f8]] rfl z25 ?_; (with_reducible refine (spec_GoodRope.calls k _ _ l0_0 true _ ?side1 ?side2 A3.out).mono ?_); (case side1 => repeat (first | exact (ah cd.out).2.2 | (with_reducible refine aE ?_ _) | (with_reducible refine aG ?_ _) | (with_reducible refine aH ?_))); (case side2 => exact (ah cd.out).2.1); rintro e w53 ⟨rfl, hb⟩; refine ⟨_, rfl, ?_⟩; have ba := aM (af z5 hb); have bb := aM (ae (g := ca) (o := .cells #[.slice f9 l0_0.length f8] 29 (0, 0)) z13 hb); have bf := aM (ae (g := cj) (o := .cells #[.slice none 0 0] 29 (0, 0)) z14 hb); have bk := aM (ae (g := cw) (o := .cells #[.slice none 0 0] 29 (0, 0)) z15 hb); have bn := aM (Kept.below (S := (fun k_ => P0_0_ k_)) z32 hb); have br := aM (ay z30 hb); clear cd; clear ch; clear cm; clear cx; clear HK; clear HB; have cd := ba; have ch := bb; have cm := bf; have cx := bk; have HK := bn; have HB := br; clear ba bb bf bk bn br; (try clear hb); (try clear hb2); (try clear hk); (try clear hi); have hcz54_0 : w53.cell? ⟨ca, 0, none⟩ = some (.slice f9 l0_0.length f8) := (bC ch.out 0).trans rfl; have hfz54_0 := bF ch.out 0) | (go_at_call 51; (with_reducible refine (spec_l12Size.calls _ _ l0_0 kK _ ?side1 ?side2 A5.out).mono ?_); (case side1 => repeat (first | exact (ah cd.out).2.2 | (with_reducible refine aE ?_ _) | (with_reducible refine aG ?_ _) | (with_reducible refine aH ?_))); (case side2 => exact (ah cd.out).2.1); rintro e w' ⟨rfl, ⟨nd, rfl⟩⟩; (try (rw [drewN_self w53]; generalize hq_ : World.drewN w53 _ = w53; have ba : Aside0 (Kd.R k58 58 w53 w0.heap.size (fun k_ => (P0_0_ k_ ∨ w.heap.size ≤ k_)) (.slice f9 l0_0.length f8) l0_0) := ⟨by rw [← hq_]; exact z5⟩; have bb : Aside0 (w53.heap[ca]? = some (.cells #[.slice f9 l0_0.length f8] 29 (0, 0))) := ⟨by rw [← hq_]; exact z13⟩; have bf : Aside0 (w53.heap[cj]? = some (.cells #[.slice none 0 0] 29 (0, 0))) := ⟨by rw [← hq_]; exact z14⟩; have bk : Aside0 (w53.heap[cw]? = some (.cells #[.slice none 0 0] 29 (0, 0))) := ⟨by rw [← hq_]; exact z15⟩; have bn : Aside0 (Kept w w53 (fun k_ => P0_0_ k_)) := ⟨by rw [← hq_]; exact z32⟩; have br : Aside0 (Below w0.heap.size w0 w53) := ⟨by rw [← hq_]; exact z30⟩; clear cd ch cm cx HK HB hq_; have cd := ba; have ch := bb; have cm := bf; have cx := bk; have HK := bn; have HB := br; clear ba bb bf bk bn br; have hqch0_ : w53.cell? ⟨ca, 0, none⟩ = some (.slice f9 l0_0.length f8) := (bC ch.out 0).trans rfl; have hrch0_ := bF ch.out 0; have hqcm0_ : w53.cell? ⟨cj, 0, none⟩ = some (.slice none 0 0) := (bC cm.out 0).trans rfl; have hrcm0_ := bF cm.out 0; have hqcx0_ : w53.cell? ⟨cw, 0, none⟩ = some (.slice none 0 0) := (bC cx.out 0).trans rfl; have hrcx0_ := bF cx.out 0))) | (go_at_call 50; (with_reducible refine (spec_l1In.calls a1 0 kK false _ A6.out).mono ?_); rintro e w' ⟨rfl, ⟨nd, rfl⟩⟩; (try (rw [drewN_self w53]; generalize hq_ : World.drewN w53 _ = w53; have ba : Aside0 (Kd.R k58 58 w53 w0.heap.size (fun k_ => (P0_0_ k_ ∨ w.heap.size ≤ k_)) (.slice f9 l0_0.length f8) l0_0) := ⟨by rw [← hq_]; exact z5⟩; have bb : Aside0 (w53.heap[ca]? = some (.cells #[.slice f9 l0_0.length f8] 29 (0, 0))) := ⟨by rw [← hq_]; exact z13⟩; have bf : Aside0 (w53.heap[cj]? = some (.cells #[.slice none 0 0] 29 (0, 0))) := ⟨by rw [← hq_]; exact z14⟩; have bk : Aside0 (w53.heap[cw]? = some (.cells #[.slice none 0 0] 29 (0, 0))) := ⟨by rw [← hq_]; exact z15⟩; have bn : Aside0 (Kept w w53 (fun k_ => P0_0_ k_)) := ⟨by rw [← hq_]; exact z32⟩; have br : Aside0 (Below w0.heap.size w0 w53) := ⟨by rw [← hq_]; exact z30⟩; clear cd ch cm cx HK HB hq_; have cd := ba; have ch := bb; have cm := bf; have cx := bk; have HK := bn; have HB := br; clear ba bb bf bk bn br; have hqch0_ : w53.cell? ⟨ca, 0, none⟩ = some (.slice f9 l0_0.length f8) := (bC ch.out 0).trans rfl; have hrch0_ := bF ch.out 0; have hqcm0_ : w53.cell? ⟨cj, 0, none⟩ = some (.slice none 0 0) := (bC cm.out 0).trans rfl; have hrcm0_ := bF cm.out 0; have hqcx0_ : w53.cell? ⟨cw, 0, none⟩ = some (.slice none 0 0) := (bC cx.out 0).trans rfl; have hrcx0_ := bF cx.out 0)); have hnb55 := ea.out; have hnc55 := d9.out; have hcz56_0 : w53.cell? ⟨cj, 0, none⟩ = some (.slice none 0 0) := (bC cm.out 0).trans rfl; have hfz56_0 := bF cm.out 0; have hcz57_0 : w53.cell? ⟨cw, 0, none⟩ = some (.slice none 0 0) := (bC cx.out 0).trans rfl; have hfz57_0 := bF cx.out 0))
   refine aT (results_list (rs := [.cell 4 29, .cell 5 29, .tmp 6]) rfl (by simp) (.cell cj 29 #[.slice none 0 0] (0, 0) _ rfl (by (with_reducible repeat (first | refine aq ?_ _ | refine ap ?_ | refine ar ?_ _)); refine au ?_ ea.out _; (with_reducible repeat (first | refine aq ?_ _ | refine ap ?_ | refine ar ?_ _)); refine av (cs := #[.slice none 0 0]) ?_ 0 _ rfl; (with_reducible repeat (first | refine aq ?_ _ | refine ap ?_ | refine ar ?_ _)); exact cm.out) Try.underlying29 rfl z1 (.cell cw 29 #[.slice none 0 0] (0, 0) _ rfl (by (with_reducible repeat (first | refine aq ?_ _ | refine ap ?_ | refine ar ?_ _)); refine av (cs := #[.slice none 0 0]) ?_ 0 _ rfl; (with_reducible repeat (first | refine aq ?_ _ | refine ap ?_ | refine ar ?_ _)); refine au ?_ d9.out _; (with_reducible repeat (first | refine aq ?_ _ | refine ap ?_ | refine ar ?_ _)); exact cx.out) Try.underlying29 rfl z1 (.tmp .nil)))) rfl ?_
   exact ⟨_, _, y2, y13, y13, by repeat (first | (with_reducible first | exact HB.out | apply bA | apply pD | apply bD | refine ax ?_ ev.out | refine ax ?_ fg.out | refine ax ?_ i7.out) | exact HB.out), by repeat (first | (with_reducible first | exact HK.out | apply Kept.alloc | apply Kept.drewN | apply Kept.drew | refine Kept.setCell ?_ (.inr dY.out) _ | refine Kept.setCell ?_ (.inr ey.out) _ | refine Kept.setCell ?_ (.inr fl.out) _) | exact HK.out)⟩
 ·replace c4 := Bool.eq_false_iff.mpr c4
  subst c4
  rw [if_neg (show ¬ (false = true) by decide)] at H
  simp only [Option.some.injEq, Prod.mk.injEq] at H
  obtain ⟨rfl, rfl, rfl⟩ := H
  obtain ⟨ji, je, eo58⟩ := Kd.R_slice cd.out
  subst eo58
  go_enter Try.func38, Try.ntmps38
  go_wp2_with (first | ((with_reducible refine aK (N := 2) rfl ?_); refine aN ?hg (N := 2) ?hd (cs := #[.slice ji l0_0.length je]) (t := 29) ?hr ?_; (case hd => rfl); (case hg => rfl); (case hr => first | (go_simp; done) | (go_simp; rfl)); intro ca hg w59 hbox hb; have ba := aM (af z5 hb); have bb := aM (Kept.below (S := (fun k_ => P0_0_ k_)) z22 hb); have bf := aM (ay z23 hb); have bk := aM (hbox); have bn := aM ((by rw [hg]; exact (by first | exact HK.out.1 | exact (show Kept w _ (fun k_ => P0_0_ k_) from by repeat (first | (with_reducible first | exact HK.out | apply Kept.alloc | apply Kept.drewN | apply Kept.drew) | exact HK.out)).1) : w.heap.size ≤ ca)); have br := aM ((by rw [hg]; exact (az z23) : w0.heap.size ≤ ca)); clear cd; clear HK; clear HB; have cd := ba; have HK := bb; have HB := bf; have ch := bk; have dY := bn; have ev := br; clear ba bb bf bk bn br; clear hb hbox hg) | ((with_reducible refine aK (N := 4) rfl ?_); refine aN ?hg (N := 4) ?hd (cs := #[.slice none 0 0]) (t := 29) ?hr ?_; (case hd => rfl); (case hg => rfl); (case hr => first | (go_simp; done) | (go_simp; rfl)); intro cj hg w60 hbox hb; have ba := aM (af z5 hb); have bb := aM (ae (g := ca) (o := .cells #[.slice ji l0_0.length je] 29 (0, 0)) z13 hb); have bf := aM (Kept.below (S := (fun k_ => P0_0_ k_)) (by repeat (first | (with_reducible first | exact HK.out | apply Kept.alloc | apply Kept.drewN | apply Kept.drew | refine Kept.setCell ?_ (.inr dY.out) _) | exact HK.out)) hb); have bk := aM (ay (by repeat (first | (with_reducible first | exact HB.out | apply bA | apply pD | apply bD | refine ax ?_ ev.out) | exact HB.out)) hb); have bn := aM (hbox); have br := aM ((by rw [hg]; exact (by first | exact HK.out.1 | exact (show Kept w _ (fun k_ => P0_0_ k_) from by repeat (first | (with_reducible first | exact HK.out | apply Kept.alloc | apply Kept.drewN | apply Kept.drew | refine Kept.setCell ?_ (.inr dY.out) _) | exact HK.out)).1) : w.heap.size ≤ cj)); have bM := aM ((by rw [hg]; exact (az (by repeat (first | (with_reducible first | exact HB.out | apply bA | apply pD | apply bD | refine ax ?_ ev.out) | exact HB.out))) : w0.heap.size ≤ cj)); have b3 := aM ((by rw [hg]; exact aA (aw (g := ca) (o := .cells #[.slice ji l0_0.length je] 29 (0, 0)) z13) : ca ≠ cj)); have b6 := aM ((by rw [hg]; exact aC (aw (g := ca) (o := .cells #[.slice ji l0_0.length je] 29 (0, 0)) z13) : cj ≠ ca)); clear cd; clear ch; clear HK; clear HB; have cd := ba; have ch := bb; have HK := bf; have HB := bk; have cm := bn; have ey := br; have fg := bM; have eU := b3; have eS := b6; clear ba bb bf bk bn br bM b3 b6; clear hb hbox hg) | ((with_reducible refine aK (N := 5) rfl ?_); refine aN ?hg (N := 5) ?hd (cs := #[.slice none 0 0]) (t := 29) ?hr ?_; (case hd => rfl); (case hg => rfl); (case hr => first | (go_simp; done) | (go_simp; rfl)); intro cw hg w61 hbox hb; have ba := aM (af z5 hb); have bb := aM (ae (g := ca) (o := .cells #[.slice ji l0_0.length je] 29 (0, 0)) z13 hb); have bf := aM (ae (g := cj) (o := .cells #[.slice none 0 0] 29 (0, 0)) z14 hb); have bk := aM (Kept.below (S := (fun k_ => P0_0_ k_)) (by repeat (first | (with_reducible first | exact HK.out | apply Kept.alloc | apply Kept.drewN | apply Kept.drew | refine Kept.setCell ?_ (.inr dY.out) _ | refine Kept.setCell ?_ (.inr ey.out) _) | exact HK.out)) hb); have bn := aM (ay (by repeat (first | (with_reducible first | exact HB.out | apply bA | apply pD | apply bD | refine ax ?_ ev.out | refine ax ?_ fg.out) | exact HB.out)) hb); have br := aM (hbox); have bM := aM ((by rw [hg]; exact (by first | exact HK.out.1 | exact (show Kept w _ (fun k_ => P0_0_ k_) from by repeat (first | (with_reducible first | exact HK.out | apply Kept.alloc | apply Kept.drewN | apply Kept.drew | refine Kept.setCell ?_ (.inr dY.out) _ | refine Kept.setCell ?_ (.inr ey.out) _) | exact HK.out)).1) : w.heap.size ≤ cw)); have b3 := aM ((by rw [hg]; exact (az (by repeat (first | (with_reducible first | exact HB.out | apply bA | apply pD | apply bD | refine ax ?_ ev.out | refine ax ?_ fg.out) | exact HB.out))) : w0.heap.size ≤ cw)); have b6 := aM ((by rw [hg]; exact aA (aw (g := ca) (o := .cells #[.slice ji l0_0.length je] 29 (0, 0)) z13) : ca ≠ cw)); have b9 := aM ((by rw [hg]; exact aC (aw (g := ca) (o := .cells #[.slice ji l0_0.length je] 29 (0, 0)) z13) : cw ≠ ca)); have bm := aM ((by rw [hg]; exact aA (aw (g := cj) (o := .cells #[.slice none 0 0] 29 (0, 0)) z14) : cj ≠ cw)); have bq := aM ((by rw [hg]; exact aC (aw (g := cj) (o := .cells #[.slice none 0 0] 29 (0, 0)) z14) : cw ≠ cj)); clear cd; clear ch; clear cm; clear HK; clear HB; have cd := ba; have ch := bb; have cm := bf; have HK := bk; have HB := bn; have cx := br; have fl := bM; have i7 := b3; have eT := b6; have eR := b9; have ea := bm; have d9 := bq; clear ba bb bf bk bn br bM b3 b6 b9 bm bq; clear hb hbox hg; have hnb62 := eU.out; have hnc62 := eS.out; have hnb63 := eT.out; have hnc63 := eR.out; have hcz64_0 : w61.cell? ⟨ca, 0, none⟩ = some (.slice ji l0_0.length je) := (bC ch.out 0).trans rfl; have hfz64_0 := bF ch.out 0) | ((with_reducible refine aJ (f := 15) rfl ?_); refine aQ (some 12) rfl rfl Try.func15 z1 rfl #[.agg #[.slice ji l0_0.length je]] rfl z25 ?_; (with_reducible refine (spec_GoodRope.calls k _ _ l0_0 false _ ?side1 ?side2 A3.out).mono ?_); (case side1 => repeat (first | exact (ah cd.out).2.2 | (with_reducible refine aE ?_ _) | (with_reducible refine aG ?_ _) | (with_reducible refine aH ?_))); (case side2 => exact (ah cd.out).2.1); rintro e w65 ⟨rfl, hb⟩; refine ⟨_, rfl, ?_⟩; have ba := aM (af z5 hb); have bb := aM (ae (g := ca) (o := .cells #[.slice ji l0_0.length je] 29 (0, 0)) z13 hb); have bf := aM (ae (g := cj) (o := .cells #[.slice none 0 0] 29 (0, 0)) z14 hb); have bk := aM (ae (g := cw) (o := .cells #[.slice none 0 0] 29 (0, 0)) z15 hb); have bn := aM (Kept.below (S := (fun k_ => P0_0_ k_)) z32 hb); have br := aM (ay z30 hb); clear cd; clear ch; clear cm; clear cx; clear HK; clear HB; have cd := ba; have ch := bb; have cm := bf; have cx := bk; have HK := bn; have HB := br; clear ba bb bf bk bn br; (try clear hb); (try clear hb2); (try clear hk); (try clear hi); have hnb66 := ea.out; have hnc66 := d9.out; have ix : w65.cell? ⟨cj, 0, none⟩ = some (.slice none 0 0) := (bC cm.out 0).trans rfl; have hV := bF cm.out 0; have hcz68_0 : w65.cell? ⟨cw, 0, none⟩ = some (.slice none 0 0) := (bC cx.out 0).trans rfl; have hfz68_0 := bF cx.out 0))
  refine aT (results_list (rs := [.cell 4 29, .cell 5 29, .tmp 6]) rfl (by simp) (.cell cj 29 #[.slice none 0 0] (0, 0) _ rfl (by (with_reducible repeat (first | refine aq ?_ _ | refine ap ?_ | refine ar ?_ _)); refine au ?_ ea.out _; (with_reducible repeat (first | refine aq ?_ _ | refine ap ?_ | refine ar ?_ _)); refine av (cs := #[.slice none 0 0]) ?_ 0 _ rfl; (with_reducible repeat (first | refine aq ?_ _ | refine ap ?_ | refine ar ?_ _)); exact cm.out) Try.underlying29 rfl z1 (.cell cw 29 #[.slice none 0 0] (0, 0) _ rfl (by (with_reducible repeat (first | refine aq ?_ _ | refine ap ?_ | refine ar ?_ _)); refine av (cs := #[.slice none 0 0]) ?_ 0 _ rfl; (with_reducible repeat (first | refine aq ?_ _ | refine ap ?_ | refine ar ?_ _)); refine au ?_ d9.out _; (with_reducible repeat (first | refine aq ?_ _ | refine ap ?_ | refine ar ?_ _)); exact cx.out) Try.underlying29 rfl z1 (.tmp .nil)))) rfl ?_
  exact ⟨_, _, y2, y13, y13, by repeat (first | (with_reducible first | exact HB.out | apply bA | apply pD | apply bD | refine ax ?_ ev.out | refine ax ?_ fg.out | refine ax ?_ i7.out) | exact HB.out), by repeat (first | (with_reducible first | exact HK.out | apply Kept.alloc | apply Kept.drewN | apply Kept.drew | refine Kept.setCell ?_ (.inr dY.out) _ | refine Kept.setCell ?_ (.inr ey.out) _ | refine Kept.setCell ?_ (.inr fl.out) _) | exact HK.out)⟩

/-! ### impl_isName: function 81 -/
def impl_isName.f (a0 : Int) : Option (Bool) := if a0 ≥ 65 then (some (decide (a0 ≤ 70))) else (some false)
set_option maxHeartbeats 8000000 in
set_option maxRecDepth 100000 in
theorem impl_isName.calls (a0 : Int) (r : Bool) (w : World) (h : impl_isName.f a0 = some r) :
  Calls Try.prog 81 #[.int .u8 a0] w fun e w' => e = .returned (.bool r) ∧ Drawn0 w w' := by
 have H : (if a0 ≥ 65 then (some (decide (a0 ≤ 70))) else (some false)) = some r := h
 clear h
 by_cases c2 : a0 ≥ 65
 ·rw [if_pos c2] at H
  have c2b0 : decide (65 ≤ a0) = true := dT c2
  clear c2
  obtain rfl := sI H
  go_enter Try.func81, Try.ntmps81
  go_wp2
  go_ret
  exact ⟨y0, y1⟩
 ·rw [if_neg c2] at H
  have c2b0 : decide (65 ≤ a0) = false := dF c2
  clear c2
  obtain rfl := sI H
  go_enter Try.func81, Try.ntmps81
  go_wp2
  go_ret
  exact ⟨y0, y1⟩

/-! ### impl_isPlain: function 82 -/
def impl_isPlain.f (a0 : Int) : Option (Bool) := if a0 ≥ 97 then (if a0 ≤ 122 then (some true) else (if a0 ≥ 48 then (if a0 ≤ 57 then (some true) else (if a0 = 32 then (some true) else (if a0 = 46 then (some true) else (some (a0 == 44))))) else (if a0 = 32 then (some true) else (if a0 = 46 then (some true) else (some (a0 == 44)))))) else (if a0 ≥ 48 then (if a0 ≤ 57 then (some true) else (if a0 = 32 then (some true) else (if a0 = 46 then (some true) else (some (a0 == 44))))) else (if a0 = 32 then (some true) else (if a0 = 46 then (some true) else (some (a0 == 44)))))
set_option maxHeartbeats 8000000 in
set_option maxRecDepth 100000 in
theorem impl_isPlain.calls (a0 : Int) (r : Bool) (w : World) (h : impl_isPlain.f a0 = some r) :
  Calls Try.prog 82 #[.int .u8 a0] w fun e w' => e = .returned (.bool r) ∧ Drawn0 w w' := by
 have H : (if a0 ≥ 97 then (if a0 ≤ 122 then (some true) else (if a0 ≥ 48 then (if a0 ≤ 57 then (some true) else (if a0 = 32 then (some true) else (if a0 = 46 then (some true) else (some (a0 == 44))))) else (if a0 = 32 then (some true) else (if a0 = 46 then (some true) else (some (a0 == 44)))))) else (if a0 ≥ 48 then (if a0 ≤ 57 then (some true) else (if a0 = 32 then (some true) else (if a0 = 46 then (some true) else (some (a0 == 44))))) else (if a0 = 32 then (some true) else (if a0 = 46 then (some true) else (some (a0 == 44)))))) = some r := h
 clear h
 by_cases c2 : a0 ≥ 97
 ·rw [if_pos c2] at H
  have c2b0 : decide (97 ≤ a0) = true := dT c2
  clear c2
  by_cases c3 : a0 ≤ 122
  ·rw [if_pos c3] at H
   have c3b0 : decide (a0 ≤ 122) = true := dT c3
   clear c3
   obtain rfl := sI H
   go_enter Try.func82, Try.ntmps82
   go_wp2
   go_ret
   exact ⟨y0, y1⟩
  ·rw [if_neg c3] at H
   have c3b0 : decide (a0 ≤ 122) = false := dF c3
   clear c3
   by_cases c4 : a0 ≥ 48
   ·rw [if_pos c4] at H
    have c4b0 : decide (48 ≤ a0) = true := dT c4
    clear c4
    by_cases c5 : a0 ≤ 57
    ·rw [if_pos c5] at H
     have c5b0 : decide (a0 ≤ 57) = true := dT c5
     clear c5
     obtain rfl := sI H
     go_enter Try.func82, Try.ntmps82
     go_wp2
     go_ret
     exact ⟨y0, y1⟩
    ·rw [if_neg c5] at H
     have c5b0 : decide (a0 ≤ 57) = false := dF c5
     clear c5
     by_cases c6 : a0 = 32
     ·rw [if_pos c6] at H
      have c6b0 : (a0 == 32) = true := qT c6
      have c6b1 : (a0 != 32) = false := nF c6
      clear c6
      obtain rfl := sI H
      go_enter Try.func82, Try.ntmps82
      go_wp2
      go_ret
      exact ⟨y0, y1⟩
     ·rw [if_neg c6] at H
      have c6b0 : (a0 == 32) = false := qF c6
      have c6b1 : (a0 != 32) = true := nT c6
      by_cases c7 : a0 = 46
      ·rw [if_pos c7] at H
       have c7b0 : (a0 == 46) = true := qT c7
       have c7b1 : (a0 != 46) = false := nF c7
       clear c7
       obtain rfl := sI H
       go_enter Try.func82, Try.ntmps82
       go_wp2
       go_ret
       exact ⟨y0, y1⟩
      ·rw [if_neg c7] at H
       have c7b0 : (a0 == 46) = false := qF c7
       have c7b1 : (a0 != 46) = true := nT c7
       obtain rfl := sI H
       go_enter Try.func82, Try.ntmps82
       go_wp2
       go_ret
       exact ⟨y0, y1⟩
   ·rw [if_neg c4] at H
    have c4b0 : decide (48 ≤ a0) = false := dF c4
    clear c4
    by_cases c8 : a0 = 32
    ·rw [if_pos c8] at H
     have c8b0 : (a0 == 32) = true := qT c8
     have c8b1 : (a0 != 32) = false := nF c8
     clear c8
     obtain rfl := sI H
     go_enter Try.func82, Try.ntmps82
     go_wp2
     go_ret
     exact ⟨y0, y1⟩
    ·rw [if_neg c8] at H
     have c8b0 : (a0 == 32) = false := qF c8
     have c8b1 : (a0 != 32) = true := nT c8
     by_cases c9 : a0 = 46
     ·rw [if_pos c9] at H
      have c9b0 : (a0 == 46) = true := qT c9
      have c9b1 : (a0 != 46) = false := nF c9
      clear c9
      obtain rfl := sI H
      go_enter Try.func82, Try.ntmps82
      go_wp2
      go_ret
      exact ⟨y0, y1⟩
     ·rw [if_neg c9] at H
      have c9b0 : (a0 == 46) = false := qF c9
      have c9b1 : (a0 != 46) = true := nT c9
      obtain rfl := sI H
      go_enter Try.func82, Try.ntmps82
      go_wp2
      go_ret
      exact ⟨y0, y1⟩
 ·rw [if_neg c2] at H
  have c2b0 : decide (97 ≤ a0) = false := dF c2
  clear c2
  by_cases eK : a0 ≥ 48
  ·rw [if_pos eK] at H
   have c10b0 : decide (48 ≤ a0) = true := dT eK
   clear eK
   by_cases fd : a0 ≤ 57
   ·rw [if_pos fd] at H
    have c11b0 : decide (a0 ≤ 57) = true := dT fd
    clear fd
    obtain rfl := sI H
    go_enter Try.func82, Try.ntmps82
    go_wp2
    go_ret
    exact ⟨y0, y1⟩
   ·rw [if_neg fd] at H
    have c11b0 : decide (a0 ≤ 57) = false := dF fd
    clear fd
    by_cases fi : a0 = 32
    ·rw [if_pos fi] at H
     have c12b0 : (a0 == 32) = true := qT fi
     have c12b1 : (a0 != 32) = false := nF fi
     clear fi
     obtain rfl := sI H
     go_enter Try.func82, Try.ntmps82
     go_wp2
     go_ret
     exact ⟨y0, y1⟩
    ·rw [if_neg fi] at H
     have c12b0 : (a0 == 32) = false := qF fi
     have c12b1 : (a0 != 32) = true := nT fi
     by_cases gw : a0 = 46
     ·rw [if_pos gw] at H
      have c13b0 : (a0 == 46) = true := qT gw
      have c13b1 : (a0 != 46) = false := nF gw
      clear gw
      obtain rfl := sI H
      go_enter Try.func82, Try.ntmps82
      go_wp2
      go_ret
      exact ⟨y0, y1⟩
     ·rw [if_neg gw] at H
      have c13b0 : (a0 == 46) = false := qF gw
      have c13b1 : (a0 != 46) = true := nT gw
      obtain rfl := sI H
      go_enter Try.func82, Try.ntmps82
      go_wp2
      go_ret
      exact ⟨y0, y1⟩
  ·rw [if_neg eK] at H
   have c10b0 : decide (48 ≤ a0) = false := dF eK
   clear eK
   by_cases hJ : a0 = 32
   ·rw [if_pos hJ] at H
    have c14b0 : (a0 == 32) = true := qT hJ
    have c14b1 : (a0 != 32) = false := nF hJ
    clear hJ
    obtain rfl := sI H
    go_enter Try.func82, Try.ntmps82
    go_wp2
    go_ret
    exact ⟨y0, y1⟩
   ·rw [if_neg hJ] at H
    have c14b0 : (a0 == 32) = false := qF hJ
    have c14b1 : (a0 != 32) = true := nT hJ
    by_cases gv : a0 = 46
    ·rw [if_pos gv] at H
     have c15b0 : (a0 == 46) = true := qT gv
     have c15b1 : (a0 != 46) = false := nF gv
     clear gv
     obtain rfl := sI H
     go_enter Try.func82, Try.ntmps82
     go_wp2
     go_ret
     exact ⟨y0, y1⟩
    ·rw [if_neg gv] at H
     have c15b0 : (a0 == 46) = false := qF gv
     have c15b1 : (a0 != 46) = true := nT gv
     obtain rfl := sI H
     go_enter Try.func82, Try.ntmps82
     go_wp2
     go_ret
     exact ⟨y0, y1⟩

end Go.Proofs.Ytmkenlejdaphnaa.AFnExactSplitRope
