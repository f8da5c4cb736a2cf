-- this session's own text: written by wip/tools/ownprint.py over the kit's print
import Derived.Test.YtblnnbaeiggmoaaAFnExactEditRopex0
import Derived.Test.YtblnnbaeiggmoaaAFnExactEditRopex6
import Derived.Test.YtblnnbaeiggmoaaAFnExactEditRopex7
namespace Go.Proofs.Ytblnnbaeiggmoaa.AFnExactEditRope
open Go.RowKit Go.Proofs.YtblnnbaeiggmoaaW.PrintWords Go.Proofs.YtblnnbaeiggmoaaW.PrintLast Go.Proofs.YtblnnbaeiggmoaaW.PrintMore
attribute [local go_sem] max2_int min2_int max_two min_two max_three min_three max_four min_four   -- for this text's walks alone
set_option linter.unusedVariables false
set_option linter.unusedSimpArgs false

/-! ### impl_ApplyOp: function 21 -/
mutual
def impl_ApplyOp.j0 : Nat → List (S59) → ByteArray → Bool → Option (ByteArray × Bool)
 | 0, _, _, _ => none
 | k + 1, x0, x1, x18 => if x18 = true then (some ((⟨#[]⟩ : ByteArray), false)) else ((impl_sizes.f k x0).bind fun bt221 => (if bt221.1 = (x1.size : Int) then (impl_ApplyOp.l0 k x1 (⟨#[]⟩ : ByteArray) x0 (x0.length : Int) 0) else (some ((⟨#[]⟩ : ByteArray), false))))
def impl_ApplyOp.l0 : Nat → ByteArray → ByteArray → List (S59) → Int → Int → Option (ByteArray × Bool)
 | 0, _, _, _, _, _ => none
 | k + 1, x1, x8, x28, x29, x30 => if x30 < x29 then (if 0 ≤ x30 then (if x30 < (x28.length : Int) then (if 0 ≤ (((rd_T59 x28 x30).f2).size : Int) then (if (((rd_T59 x28 x30).f2).size : Int) ≤ (x1.size : Int) then (if (x1.extract 0 ((((rd_T59 x28 x30).f2).size : Int) : Int).toNat).toList = ((rd_T59 x28 x30).f2).toList then (if 0 ≤ ((rd_T59 x28 x30).f0) then (if ((rd_T59 x28 x30).f0) ≤ (x1.size : Int) then (if (x1.extract 0 (((rd_T59 x28 x30).f0) : Int).toNat).size + ((rd_T59 x28 x30).f1).size ≤ 9223372036854775807 then (if x8.size + ((x1.extract 0 (((rd_T59 x28 x30).f0) : Int).toNat) ++ ((rd_T59 x28 x30).f1)).size ≤ 9223372036854775807 then (if 0 ≤ (wrap64 (((rd_T59 x28 x30).f0) + (((rd_T59 x28 x30).f2).size : Int))) then (if (wrap64 (((rd_T59 x28 x30).f0) + (((rd_T59 x28 x30).f2).size : Int))) ≤ (x1.size : Int) then (impl_ApplyOp.l0 k (x1.extract ((wrap64 (((rd_T59 x28 x30).f0) + (((rd_T59 x28 x30).f2).size : Int))) : Int).toNat x1.size) (x8 ++ ((x1.extract 0 (((rd_T59 x28 x30).f0) : Int).toNat) ++ ((rd_T59 x28 x30).f1))) x28 x29 (wrap64 (x30 + 1))) else (none)) else (none)) else (none)) else (none)) else (none)) else (none)) else (some ((⟨#[]⟩ : ByteArray), false))) else (none)) else (none)) else (none)) else (none)) else (some (x8, true))
end
def impl_ApplyOp.f (k : Nat) (l0 : List (S59)) (a1 : ByteArray) : Option (ByteArray × Bool) := (impl_GoodOp.f k l0).bind fun k9 => (if k9 = true then ((impl_GoodText.f k a1).bind fun gP => (impl_ApplyOp.j0 k l0 a1 (!gP))) else (impl_ApplyOp.j0 k l0 a1 true))
theorem impl_ApplyOp.mono_l : ∀ k, (∀ y0 y1 y2, LeO (impl_ApplyOp.j0 k y0 y1 y2) (impl_ApplyOp.j0 (k + 1) y0 y1 y2)) ∧ (∀ y0 y1 y2 y3 y4, LeO (impl_ApplyOp.l0 k y0 y1 y2 y3 y4) (impl_ApplyOp.l0 (k + 1) y0 y1 y2 y3 y4))
 | 0 => ⟨fun _ _ _ r h => by simp [impl_ApplyOp.j0] at h, fun _ _ _ _ _ r h => by simp [impl_ApplyOp.l0] at h⟩
 | k + 1 => by
  obtain ⟨ih0, ih1⟩ := impl_ApplyOp.mono_l k
  refine ⟨?_, ?_⟩
  ·intro y0 y1 y2
   unfold impl_ApplyOp.j0
   repeat' first
   | (with_reducible exact ih0 _ _ _)
   | (with_reducible exact ih1 _ _ _ _ _)
   | (with_reducible exact impl_GoodOp.mono _ _)
   | (with_reducible exact impl_GoodText.mono _ _)
   | (with_reducible exact impl_sizes.mono _ _)
   | (with_reducible exact LeO.refl _)
   | (with_reducible exact LeO.none _)
   | (with_reducible refine LeO.ite ?_ ?_)
   | (with_reducible refine LeO.bind ?_ (fun _ => ?_))
   | exact ih0 _ _ _
   | exact ih1 _ _ _ _ _
   | exact impl_GoodOp.mono _ _
   | exact impl_GoodText.mono _ _
   | exact impl_sizes.mono _ _
   | exact LeO.none _
   | refine LeO.ite ?_ ?_
   | refine LeO.bind ?_ (fun _ => ?_)
  ·intro y0 y1 y2 y3 y4
   unfold impl_ApplyOp.l0
   repeat' first
   | (with_reducible exact ih0 _ _ _)
   | (with_reducible exact ih1 _ _ _ _ _)
   | (with_reducible exact impl_GoodOp.mono _ _)
   | (with_reducible exact impl_GoodText.mono _ _)
   | (with_reducible exact impl_sizes.mono _ _)
   | (with_reducible exact LeO.refl _)
   | (with_reducible exact LeO.none _)
   | (with_reducible refine LeO.ite ?_ ?_)
   | (with_reducible refine LeO.bind ?_ (fun _ => ?_))
   | exact ih0 _ _ _
   | exact ih1 _ _ _ _ _
   | exact impl_GoodOp.mono _ _
   | exact impl_GoodText.mono _ _
   | exact impl_sizes.mono _ _
   | exact LeO.none _
   | refine LeO.ite ?_ ?_
   | refine LeO.bind ?_ (fun _ => ?_)
theorem impl_ApplyOp.mono : ∀ a0 a1 k, LeO (impl_ApplyOp.f k a0 a1) (impl_ApplyOp.f (k + 1) a0 a1) := by
 intro a0 a1 k
 obtain ⟨ih0, ih1⟩ := impl_ApplyOp.mono_l k
 unfold impl_ApplyOp.f
 repeat' first
   | (with_reducible exact ih0 _ _ _)
   | (with_reducible exact ih1 _ _ _ _ _)
   | (with_reducible exact impl_GoodOp.mono _ _)
   | (with_reducible exact impl_GoodText.mono _ _)
   | (with_reducible exact impl_sizes.mono _ _)
   | (with_reducible exact LeO.refl _)
   | (with_reducible exact LeO.none _)
   | (with_reducible refine LeO.ite ?_ ?_)
   | (with_reducible refine LeO.bind ?_ (fun _ => ?_))
   | exact ih0 _ _ _
   | exact ih1 _ _ _ _ _
   | exact impl_GoodOp.mono _ _
   | exact impl_GoodText.mono _ _
   | exact impl_sizes.mono _ _
   | exact LeO.none _
   | refine LeO.ite ?_ ?_
   | refine LeO.bind ?_ (fun _ => ?_)
set_option maxHeartbeats 8000000 in
set_option maxRecDepth 100000 in
theorem impl_ApplyOp.calls (k : Nat) (A0 : Option Addr) (c0 : Nat) (l0 : List (S59)) (a1 : ByteArray) (r1 : ByteArray) (r2 : Bool) (w : World) (hr0 : Kd.C k59 w A0 l0.length l0) (hc0 : l0.length ≤ c0) (h : impl_ApplyOp.f k l0 a1 = some (r1, r2)) :
  Calls Try.prog 21 #[.slice A0 l0.length c0, .string a1] w fun e w' => e = .returned (.tuple #[.string r1, .bool r2]) ∧ Below w.heap.size w w' := by
 have hu59 := Try.underlying59
 have bY := aM hr0
 have cQ := aM hc0
 clear hr0 hc0
 have HB := aM (Below.refl w.heap.size w)
 have H : ((impl_GoodOp.f k l0).bind fun k9 => (if k9 = true then ((impl_GoodText.f k a1).bind fun gP => (impl_ApplyOp.j0 k l0 a1 (!gP))) else (impl_ApplyOp.j0 k l0 a1 true))) = some (r1, r2) := h
 clear h
 have nl := aM H
 clear H
 go_enter Try.func21, Try.ntmps21
 go_upto_region 1 with (fail)
 repeat (go_quiet (fail); go_upto_region 1 with (fail))
 go_cut [18] (fun v18 wc => ∃ (kq : Nat) (x18_2 : Bool), v18 = .bool x18_2 ∧ Aside0 (impl_ApplyOp.j0 kq l0 a1 x18_2 = some (r1, r2)) ∧ Aside0 (kq ≤ k) ∧ Aside0 (Below w.heap.size w wc))
 case first =>
  have H := nl.out
  clear nl
  replace H := oB H
  obtain ⟨k9, oZ, H⟩ := H
  try dsimp only at H
  have A4 := aM oZ
  clear oZ
  by_cases c5 : k9 = true
  ·subst c5
   rw [if_pos rfl] at H
   replace H := oB H
   obtain ⟨gP, fU, H⟩ := H
   try dsimp only at H
   have A6 := aM fU
   clear fU
   have H' := aM H
   clear H
   go_wp2_with (first | (go_at_call 55; (with_reducible refine (impl_GoodOp.calls k _ _ l0 true _ ?side1 ?side2 A4.out).mono ?_); (case side1 => repeat (first | exact (aD bY.out HB.out) | (with_reducible refine aE ?_ _) | (with_reducible refine aG ?_ _) | (with_reducible refine aH ?_))); (case side2 => exact cQ.out); rintro e w7 ⟨rfl, hb⟩; have a6 := aM (ay z11 hb); clear HB; have HB := a6; clear a6; (try clear hb); (try clear hb2); (try clear hk); (try clear hi)) | (go_at_call 56; (with_reducible refine (impl_GoodText.calls k a1 gP _ A6.out).mono ?_); rintro e w' ⟨rfl, ⟨nd, rfl⟩⟩; (try first | exact ⟨rfl, _, World.drewN_drewN _ _ _⟩ | exact ⟨rfl, _, Eq.trans (World.drewN_drewN _ _ _) (congrArg (World.drewN _) (Nat.add_assoc _ _ _))⟩)))
   repeat (go_quiet (first | (go_at_call 55; (with_reducible refine (impl_GoodOp.calls k _ _ l0 true _ ?side1 ?side2 A4.out).mono ?_); (case side1 => repeat (first | exact (aD bY.out HB.out) | (with_reducible refine aE ?_ _) | (with_reducible refine aG ?_ _) | (with_reducible refine aH ?_))); (case side2 => exact cQ.out); rintro e w7 ⟨rfl, hb⟩; have a6 := aM (ay z11 hb); clear HB; have HB := a6; clear a6; (try clear hb); (try clear hb2); (try clear hk); (try clear hi)) | (go_at_call 56; (with_reducible refine (impl_GoodText.calls k a1 gP _ A6.out).mono ?_); rintro e w' ⟨rfl, ⟨nd, rfl⟩⟩; (try first | exact ⟨rfl, _, World.drewN_drewN _ _ _⟩ | exact ⟨rfl, _, Eq.trans (World.drewN_drewN _ _ _) (congrArg (World.drewN _) (Nat.add_assoc _ _ _))⟩))); try go_wp2_with (first | (go_at_call 55; (with_reducible refine (impl_GoodOp.calls k _ _ l0 true _ ?side1 ?side2 A4.out).mono ?_); (case side1 => repeat (first | exact (aD bY.out HB.out) | (with_reducible refine aE ?_ _) | (with_reducible refine aG ?_ _) | (with_reducible refine aH ?_))); (case side2 => exact cQ.out); rintro e w7 ⟨rfl, hb⟩; have a6 := aM (ay z11 hb); clear HB; have HB := a6; clear a6; (try clear hb); (try clear hb2); (try clear hk); (try clear hi)) | (go_at_call 56; (with_reducible refine (impl_GoodText.calls k a1 gP _ A6.out).mono ?_); rintro e w' ⟨rfl, ⟨nd, rfl⟩⟩; (try first | exact ⟨rfl, _, World.drewN_drewN _ _ _⟩ | exact ⟨rfl, _, Eq.trans (World.drewN_drewN _ _ _) (congrArg (World.drewN _) (Nat.add_assoc _ _ _))⟩))))
   go_meet
   case rel => exact ⟨_, (!gP), z1, H', ⟨by first | omega | exact Nat.le_refl _⟩, ⟨y4⟩⟩
  ·replace c5 := Bool.eq_false_iff.mpr c5
   subst c5
   rw [if_neg (show ¬ (false = true) by decide)] at H
   have H' := aM H
   clear H
   go_wp2_with (first | (go_at_call 55; (with_reducible refine (impl_GoodOp.calls k _ _ l0 false _ ?side1 ?side2 A4.out).mono ?_); (case side1 => repeat (first | exact (aD bY.out HB.out) | (with_reducible refine aE ?_ _) | (with_reducible refine aG ?_ _) | (with_reducible refine aH ?_))); (case side2 => exact cQ.out); rintro e w8 ⟨rfl, hb⟩; have a6 := aM (ay z11 hb); clear HB; have HB := a6; clear a6; (try clear hb); (try clear hb2); (try clear hk); (try clear hi)))
   repeat (go_quiet (first | (go_at_call 55; (with_reducible refine (impl_GoodOp.calls k _ _ l0 false _ ?side1 ?side2 A4.out).mono ?_); (case side1 => repeat (first | exact (aD bY.out HB.out) | (with_reducible refine aE ?_ _) | (with_reducible refine aG ?_ _) | (with_reducible refine aH ?_))); (case side2 => exact cQ.out); rintro e w8 ⟨rfl, hb⟩; have a6 := aM (ay z11 hb); clear HB; have HB := a6; clear a6; (try clear hb); (try clear hb2); (try clear hk); (try clear hi))); try go_wp2_with (first | (go_at_call 55; (with_reducible refine (impl_GoodOp.calls k _ _ l0 false _ ?side1 ?side2 A4.out).mono ?_); (case side1 => repeat (first | exact (aD bY.out HB.out) | (with_reducible refine aE ?_ _) | (with_reducible refine aG ?_ _) | (with_reducible refine aH ?_))); (case side2 => exact cQ.out); rintro e w8 ⟨rfl, hb⟩; have a6 := aM (ay z11 hb); clear HB; have HB := a6; clear a6; (try clear hb); (try clear hb2); (try clear hk); (try clear hi))))
   go_meet
   case rel => exact ⟨_, (true), z1, H', ⟨by first | omega | exact Nat.le_refl _⟩, ⟨y4⟩⟩
 case rest =>
  clear nl
  try clear c2
  try clear p2
  try clear c5
  obtain ⟨kq, x18_2, rfl, HA, mu, HB⟩ := hcut
  cases kq with
  | zero => exact absurd HA.out (by simp [impl_ApplyOp.j0])
  | succ kj2 =>
   have H := HA.out
   clear HA
   simp only [impl_ApplyOp.j0] at H
   by_cases c9 : x18_2 = true
   ·subst c9
    rw [if_pos rfl] at H
    simp only [Option.some.injEq, Prod.mk.injEq] at H
    obtain ⟨rfl, rfl⟩ := H
    go_wp2
    repeat (go_quiet (fail); try go_wp2)
    go_ret2
    exact ⟨y3, y4⟩
   ·replace c9 := Bool.eq_false_iff.mpr c9
    subst c9
    rw [if_neg (show ¬ (false = true) by decide)] at H
    replace H := oB H
    obtain ⟨⟨gv, kQ⟩, oq, H⟩ := H
    try dsimp only at H
    have kO := aM oq
    clear oq
    by_cases dH : gv = (a1.size : Int)
    ·rw [if_pos dH] at H
     have c11b0 : (gv == (a1.size : Int)) = true := qT dH
     have c11b1 : (gv != (a1.size : Int)) = false := nF dH
     clear dH
     have H' := aM H
     clear H
     go_wp2_with (first | (go_at_call 57; (with_reducible refine (impl_sizes.calls kj2 _ _ l0 gv kQ _ ?side1 ?side2 kO.out).mono ?_); (case side1 => repeat (first | exact (aD bY.out HB.out) | (with_reducible refine aE ?_ _) | (with_reducible refine aG ?_ _) | (with_reducible refine aH ?_))); (case side2 => exact cQ.out); rintro e w12 ⟨rfl, hb⟩; have a6 := aM (ay z11 hb); clear HB; have HB := a6; clear a6; (try clear hb); (try clear hb2); (try clear hk); (try clear hi)))
     repeat (go_quiet (first | (go_at_call 57; (with_reducible refine (impl_sizes.calls kj2 _ _ l0 gv kQ _ ?side1 ?side2 kO.out).mono ?_); (case side1 => repeat (first | exact (aD bY.out HB.out) | (with_reducible refine aE ?_ _) | (with_reducible refine aG ?_ _) | (with_reducible refine aH ?_))); (case side2 => exact cQ.out); rintro e w12 ⟨rfl, hb⟩; have a6 := aM (ay z11 hb); clear HB; have HB := a6; clear a6; (try clear hb); (try clear hb2); (try clear hk); (try clear hi))); try go_wp2_with (first | (go_at_call 57; (with_reducible refine (impl_sizes.calls kj2 _ _ l0 gv kQ _ ?side1 ?side2 kO.out).mono ?_); (case side1 => repeat (first | exact (aD bY.out HB.out) | (with_reducible refine aE ?_ _) | (with_reducible refine aG ?_ _) | (with_reducible refine aH ?_))); (case side2 => exact cQ.out); rintro e w12 ⟨rfl, hb⟩; have a6 := aM (ay z11 hb); clear HB; have HB := a6; clear a6; (try clear hb); (try clear hb2); (try clear hk); (try clear hi))))
     go_loopg [1, 8, 30] kj2 (fun kq v1 v8 v30 w' => ∃ (x1_2 : ByteArray) (x8_2 : ByteArray) (x30_2 : Int), v1 = .string x1_2 ∧ v8 = .string x8_2 ∧ v30 = .int .i64 x30_2 ∧ Aside0 (impl_ApplyOp.l0 kq x1_2 x8_2 l0 (l0.length : Int) x30_2 = some (r1, r2)) ∧ Aside0 (kq ≤ kj2) ∧ Aside0 (Below w.heap.size w w'))
     case atStart => exact ⟨(a1), ((⟨#[]⟩ : ByteArray)), (0), z1, z1, z1, H', ⟨Nat.le_refl _⟩, ⟨y4⟩⟩
     case round =>
      clear H'
      try clear c1
      try clear c2
      try clear p2
      try clear c5
      try clear c9
      try clear dH
      try clear c11b0
      try clear c11b1
      try clear p2
      obtain ⟨x1_2, x8_2, x30_2, rfl, rfl, rfl, HA, HK2, HB⟩ := hrel
      cases gk with
      | zero => exact absurd HA.out (by simp [impl_ApplyOp.l0])
      | succ k2 =>
       have H := HA.out
       clear HA
       simp only [impl_ApplyOp.l0] at H
       by_cases dM : x30_2 < (l0.length : Int)
       ·rw [if_pos dM] at H
        have c13b0 : decide (x30_2 < (l0.length : Int)) = true := dT dM
        clear dM
        by_cases fG : 0 ≤ x30_2
        ·rw [if_pos fG] at H
         have c14b0 : decide (0 ≤ x30_2) = true := dT fG
         clear fG
         by_cases ex : x30_2 < (l0.length : Int)
         ·rw [if_pos ex] at H
          have c15b0 : decide (x30_2 < (l0.length : Int)) = true := dT ex
          clear ex
          by_cases fL : 0 ≤ (((rd_T59 l0 x30_2).f2).size : Int)
          ·rw [if_pos fL] at H
           have c16b0 := eq_true fL
           have c16b1 : decide (0 ≤ (((rd_T59 l0 x30_2).f2).size : Int)) = true := dT fL
           clear fL
           by_cases ei : (((rd_T59 l0 x30_2).f2).size : Int) ≤ (x1_2.size : Int)
           ·rw [if_pos ei] at H
            have c17b0 := eq_true ei
            have c17b1 : decide ((((rd_T59 l0 x30_2).f2).size : Int) ≤ (x1_2.size : Int)) = true := dT ei
            clear ei
            by_cases gF : (x1_2.extract 0 ((((rd_T59 l0 x30_2).f2).size : Int) : Int).toNat).toList = ((rd_T59 l0 x30_2).f2).toList
            ·rw [if_pos gF] at H
             have c18b0 : ((x1_2.extract 0 ((((rd_T59 l0 x30_2).f2).size : Int) : Int).toNat).toList == ((rd_T59 l0 x30_2).f2).toList) = true := qT gF
             (try (have c18b0n := c18b0; simp only [aV] at c18b0n))
             have c18b1 : ((x1_2.extract 0 ((((rd_T59 l0 x30_2).f2).size : Int) : Int).toNat).toList != ((rd_T59 l0 x30_2).f2).toList) = false := nF gF
             (try (have c18b1n := c18b1; simp only [aV] at c18b1n))
             clear gF
             by_cases lH : 0 ≤ ((rd_T59 l0 x30_2).f0)
             ·rw [if_pos lH] at H
              have c19b0 := eq_true lH
              have c19b1 : decide (0 ≤ ((rd_T59 l0 x30_2).f0)) = true := dT lH
              clear lH
              by_cases lG : ((rd_T59 l0 x30_2).f0) ≤ (x1_2.size : Int)
              ·rw [if_pos lG] at H
               have c20b0 := eq_true lG
               have c20b1 : decide (((rd_T59 l0 x30_2).f0) ≤ (x1_2.size : Int)) = true := dT lG
               clear lG
               by_cases lF : (x1_2.extract 0 (((rd_T59 l0 x30_2).f0) : Int).toNat).size + ((rd_T59 l0 x30_2).f1).size ≤ 9223372036854775807
               ·rw [if_pos lF] at H
                have c21b0 := eq_true lF
                have c21b1 : decide ((x1_2.extract 0 (((rd_T59 l0 x30_2).f0) : Int).toNat).size + ((rd_T59 l0 x30_2).f1).size ≤ 9223372036854775807) = true := dT lF
                try have c21b2 : (9223372036854775807 < (x1_2.extract 0 (((rd_T59 l0 x30_2).f0) : Int).toNat).size + ((rd_T59 l0 x30_2).f1).size) = False := eq_false (Nat.not_lt.2 lF)
                (try (have c21x : (9223372036854775807 < ((rd_T59 l0 x30_2).f0).toNat + ((rd_T59 l0 x30_2).f1).size) = False := eq_false (fun h_ => by have e_ := of_eq_true c21b0; simp only [ByteArray.size_extract, aY] at e_; have f0_ : ((rd_T59 l0 x30_2).f0) ≤ (x1_2.size : Int) := (by first | assumption | exact of_eq_true (by assumption) | exact oD (by assumption)); omega)))
                by_cases lE : x8_2.size + ((x1_2.extract 0 (((rd_T59 l0 x30_2).f0) : Int).toNat) ++ ((rd_T59 l0 x30_2).f1)).size ≤ 9223372036854775807
                ·rw [if_pos lE] at H
                 have c22b0 := eq_true lE
                 have c22b1 : decide (x8_2.size + ((x1_2.extract 0 (((rd_T59 l0 x30_2).f0) : Int).toNat) ++ ((rd_T59 l0 x30_2).f1)).size ≤ 9223372036854775807) = true := dT lE
                 try have c22b2 : (9223372036854775807 < x8_2.size + ((x1_2.extract 0 (((rd_T59 l0 x30_2).f0) : Int).toNat) ++ ((rd_T59 l0 x30_2).f1)).size) = False := eq_false (Nat.not_lt.2 lE)
                 (try (have c22x : (9223372036854775807 < x8_2.size + (((rd_T59 l0 x30_2).f0).toNat + ((rd_T59 l0 x30_2).f1).size)) = False := eq_false (fun h_ => by have e_ := of_eq_true c22b0; simp only [ByteArray.size_extract, aY] at e_; have f0_ : ((rd_T59 l0 x30_2).f0) ≤ (x1_2.size : Int) := (by first | assumption | exact of_eq_true (by assumption) | exact oD (by assumption)); omega)))
                 (try (have c22b2s := c22b2; simp only [aY] at c22b2s))
                 obtain ⟨ib, gW⟩ : ∃ j_ : Int, (wrap64 (((rd_T59 l0 x30_2).f0) + (((rd_T59 l0 x30_2).f2).size : Int))) = j_ := ⟨_, rfl⟩
                 replace H : (if 0 ≤ (ib) then (if (ib) ≤ (x1_2.size : Int) then (impl_ApplyOp.l0 k2 (x1_2.extract ((ib) : Int).toNat x1_2.size) (x8_2 ++ ((x1_2.extract 0 (((rd_T59 l0 x30_2).f0) : Int).toNat) ++ ((rd_T59 l0 x30_2).f1))) l0 (l0.length : Int) (wrap64 (x30_2 + 1))) else (none)) else (none)) = some (r1, r2) := by first | (rw [gW] at H; exact H) | (simp only [gW] at H ⊢; exact H)
                 have hji23w : (IntKind.i64.wrap (((rd_T59 l0 x30_2).f0) + (((rd_T59 l0 x30_2).f2).size : Int))) = ib := (i64_w _).trans gW
                 by_cases jR : 0 ≤ (ib)
                 ·rw [if_pos jR] at H
                  have c24b0 := eq_true jR
                  have c24b1 : decide (0 ≤ (ib)) = true := dT jR
                  clear jR
                  by_cases jQ : (ib) ≤ (x1_2.size : Int)
                  ·rw [if_pos jQ] at H
                   have c25b0 := eq_true jQ
                   have c25b1 : decide ((ib) ≤ (x1_2.size : Int)) = true := dT jQ
                   clear jQ
                   have H' := aM H
                   clear H
                   have p223 : 0 ≤ (x30_2 : Int) := oD z2
                   have q223 : x30_2 < (l0.length : Int) := oD z2
                   obtain ⟨ad223, e223, hx223_0, hx223_1, hx223_2⟩ := at_T59 bY.out x30_2 p223 q223
                   cases e223
                   replace hx223_0 := (HB.out.cell (World.block_lt_of_cell? w _ hx223_0)).trans hx223_0
                   replace hx223_1 := (HB.out.cell (World.block_lt_of_cell? w _ hx223_1)).trans hx223_1
                   replace hx223_2 := (HB.out.cell (World.block_lt_of_cell? w _ hx223_2)).trans hx223_2
                   replace p223 := eq_true p223
                   replace q223 := eq_true q223
                   go_wp2_with (first | ((with_reducible refine aJ (N := 10) rfl ?_); refine aK ?hg (N := 10) ?hd (cs := #[.int .i64 0, .string (⟨#[]⟩ : ByteArray), .string (⟨#[]⟩ : ByteArray)]) (t := 59) ?hr ?_; (case hd => rfl); (case hg => rfl); (case hr => first | (go_simp; done) | (go_simp; rfl)); intro ca hg w26 hbox hb; have a6 := aM (ay z11 hb); have ba := aM (hbox); have bb := aM ((by rw [hg]; exact (az z11) : w.heap.size ≤ ca)); have bf := aM ((by rw [hg]; exact (az z11) : w.heap.size ≤ ca)); clear HB; have HB := a6; have b4 := ba; have jx := bb; have gI := bf; clear a6 ba bb bf; clear hb hbox hg; have eM : w26.cell? ⟨ca, 0, none⟩ = some (.int .i64 0) := (bC b4.out 0).trans rfl; have eK : w26.cell? ⟨ca, 1, none⟩ = some (.string (⟨#[]⟩ : ByteArray)) := (bC b4.out 1).trans rfl; have eI : w26.cell? ⟨ca, 2, none⟩ = some (.string (⟨#[]⟩ : ByteArray)) := (bC b4.out 2).trans rfl; have eG := bF b4.out 0; have eF := bF b4.out 1; have eE := bF b4.out 2))
                   all_goals (try (exfalso; rename_i h_; rw [c18b0] at h_; cases h_; done))
                   repeat (go_quiet (first | ((with_reducible refine aJ (N := 10) rfl ?_); refine aK ?hg (N := 10) ?hd (cs := #[.int .i64 0, .string (⟨#[]⟩ : ByteArray), .string (⟨#[]⟩ : ByteArray)]) (t := 59) ?hr ?_; (case hd => rfl); (case hg => rfl); (case hr => first | (go_simp; done) | (go_simp; rfl)); intro ca hg w26 hbox hb; have a6 := aM (ay z11 hb); have ba := aM (hbox); have bb := aM ((by rw [hg]; exact (az z11) : w.heap.size ≤ ca)); have bf := aM ((by rw [hg]; exact (az z11) : w.heap.size ≤ ca)); clear HB; have HB := a6; have b4 := ba; have jx := bb; have gI := bf; clear a6 ba bb bf; clear hb hbox hg; have eM : w26.cell? ⟨ca, 0, none⟩ = some (.int .i64 0) := (bC b4.out 0).trans rfl; have eK : w26.cell? ⟨ca, 1, none⟩ = some (.string (⟨#[]⟩ : ByteArray)) := (bC b4.out 1).trans rfl; have eI : w26.cell? ⟨ca, 2, none⟩ = some (.string (⟨#[]⟩ : ByteArray)) := (bC b4.out 2).trans rfl; have eG := bF b4.out 0; have eF := bF b4.out 1; have eE := bF b4.out 2)); try go_wp2_with (first | ((with_reducible refine aJ (N := 10) rfl ?_); refine aK ?hg (N := 10) ?hd (cs := #[.int .i64 0, .string (⟨#[]⟩ : ByteArray), .string (⟨#[]⟩ : ByteArray)]) (t := 59) ?hr ?_; (case hd => rfl); (case hg => rfl); (case hr => first | (go_simp; done) | (go_simp; rfl)); intro ca hg w26 hbox hb; have a6 := aM (ay z11 hb); have ba := aM (hbox); have bb := aM ((by rw [hg]; exact (az z11) : w.heap.size ≤ ca)); have bf := aM ((by rw [hg]; exact (az z11) : w.heap.size ≤ ca)); clear HB; have HB := a6; have b4 := ba; have jx := bb; have gI := bf; clear a6 ba bb bf; clear hb hbox hg; have eM : w26.cell? ⟨ca, 0, none⟩ = some (.int .i64 0) := (bC b4.out 0).trans rfl; have eK : w26.cell? ⟨ca, 1, none⟩ = some (.string (⟨#[]⟩ : ByteArray)) := (bC b4.out 1).trans rfl; have eI : w26.cell? ⟨ca, 2, none⟩ = some (.string (⟨#[]⟩ : ByteArray)) := (bC b4.out 2).trans rfl; have eG := bF b4.out 0; have eF := bF b4.out 1; have eE := bF b4.out 2)))
                   all_goals (try (exfalso; rename_i h_; rw [c18b0] at h_; cases h_; done))
                   go_roundg k2
                   case measure => have := mu.out; have := HK2.out; omega
                   case rel => exact ⟨(x1_2.extract ((ib) : Int).toNat x1_2.size), (x8_2 ++ ((x1_2.extract 0 (((rd_T59 l0 x30_2).f0) : Int).toNat) ++ ((rd_T59 l0 x30_2).f1))), (wrap64 (x30_2 + 1)), (by first | rfl | (simp; done) | (simp only [← gW] <;> (first | rfl | (simp; done) | (simp; generalize ByteArray.toList _ = u_; cases u_ <;> (first | rfl | (simp; done))))) | (simp [*]; done)), z1, z1, (by first | exact H' | (simp only [gW]; exact H') | (simp only [← gW]; exact H')), ⟨by have := mu.out; have := HK2.out; omega⟩, ⟨by repeat (first | (with_reducible first | exact HB.out | apply bA | apply pD | apply bD | refine ax ?_ gI.out) | exact HB.out)⟩⟩
                  ·rw [if_neg jQ] at H
                   exact absurd H (by simp)
                 ·rw [if_neg jR] at H
                  exact absurd H (by simp)
                ·rw [if_neg lE] at H
                 exact absurd H (by simp)
               ·rw [if_neg lF] at H
                exact absurd H (by simp)
              ·rw [if_neg lG] at H
               exact absurd H (by simp)
             ·rw [if_neg lH] at H
              exact absurd H (by simp)
            ·rw [if_neg gF] at H
             have c18b0 : ((x1_2.extract 0 ((((rd_T59 l0 x30_2).f2).size : Int) : Int).toNat).toList == ((rd_T59 l0 x30_2).f2).toList) = false := qF gF
             (try (have c18b0n := c18b0; simp only [aV] at c18b0n))
             have c18b1 : ((x1_2.extract 0 ((((rd_T59 l0 x30_2).f2).size : Int) : Int).toNat).toList != ((rd_T59 l0 x30_2).f2).toList) = true := nT gF
             (try (have c18b1n := c18b1; simp only [aV] at c18b1n))
             simp only [Option.some.injEq, Prod.mk.injEq] at H
             obtain ⟨rfl, rfl⟩ := H
             have p223 : 0 ≤ (x30_2 : Int) := oD z2
             have q223 : x30_2 < (l0.length : Int) := oD z2
             obtain ⟨ad223, e223, hx223_0, hx223_1, hx223_2⟩ := at_T59 bY.out x30_2 p223 q223
             cases e223
             replace hx223_0 := (HB.out.cell (World.block_lt_of_cell? w _ hx223_0)).trans hx223_0
             replace hx223_1 := (HB.out.cell (World.block_lt_of_cell? w _ hx223_1)).trans hx223_1
             replace hx223_2 := (HB.out.cell (World.block_lt_of_cell? w _ hx223_2)).trans hx223_2
             replace p223 := eq_true p223
             replace q223 := eq_true q223
             go_wp2_with (first | ((with_reducible refine aJ (N := 10) rfl ?_); refine aK ?hg (N := 10) ?hd (cs := #[.int .i64 0, .string (⟨#[]⟩ : ByteArray), .string (⟨#[]⟩ : ByteArray)]) (t := 59) ?hr ?_; (case hd => rfl); (case hg => rfl); (case hr => first | (go_simp; done) | (go_simp; rfl)); intro ca hg w28 hbox hb; have a6 := aM (ay z11 hb); have ba := aM (hbox); have bb := aM ((by rw [hg]; exact (az z11) : w.heap.size ≤ ca)); have bf := aM ((by rw [hg]; exact (az z11) : w.heap.size ≤ ca)); clear HB; have HB := a6; have b4 := ba; have jx := bb; have gI := bf; clear a6 ba bb bf; clear hb hbox hg; have ks : w28.cell? ⟨ca, 0, none⟩ = some (.int .i64 0) := (bC b4.out 0).trans rfl; have kr : w28.cell? ⟨ca, 1, none⟩ = some (.string (⟨#[]⟩ : ByteArray)) := (bC b4.out 1).trans rfl; have kp : w28.cell? ⟨ca, 2, none⟩ = some (.string (⟨#[]⟩ : ByteArray)) := (bC b4.out 2).trans rfl; have j3 := bF b4.out 0; have jZ := bF b4.out 1; have jY := bF b4.out 2))
             all_goals (try (exfalso; rename_i h_; rw [c18b0] at h_; cases h_; done))
             repeat (go_quiet (first | ((with_reducible refine aJ (N := 10) rfl ?_); refine aK ?hg (N := 10) ?hd (cs := #[.int .i64 0, .string (⟨#[]⟩ : ByteArray), .string (⟨#[]⟩ : ByteArray)]) (t := 59) ?hr ?_; (case hd => rfl); (case hg => rfl); (case hr => first | (go_simp; done) | (go_simp; rfl)); intro ca hg w28 hbox hb; have a6 := aM (ay z11 hb); have ba := aM (hbox); have bb := aM ((by rw [hg]; exact (az z11) : w.heap.size ≤ ca)); have bf := aM ((by rw [hg]; exact (az z11) : w.heap.size ≤ ca)); clear HB; have HB := a6; have b4 := ba; have jx := bb; have gI := bf; clear a6 ba bb bf; clear hb hbox hg; have ks : w28.cell? ⟨ca, 0, none⟩ = some (.int .i64 0) := (bC b4.out 0).trans rfl; have kr : w28.cell? ⟨ca, 1, none⟩ = some (.string (⟨#[]⟩ : ByteArray)) := (bC b4.out 1).trans rfl; have kp : w28.cell? ⟨ca, 2, none⟩ = some (.string (⟨#[]⟩ : ByteArray)) := (bC b4.out 2).trans rfl; have j3 := bF b4.out 0; have jZ := bF b4.out 1; have jY := bF b4.out 2)); try go_wp2_with (first | ((with_reducible refine aJ (N := 10) rfl ?_); refine aK ?hg (N := 10) ?hd (cs := #[.int .i64 0, .string (⟨#[]⟩ : ByteArray), .string (⟨#[]⟩ : ByteArray)]) (t := 59) ?hr ?_; (case hd => rfl); (case hg => rfl); (case hr => first | (go_simp; done) | (go_simp; rfl)); intro ca hg w28 hbox hb; have a6 := aM (ay z11 hb); have ba := aM (hbox); have bb := aM ((by rw [hg]; exact (az z11) : w.heap.size ≤ ca)); have bf := aM ((by rw [hg]; exact (az z11) : w.heap.size ≤ ca)); clear HB; have HB := a6; have b4 := ba; have jx := bb; have gI := bf; clear a6 ba bb bf; clear hb hbox hg; have ks : w28.cell? ⟨ca, 0, none⟩ = some (.int .i64 0) := (bC b4.out 0).trans rfl; have kr : w28.cell? ⟨ca, 1, none⟩ = some (.string (⟨#[]⟩ : ByteArray)) := (bC b4.out 1).trans rfl; have kp : w28.cell? ⟨ca, 2, none⟩ = some (.string (⟨#[]⟩ : ByteArray)) := (bC b4.out 2).trans rfl; have j3 := bF b4.out 0; have jZ := bF b4.out 1; have jY := bF b4.out 2)))
             all_goals (try (exfalso; rename_i h_; rw [c18b0] at h_; cases h_; done))
             go_ret2
             exact ⟨y3, by repeat (first | (with_reducible first | exact HB.out | apply bA | apply pD | apply bD | refine ax ?_ gI.out) | exact HB.out)⟩
           ·rw [if_neg ei] at H
            exact absurd H (by simp)
          ·rw [if_neg fL] at H
           exact absurd H (by simp)
         ·rw [if_neg ex] at H
          exact absurd H (by simp)
        ·rw [if_neg fG] at H
         exact absurd H (by simp)
       ·rw [if_neg dM] at H
        have c13b0 : decide (x30_2 < (l0.length : Int)) = false := dF dM
        clear dM
        simp only [Option.some.injEq, Prod.mk.injEq] at H
        obtain ⟨rfl, rfl⟩ := H
        go_wp2
        repeat (go_quiet (fail); try go_wp2)
        go_ret2
        exact ⟨y3, y4⟩
    ·rw [if_neg dH] at H
     have c11b0 : (gv == (a1.size : Int)) = false := qF dH
     have c11b1 : (gv != (a1.size : Int)) = true := nT dH
     simp only [Option.some.injEq, Prod.mk.injEq] at H
     obtain ⟨rfl, rfl⟩ := H
     go_wp2_with (first | (go_at_call 57; (with_reducible refine (impl_sizes.calls kj2 _ _ l0 gv kQ _ ?side1 ?side2 kO.out).mono ?_); (case side1 => repeat (first | exact (aD bY.out HB.out) | (with_reducible refine aE ?_ _) | (with_reducible refine aG ?_ _) | (with_reducible refine aH ?_))); (case side2 => exact cQ.out); rintro e w30 ⟨rfl, hb⟩; have a6 := aM (ay z11 hb); clear HB; have HB := a6; clear a6; (try clear hb); (try clear hb2); (try clear hk); (try clear hi)))
     repeat (go_quiet (first | (go_at_call 57; (with_reducible refine (impl_sizes.calls kj2 _ _ l0 gv kQ _ ?side1 ?side2 kO.out).mono ?_); (case side1 => repeat (first | exact (aD bY.out HB.out) | (with_reducible refine aE ?_ _) | (with_reducible refine aG ?_ _) | (with_reducible refine aH ?_))); (case side2 => exact cQ.out); rintro e w30 ⟨rfl, hb⟩; have a6 := aM (ay z11 hb); clear HB; have HB := a6; clear a6; (try clear hb); (try clear hb2); (try clear hk); (try clear hi))); try go_wp2_with (first | (go_at_call 57; (with_reducible refine (impl_sizes.calls kj2 _ _ l0 gv kQ _ ?side1 ?side2 kO.out).mono ?_); (case side1 => repeat (first | exact (aD bY.out HB.out) | (with_reducible refine aE ?_ _) | (with_reducible refine aG ?_ _) | (with_reducible refine aH ?_))); (case side2 => exact cQ.out); rintro e w30 ⟨rfl, hb⟩; have a6 := aM (ay z11 hb); clear HB; have HB := a6; clear a6; (try clear hb); (try clear hb2); (try clear hk); (try clear hi))))
     go_ret2
     exact ⟨y3, y4⟩

/-! ### rope_Limb.txt, by hand -/
/-- A rope as a tree. -/
inductive Limb where
 | nil : Limb
 | node (l r : Limb) (s : ByteArray) (n d : Int) : Limb
def Limb.size : Limb → Int
 | .nil => 0
 | .node _ _ _ n _ => n
def Limb.deep : Limb → Int
 | .nil => 0
 | .node _ _ _ _ d => d
/-- The tree lies in w at A; every block of it is ok. -/
def LmAt (w : World) (ok : Nat → Prop) : Limb → Option Addr → Prop
 | .nil, A => A = none
 | .node l r s n d, A => ∃ b L R, A = some ⟨b, 0, none⟩ ∧ ok b ∧ w.heap[b]? = some (.cells #[.pointer L, .pointer R, .string s, .int .i64 n, .int .i64 d] 84 (0, 0)) ∧ LmAt w ok l L ∧ LmAt w ok r R
theorem LmAt.mono {w : World} {ok ok' : Nat → Prop} (hok : ∀ k, ok k → ok' k) : ∀ {t : Limb} {A : Option Addr}, LmAt w ok t A → LmAt w ok' t A
 | .nil, _, h => h
 | .node _ _ _ _ _, _, ⟨b, L, R, e, ho, hb, hl, hr⟩ => ⟨b, L, R, e, hok b ho, hb, hl.mono hok, hr.mono hok⟩
theorem LmAt.move {w w1 : World} {ok : Nat → Prop} (hm : ∀ k, ok k → w1.heap[k]? = w.heap[k]?) : ∀ {t : Limb} {A : Option Addr}, LmAt w ok t A → LmAt w1 ok t A
 | .nil, _, h => h
 | .node _ _ _ _ _, _, ⟨b, L, R, e, ho, hb, hl, hr⟩ => ⟨b, L, R, e, ho, (hm b ho).trans hb, hl.move hm, hr.move hm⟩
theorem LmAt.bound {w : World} {ok : Nat → Prop} : ∀ {t : Limb} {A : Option Addr}, LmAt w ok t A → LmAt w (fun k => ok k ∧ k < w.heap.size ∧ ∃ cells, w.heap[k]? = some (.cells cells 84 (0, 0))) t A
 | .nil, _, h => h
 | .node _ _ _ _ _, _, ⟨b, L, R, e, ho, hb, hl, hr⟩ => ⟨b, L, R, e, ⟨ho, aw hb, _, hb⟩, hb, hl.bound, hr.bound⟩
theorem LmAt.below {w w1 : World} {ok : Nat → Prop} {t : Limb} {A : Option Addr} (h : LmAt w ok t A) (hb : Below w.heap.size w w1) : LmAt w1 ok t A :=
 (h.bound.move (fun k hk => hb.block k hk.2.1)).mono (fun _ hk => hk.1)
theorem LmAt.kept {w w1 : World} {ok S : Nat → Prop} {t : Limb} {A : Option Addr} (h : LmAt w ok t A) (hk : Kept w w1 S) (hS : ∀ k, S k → ∀ cells, w.heap[k]? ≠ some (.cells cells 84 (0, 0))) : LmAt w1 ok t A :=
 (h.bound.move (fun k hk' => hk.2 k hk'.2.1 (fun hs => by obtain ⟨_, _, c, hc⟩ := hk'; exact hS k hs c hc))).mono (fun _ hk => hk.1)
theorem LmAt.alloc {w : World} {ok : Nat → Prop} {t : Limb} {A : Option Addr} (h : LmAt w ok t A) (o : Obj) : LmAt (w.alloc o) ok t A := h.below (bA (Below.refl _ _) o)
theorem LmAt.drew {w : World} {ok : Nat → Prop} {t : Limb} {A : Option Addr} (h : LmAt w ok t A) : LmAt w.drew ok t A := h.below (below_drew (Below.refl _ _))
theorem LmAt.drewN {w : World} {ok : Nat → Prop} {t : Limb} {A : Option Addr} (h : LmAt w ok t A) (n : Nat) : LmAt (w.drewN n) ok t A := h.below (pD (Below.refl _ _) n)
/-- A store into a block of another type. -/
theorem LmAt.set {w : World} {ok : Nat → Prop} {t : Limb} {A : Option Addr} (h : LmAt w ok t A) {g e : Nat} {cells : Array Value} (hb : w.heap[g]? = some (.cells cells e (0, 0))) (he : 84 ≠ e) (j : Nat) (u : Value) : LmAt (w.setCell ⟨g, j, none⟩ u) ok t A :=
 (h.bound.move (w1 := w.setCell ⟨g, j, none⟩ u) (fun k hk => Below.heap_setCell w ⟨g, j, none⟩ u k (fun e1 => by
  obtain ⟨_, _, c, hc⟩ := hk
  subst e1
  rw [hc] at hb
  injection hb with hb
  injection hb with _ hb
  exact he hb))).mono (fun _ hk => hk.1)
/-- A row of another type has been written. -/
theorem LmAt.grown {w w1 : World} {ok : Nat → Prop} {t : Limb} {A : Option Addr} (h : LmAt w ok t A) {v : Value} (hg : w.grownBy w1 v.ownBlock) {e : Nat} (hty : ∀ k, v.ownBlock = some k → ∃ cells, w.heap[k]? = some (.cells cells e (0, 0))) (he : 84 ≠ e) : LmAt w1 ok t A :=
 (h.bound.move (fun k hk => hg.block k hk.2.1 (fun e1 => by
  obtain ⟨_, _, c, hc⟩ := hk
  obtain ⟨c', hc'⟩ := hty k e1.symm
  rw [hc] at hc'
  injection hc' with hc'
  injection hc' with _ hc'
  exact he hc'))).mono (fun _ hk => hk.1)
theorem LmAt.nil_iff {w : World} {ok : Nat → Prop} {t : Limb} (h : LmAt w ok t none) : t = .nil := by
 cases t with
 | nil => rfl
 | node l r s n d => obtain ⟨b, L, R, e, _⟩ := h; cases e
/-- Pointers to trees, as elements of a row. -/
def kLm : Kd Limb where
 sz := 1
 E := [84]
 K := fun w x cs => ∃ A, cs = [.pointer A] ∧ LmAt w (fun _ => True) x A
 M := fun w base ok x cs => ∃ A, cs = [.pointer A] ∧ LmAt w (fun k => ok k ∧ base ≤ k) x A
 K_len := by rintro w x cs ⟨A, rfl, _⟩; rfl
 K_one := by rintro w x cs ⟨A, rfl, _⟩ u hu; rw [List.mem_singleton.1 hu]; rfl
 K_below := by rintro w w1 x cs hb ⟨A, rfl, h⟩; exact ⟨A, rfl, h.below hb⟩
 K_of_M := by rintro w base ok x cs ⟨A, rfl, h⟩; exact ⟨A, rfl, h.mono (fun _ _ => trivial)⟩
 M_mono := by rintro w base ok ok' x cs hok ⟨A, rfl, h⟩; exact ⟨A, rfl, h.mono (fun k hk => ⟨hok k hk.1, hk.2⟩)⟩
 M_bound := by rintro w base ok x cs ⟨A, rfl, h⟩; exact ⟨A, rfl, h.bound.mono (fun k hk => ⟨⟨hk.1.1, hk.1.2, hk.2.1, _, List.mem_singleton.2 rfl, hk.2.2⟩, hk.1.2⟩)⟩
 M_move := by rintro w w1 base ok x cs hm ⟨A, rfl, h⟩; exact ⟨A, rfl, h.move (fun k hk => hm k hk.1)⟩
 M_lower := by rintro w base base' ok x cs hb ⟨A, rfl, h⟩; exact ⟨A, rfl, h.mono (fun k hk => ⟨hk.1, Nat.le_trans hb hk.2⟩)⟩
def Limb.isNil : Limb → Bool
 | .nil => true
 | .node _ _ _ _ _ => false
def cnt : Limb → Nat
 | .nil => 0
 | .node l r _ _ _ => if l.isNil = true then 1 else cnt l + cnt r + 1
/-- How a row that is appended to goes on. -/
def RowTo (w w' : World) (v v' : Value) : Prop := Kept w w' (fun k => some k = v.ownBlock) ∧ (v'.ownBlock = v.ownBlock ∨ ∃ b, v'.ownBlock = some b ∧ w.heap.size ≤ b)
theorem RowTo.refl (w : World) (v : Value) : RowTo w w v v := ⟨Kept.refl _ _, .inl rfl⟩
theorem RowTo.trans {w w1 w2 : World} {v v1 v2 : Value} (h : RowTo w w1 v v1) (k : RowTo w1 w2 v1 v2) : RowTo w w2 v v2 := by
 obtain ⟨h1, h2⟩ := h
 obtain ⟨k1, k2⟩ := k
 refine ⟨h1.then_ k1 (fun b hb => ?_), ?_⟩
 ·rcases h2 with h2 | ⟨b', h2, hle⟩
  ·exact .inl (hb.trans h2)
  ·rw [h2] at hb; injection hb with hb; exact .inr (by omega)
 ·rcases k2 with k2 | ⟨b', k2, hle⟩
  ·rw [k2]; exact h2
  ·exact .inr ⟨b', k2, Nat.le_trans h1.1 hle⟩
theorem RowTo.drewN {w w' : World} {v v' : Value} (h : RowTo w w' v v') (n : Nat) : RowTo w (w'.drewN n) v v' := ⟨h.1.drewN n, h.2⟩
theorem RowTo.drew {w w' : World} {v v' : Value} (h : RowTo w w' v v') : RowTo w w'.drew v v' := ⟨h.1.drew, h.2⟩
theorem LmAt.rowTo {α : Type} {d : Kd α} {e base : Nat} {ok ok' : Nat → Prop} {w w' : World} {v v' : Value} {xs : List α} {t : Limb} {A : Option Addr} (h : LmAt w ok t A) (hr : d.R e w base ok' v xs) (he : 84 ≠ e) (hk : RowTo w w' v v') : LmAt w' ok t A :=
 h.kept hk.1 (fun k hs cells hc => by
  obtain ⟨inner, ho⟩ := Kd.R_own hr
  obtain ⟨c', hc'⟩ := own_typed ho k hs.symm
  rw [hc] at hc'
  injection hc' with hc'
  injection hc' with _ hc'
  exact he hc')
theorem RowTo.below {w0 w w' : World} {α : Type} {d : Kd α} {e : Nat} {ok : Nat → Prop} {v v' : Value} {xs : List α} (hb : Below w0.heap.size w0 w) (hr : d.R e w w0.heap.size ok v xs) (hw' : Below w0.heap.size w0 w') : Below w0.heap.size w0 w' := hw'

/-! ### impl_fork: function 40, by hand -/
def fk : Limb → Limb → Limb
 | .nil, b => b
 | .node l r s n d, .nil => .node l r s n d
 | .node l r s n d, .node l' r' s' n' d' => .node (.node l r s n d) (.node l' r' s' n' d') ⟨#[]⟩ (wrap64 (n + n')) (wrap64 (1 + max d d'))
theorem lm_cells {w : World} {ok : Nat → Prop} {l r : Limb} {s : ByteArray} {n d : Int} {A : Option Addr} (h : LmAt w ok (.node l r s n d) A) : ∃ b L R, A = some ⟨b, 0, none⟩ ∧ ok b ∧ w.heap[b]? = some (.cells #[.pointer L, .pointer R, .string s, .int .i64 n, .int .i64 d] 84 (0, 0)) ∧ LmAt w ok l L ∧ LmAt w ok r R := h
set_option maxHeartbeats 2000000 in
theorem fork_any (a b : Limb) (A B : Option Addr) (ok : Nat → Prop) (w : World) (ha : LmAt w ok a A) (hb : LmAt w ok b B) (hok : ∀ k, w.heap.size ≤ k → ok k) :
  Calls Try.prog 40 #[.pointer A, .pointer B] w fun e w' => ∃ C, e = .returned (.pointer C) ∧ LmAt w' ok (fk a b) C ∧ Below w.heap.size w w' := by
 cases a with
 | nil =>
  obtain rfl : A = none := ha
  have HB := aM hb
  clear hb
  go_enter Try.func40, Try.ntmps40
  go_wp2
  go_ret
  exact ⟨B, rfl, by show LmAt _ ok b B; exact HB.out, Below.refl _ _⟩
 | node l r s n d =>
  have HA := aM ha
  obtain ⟨p, L, R, rfl, hp, hc, hl, hr⟩ := ha
  cases b with
  | nil =>
   obtain rfl : B = none := hb
   clear hl hr hp hc
   go_enter Try.func40, Try.ntmps40
   go_wp2
   go_ret
   exact ⟨_, rfl, HA.out, Below.refl _ _⟩
  | node l' r' s' n' d' =>
   have HB := aM hb
   obtain ⟨p', L', R', rfl, hp', hc', hl', hr'⟩ := hb
   have c3 : w.cell? ⟨p, 3, none⟩ = some (.int .i64 n) := (bC hc 3).trans rfl
   have c4 : w.cell? ⟨p, 4, none⟩ = some (.int .i64 d) := (bC hc 4).trans rfl
   have c3' : w.cell? ⟨p', 3, none⟩ = some (.int .i64 n') := (bC hc' 3).trans rfl
   have c4' : w.cell? ⟨p', 4, none⟩ = some (.int .i64 d') := (bC hc' 4).trans rfl
   clear hl hr hp hc hl' hr' hp' hc'
   go_enter Try.func40, Try.ntmps40
   go_wp2
   go_region
   go_wp2
   all_goals
    go_ret
    refine ⟨_, rfl, ⟨w.heap.size, some ⟨p, 0, none⟩, some ⟨p', 0, none⟩, rfl, hok _ (Nat.le_refl _), ?_, ?_, ?_⟩, ?_⟩
    rotate_left
    ·exact (HA.out.alloc _).drew
    ·exact (HB.out.alloc _).drew
    ·exact below_drew (bA (Below.refl _ _) _)
    first | rw [Int.max_eq_left (by omega)] | rw [Int.max_eq_right (by omega)]
    exact blk_new _ _

/-! ### impl_leaf: function 41, by hand -/
def lf (s : ByteArray) : Limb := if s.toList = [] then .nil else .node .nil .nil s (s.size : Int) 0
set_option maxHeartbeats 1000000 in
theorem leaf_any (s : ByteArray) (w : World) :
  Calls Try.prog 41 #[.string s] w fun e w' => ∃ A, e = .returned (.pointer A) ∧ LmAt w' (fun k => w.heap.size ≤ k) (lf s) A ∧ Below w.heap.size w w' := by
 by_cases h : s.toList = []
 ·have e1 : s.toList.isEmpty = true := by simp [h]
  have e2 : (!s.toList.isEmpty) = false := by simp [h]
  have HL : Aside0 (lf s = .nil) := ⟨if_pos h⟩
  clear h
  go_enter Try.func41, Try.ntmps41
  go_wp2
  go_ret
  exact ⟨none, rfl, by rw [HL.out]; rfl, Below.refl _ _⟩
 ·have e1 : s.toList.isEmpty = false := by simp [h]
  have e2 : (!s.toList.isEmpty) = true := by simp [h]
  have HL : Aside0 (lf s = .node .nil .nil s (s.size : Int) 0) := ⟨if_neg h⟩
  clear h
  go_enter Try.func41, Try.ntmps41
  go_wp2
  go_ret
  exact ⟨_, rfl, by rw [HL.out]; exact ⟨_, none, none, rfl, Nat.le_refl _, blk_new _ _, rfl, rfl⟩, (Below.refl _ _).alloc (Nat.le_refl _) _⟩

end Go.Proofs.Ytblnnbaeiggmoaa.AFnExactEditRope
