-- this session's own text: written by wip/tools/ownprint.py over the kit's print
import Derived.Test.YtmigfgcpdelnfaaAFnCommandsx0
import Derived.Test.YtmigfgcpdelnfaaAFnCommandsx8
import Derived.Test.YtmigfgcpdelnfaaAFnCommandsx11
namespace Go.Proofs.Ytmigfgcpdelnfaa.AFnCommands
open Go.RowKit Go.Proofs.YtmigfgcpdelnfaaW.PrintWords Go.Proofs.YtmigfgcpdelnfaaW.PrintLast Go.Proofs.YtmigfgcpdelnfaaW.PrintMore
attribute [local go_sem] max2_int min2_int max_two min_two max_three min_three max_four min_four   -- for this text's walks alone
set_option linter.unusedVariables false
set_option linter.unusedSimpArgs false

/-! ### impl_Command_do: function 35 -/
mutual
def impl_Command_do.j0 : Nat → ByteArray → Bool → Int → Int → Int → ByteArray → Option (ByteArray × (List (S61)) × Bool)
 | 0, _, _, _, _, _, _ => none
 | k + 1, x1, x7, x360000, x360001, x360002, x360003 => (impl_GoodDoc.f k x1).bind fun sX => (if sX = true then ((impl_hasPlace.f x1 x360001).bind fun sW => (if sW = true then (if x7 = true then ((impl_hasPlace.f x1 x360002).bind fun o5 => (impl_Command_do.j1 k x1 (!o5) x360000 x360001 x360002 x360003)) else (impl_Command_do.j1 k x1 false x360000 x360001 x360002 x360003)) else (impl_Command_do.j1 k x1 true x360000 x360001 x360002 x360003))) else (impl_Command_do.j1 k x1 true x360000 x360001 x360002 x360003))
def impl_Command_do.j1 : Nat → ByteArray → Bool → Int → Int → Int → ByteArray → Option (ByteArray × (List (S61)) × Bool)
 | 0, _, _, _, _, _, _ => none
 | k + 1, x1, x46, x360000, x360001, x360002, x360003 => if x46 = true then (some ((⟨#[]⟩ : ByteArray), ([] : List (S61)), false)) else ((impl_Command_parts.f k x360000 x360001 x360002 x360003 x1).bind fun oW => (if oW.2 = true then (impl_Command_do.l0 k oW.1 (⟨#[]⟩ : ByteArray) x1 oW.1 (oW.1.length : Int) 0) else (some ((⟨#[]⟩ : ByteArray), ([] : List (S61)), false))))
def impl_Command_do.l0 : Nat → List (S61) → ByteArray → ByteArray → List (S61) → Int → Int → Option (ByteArray × (List (S61)) × Bool)
 | 0, _, _, _, _, _, _ => none
 | k + 1, x8, x10, x11, x56, x57, x58 => if x58 < x57 then (if 0 ≤ x58 then (if x58 < (x56.length : Int) then (if 0 ≤ ((rd_T61 x56 x58).f0) then (if ((rd_T61 x56 x58).f0) ≤ (x11.size : Int) then (if (x11.extract 0 (((rd_T61 x56 x58).f0) : Int).toNat).size + ((rd_T61 x56 x58).f1).size ≤ 9223372036854775807 then (if x10.size + ((x11.extract 0 (((rd_T61 x56 x58).f0) : Int).toNat) ++ ((rd_T61 x56 x58).f1)).size ≤ 9223372036854775807 then (if 0 ≤ (wrap64 (((rd_T61 x56 x58).f0) + (((rd_T61 x56 x58).f2).size : Int))) then (if (wrap64 (((rd_T61 x56 x58).f0) + (((rd_T61 x56 x58).f2).size : Int))) ≤ (x11.size : Int) then (impl_Command_do.l0 k x8 (x10 ++ ((x11.extract 0 (((rd_T61 x56 x58).f0) : Int).toNat) ++ ((rd_T61 x56 x58).f1))) (x11.extract ((wrap64 (((rd_T61 x56 x58).f0) + (((rd_T61 x56 x58).f2).size : Int))) : Int).toNat x11.size) x56 x57 (wrap64 (x58 + 1))) else (none)) else (none)) else (none)) else (none)) else (none)) else (none)) else (none)) else (none)) else ((impl_GoodDoc.f k x10).bind fun sV => (if sV = true then ((impl_normal.f x8).bind fun pO => (some (x10, pO, true))) else (some ((⟨#[]⟩ : ByteArray), ([] : List (S61)), false))))
end
def impl_Command_do.f (k : Nat) (a0_0 : Int) (a0_1 : Int) (a0_2 : Int) (a0_3 : ByteArray) (a1 : ByteArray) : Option (ByteArray × (List (S61)) × Bool) := if a0_0 = 2 then (impl_Command_do.j0 k a1 true a0_0 a0_1 a0_2 a0_3) else (if a0_0 = 3 then (impl_Command_do.j0 k a1 true a0_0 a0_1 a0_2 a0_3) else (impl_Command_do.j0 k a1 (a0_0 == 7) a0_0 a0_1 a0_2 a0_3))
theorem impl_Command_do.mono_l : ∀ k, (∀ y0 y1 y2 y3 y4 y5, LeO (impl_Command_do.j0 k y0 y1 y2 y3 y4 y5) (impl_Command_do.j0 (k + 1) y0 y1 y2 y3 y4 y5)) ∧ (∀ y0 y1 y2 y3 y4 y5, LeO (impl_Command_do.j1 k y0 y1 y2 y3 y4 y5) (impl_Command_do.j1 (k + 1) y0 y1 y2 y3 y4 y5)) ∧ (∀ y0 y1 y2 y3 y4 y5, LeO (impl_Command_do.l0 k y0 y1 y2 y3 y4 y5) (impl_Command_do.l0 (k + 1) y0 y1 y2 y3 y4 y5))
 | 0 => ⟨fun _ _ _ _ _ _ r h => by simp [impl_Command_do.j0] at h, fun _ _ _ _ _ _ r h => by simp [impl_Command_do.j1] at h, fun _ _ _ _ _ _ r h => by simp [impl_Command_do.l0] at h⟩
 | k + 1 => by
  obtain ⟨ih0, ih1, ih2⟩ := impl_Command_do.mono_l k
  refine ⟨?_, ?_, ?_⟩
  ·intro y0 y1 y2 y3 y4 y5
   unfold impl_Command_do.j0
   repeat' first
   | (with_reducible exact ih0 _ _ _ _ _ _)
   | (with_reducible exact ih1 _ _ _ _ _ _)
   | (with_reducible exact ih2 _ _ _ _ _ _)
   | (with_reducible exact impl_Command_parts.mono _ _ _ _ _ _)
   | (with_reducible exact impl_GoodDoc.mono _ _)
   | (with_reducible exact LeO.refl _)
   | (with_reducible exact LeO.none _)
   | (with_reducible refine LeO.ite ?_ ?_)
   | (with_reducible refine LeO.bind ?_ (fun _ => ?_))
  ·intro y0 y1 y2 y3 y4 y5
   unfold impl_Command_do.j1
   repeat' first
   | (with_reducible exact ih0 _ _ _ _ _ _)
   | (with_reducible exact ih1 _ _ _ _ _ _)
   | (with_reducible exact ih2 _ _ _ _ _ _)
   | (with_reducible exact impl_Command_parts.mono _ _ _ _ _ _)
   | (with_reducible exact impl_GoodDoc.mono _ _)
   | (with_reducible exact LeO.refl _)
   | (with_reducible exact LeO.none _)
   | (with_reducible refine LeO.ite ?_ ?_)
   | (with_reducible refine LeO.bind ?_ (fun _ => ?_))
  ·intro y0 y1 y2 y3 y4 y5
   unfold impl_Command_do.l0
   repeat' first
   | (with_reducible exact ih0 _ _ _ _ _ _)
   | (with_reducible exact ih1 _ _ _ _ _ _)
   | (with_reducible exact ih2 _ _ _ _ _ _)
   | (with_reducible exact impl_Command_parts.mono _ _ _ _ _ _)
   | (with_reducible exact impl_GoodDoc.mono _ _)
   | (with_reducible exact LeO.refl _)
   | (with_reducible exact LeO.none _)
   | (with_reducible refine LeO.ite ?_ ?_)
   | (with_reducible refine LeO.bind ?_ (fun _ => ?_))
theorem impl_Command_do.mono : ∀ a0 a1 a2 a3 a4 k, LeO (impl_Command_do.f k a0 a1 a2 a3 a4) (impl_Command_do.f (k + 1) a0 a1 a2 a3 a4) := by
 intro a0 a1 a2 a3 a4 k
 obtain ⟨ih0, ih1, ih2⟩ := impl_Command_do.mono_l k
 unfold impl_Command_do.f
 repeat' first
   | (with_reducible exact ih0 _ _ _ _ _ _)
   | (with_reducible exact ih1 _ _ _ _ _ _)
   | (with_reducible exact ih2 _ _ _ _ _ _)
   | (with_reducible exact impl_Command_parts.mono _ _ _ _ _ _)
   | (with_reducible exact impl_GoodDoc.mono _ _)
   | (with_reducible exact LeO.refl _)
   | (with_reducible exact LeO.none _)
   | (with_reducible refine LeO.ite ?_ ?_)
   | (with_reducible refine LeO.bind ?_ (fun _ => ?_))
set_option maxHeartbeats 8000000 in
set_option maxRecDepth 100000 in
theorem impl_Command_do.calls (k : Nat) (a0_0 : Int) (a0_1 : Int) (a0_2 : Int) (a0_3 : ByteArray) (a1 : ByteArray) (r1 : ByteArray) (r2 : List (S61)) (r3 : Bool) (w : World) (h : impl_Command_do.f k a0_0 a0_1 a0_2 a0_3 a1 = some (r1, r2, r3)) :
  Calls Try.prog 35 #[.agg #[.int .i64 a0_0, .int .i64 a0_1, .int .i64 a0_2, .string a0_3], .string a1] w fun e w' => ∃ v1_ : Value, e = .returned (.tuple #[.string r1, v1_, .bool r3]) ∧ Kd.R k61 61 w' w.heap.size (fun _ => True) v1_ r2 ∧ Below w.heap.size w w' := by
 have hu29 := Try.underlying29
 have hu61 := Try.underlying61
 have HB := aM (Below.refl w.heap.size w)
 have H : (if a0_0 = 2 then (impl_Command_do.j0 k a1 true a0_0 a0_1 a0_2 a0_3) else (if a0_0 = 3 then (impl_Command_do.j0 k a1 true a0_0 a0_1 a0_2 a0_3) else (impl_Command_do.j0 k a1 (a0_0 == 7) a0_0 a0_1 a0_2 a0_3))) = some (r1, r2, r3) := h
 clear h
 have qO := aM H
 clear H
 go_enter Try.func35, Try.ntmps35
 go_upto_region 1 with (first | ((with_reducible refine aw (N := 2) rfl ?_); refine ax ?hg (N := 2) ?hd (cs := #[.int .i64 a0_0, .int .i64 a0_1, .int .i64 a0_2, .string a0_3]) (t := 29) ?hr ?_; (case hd => rfl); (case hg => rfl); (case hr => first | (go_simp; done) | (go_simp; rfl)); intro aX hg w4 hbox hb; have aQ := aM (hbox); have sc := aM ((by rw [hg]; exact (ap z14) : w.heap.size ≤ aX)); have qU := aM ((by rw [hg]; exact (ap z14) : w.heap.size ≤ aX)); replace HB := aM (ao z14 hb); clear hb hbox hg))
 repeat (go_quiet (fail); go_upto_region 1 with (first | ((with_reducible refine aw (N := 2) rfl ?_); refine ax ?hg (N := 2) ?hd (cs := #[.int .i64 a0_0, .int .i64 a0_1, .int .i64 a0_2, .string a0_3]) (t := 29) ?hr ?_; (case hd => rfl); (case hg => rfl); (case hr => first | (go_simp; done) | (go_simp; rfl)); intro aX hg w4 hbox hb; have aQ := aM (hbox); have sc := aM ((by rw [hg]; exact (ap z14) : w.heap.size ≤ aX)); have qU := aM ((by rw [hg]; exact (ap z14) : w.heap.size ≤ aX)); replace HB := aM (ao z14 hb); clear hb hbox hg)))
 (try simp only [Act.put, sA, sB, sC])
 go_cut [7] (fun v7 wc => ∃ (kq : Nat) (x7_2 : Bool), v7 = .bool x7_2 ∧ Aside0 (impl_Command_do.j0 kq a1 x7_2 a0_0 a0_1 a0_2 a0_3 = some (r1, r2, r3)) ∧ Aside0 (kq ≤ k) ∧ Aside0 (wc.heap[aX]? = some (.cells #[.int .i64 a0_0, .int .i64 a0_1, .int .i64 a0_2, .string a0_3] 29 (0, 0))) ∧ Aside0 (Below w.heap.size w wc))
 case first =>
  have H := qO.out
  clear qO
  by_cases c5 : a0_0 = 2
  ·rw [if_pos c5] at H
   have c5b0 : (a0_0 == 2) = true := qT c5
   have c5b1 : (a0_0 != 2) = false := nF c5
   clear c5
   (first | rw [c5b0] | (simp only [i64_w, i32_w]; rw [c5b0]) | skip)
   have H' := aM H
   clear H
   obtain ⟨fz, fy, fx, m9, gi, fw, fv, m8⟩ := cc4 aQ.out
   go_wp2
   repeat (go_quiet (fail); try go_wp2)
   go_meet
   case rel => exact ⟨_, (true), z1, H', ⟨y0⟩, ⟨y9⟩, ⟨y19⟩⟩
  ·rw [if_neg c5] at H
   have c5b0 : (a0_0 == 2) = false := qF c5
   have c5b1 : (a0_0 != 2) = true := nT c5
   (first | rw [c5b0] | (simp only [i64_w, i32_w]; rw [c5b0]) | skip)
   by_cases c7 : a0_0 = 3
   ·rw [if_pos c7] at H
    have c7b0 : (a0_0 == 3) = true := qT c7
    have c7b1 : (a0_0 != 3) = false := nF c7
    clear c7
    have H' := aM H
    clear H
    obtain ⟨ce, cd, cb, en, cj, b7, b6, el⟩ := cc4 aQ.out
    go_wp2
    repeat (go_quiet (fail); try go_wp2)
    go_meet
    case rel => exact ⟨_, (true), z1, H', ⟨y0⟩, ⟨y9⟩, ⟨y19⟩⟩
   ·rw [if_neg c7] at H
    have c7b0 : (a0_0 == 3) = false := qF c7
    have c7b1 : (a0_0 != 3) = true := nT c7
    have H' := aM H
    clear H
    obtain ⟨ca, b9, b8, em, ci, b5, b4, ek⟩ := cc4 aQ.out
    go_wp2
    repeat (go_quiet (fail); try go_wp2)
    go_meet
    case rel => exact ⟨_, ((a0_0 == 7)), z1, H', ⟨y0⟩, ⟨y9⟩, ⟨y19⟩⟩
 case rest =>
  clear qO
  obtain ⟨kq, x7_2, rfl, HA, k6, aQ, HB⟩ := hcut
  cases kq with
  | zero => exact absurd HA.out (by simp [impl_Command_do.j0])
  | succ kj2 =>
   have H := HA.out
   clear HA
   simp only [impl_Command_do.j0] at H
   have tG := aM H
   clear H
   go_upto_region 2 with (fail)
   repeat (go_quiet (fail); go_upto_region 2 with (fail))
   go_cut [46] (fun v46 wc => ∃ (kq : Nat) (x46_9 : Bool), v46 = .bool x46_9 ∧ Aside0 (impl_Command_do.j1 kq a1 x46_9 a0_0 a0_1 a0_2 a0_3 = some (r1, r2, r3)) ∧ Aside0 (kq ≤ kj2) ∧ Aside0 (wc.heap[aX]? = some (.cells #[.int .i64 a0_0, .int .i64 a0_1, .int .i64 a0_2, .string a0_3] 29 (0, 0))) ∧ Aside0 (Below w.heap.size w wc))
   case first =>
    have H := tG.out
    clear tG
    obtain ⟨sX, iS, H⟩ := oA_ H
    try dsimp only at H
    by_cases b3 : sX = true
    ·subst b3
     rw [if_pos rfl] at H
     obtain ⟨sW, rl, H⟩ := oA_ H
     try dsimp only at H
     by_cases cB : sW = true
     ·subst cB
      rw [if_pos rfl] at H
      by_cases cF : x7_2 = true
      ·subst cF
       rw [if_pos rfl] at H
       obtain ⟨o5, rX, H⟩ := oA_ H
       try dsimp only at H
       have H' := aM H
       clear H
       go_wp2_with (first | (go_at_call 18; (with_reducible refine (impl_GoodDoc.calls kj2 a1 true _ iS.out).mono ?_); rintro e w17 ⟨rfl, hb⟩; replace aQ := aM (bK_ aQ.out hb); replace HB := aM (ao z20 hb); (try clear hb); obtain ⟨d6, d5, d4, d3, dV, dU, dS, dR⟩ := cc4 aQ.out) | (go_at_call 55; (with_reducible refine (impl_hasPlace.calls a1 a0_1 true _ rl.out).mono ?_); rintro e w' ⟨rfl, ⟨nd, rfl⟩⟩; (try exact dD_)) | (go_at_call 55; (with_reducible refine (impl_hasPlace.calls a1 a0_2 o5 _ rX.out).mono ?_); rintro e w' ⟨rfl, ⟨nd, rfl⟩⟩; (try exact dD_)))
       repeat (go_quiet (first | (go_at_call 55; (with_reducible refine (impl_hasPlace.calls a1 a0_1 true _ rl.out).mono ?_); rintro e w' ⟨rfl, ⟨nd, rfl⟩⟩; (try exact dD_)) | (go_at_call 55; (with_reducible refine (impl_hasPlace.calls a1 a0_2 o5 _ rX.out).mono ?_); rintro e w' ⟨rfl, ⟨nd, rfl⟩⟩; (try exact dD_))); try go_wp2)
       go_meet
       case rel => exact ⟨_, (!o5), z1, H', ⟨by have := k6.out; first | omega | exact Nat.le_refl _⟩, ⟨y9⟩, ⟨y19⟩⟩
      ·replace cF := Bool.eq_false_iff.mpr cF
       subst cF
       rw [if_neg nF_] at H
       have H' := aM H
       clear H
       go_wp2_with (first | (go_at_call 18; (with_reducible refine (impl_GoodDoc.calls kj2 a1 true _ iS.out).mono ?_); rintro e w19 ⟨rfl, hb⟩; replace aQ := aM (bK_ aQ.out hb); replace HB := aM (ao z20 hb); (try clear hb); obtain ⟨d2, d1, dZ, e8, dQ, dP, dO, eX⟩ := cc4 aQ.out) | (go_at_call 55; (with_reducible refine (impl_hasPlace.calls a1 a0_1 true _ rl.out).mono ?_); rintro e w' ⟨rfl, ⟨nd, rfl⟩⟩; (try exact dD_)))
       repeat (go_quiet (first | (go_at_call 55; (with_reducible refine (impl_hasPlace.calls a1 a0_1 true _ rl.out).mono ?_); rintro e w' ⟨rfl, ⟨nd, rfl⟩⟩; (try exact dD_))); try go_wp2)
       go_meet
       case rel => exact ⟨_, (false), z1, H', ⟨by have := k6.out; first | omega | exact Nat.le_refl _⟩, ⟨y9⟩, ⟨y19⟩⟩
     ·replace cB := Bool.eq_false_iff.mpr cB
      subst cB
      rw [if_neg nF_] at H
      have H' := aM H
      clear H
      go_wp2_with (first | (go_at_call 18; (with_reducible refine (impl_GoodDoc.calls kj2 a1 true _ iS.out).mono ?_); rintro e w21 ⟨rfl, hb⟩; replace aQ := aM (bK_ aQ.out hb); replace HB := aM (ao z20 hb); (try clear hb); obtain ⟨dm, dl, dk, iM, dj, di, dh, ix⟩ := cc4 aQ.out) | (go_at_call 55; (with_reducible refine (impl_hasPlace.calls a1 a0_1 false _ rl.out).mono ?_); rintro e w' ⟨rfl, ⟨nd, rfl⟩⟩; (try exact dD_)))
      repeat (go_quiet (first | (go_at_call 55; (with_reducible refine (impl_hasPlace.calls a1 a0_1 false _ rl.out).mono ?_); rintro e w' ⟨rfl, ⟨nd, rfl⟩⟩; (try exact dD_))); try go_wp2)
      go_meet
      case rel => exact ⟨_, (true), z1, H', ⟨by have := k6.out; first | omega | exact Nat.le_refl _⟩, ⟨y9⟩, ⟨y19⟩⟩
    ·replace b3 := Bool.eq_false_iff.mpr b3
     subst b3
     rw [if_neg nF_] at H
     have H' := aM H
     clear H
     go_wp2_with (first | (go_at_call 18; (with_reducible refine (impl_GoodDoc.calls kj2 a1 false _ iS.out).mono ?_); rintro e w23 ⟨rfl, hb⟩; replace aQ := aM (bK_ aQ.out hb); replace HB := aM (ao z20 hb); (try clear hb)))
     repeat (go_quiet (fail); try go_wp2)
     go_meet
     case rel => exact ⟨_, (true), z1, H', ⟨by have := k6.out; first | omega | exact Nat.le_refl _⟩, ⟨y9⟩, ⟨y19⟩⟩
   case rest =>
    clear tG
    obtain ⟨kq, x46_9, rfl, HA, wE, aQ, HB⟩ := hcut
    cases kq with
    | zero => exact absurd HA.out (by simp [impl_Command_do.j1])
    | succ kj9 =>
     have H := HA.out
     clear HA
     simp only [impl_Command_do.j1] at H
     by_cases f6 : x46_9 = true
     ·subst f6
      rw [if_pos rfl] at H
      simp only [Option.some.injEq, Prod.mk.injEq] at H
      obtain ⟨rfl, rfl, rfl⟩ := H
      go_wp2
      repeat (go_quiet (fail); try go_wp2)
      go_ret3
      exact ⟨_, y4, y28, y19⟩
     ·replace f6 := Bool.eq_false_iff.mpr f6
      subst f6
      rw [if_neg nF_] at H
      obtain ⟨⟨bJ, t366⟩, pk, H⟩ := oA_ H
      try dsimp only at H
      by_cases eJ : t366 = true
      ·subst eJ
       rw [if_pos rfl] at H
       have H' := aM H
       clear H
       obtain ⟨iL, iK, iJ, hcz27_3, iw, iv, iu, hfz27_3⟩ := cc4 aQ.out
       go_wp2_with (first | (go_at_call 56; (with_reducible refine (impl_Command_parts.calls kj9 a0_0 a0_1 a0_2 a0_3 a1 bJ true _ pk.out).mono ?_); rintro e w28 ⟨v364, rfl, ho0, hb⟩; have f9 := aM (az ho0 (ap z20)); replace aQ := aM (bK_ aQ.out hb); replace HB := aM (ao z20 hb); (try clear hb); (try clear ho0); obtain ⟨qX, qg, eo29⟩ := Kd.R_slice f9.out; subst eo29))
       repeat (go_quiet (fail); try go_wp2)
       go_loopg [10, 11, 58] kj9 (fun kq v10 v11 v58 w' => ∃ (x10_3 : ByteArray) (x11_3 : ByteArray) (x58_3 : Int), v10 = .string x10_3 ∧ v11 = .string x11_3 ∧ v58 = .int .i64 x58_3 ∧ Aside0 (impl_Command_do.l0 kq bJ x10_3 x11_3 bJ (bJ.length : Int) x58_3 = some (r1, r2, r3)) ∧ Aside0 (kq ≤ kj9) ∧ Aside0 (Kd.R k61 61 w' w.heap.size (fun _ => True) (.slice qX bJ.length qg) bJ) ∧ Aside0 (Kd.R k61 61 w' w.heap.size (fun _ => True) (.slice qX bJ.length qg) bJ) ∧ Aside0 (w'.heap[aX]? = some (.cells #[.int .i64 a0_0, .int .i64 a0_1, .int .i64 a0_2, .string a0_3] 29 (0, 0))) ∧ Aside0 (Below w.heap.size w w'))
       case atStart => exact ⟨((⟨#[]⟩ : ByteArray)), (a1), (0), z1, z1, z1, H', ⟨Nat.le_refl _⟩, ⟨kR_ f9.out⟩, ⟨kR_ f9.out⟩, ⟨y9⟩, ⟨y19⟩⟩
       case round =>
        clear H'
        try clear p2
        try clear c3
        try clear c5
        try clear c5b0
        try clear c5b1
        try clear c7
        try clear c7b0
        try clear c7b1
        try clear f6
        try clear eJ
        try clear iL
        try clear iK
        try clear iJ
        try clear hcz27_3
        try clear fz
        try clear fy
        try clear fx
        try clear m9
        try clear ce
        try clear cd
        try clear cb
        try clear en
        try clear ca
        try clear b9
        try clear b8
        try clear em
        try clear iw
        try clear iv
        try clear iu
        try clear hfz27_3
        try clear gi
        try clear fw
        try clear fv
        try clear m8
        try clear cj
        try clear b7
        try clear b6
        try clear el
        try clear ci
        try clear b5
        try clear b4
        try clear ek
        try clear p2
        obtain ⟨x10_3, x11_3, x58_3, rfl, rfl, rfl, HA, HK3, cZ, co, aQ, HB⟩ := hrel
        cases gk with
        | zero => exact absurd HA.out (by simp [impl_Command_do.l0])
        | succ k3 =>
         have H := HA.out
         clear HA
         simp only [impl_Command_do.l0] at H
         by_cases gj : x58_3 < (bJ.length : Int)
         ·rw [if_pos gj] at H
          have c30b0 : decide (x58_3 < (bJ.length : Int)) = true := dT gj
          clear gj
          by_cases fo : 0 ≤ x58_3
          ·rw [if_pos fo] at H
           have c31b0 : decide (0 ≤ x58_3) = true := dT fo
           clear fo
           by_cases hG : x58_3 < (bJ.length : Int)
           ·rw [if_pos hG] at H
            have c32b0 : decide (x58_3 < (bJ.length : Int)) = true := dT hG
            clear hG
            by_cases jQ : 0 ≤ ((rd_T61 bJ x58_3).f0)
            ·rw [if_pos jQ] at H
             have c33b0 := eq_true jQ
             have c33b1 : decide (0 ≤ ((rd_T61 bJ x58_3).f0)) = true := dT jQ
             clear jQ
             by_cases l8 : ((rd_T61 bJ x58_3).f0) ≤ (x11_3.size : Int)
             ·rw [if_pos l8] at H
              have c34b0 := eq_true l8
              have c34b1 : decide (((rd_T61 bJ x58_3).f0) ≤ (x11_3.size : Int)) = true := dT l8
              clear l8
              by_cases iR : (x11_3.extract 0 (((rd_T61 bJ x58_3).f0) : Int).toNat).size + ((rd_T61 bJ x58_3).f1).size ≤ 9223372036854775807
              ·rw [if_pos iR] at H
               have c35b0 := eq_true iR
               have c35b1 : decide ((x11_3.extract 0 (((rd_T61 bJ x58_3).f0) : Int).toNat).size + ((rd_T61 bJ x58_3).f1).size ≤ 9223372036854775807) = true := dT iR
               try have c35b2 : (9223372036854775807 < (x11_3.extract 0 (((rd_T61 bJ x58_3).f0) : Int).toNat).size + ((rd_T61 bJ x58_3).f1).size) = False := eq_false (Nat.not_lt.2 iR)
               (try (have c35x : (9223372036854775807 < ((rd_T61 bJ x58_3).f0).toNat + ((rd_T61 bJ x58_3).f1).size) = False := eq_false (fun h_ => by have e_ := of_eq_true c35b0; simp only [aC, aA] at e_; have f0_ : ((rd_T61 bJ x58_3).f0) ≤ (x11_3.size : Int) := z3; omega)))
               by_cases l7 : x10_3.size + ((x11_3.extract 0 (((rd_T61 bJ x58_3).f0) : Int).toNat) ++ ((rd_T61 bJ x58_3).f1)).size ≤ 9223372036854775807
               ·rw [if_pos l7] at H
                have c36b0 := eq_true l7
                have c36b1 : decide (x10_3.size + ((x11_3.extract 0 (((rd_T61 bJ x58_3).f0) : Int).toNat) ++ ((rd_T61 bJ x58_3).f1)).size ≤ 9223372036854775807) = true := dT l7
                try have c36b2 : (9223372036854775807 < x10_3.size + ((x11_3.extract 0 (((rd_T61 bJ x58_3).f0) : Int).toNat) ++ ((rd_T61 bJ x58_3).f1)).size) = False := eq_false (Nat.not_lt.2 l7)
                (try (have c36x : (9223372036854775807 < x10_3.size + (((rd_T61 bJ x58_3).f0).toNat + ((rd_T61 bJ x58_3).f1).size)) = False := eq_false (fun h_ => by have e_ := of_eq_true c36b0; simp only [aC, aA] at e_; have f0_ : ((rd_T61 bJ x58_3).f0) ≤ (x11_3.size : Int) := z3; omega)))
                (try (have c36b2s := c36b2; simp only [aA] at c36b2s))
                obtain ⟨kz, j9⟩ : ∃ j_ : Int, (wrap64 (((rd_T61 bJ x58_3).f0) + (((rd_T61 bJ x58_3).f2).size : Int))) = j_ := ⟨_, rfl⟩
                replace H : (if 0 ≤ (kz) then (if (kz) ≤ (x11_3.size : Int) then (impl_Command_do.l0 k3 bJ (x10_3 ++ ((x11_3.extract 0 (((rd_T61 bJ x58_3).f0) : Int).toNat) ++ ((rd_T61 bJ x58_3).f1))) (x11_3.extract ((kz) : Int).toNat x11_3.size) bJ (bJ.length : Int) (wrap64 (x58_3 + 1))) else (none)) else (none)) = some (r1, r2, r3) := by first | (rw [j9] at H; exact H) | (simp only [j9] at H ⊢; exact H)
                have hji37w : (IntKind.i64.wrap (((rd_T61 bJ x58_3).f0) + (((rd_T61 bJ x58_3).f2).size : Int))) = kz := (i64_w _).trans j9
                by_cases f4 : 0 ≤ (kz)
                ·rw [if_pos f4] at H
                 have c38b0 := eq_true f4
                 have c38b1 : decide (0 ≤ (kz)) = true := dT f4
                 clear f4
                 by_cases pj : (kz) ≤ (x11_3.size : Int)
                 ·rw [if_pos pj] at H
                  have c39b0 := eq_true pj
                  have c39b1 : decide ((kz) ≤ (x11_3.size : Int)) = true := dT pj
                  clear pj
                  have H' := aM H
                  clear H
                  have p367 : 0 ≤ (x58_3 : Int) := oD z2
                  have q367 : x58_3 < (bJ.length : Int) := oD z2
                  obtain ⟨ad367, e367, hx367_0, hx367_1, hx367_2⟩ := at_T61 (ah co.out).2.2 x58_3 p367 q367
                  cases e367
                  replace p367 := eq_true p367
                  replace q367 := eq_true q367
                  go_wp2_with (first | ((with_reducible refine aw (N := 13) rfl ?_); refine ax ?hg (N := 13) ?hd (cs := #[.int .i64 0, .string ⟨#[]⟩, .string ⟨#[]⟩]) (t := 61) ?hr ?_; (case hd => rfl); (case hg => rfl); (case hr => first | (go_simp; done) | (go_simp; rfl)); intro bN hg w40 hbox hb; replace cZ := aM (af (Kd.R_elderB z4 bN (Nat.le_of_eq hg.symm)) hb); replace co := aM (af (Kd.R_elderB z5 bN (Nat.le_of_eq hg.symm)) hb); have de := aM (hbox); have sb := aM ((by rw [hg]; exact (ap z20) : w.heap.size ≤ bN)); have qS := aM ((by rw [hg]; exact (ap z20) : w.heap.size ≤ bN)); replace HB := aM (ao z20 hb); have dc := aM ((by rw [hg]; exact Nat.ne_of_lt (blk_lt (g := aX) (o := .cells #[.int .i64 a0_0, .int .i64 a0_1, .int .i64 a0_2, .string a0_3] 29 (0, 0)) z10) : aX ≠ bN)); have eN := aM ((by rw [hg]; exact Nat.ne_of_gt (blk_lt (g := aX) (o := .cells #[.int .i64 a0_0, .int .i64 a0_1, .int .i64 a0_2, .string a0_3] 29 (0, 0)) z10) : bN ≠ aX)); replace aQ := aM (bK_ aQ.out hb); clear hb hbox hg; have qf := eN.out; have qe := dc.out; obtain ⟨cT, cS, cR, cN, cM, cL⟩ := cc3 de.out))
                  repeat (go_quiet (fail); try go_wp2)
                  go_roundg k3
                  case measure => have := k6.out; have := wE.out; have := HK3.out; omega
                  case rel => exact ⟨(x10_3 ++ ((x11_3.extract 0 (((rd_T61 bJ x58_3).f0) : Int).toNat) ++ ((rd_T61 bJ x58_3).f1))), (x11_3.extract ((kz) : Int).toNat x11_3.size), (wrap64 (x58_3 + 1)), z1, (by first | rfl | (simp; done) | (simp only [← j9] <;> (first | rfl | (simp; done) | (simp; generalize ByteArray.toList _ = u_; cases u_ <;> (first | rfl | (simp; done))))) | (simp [*]; done)), z1, (by first | exact H' | (simp only [j9]; exact H') | (simp only [← j9]; exact H')), ⟨by have := k6.out; have := wE.out; have := HK3.out; omega⟩, ⟨by (with_reducible repeat (first | apply ac | apply ab | apply aa)); exact ag (Kd.R_far (p := ⟨bN, 2, none⟩) (Kd.R_far (p := ⟨bN, 1, none⟩) (Kd.R_far (p := ⟨bN, 0, none⟩) (ag cZ.out (fun k_ hk => (⟨hk, hk.2⟩ : _ ∧ k_ ≠ bN))) (fun _ hk => hk.2) (.int .i64 ((rd_T61 bJ x58_3).f0))) (fun _ hk => hk.2) (.string ((rd_T61 bJ x58_3).f1))) (fun _ hk => hk.2) (.string ((rd_T61 bJ x58_3).f2))) (fun _ hk => trivial)⟩, ⟨by (with_reducible repeat (first | apply ac | apply ab | apply aa)); exact ag (Kd.R_far (p := ⟨bN, 2, none⟩) (Kd.R_far (p := ⟨bN, 1, none⟩) (Kd.R_far (p := ⟨bN, 0, none⟩) (ag co.out (fun k_ hk => (⟨hk, hk.2⟩ : _ ∧ k_ ≠ bN))) (fun _ hk => hk.2) (.int .i64 ((rd_T61 bJ x58_3).f0))) (fun _ hk => hk.2) (.string ((rd_T61 bJ x58_3).f1))) (fun _ hk => hk.2) (.string ((rd_T61 bJ x58_3).f2))) (fun _ hk => trivial)⟩, ⟨by (with_reducible repeat (first | refine aj ?_ _ | refine ai ?_ | refine ak ?_ _)); refine blk_far ?_ dc.out _; (with_reducible repeat (first | refine aj ?_ _ | refine ai ?_ | refine ak ?_ _)); refine blk_far ?_ dc.out _; (with_reducible repeat (first | refine aj ?_ _ | refine ai ?_ | refine ak ?_ _)); refine blk_far ?_ dc.out _; (with_reducible repeat (first | refine aj ?_ _ | refine ai ?_ | refine ak ?_ _)); exact aQ.out⟩, ⟨by repeat (first | (with_reducible first | exact HB.out | apply bA | apply pD | apply bD | refine am ?_ qU.out | refine am ?_ qS.out) | exact HB.out)⟩⟩
                 ·rw [if_neg pj] at H
                  exact absurd H (by simp)
                ·rw [if_neg f4] at H
                 exact absurd H (by simp)
               ·rw [if_neg l7] at H
                exact absurd H (by simp)
              ·rw [if_neg iR] at H
               exact absurd H (by simp)
             ·rw [if_neg l8] at H
              exact absurd H (by simp)
            ·rw [if_neg jQ] at H
             exact absurd H (by simp)
           ·rw [if_neg hG] at H
            exact absurd H (by simp)
          ·rw [if_neg fo] at H
           exact absurd H (by simp)
         ·rw [if_neg gj] at H
          have c30b0 : decide (x58_3 < (bJ.length : Int)) = false := dF gj
          clear gj
          obtain ⟨sV, tX, H⟩ := oA_ H
          try dsimp only at H
          by_cases wh : sV = true
          ·subst wh
           rw [if_pos rfl] at H
           obtain ⟨pO, wB, H⟩ := oA_ H
           try dsimp only at H
           simp only [Option.some.injEq, Prod.mk.injEq] at H
           obtain ⟨rfl, rfl, rfl⟩ := H
           go_wp2_with (first | (go_at_call 18; (with_reducible refine (impl_GoodDoc.calls k3 x10_3 true _ tX.out).mono ?_); rintro e w46 ⟨rfl, hb⟩; replace cZ := aM (af z4 hb); replace co := aM (af z5 hb); replace aQ := aM (bK_ aQ.out hb); replace HB := aM (ao z20 hb); (try clear hb)) | (go_at_call 47; (with_reducible refine (impl_normal.calls _ _ bJ pO _ ?side1 ?side2 wB.out).mono ?_); (case side1 => exact y45); (case side2 => exact (ah cZ.out).2.1); rintro e w47 ⟨v371, rfl, ho0, hb⟩; have qI := aM (az (Kd.R_new' (Kd.R_new' ho0 (Kd.R_lt z4)) (Kd.R_lt z5)) (ap z20)); replace cZ := aM (Kd.R_elder' z4 (Kd.R_base ho0) hb); replace co := aM (Kd.R_elder' z5 (Kd.R_base ho0) hb); replace aQ := aM (bK_ aQ.out hb); replace HB := aM (ao z20 hb); (try clear hb); (try clear ho0)))
           repeat (go_quiet (fail); try go_wp2)
           go_ret3
           exact ⟨_, y4, by (with_reducible repeat (first | apply ac | apply ab | apply aa)); exact ag qI.out (fun _ hk => trivial), y19⟩
          ·replace wh := Bool.eq_false_iff.mpr wh
           subst wh
           rw [if_neg nF_] at H
           simp only [Option.some.injEq, Prod.mk.injEq] at H
           obtain ⟨rfl, rfl, rfl⟩ := H
           go_wp2_with (first | (go_at_call 18; (with_reducible refine (impl_GoodDoc.calls k3 x10_3 false _ tX.out).mono ?_); rintro e w48 ⟨rfl, hb⟩; replace cZ := aM (af z4 hb); replace co := aM (af z5 hb); replace aQ := aM (bK_ aQ.out hb); replace HB := aM (ao z20 hb); (try clear hb)))
           repeat (go_quiet (fail); try go_wp2)
           go_ret3
           exact ⟨_, y4, y28, y19⟩
      ·replace eJ := Bool.eq_false_iff.mpr eJ
       subst eJ
       rw [if_neg nF_] at H
       simp only [Option.some.injEq, Prod.mk.injEq] at H
       obtain ⟨rfl, rfl, rfl⟩ := H
       obtain ⟨hcz49_0, hcz49_1, hcz49_2, hcz49_3, hfz49_0, hfz49_1, hfz49_2, hfz49_3⟩ := cc4 aQ.out
       go_wp2_with (first | (go_at_call 56; (with_reducible refine (impl_Command_parts.calls kj9 a0_0 a0_1 a0_2 a0_3 a1 bJ false _ pk.out).mono ?_); rintro e w50 ⟨v364, rfl, ho0, hb⟩; have f9 := aM (az ho0 (ap z20)); replace aQ := aM (bK_ aQ.out hb); replace HB := aM (ao z20 hb); (try clear hb); (try clear ho0)))
       repeat (go_quiet (fail); try go_wp2)
       go_ret3
       exact ⟨_, y4, y28, y19⟩

/-! ### impl_DoCommand: function 14 -/
def impl_DoCommand.f (k : Nat) (a0 : ByteArray) (a1_0 : Int) (a1_1 : Int) (a1_2 : Int) (a1_3 : ByteArray) : Option (ByteArray × Bool) := (impl_Command_do.f k a1_0 a1_1 a1_2 a1_3 a0).bind fun lS => (some (lS.1, lS.2.2))
theorem impl_DoCommand.mono : ∀ a0 a1 a2 a3 a4 k, LeO (impl_DoCommand.f k a0 a1 a2 a3 a4) (impl_DoCommand.f (k + 1) a0 a1 a2 a3 a4) := by
 intro a0 a1 a2 a3 a4 k
 unfold impl_DoCommand.f
 repeat' first
   | (with_reducible exact impl_Command_do.mono _ _ _ _ _ _)
   | (with_reducible exact LeO.refl _)
   | (with_reducible exact LeO.none _)
   | (with_reducible refine LeO.ite ?_ ?_)
   | (with_reducible refine LeO.bind ?_ (fun _ => ?_))
set_option maxHeartbeats 8000000 in
set_option maxRecDepth 100000 in
theorem impl_DoCommand.calls (k : Nat) (a0 : ByteArray) (a1_0 : Int) (a1_1 : Int) (a1_2 : Int) (a1_3 : ByteArray) (r1 : ByteArray) (r2 : Bool) (w : World) (h : impl_DoCommand.f k a0 a1_0 a1_1 a1_2 a1_3 = some (r1, r2)) :
  Calls Try.prog 14 #[.string a0, .agg #[.int .i64 a1_0, .int .i64 a1_1, .int .i64 a1_2, .string a1_3]] w fun e w' => e = .returned (.tuple #[.string r1, .bool r2]) ∧ Below w.heap.size w w' := by
 have hu29 := Try.underlying29
 have HB := aM (Below.refl w.heap.size w)
 have H : ((impl_Command_do.f k a1_0 a1_1 a1_2 a1_3 a0).bind fun lS => (some (lS.1, lS.2.2))) = some (r1, r2) := h
 clear h
 obtain ⟨⟨t374, t375, t378⟩, A3, H⟩ := oA_ H
 try dsimp only at H
 simp only [Option.some.injEq, Prod.mk.injEq] at H
 obtain ⟨rfl, rfl⟩ := H
 go_enter Try.func14, Try.ntmps14
 go_wp2_with (first | ((with_reducible refine aw (N := 3) rfl ?_); refine ax ?hg (N := 3) ?hd (cs := #[.int .i64 a1_0, .int .i64 a1_1, .int .i64 a1_2, .string a1_3]) (t := 29) ?hr ?_; (case hd => rfl); (case hg => rfl); (case hr => first | (go_simp; done) | (go_simp; rfl)); intro i3 hg w4 hbox hb; have fG := aM (hbox); have GW373 := aM ((by rw [hg]; exact (ap z14) : w.heap.size ≤ i3)); have qR := aM ((by rw [hg]; exact (ap z14) : w.heap.size ≤ i3)); replace HB := aM (ao z14 hb); clear hb hbox hg; obtain ⟨hcz5_0, hcz5_1, hcz5_2, hcz5_3, hfz5_0, hfz5_1, hfz5_2, hfz5_3⟩ := cc4 fG.out) | ((with_reducible refine av (f := 35) rfl ?_); refine ay (some 12) rfl rfl Try.func35 z0 rfl #[.agg #[.int .i64 a1_0, .int .i64 a1_1, .int .i64 a1_2, .string a1_3], .string a0] rfl z15 ?_; (with_reducible refine (impl_Command_do.calls k a1_0 a1_1 a1_2 a1_3 a0 t374 t375 t378 _ A3.out).mono ?_); rintro e w6 ⟨v376, rfl, ho0, hb⟩; refine ⟨_, rfl, ?_⟩; have HO377 := aM (az ho0 (ap (by repeat (first | (with_reducible first | exact HB.out | apply bA | apply pD | apply bD | refine am ?_ qR.out) | exact HB.out)))); replace fG := aM (ae (g := i3) (o := .cells #[.int .i64 a1_0, .int .i64 a1_1, .int .i64 a1_2, .string a1_3] 29 (0, 0)) (kB_ fG.out) hb); replace HB := aM (ao (by repeat (first | (with_reducible first | exact HB.out | apply bA | apply pD | apply bD | refine am ?_ qR.out) | exact HB.out)) hb); (try clear hb); (try clear ho0)))
 go_ret2
 exact ⟨y4, by repeat (first | (with_reducible first | exact HB.out | apply bA | apply pD | apply bD | refine am ?_ qR.out) | exact HB.out)⟩

end Go.Proofs.Ytmigfgcpdelnfaa.AFnCommands
