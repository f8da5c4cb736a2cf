-- this session's own text: written by wip/tools/ownprint.py over the kit's print
import Derived.Test.YtmigfgcpdelnfaaAFnUndoneByx0
import Derived.Test.YtmigfgcpdelnfaaAFnUndoneByx7
import Derived.Test.YtmigfgcpdelnfaaAFnUndoneByx10
namespace Go.Proofs.Ytmigfgcpdelnfaa.AFnUndoneBy
open Go.RowKit Go.Proofs.YtmigfgcpdelnfaaW.PrintWords Go.Proofs.YtmigfgcpdelnfaaW.PrintLast Go.Proofs.YtmigfgcpdelnfaaW.PrintMore
attribute [local go_sem] max2_int min2_int max_two min_two max_three min_three max_four min_four   -- for this text's walks alone
set_option linter.unusedVariables false
set_option linter.unusedSimpArgs false

/-! ### impl_Command_do: function 35 -/
mutual
def impl_Command_do.j0 : Nat → ByteArray → Bool → Int → Int → Int → ByteArray → Option (ByteArray × (List (S61)) × Bool)
 | 0, _, _, _, _, _, _ => none
 | k + 1, x1, x7, x360000, x360001, x360002, x360003 => (impl_GoodDoc.f k x1).bind fun qV => (if qV = true then ((impl_hasPlace.f x1 x360001).bind fun qU => (if qU = true then (if x7 = true then ((impl_hasPlace.f x1 x360002).bind fun nv => (impl_Command_do.j1 k x1 (!nv) x360000 x360001 x360002 x360003)) else (impl_Command_do.j1 k x1 false x360000 x360001 x360002 x360003)) else (impl_Command_do.j1 k x1 true x360000 x360001 x360002 x360003))) else (impl_Command_do.j1 k x1 true x360000 x360001 x360002 x360003))
def impl_Command_do.j1 : Nat → ByteArray → Bool → Int → Int → Int → ByteArray → Option (ByteArray × (List (S61)) × Bool)
 | 0, _, _, _, _, _, _ => none
 | k + 1, x1, x46, x360000, x360001, x360002, x360003 => if x46 = true then (some ((⟨#[]⟩ : ByteArray), ([] : List (S61)), false)) else ((impl_Command_parts.f k x360000 x360001 x360002 x360003 x1).bind fun np => (if np.2 = true then (impl_Command_do.l0 k np.1 (⟨#[]⟩ : ByteArray) x1 np.1 (np.1.length : Int) 0) else (some ((⟨#[]⟩ : ByteArray), ([] : List (S61)), false))))
def impl_Command_do.l0 : Nat → List (S61) → ByteArray → ByteArray → List (S61) → Int → Int → Option (ByteArray × (List (S61)) × Bool)
 | 0, _, _, _, _, _, _ => none
 | k + 1, x8, x10, x11, x56, x57, x58 => if x58 < x57 then (if 0 ≤ x58 then (if x58 < (x56.length : Int) then (if 0 ≤ ((rd_T61 x56 x58).f0) then (if ((rd_T61 x56 x58).f0) ≤ (x11.size : Int) then (if (x11.extract 0 (((rd_T61 x56 x58).f0) : Int).toNat).size + ((rd_T61 x56 x58).f1).size ≤ 9223372036854775807 then (if x10.size + ((x11.extract 0 (((rd_T61 x56 x58).f0) : Int).toNat) ++ ((rd_T61 x56 x58).f1)).size ≤ 9223372036854775807 then (if 0 ≤ (wrap64 (((rd_T61 x56 x58).f0) + (((rd_T61 x56 x58).f2).size : Int))) then (if (wrap64 (((rd_T61 x56 x58).f0) + (((rd_T61 x56 x58).f2).size : Int))) ≤ (x11.size : Int) then (impl_Command_do.l0 k x8 (x10 ++ ((x11.extract 0 (((rd_T61 x56 x58).f0) : Int).toNat) ++ ((rd_T61 x56 x58).f1))) (x11.extract ((wrap64 (((rd_T61 x56 x58).f0) + (((rd_T61 x56 x58).f2).size : Int))) : Int).toNat x11.size) x56 x57 (wrap64 (x58 + 1))) else (none)) else (none)) else (none)) else (none)) else (none)) else (none)) else (none)) else (none)) else ((impl_GoodDoc.f k x10).bind fun qS => (if qS = true then ((impl_normal.f x8).bind fun nP => (some (x10, nP, true))) else (some ((⟨#[]⟩ : ByteArray), ([] : List (S61)), false))))
end
def impl_Command_do.f (k : Nat) (a0_0 : Int) (a0_1 : Int) (a0_2 : Int) (a0_3 : ByteArray) (a1 : ByteArray) : Option (ByteArray × (List (S61)) × Bool) := if a0_0 = 2 then (impl_Command_do.j0 k a1 true a0_0 a0_1 a0_2 a0_3) else (if a0_0 = 3 then (impl_Command_do.j0 k a1 true a0_0 a0_1 a0_2 a0_3) else (impl_Command_do.j0 k a1 (a0_0 == 7) a0_0 a0_1 a0_2 a0_3))
theorem impl_Command_do.mono_l : ∀ k, (∀ y0 y1 y2 y3 y4 y5, LeO (impl_Command_do.j0 k y0 y1 y2 y3 y4 y5) (impl_Command_do.j0 (k + 1) y0 y1 y2 y3 y4 y5)) ∧ (∀ y0 y1 y2 y3 y4 y5, LeO (impl_Command_do.j1 k y0 y1 y2 y3 y4 y5) (impl_Command_do.j1 (k + 1) y0 y1 y2 y3 y4 y5)) ∧ (∀ y0 y1 y2 y3 y4 y5, LeO (impl_Command_do.l0 k y0 y1 y2 y3 y4 y5) (impl_Command_do.l0 (k + 1) y0 y1 y2 y3 y4 y5))
 | 0 => ⟨fun _ _ _ _ _ _ r h => by simp [impl_Command_do.j0] at h, fun _ _ _ _ _ _ r h => by simp [impl_Command_do.j1] at h, fun _ _ _ _ _ _ r h => by simp [impl_Command_do.l0] at h⟩
 | k + 1 => by
  obtain ⟨ih0, ih1, ih2⟩ := impl_Command_do.mono_l k
  refine ⟨?_, ?_, ?_⟩
  ·intro y0 y1 y2 y3 y4 y5
   unfold impl_Command_do.j0
   repeat' first
   | (with_reducible exact ih0 _ _ _ _ _ _)
   | (with_reducible exact ih1 _ _ _ _ _ _)
   | (with_reducible exact ih2 _ _ _ _ _ _)
   | (with_reducible exact impl_Command_parts.mono _ _ _ _ _ _)
   | (with_reducible exact impl_GoodDoc.mono _ _)
   | (with_reducible exact LeO.refl _)
   | (with_reducible exact LeO.none _)
   | (with_reducible refine LeO.ite ?_ ?_)
   | (with_reducible refine LeO.bind ?_ (fun _ => ?_))
  ·intro y0 y1 y2 y3 y4 y5
   unfold impl_Command_do.j1
   repeat' first
   | (with_reducible exact ih0 _ _ _ _ _ _)
   | (with_reducible exact ih1 _ _ _ _ _ _)
   | (with_reducible exact ih2 _ _ _ _ _ _)
   | (with_reducible exact impl_Command_parts.mono _ _ _ _ _ _)
   | (with_reducible exact impl_GoodDoc.mono _ _)
   | (with_reducible exact LeO.refl _)
   | (with_reducible exact LeO.none _)
   | (with_reducible refine LeO.ite ?_ ?_)
   | (with_reducible refine LeO.bind ?_ (fun _ => ?_))
  ·intro y0 y1 y2 y3 y4 y5
   unfold impl_Command_do.l0
   repeat' first
   | (with_reducible exact ih0 _ _ _ _ _ _)
   | (with_reducible exact ih1 _ _ _ _ _ _)
   | (with_reducible exact ih2 _ _ _ _ _ _)
   | (with_reducible exact impl_Command_parts.mono _ _ _ _ _ _)
   | (with_reducible exact impl_GoodDoc.mono _ _)
   | (with_reducible exact LeO.refl _)
   | (with_reducible exact LeO.none _)
   | (with_reducible refine LeO.ite ?_ ?_)
   | (with_reducible refine LeO.bind ?_ (fun _ => ?_))
theorem impl_Command_do.mono : ∀ a0 a1 a2 a3 a4 k, LeO (impl_Command_do.f k a0 a1 a2 a3 a4) (impl_Command_do.f (k + 1) a0 a1 a2 a3 a4) := by
 intro a0 a1 a2 a3 a4 k
 obtain ⟨ih0, ih1, ih2⟩ := impl_Command_do.mono_l k
 unfold impl_Command_do.f
 repeat' first
   | (with_reducible exact ih0 _ _ _ _ _ _)
   | (with_reducible exact ih1 _ _ _ _ _ _)
   | (with_reducible exact ih2 _ _ _ _ _ _)
   | (with_reducible exact impl_Command_parts.mono _ _ _ _ _ _)
   | (with_reducible exact impl_GoodDoc.mono _ _)
   | (with_reducible exact LeO.refl _)
   | (with_reducible exact LeO.none _)
   | (with_reducible refine LeO.ite ?_ ?_)
   | (with_reducible refine LeO.bind ?_ (fun _ => ?_))
set_option maxHeartbeats 8000000 in
set_option maxRecDepth 100000 in
theorem impl_Command_do.calls (k : Nat) (a0_0 : Int) (a0_1 : Int) (a0_2 : Int) (a0_3 : ByteArray) (a1 : ByteArray) (r1 : ByteArray) (r2 : List (S61)) (r3 : Bool) (w : World) (h : impl_Command_do.f k a0_0 a0_1 a0_2 a0_3 a1 = some (r1, r2, r3)) :
  Calls Try.prog 35 #[.agg #[.int .i64 a0_0, .int .i64 a0_1, .int .i64 a0_2, .string a0_3], .string a1] w fun e w' => ∃ v1_ : Value, e = .returned (.tuple #[.string r1, v1_, .bool r3]) ∧ Kd.R k61 61 w' w.heap.size (fun _ => True) v1_ r2 ∧ Below w.heap.size w w' := by
 have hu29 := Try.underlying29
 have hu61 := Try.underlying61
 have HB := aM (Below.refl w.heap.size w)
 have H : (if a0_0 = 2 then (impl_Command_do.j0 k a1 true a0_0 a0_1 a0_2 a0_3) else (if a0_0 = 3 then (impl_Command_do.j0 k a1 true a0_0 a0_1 a0_2 a0_3) else (impl_Command_do.j0 k a1 (a0_0 == 7) a0_0 a0_1 a0_2 a0_3))) = some (r1, r2, r3) := h
 clear h
 have rz := aM H
 clear H
 go_enter Try.func35, Try.ntmps35
 go_upto_region 1 with (first | ((with_reducible refine aw (N := 2) rfl ?_); refine ax ?hg (N := 2) ?hd (cs := #[.int .i64 a0_0, .int .i64 a0_1, .int .i64 a0_2, .string a0_3]) (t := 29) ?hr ?_; (case hd => rfl); (case hg => rfl); (case hr => first | (go_simp; done) | (go_simp; rfl)); intro a5 hg w4 hbox hb; have aR := aM (hbox); have qi := aM ((by rw [hg]; exact (aq z13) : w.heap.size ≤ a5)); have o0 := aM ((by rw [hg]; exact (aq z13) : w.heap.size ≤ a5)); replace HB := aM (ap z13 hb); clear hb hbox hg))
 repeat (go_quiet (fail); go_upto_region 1 with (first | ((with_reducible refine aw (N := 2) rfl ?_); refine ax ?hg (N := 2) ?hd (cs := #[.int .i64 a0_0, .int .i64 a0_1, .int .i64 a0_2, .string a0_3]) (t := 29) ?hr ?_; (case hd => rfl); (case hg => rfl); (case hr => first | (go_simp; done) | (go_simp; rfl)); intro a5 hg w4 hbox hb; have aR := aM (hbox); have qi := aM ((by rw [hg]; exact (aq z13) : w.heap.size ≤ a5)); have o0 := aM ((by rw [hg]; exact (aq z13) : w.heap.size ≤ a5)); replace HB := aM (ap z13 hb); clear hb hbox hg)))
 (try simp only [Act.put, sA, sB, sC])
 go_cut [7] (fun v7 wc => ∃ (kq : Nat) (x7_2 : Bool), v7 = .bool x7_2 ∧ Aside0 (impl_Command_do.j0 kq a1 x7_2 a0_0 a0_1 a0_2 a0_3 = some (r1, r2, r3)) ∧ Aside0 (kq ≤ k) ∧ Aside0 (wc.heap[a5]? = some (.cells #[.int .i64 a0_0, .int .i64 a0_1, .int .i64 a0_2, .string a0_3] 29 (0, 0))) ∧ Aside0 (Below w.heap.size w wc))
 case first =>
  have H := rz.out
  clear rz
  by_cases c5 : a0_0 = 2
  ·rw [if_pos c5] at H
   have c5b0 : (a0_0 == 2) = true := qT c5
   have c5b1 : (a0_0 != 2) = false := nF c5
   clear c5
   (first | rw [c5b0] | (simp only [i64_w, i32_w]; rw [c5b0]) | skip)
   have H' := aM H
   clear H
   obtain ⟨jW, jV, jU, l8, l7, jB, jA, l6⟩ := cc4 aR.out
   go_wp2
   repeat (go_quiet (fail); try go_wp2)
   go_meet
   case rel => exact ⟨_, (true), z1, H', ⟨y0⟩, ⟨y8⟩, ⟨y15⟩⟩
  ·rw [if_neg c5] at H
   have c5b0 : (a0_0 == 2) = false := qF c5
   have c5b1 : (a0_0 != 2) = true := nT c5
   (first | rw [c5b0] | (simp only [i64_w, i32_w]; rw [c5b0]) | skip)
   by_cases c7 : a0_0 = 3
   ·rw [if_pos c7] at H
    have c7b0 : (a0_0 == 3) = true := qT c7
    have c7b1 : (a0_0 != 3) = false := nF c7
    clear c7
    have H' := aM H
    clear H
    obtain ⟨cm, ck, cj, hY, cw, ci, ch, hX⟩ := cc4 aR.out
    go_wp2
    repeat (go_quiet (fail); try go_wp2)
    go_meet
    case rel => exact ⟨_, (true), z1, H', ⟨y0⟩, ⟨y8⟩, ⟨y15⟩⟩
   ·rw [if_neg c7] at H
    have c7b0 : (a0_0 == 3) = false := qF c7
    have c7b1 : (a0_0 != 3) = true := nT c7
    have H' := aM H
    clear H
    obtain ⟨b4, b3, bZ, cR, b6, bY, bX, cQ⟩ := cc4 aR.out
    go_wp2
    repeat (go_quiet (fail); try go_wp2)
    go_meet
    case rel => exact ⟨_, ((a0_0 == 7)), z1, H', ⟨y0⟩, ⟨y8⟩, ⟨y15⟩⟩
 case rest =>
  clear rz
  obtain ⟨kq, x7_2, rfl, HA, mf, aR, HB⟩ := hcut
  cases kq with
  | zero => exact absurd HA.out (by simp [impl_Command_do.j0])
  | succ kj2 =>
   have H := HA.out
   clear HA
   simp only [impl_Command_do.j0] at H
   have rG := aM H
   clear H
   go_upto_region 2 with (fail)
   repeat (go_quiet (fail); go_upto_region 2 with (fail))
   go_cut [46] (fun v46 wc => ∃ (kq : Nat) (x46_9 : Bool), v46 = .bool x46_9 ∧ Aside0 (impl_Command_do.j1 kq a1 x46_9 a0_0 a0_1 a0_2 a0_3 = some (r1, r2, r3)) ∧ Aside0 (kq ≤ kj2) ∧ Aside0 (wc.heap[a5]? = some (.cells #[.int .i64 a0_0, .int .i64 a0_1, .int .i64 a0_2, .string a0_3] 29 (0, 0))) ∧ Aside0 (Below w.heap.size w wc))
   case first =>
    have H := rG.out
    clear rG
    obtain ⟨qV, jh, H⟩ := oA_ H
    try dsimp only at H
    by_cases b5 : qV = true
    ·subst b5
     rw [if_pos rfl] at H
     obtain ⟨qU, ph, H⟩ := oA_ H
     try dsimp only at H
     by_cases cD : qU = true
     ·subst cD
      rw [if_pos rfl] at H
      by_cases cF : x7_2 = true
      ·subst cF
       rw [if_pos rfl] at H
       obtain ⟨nv, tY, H⟩ := oA_ H
       try dsimp only at H
       have H' := aM H
       clear H
       go_wp2_with (first | (go_at_call 18; (with_reducible refine (impl_GoodDoc.calls kj2 a1 true _ jh.out).mono ?_); rintro e w17 ⟨rfl, hb⟩; replace aR := aM (bK_ aR.out hb); replace HB := aM (ap z19 hb); (try clear hb); obtain ⟨ef, ee, ed, ec, eb, ea, d9, d8⟩ := cc4 aR.out) | (go_at_call 55; (with_reducible refine (impl_hasPlace.calls a1 a0_1 true _ ph.out).mono ?_); rintro e w' ⟨rfl, ⟨nd, rfl⟩⟩; (try exact dD_)) | (go_at_call 55; (with_reducible refine (impl_hasPlace.calls a1 a0_2 nv _ tY.out).mono ?_); rintro e w' ⟨rfl, ⟨nd, rfl⟩⟩; (try exact dD_)))
       repeat (go_quiet (first | (go_at_call 55; (with_reducible refine (impl_hasPlace.calls a1 a0_1 true _ ph.out).mono ?_); rintro e w' ⟨rfl, ⟨nd, rfl⟩⟩; (try exact dD_)) | (go_at_call 55; (with_reducible refine (impl_hasPlace.calls a1 a0_2 nv _ tY.out).mono ?_); rintro e w' ⟨rfl, ⟨nd, rfl⟩⟩; (try exact dD_))); try go_wp2_with (first | (go_at_call 18; (with_reducible refine (impl_GoodDoc.calls kj2 a1 true _ jh.out).mono ?_); rintro e w17 ⟨rfl, hb⟩; replace aR := aM (bK_ aR.out hb); replace HB := aM (ap z19 hb); (try clear hb); obtain ⟨ef, ee, ed, ec, eb, ea, d9, d8⟩ := cc4 aR.out) | (go_at_call 55; (with_reducible refine (impl_hasPlace.calls a1 a0_1 true _ ph.out).mono ?_); rintro e w' ⟨rfl, ⟨nd, rfl⟩⟩; (try exact dD_)) | (go_at_call 55; (with_reducible refine (impl_hasPlace.calls a1 a0_2 nv _ tY.out).mono ?_); rintro e w' ⟨rfl, ⟨nd, rfl⟩⟩; (try exact dD_))))
       go_meet
       case rel => exact ⟨_, (!nv), z1, H', ⟨by have := mf.out; first | omega | exact Nat.le_refl _⟩, ⟨y8⟩, ⟨y15⟩⟩
      ·replace cF := Bool.eq_false_iff.mpr cF
       subst cF
       rw [if_neg nF_] at H
       have H' := aM H
       clear H
       go_wp2_with (first | (go_at_call 18; (with_reducible refine (impl_GoodDoc.calls kj2 a1 true _ jh.out).mono ?_); rintro e w19 ⟨rfl, hb⟩; replace aR := aM (bK_ aR.out hb); replace HB := aM (ap z19 hb); (try clear hb); obtain ⟨g8, g7, g6, g5, gS, gR, gQ, gP⟩ := cc4 aR.out) | (go_at_call 55; (with_reducible refine (impl_hasPlace.calls a1 a0_1 true _ ph.out).mono ?_); rintro e w' ⟨rfl, ⟨nd, rfl⟩⟩; (try exact dD_)))
       repeat (go_quiet (first | (go_at_call 55; (with_reducible refine (impl_hasPlace.calls a1 a0_1 true _ ph.out).mono ?_); rintro e w' ⟨rfl, ⟨nd, rfl⟩⟩; (try exact dD_))); try go_wp2_with (first | (go_at_call 18; (with_reducible refine (impl_GoodDoc.calls kj2 a1 true _ jh.out).mono ?_); rintro e w19 ⟨rfl, hb⟩; replace aR := aM (bK_ aR.out hb); replace HB := aM (ap z19 hb); (try clear hb); obtain ⟨g8, g7, g6, g5, gS, gR, gQ, gP⟩ := cc4 aR.out) | (go_at_call 55; (with_reducible refine (impl_hasPlace.calls a1 a0_1 true _ ph.out).mono ?_); rintro e w' ⟨rfl, ⟨nd, rfl⟩⟩; (try exact dD_))))
       go_meet
       case rel => exact ⟨_, (false), z1, H', ⟨by have := mf.out; first | omega | exact Nat.le_refl _⟩, ⟨y8⟩, ⟨y15⟩⟩
     ·replace cD := Bool.eq_false_iff.mpr cD
      subst cD
      rw [if_neg nF_] at H
      have H' := aM H
      clear H
      go_wp2_with (first | (go_at_call 18; (with_reducible refine (impl_GoodDoc.calls kj2 a1 true _ jh.out).mono ?_); rintro e w21 ⟨rfl, hb⟩; replace aR := aM (bK_ aR.out hb); replace HB := aM (ap z19 hb); (try clear hb); obtain ⟨da, cZ, cY, f6, cU, cT, cS, fE⟩ := cc4 aR.out) | (go_at_call 55; (with_reducible refine (impl_hasPlace.calls a1 a0_1 false _ ph.out).mono ?_); rintro e w' ⟨rfl, ⟨nd, rfl⟩⟩; (try exact dD_)))
      repeat (go_quiet (first | (go_at_call 55; (with_reducible refine (impl_hasPlace.calls a1 a0_1 false _ ph.out).mono ?_); rintro e w' ⟨rfl, ⟨nd, rfl⟩⟩; (try exact dD_))); try go_wp2_with (first | (go_at_call 18; (with_reducible refine (impl_GoodDoc.calls kj2 a1 true _ jh.out).mono ?_); rintro e w21 ⟨rfl, hb⟩; replace aR := aM (bK_ aR.out hb); replace HB := aM (ap z19 hb); (try clear hb); obtain ⟨da, cZ, cY, f6, cU, cT, cS, fE⟩ := cc4 aR.out) | (go_at_call 55; (with_reducible refine (impl_hasPlace.calls a1 a0_1 false _ ph.out).mono ?_); rintro e w' ⟨rfl, ⟨nd, rfl⟩⟩; (try exact dD_))))
      go_meet
      case rel => exact ⟨_, (true), z1, H', ⟨by have := mf.out; first | omega | exact Nat.le_refl _⟩, ⟨y8⟩, ⟨y15⟩⟩
    ·replace b5 := Bool.eq_false_iff.mpr b5
     subst b5
     rw [if_neg nF_] at H
     have H' := aM H
     clear H
     go_wp2_with (first | (go_at_call 18; (with_reducible refine (impl_GoodDoc.calls kj2 a1 false _ jh.out).mono ?_); rintro e w23 ⟨rfl, hb⟩; replace aR := aM (bK_ aR.out hb); replace HB := aM (ap z19 hb); (try clear hb)))
     repeat (go_quiet (fail); try go_wp2_with (first | (go_at_call 18; (with_reducible refine (impl_GoodDoc.calls kj2 a1 false _ jh.out).mono ?_); rintro e w23 ⟨rfl, hb⟩; replace aR := aM (bK_ aR.out hb); replace HB := aM (ap z19 hb); (try clear hb))))
     go_meet
     case rel => exact ⟨_, (true), z1, H', ⟨by have := mf.out; first | omega | exact Nat.le_refl _⟩, ⟨y8⟩, ⟨y15⟩⟩
   case rest =>
    clear rG
    obtain ⟨kq, x46_9, rfl, HA, uq, aR, HB⟩ := hcut
    cases kq with
    | zero => exact absurd HA.out (by simp [impl_Command_do.j1])
    | succ kj9 =>
     have H := HA.out
     clear HA
     simp only [impl_Command_do.j1] at H
     by_cases mc : x46_9 = true
     ·subst mc
      rw [if_pos rfl] at H
      simp only [Option.some.injEq, Prod.mk.injEq] at H
      obtain ⟨rfl, rfl, rfl⟩ := H
      go_wp2
      repeat (go_quiet (fail); try go_wp2)
      go_ret3
      exact ⟨_, y4, y20, y15⟩
     ·replace mc := Bool.eq_false_iff.mpr mc
      subst mc
      rw [if_neg nF_] at H
      obtain ⟨⟨bK, t366⟩, nK, H⟩ := oA_ H
      try dsimp only at H
      by_cases eR : t366 = true
      ·subst eR
       rw [if_pos rfl] at H
       have H' := aM H
       clear H
       obtain ⟨hcz27_0, hcz27_1, hcz27_2, hcz27_3, hfz27_0, hfz27_1, hfz27_2, hfz27_3⟩ := cc4 aR.out
       go_wp2_with (first | (go_at_call 56; (with_reducible refine (impl_Command_parts.calls kj9 a0_0 a0_1 a0_2 a0_3 a1 bK true _ nK.out).mono ?_); rintro e w28 ⟨v364, rfl, ho0, hb⟩; have eU := aM (az ho0 (aq z19)); replace aR := aM (bK_ aR.out hb); replace HB := aM (ap z19 hb); (try clear hb); (try clear ho0); obtain ⟨p9, pK, eo29⟩ := Kd.R_slice eU.out; subst eo29))
       repeat (go_quiet (fail); try go_wp2_with (first | (go_at_call 56; (with_reducible refine (impl_Command_parts.calls kj9 a0_0 a0_1 a0_2 a0_3 a1 bK true _ nK.out).mono ?_); rintro e w28 ⟨v364, rfl, ho0, hb⟩; have eU := aM (az ho0 (aq z19)); replace aR := aM (bK_ aR.out hb); replace HB := aM (ap z19 hb); (try clear hb); (try clear ho0); obtain ⟨p9, pK, eo29⟩ := Kd.R_slice eU.out; subst eo29)))
       go_loopg [10, 11, 58] kj9 (fun kq v10 v11 v58 w' => ∃ (x10_3 : ByteArray) (x11_3 : ByteArray) (x58_3 : Int), v10 = .string x10_3 ∧ v11 = .string x11_3 ∧ v58 = .int .i64 x58_3 ∧ Aside0 (impl_Command_do.l0 kq bK x10_3 x11_3 bK (bK.length : Int) x58_3 = some (r1, r2, r3)) ∧ Aside0 (kq ≤ kj9) ∧ Aside0 (Kd.R k61 61 w' w.heap.size (fun _ => True) (.slice p9 bK.length pK) bK) ∧ Aside0 (Kd.R k61 61 w' w.heap.size (fun _ => True) (.slice p9 bK.length pK) bK) ∧ Aside0 (w'.heap[a5]? = some (.cells #[.int .i64 a0_0, .int .i64 a0_1, .int .i64 a0_2, .string a0_3] 29 (0, 0))) ∧ Aside0 (Below w.heap.size w w'))
       case atStart => exact ⟨((⟨#[]⟩ : ByteArray)), (a1), (0), z1, z1, z1, H', ⟨Nat.le_refl _⟩, ⟨kR_ eU.out⟩, ⟨kR_ eU.out⟩, ⟨y8⟩, ⟨y15⟩⟩
       case round =>
        clear H'
        try clear p2
        try clear c3
        try clear c5
        try clear c5b0
        try clear c5b1
        try clear c7
        try clear c7b0
        try clear c7b1
        try clear mc
        try clear eR
        try clear hcz27_0
        try clear hcz27_1
        try clear hcz27_2
        try clear hcz27_3
        try clear jW
        try clear jV
        try clear jU
        try clear l8
        try clear cm
        try clear ck
        try clear cj
        try clear hY
        try clear b4
        try clear b3
        try clear bZ
        try clear cR
        try clear hfz27_0
        try clear hfz27_1
        try clear hfz27_2
        try clear hfz27_3
        try clear l7
        try clear jB
        try clear jA
        try clear l6
        try clear cw
        try clear ci
        try clear ch
        try clear hX
        try clear b6
        try clear bY
        try clear bX
        try clear cQ
        try clear p2
        obtain ⟨x10_3, x11_3, x58_3, rfl, rfl, rfl, HA, HK3, cx, b8, aR, HB⟩ := hrel
        cases gk with
        | zero => exact absurd HA.out (by simp [impl_Command_do.l0])
        | succ k3 =>
         have H := HA.out
         clear HA
         simp only [impl_Command_do.l0] at H
         by_cases e3 : x58_3 < (bK.length : Int)
         ·rw [if_pos e3] at H
          have c30b0 : decide (x58_3 < (bK.length : Int)) = true := dT e3
          clear e3
          by_cases dS : 0 ≤ x58_3
          ·rw [if_pos dS] at H
           have c31b0 : decide (0 ≤ x58_3) = true := dT dS
           clear dS
           by_cases gn : x58_3 < (bK.length : Int)
           ·rw [if_pos gn] at H
            have c32b0 : decide (x58_3 < (bK.length : Int)) = true := dT gn
            clear gn
            by_cases gs : 0 ≤ ((rd_T61 bK x58_3).f0)
            ·rw [if_pos gs] at H
             have c33b0 := eq_true gs
             have c33b1 : decide (0 ≤ ((rd_T61 bK x58_3).f0)) = true := dT gs
             clear gs
             by_cases k6 : ((rd_T61 bK x58_3).f0) ≤ (x11_3.size : Int)
             ·rw [if_pos k6] at H
              have c34b0 := eq_true k6
              have c34b1 : decide (((rd_T61 bK x58_3).f0) ≤ (x11_3.size : Int)) = true := dT k6
              clear k6
              by_cases ka : (x11_3.extract 0 (((rd_T61 bK x58_3).f0) : Int).toNat).size + ((rd_T61 bK x58_3).f1).size ≤ 9223372036854775807
              ·rw [if_pos ka] at H
               have c35b0 := eq_true ka
               have c35b1 : decide ((x11_3.extract 0 (((rd_T61 bK x58_3).f0) : Int).toNat).size + ((rd_T61 bK x58_3).f1).size ≤ 9223372036854775807) = true := dT ka
               try have c35b2 : (9223372036854775807 < (x11_3.extract 0 (((rd_T61 bK x58_3).f0) : Int).toNat).size + ((rd_T61 bK x58_3).f1).size) = False := eq_false (Nat.not_lt.2 ka)
               (try (have c35x : (9223372036854775807 < ((rd_T61 bK x58_3).f0).toNat + ((rd_T61 bK x58_3).f1).size) = False := eq_false (fun h_ => by have e_ := of_eq_true c35b0; simp only [aC, aA] at e_; have f0_ : ((rd_T61 bK x58_3).f0) ≤ (x11_3.size : Int) := (by first | assumption | exact of_eq_true (by assumption) | exact oD (by assumption)); omega)))
               by_cases om : x10_3.size + ((x11_3.extract 0 (((rd_T61 bK x58_3).f0) : Int).toNat) ++ ((rd_T61 bK x58_3).f1)).size ≤ 9223372036854775807
               ·rw [if_pos om] at H
                have c36b0 := eq_true om
                have c36b1 : decide (x10_3.size + ((x11_3.extract 0 (((rd_T61 bK x58_3).f0) : Int).toNat) ++ ((rd_T61 bK x58_3).f1)).size ≤ 9223372036854775807) = true := dT om
                try have c36b2 : (9223372036854775807 < x10_3.size + ((x11_3.extract 0 (((rd_T61 bK x58_3).f0) : Int).toNat) ++ ((rd_T61 bK x58_3).f1)).size) = False := eq_false (Nat.not_lt.2 om)
                (try (have c36x : (9223372036854775807 < x10_3.size + (((rd_T61 bK x58_3).f0).toNat + ((rd_T61 bK x58_3).f1).size)) = False := eq_false (fun h_ => by have e_ := of_eq_true c36b0; simp only [aC, aA] at e_; have f0_ : ((rd_T61 bK x58_3).f0) ≤ (x11_3.size : Int) := (by first | assumption | exact of_eq_true (by assumption) | exact oD (by assumption)); omega)))
                (try (have c36b2s := c36b2; simp only [aA] at c36b2s))
                obtain ⟨jm, i3⟩ : ∃ j_ : Int, (wrap64 (((rd_T61 bK x58_3).f0) + (((rd_T61 bK x58_3).f2).size : Int))) = j_ := ⟨_, rfl⟩
                replace H : (if 0 ≤ (jm) then (if (jm) ≤ (x11_3.size : Int) then (impl_Command_do.l0 k3 bK (x10_3 ++ ((x11_3.extract 0 (((rd_T61 bK x58_3).f0) : Int).toNat) ++ ((rd_T61 bK x58_3).f1))) (x11_3.extract ((jm) : Int).toNat x11_3.size) bK (bK.length : Int) (wrap64 (x58_3 + 1))) else (none)) else (none)) = some (r1, r2, r3) := by first | (rw [i3] at H; exact H) | (simp only [i3] at H ⊢; exact H)
                have hji37w : (IntKind.i64.wrap (((rd_T61 bK x58_3).f0) + (((rd_T61 bK x58_3).f2).size : Int))) = jm := (i64_w _).trans i3
                by_cases gF : 0 ≤ (jm)
                ·rw [if_pos gF] at H
                 have c38b0 := eq_true gF
                 have c38b1 : decide (0 ≤ (jm)) = true := dT gF
                 clear gF
                 by_cases nJ : (jm) ≤ (x11_3.size : Int)
                 ·rw [if_pos nJ] at H
                  have c39b0 := eq_true nJ
                  have c39b1 : decide ((jm) ≤ (x11_3.size : Int)) = true := dT nJ
                  clear nJ
                  have H' := aM H
                  clear H
                  have p367 : 0 ≤ (x58_3 : Int) := oD z2
                  have q367 : x58_3 < (bK.length : Int) := oD z2
                  obtain ⟨ad367, e367, hx367_0, hx367_1, hx367_2⟩ := at_T61 (ah b8.out).2.2 x58_3 p367 q367
                  cases e367
                  replace p367 := eq_true p367
                  replace q367 := eq_true q367
                  go_wp2_with (first | ((with_reducible refine aw (N := 13) rfl ?_); refine ax ?hg (N := 13) ?hd (cs := #[.int .i64 0, .string ⟨#[]⟩, .string ⟨#[]⟩]) (t := 61) ?hr ?_; (case hd => rfl); (case hg => rfl); (case hr => first | (go_simp; done) | (go_simp; rfl)); intro bL hg w40 hbox hb; replace cx := aM (af (Kd.R_elderB z3 bL (Nat.le_of_eq hg.symm)) hb); replace b8 := aM (af (Kd.R_elderB z4 bL (Nat.le_of_eq hg.symm)) hb); have cC := aM (hbox); have qh := aM ((by rw [hg]; exact (aq z19) : w.heap.size ≤ bL)); have oZ := aM ((by rw [hg]; exact (aq z19) : w.heap.size ≤ bL)); replace HB := aM (ap z19 hb); have cA := aM ((by rw [hg]; exact ar (blk_lt (g := a5) (o := .cells #[.int .i64 a0_0, .int .i64 a0_1, .int .i64 a0_2, .string a0_3] 29 (0, 0)) z9) : a5 ≠ bL)); have d3 := aM ((by rw [hg]; exact au (blk_lt (g := a5) (o := .cells #[.int .i64 a0_0, .int .i64 a0_1, .int .i64 a0_2, .string a0_3] 29 (0, 0)) z9) : bL ≠ a5)); replace aR := aM (bK_ aR.out hb); clear hb hbox hg; have n9 := d3.out; have n8 := cA.out; obtain ⟨cv, cu, ct, cr, cq, cp⟩ := cc3 cC.out))
                  repeat (go_quiet (fail); try go_wp2_with (first | ((with_reducible refine aw (N := 13) rfl ?_); refine ax ?hg (N := 13) ?hd (cs := #[.int .i64 0, .string ⟨#[]⟩, .string ⟨#[]⟩]) (t := 61) ?hr ?_; (case hd => rfl); (case hg => rfl); (case hr => first | (go_simp; done) | (go_simp; rfl)); intro bL hg w40 hbox hb; replace cx := aM (af (Kd.R_elderB z3 bL (Nat.le_of_eq hg.symm)) hb); replace b8 := aM (af (Kd.R_elderB z4 bL (Nat.le_of_eq hg.symm)) hb); have cC := aM (hbox); have qh := aM ((by rw [hg]; exact (aq z19) : w.heap.size ≤ bL)); have oZ := aM ((by rw [hg]; exact (aq z19) : w.heap.size ≤ bL)); replace HB := aM (ap z19 hb); have cA := aM ((by rw [hg]; exact ar (blk_lt (g := a5) (o := .cells #[.int .i64 a0_0, .int .i64 a0_1, .int .i64 a0_2, .string a0_3] 29 (0, 0)) z9) : a5 ≠ bL)); have d3 := aM ((by rw [hg]; exact au (blk_lt (g := a5) (o := .cells #[.int .i64 a0_0, .int .i64 a0_1, .int .i64 a0_2, .string a0_3] 29 (0, 0)) z9) : bL ≠ a5)); replace aR := aM (bK_ aR.out hb); clear hb hbox hg; have n9 := d3.out; have n8 := cA.out; obtain ⟨cv, cu, ct, cr, cq, cp⟩ := cc3 cC.out)))
                  go_roundg k3
                  case measure => have := mf.out; have := uq.out; have := HK3.out; omega
                  case rel => exact ⟨(x10_3 ++ ((x11_3.extract 0 (((rd_T61 bK x58_3).f0) : Int).toNat) ++ ((rd_T61 bK x58_3).f1))), (x11_3.extract ((jm) : Int).toNat x11_3.size), (wrap64 (x58_3 + 1)), z1, (by first | rfl | (simp; done) | (simp only [← i3] <;> (first | rfl | (simp; done) | (simp; generalize ByteArray.toList _ = u_; cases u_ <;> (first | rfl | (simp; done))))) | (simp [*]; done)), z1, (by first | exact H' | (simp only [i3]; exact H') | (simp only [← i3]; exact H')), ⟨by have := mf.out; have := uq.out; have := HK3.out; omega⟩, ⟨by (with_reducible repeat (first | apply ac | apply ab | apply aa)); exact ag (Kd.R_far (p := ⟨bL, 2, none⟩) (Kd.R_far (p := ⟨bL, 1, none⟩) (Kd.R_far (p := ⟨bL, 0, none⟩) (ag cx.out (fun k_ hk => (⟨hk, hk.2⟩ : _ ∧ k_ ≠ bL))) (fun _ hk => hk.2) (.int .i64 ((rd_T61 bK x58_3).f0))) (fun _ hk => hk.2) (.string ((rd_T61 bK x58_3).f1))) (fun _ hk => hk.2) (.string ((rd_T61 bK x58_3).f2))) (fun _ hk => trivial)⟩, ⟨by (with_reducible repeat (first | apply ac | apply ab | apply aa)); exact ag (Kd.R_far (p := ⟨bL, 2, none⟩) (Kd.R_far (p := ⟨bL, 1, none⟩) (Kd.R_far (p := ⟨bL, 0, none⟩) (ag b8.out (fun k_ hk => (⟨hk, hk.2⟩ : _ ∧ k_ ≠ bL))) (fun _ hk => hk.2) (.int .i64 ((rd_T61 bK x58_3).f0))) (fun _ hk => hk.2) (.string ((rd_T61 bK x58_3).f1))) (fun _ hk => hk.2) (.string ((rd_T61 bK x58_3).f2))) (fun _ hk => trivial)⟩, ⟨by (with_reducible repeat (first | refine aj ?_ _ | refine ai ?_ | refine ak ?_ _)); refine al ?_ cA.out _; (with_reducible repeat (first | refine aj ?_ _ | refine ai ?_ | refine ak ?_ _)); refine al ?_ cA.out _; (with_reducible repeat (first | refine aj ?_ _ | refine ai ?_ | refine ak ?_ _)); refine al ?_ cA.out _; (with_reducible repeat (first | refine aj ?_ _ | refine ai ?_ | refine ak ?_ _)); exact aR.out⟩, ⟨by repeat (first | (with_reducible first | exact HB.out | apply bA | apply pD | apply bD | refine ao ?_ o0.out | refine ao ?_ oZ.out) | exact HB.out)⟩⟩
                 ·rw [if_neg nJ] at H
                  exact absurd H (by simp)
                ·rw [if_neg gF] at H
                 exact absurd H (by simp)
               ·rw [if_neg om] at H
                exact absurd H (by simp)
              ·rw [if_neg ka] at H
               exact absurd H (by simp)
             ·rw [if_neg k6] at H
              exact absurd H (by simp)
            ·rw [if_neg gs] at H
             exact absurd H (by simp)
           ·rw [if_neg gn] at H
            exact absurd H (by simp)
          ·rw [if_neg dS] at H
           exact absurd H (by simp)
         ·rw [if_neg e3] at H
          have c30b0 : decide (x58_3 < (bK.length : Int)) = false := dF e3
          clear e3
          obtain ⟨qS, rV, H⟩ := oA_ H
          try dsimp only at H
          by_cases t8 : qS = true
          ·subst t8
           rw [if_pos rfl] at H
           obtain ⟨nP, um, H⟩ := oA_ H
           try dsimp only at H
           simp only [Option.some.injEq, Prod.mk.injEq] at H
           obtain ⟨rfl, rfl, rfl⟩ := H
           go_wp2_with (first | (go_at_call 18; (with_reducible refine (impl_GoodDoc.calls k3 x10_3 true _ rV.out).mono ?_); rintro e w46 ⟨rfl, hb⟩; replace cx := aM (af z3 hb); replace b8 := aM (af z4 hb); replace aR := aM (bK_ aR.out hb); replace HB := aM (ap z19 hb); (try clear hb)) | (go_at_call 47; (with_reducible refine (impl_normal.calls _ _ bK nP _ ?side1 ?side2 um.out).mono ?_); (case side1 => exact y39); (case side2 => exact (ah cx.out).2.1); rintro e w47 ⟨v371, rfl, ho0, hb⟩; have oR := aM (az (Kd.R_new' (Kd.R_new' ho0 (Kd.R_lt z3)) (Kd.R_lt z4)) (aq z19)); replace cx := aM (Kd.R_elder' z3 (Kd.R_base ho0) hb); replace b8 := aM (Kd.R_elder' z4 (Kd.R_base ho0) hb); replace aR := aM (bK_ aR.out hb); replace HB := aM (ap z19 hb); (try clear hb); (try clear ho0)))
           repeat (go_quiet (fail); try go_wp2_with (first | (go_at_call 18; (with_reducible refine (impl_GoodDoc.calls k3 x10_3 true _ rV.out).mono ?_); rintro e w46 ⟨rfl, hb⟩; replace cx := aM (af z3 hb); replace b8 := aM (af z4 hb); replace aR := aM (bK_ aR.out hb); replace HB := aM (ap z19 hb); (try clear hb)) | (go_at_call 47; (with_reducible refine (impl_normal.calls _ _ bK nP _ ?side1 ?side2 um.out).mono ?_); (case side1 => exact y39); (case side2 => exact (ah cx.out).2.1); rintro e w47 ⟨v371, rfl, ho0, hb⟩; have oR := aM (az (Kd.R_new' (Kd.R_new' ho0 (Kd.R_lt z3)) (Kd.R_lt z4)) (aq z19)); replace cx := aM (Kd.R_elder' z3 (Kd.R_base ho0) hb); replace b8 := aM (Kd.R_elder' z4 (Kd.R_base ho0) hb); replace aR := aM (bK_ aR.out hb); replace HB := aM (ap z19 hb); (try clear hb); (try clear ho0))))
           go_ret3
           exact ⟨_, y4, by (with_reducible repeat (first | apply ac | apply ab | apply aa)); exact ag oR.out (fun _ hk => trivial), y15⟩
          ·replace t8 := Bool.eq_false_iff.mpr t8
           subst t8
           rw [if_neg nF_] at H
           simp only [Option.some.injEq, Prod.mk.injEq] at H
           obtain ⟨rfl, rfl, rfl⟩ := H
           go_wp2_with (first | (go_at_call 18; (with_reducible refine (impl_GoodDoc.calls k3 x10_3 false _ rV.out).mono ?_); rintro e w48 ⟨rfl, hb⟩; replace cx := aM (af z3 hb); replace b8 := aM (af z4 hb); replace aR := aM (bK_ aR.out hb); replace HB := aM (ap z19 hb); (try clear hb)))
           repeat (go_quiet (fail); try go_wp2_with (first | (go_at_call 18; (with_reducible refine (impl_GoodDoc.calls k3 x10_3 false _ rV.out).mono ?_); rintro e w48 ⟨rfl, hb⟩; replace cx := aM (af z3 hb); replace b8 := aM (af z4 hb); replace aR := aM (bK_ aR.out hb); replace HB := aM (ap z19 hb); (try clear hb))))
           go_ret3
           exact ⟨_, y4, y20, y15⟩
      ·replace eR := Bool.eq_false_iff.mpr eR
       subst eR
       rw [if_neg nF_] at H
       simp only [Option.some.injEq, Prod.mk.injEq] at H
       obtain ⟨rfl, rfl, rfl⟩ := H
       obtain ⟨hcz49_0, hcz49_1, hcz49_2, hcz49_3, hfz49_0, hfz49_1, hfz49_2, hfz49_3⟩ := cc4 aR.out
       go_wp2_with (first | (go_at_call 56; (with_reducible refine (impl_Command_parts.calls kj9 a0_0 a0_1 a0_2 a0_3 a1 bK false _ nK.out).mono ?_); rintro e w50 ⟨v364, rfl, ho0, hb⟩; have eU := aM (az ho0 (aq z19)); replace aR := aM (bK_ aR.out hb); replace HB := aM (ap z19 hb); (try clear hb); (try clear ho0)))
       repeat (go_quiet (fail); try go_wp2_with (first | (go_at_call 56; (with_reducible refine (impl_Command_parts.calls kj9 a0_0 a0_1 a0_2 a0_3 a1 bK false _ nK.out).mono ?_); rintro e w50 ⟨v364, rfl, ho0, hb⟩; have eU := aM (az ho0 (aq z19)); replace aR := aM (bK_ aR.out hb); replace HB := aM (ap z19 hb); (try clear hb); (try clear ho0))))
       go_ret3
       exact ⟨_, y4, y20, y15⟩

/-! ### impl_DoCommand: function 14 -/
def impl_DoCommand.f (k : Nat) (a0 : ByteArray) (a1_0 : Int) (a1_1 : Int) (a1_2 : Int) (a1_3 : ByteArray) : Option (ByteArray × Bool) := (impl_Command_do.f k a1_0 a1_1 a1_2 a1_3 a0).bind fun kQ => (some (kQ.1, kQ.2.2))
theorem impl_DoCommand.mono : ∀ a0 a1 a2 a3 a4 k, LeO (impl_DoCommand.f k a0 a1 a2 a3 a4) (impl_DoCommand.f (k + 1) a0 a1 a2 a3 a4) := by
 intro a0 a1 a2 a3 a4 k
 unfold impl_DoCommand.f
 repeat' first
   | (with_reducible exact impl_Command_do.mono _ _ _ _ _ _)
   | (with_reducible exact LeO.refl _)
   | (with_reducible exact LeO.none _)
   | (with_reducible refine LeO.ite ?_ ?_)
   | (with_reducible refine LeO.bind ?_ (fun _ => ?_))
set_option maxHeartbeats 8000000 in
set_option maxRecDepth 100000 in
theorem impl_DoCommand.calls (k : Nat) (a0 : ByteArray) (a1_0 : Int) (a1_1 : Int) (a1_2 : Int) (a1_3 : ByteArray) (r1 : ByteArray) (r2 : Bool) (w : World) (h : impl_DoCommand.f k a0 a1_0 a1_1 a1_2 a1_3 = some (r1, r2)) :
  Calls Try.prog 14 #[.string a0, .agg #[.int .i64 a1_0, .int .i64 a1_1, .int .i64 a1_2, .string a1_3]] w fun e w' => e = .returned (.tuple #[.string r1, .bool r2]) ∧ Below w.heap.size w w' := by
 have hu29 := Try.underlying29
 have HB := aM (Below.refl w.heap.size w)
 have H : ((impl_Command_do.f k a1_0 a1_1 a1_2 a1_3 a0).bind fun kQ => (some (kQ.1, kQ.2.2))) = some (r1, r2) := h
 clear h
 obtain ⟨⟨t374, t375, t378⟩, A3, H⟩ := oA_ H
 try dsimp only at H
 simp only [Option.some.injEq, Prod.mk.injEq] at H
 obtain ⟨rfl, rfl⟩ := H
 go_enter Try.func14, Try.ntmps14
 go_wp2_with (first | ((with_reducible refine aw (N := 3) rfl ?_); refine ax ?hg (N := 3) ?hd (cs := #[.int .i64 a1_0, .int .i64 a1_1, .int .i64 a1_2, .string a1_3]) (t := 29) ?hr ?_; (case hd => rfl); (case hg => rfl); (case hr => first | (go_simp; done) | (go_simp; rfl)); intro hZ hg w4 hbox hb; have eB := aM (hbox); have GW373 := aM ((by rw [hg]; exact (aq z13) : w.heap.size ≤ hZ)); have oY := aM ((by rw [hg]; exact (aq z13) : w.heap.size ≤ hZ)); replace HB := aM (ap z13 hb); clear hb hbox hg; obtain ⟨oe, od, oc, hcz5_3, hfz5_0, ob, oa, hfz5_3⟩ := cc4 eB.out) | ((with_reducible refine av (f := 35) rfl ?_); refine ay (some 12) rfl rfl Try.func35 z0 rfl #[.agg #[.int .i64 a1_0, .int .i64 a1_1, .int .i64 a1_2, .string a1_3], .string a0] rfl z14 ?_; (with_reducible refine (impl_Command_do.calls k a1_0 a1_1 a1_2 a1_3 a0 t374 t375 t378 _ A3.out).mono ?_); rintro e w6 ⟨v376, rfl, ho0, hb⟩; refine ⟨_, rfl, ?_⟩; have HO377 := aM (az ho0 (aq (by repeat (first | (with_reducible first | exact HB.out | apply bA | apply pD | apply bD | refine ao ?_ oY.out) | exact HB.out)))); replace eB := aM (ae (g := hZ) (o := .cells #[.int .i64 a1_0, .int .i64 a1_1, .int .i64 a1_2, .string a1_3] 29 (0, 0)) (kB_ eB.out) hb); replace HB := aM (ap (by repeat (first | (with_reducible first | exact HB.out | apply bA | apply pD | apply bD | refine ao ?_ oY.out) | exact HB.out)) hb); (try clear hb); (try clear ho0)))
 go_ret2
 exact ⟨y4, by repeat (first | (with_reducible first | exact HB.out | apply bA | apply pD | apply bD | refine ao ?_ oY.out) | exact HB.out)⟩

/-- A state of type 66 at block g of W; what its slices lead to came in by w0. -/
def IsS66 (w0 W : World) (g : Nat) (f0 : List Int) (f1 : Int) (f2 : Int) : Prop := ∃ A0 c0, W.heap[g]? = some (.cells #[.slice A0 f0.length c0, .int .i64 f1, .int .u64 f2] 66 (0, 0)) ∧ w0.heap.size ≤ g ∧ Kd.C (Kd.int .u8) w0 A0 f0.length f0
theorem IsS66.grown {w0 W : World} {g : Nat} {f0 : List Int} {f1 : Int} {f2 : Int} {W1 : World} {row : Option Nat} (h : IsS66 w0 W g f0 f1 f2) (hw : W.grownBy W1 row) (hne : some g ≠ row) : IsS66 w0 W1 g f0 f1 f2 := by
 obtain ⟨A0, c0, hb, hg, hr0⟩ := h
 exact ⟨A0, c0, blk_grown hb hw hne, hg, hr0⟩
theorem IsS66.own_neN {w0 W : World} {g : Nat} {f0 : List Int} {f1 : Int} {f2 : Int} {α : Type} {d : Kd α} {e : Nat} {base : Nat} {ok : Nat → Prop} {v : Value} {xs : List α} (h : IsS66 w0 W g f0 f1 f2) (ho : Kd.N d e W base ok v xs) (ht : e ≠ 66) : some g ≠ v.ownBlock := by
 obtain ⟨A0, c0, hb, hg, hr0⟩ := h
 exact Kd.N_ne ho hb ht
theorem IsS66.fresh {w0 W : World} {g : Nat} {f0 : List Int} {f1 : Int} {f2 : Int} (h : IsS66 w0 W g f0 f1 f2) : ∀ k, W.heap.size ≤ k → k ≠ g := by
 obtain ⟨A0, c0, hb, hg, hr0⟩ := h
 exact Kd.freshB hb
theorem IsS66.kept {w0 W : World} {g : Nat} {f0 : List Int} {f1 : Int} {f2 : Int} {W1 : World} {S : Nat → Prop} (h : IsS66 w0 W g f0 f1 f2) (hk : Kept W W1 S) (hne : ¬ S g) : IsS66 w0 W1 g f0 f1 f2 := by
 obtain ⟨A0, c0, hb, hg, hr0⟩ := h
 exact ⟨A0, c0, blk_kept hb hk hne, hg, hr0⟩
theorem IsS66.below {w0 W : World} {g : Nat} {f0 : List Int} {f1 : Int} {f2 : Int} {W1 : World} (h : IsS66 w0 W g f0 f1 f2) (hw : Below W.heap.size W W1) : IsS66 w0 W1 g f0 f1 f2 := h.grown (grown_of_below hw none) (by simp)
theorem IsS66.alloc {w0 W : World} {g : Nat} {f0 : List Int} {f1 : Int} {f2 : Int} (h : IsS66 w0 W g f0 f1 f2) (o : Obj) : IsS66 w0 (W.alloc o) g f0 f1 f2 := h.below (bA (Below.refl _ _) o)
theorem IsS66.drewN {w0 W : World} {g : Nat} {f0 : List Int} {f1 : Int} {f2 : Int} (h : IsS66 w0 W g f0 f1 f2) (m : Nat) : IsS66 w0 (W.drewN m) g f0 f1 f2 := h
theorem IsS66.drew {w0 W : World} {g : Nat} {f0 : List Int} {f1 : Int} {f2 : Int} (h : IsS66 w0 W g f0 f1 f2) : IsS66 w0 W.drew g f0 f1 f2 := h
theorem IsS66.at_ {w0 W : World} {g : Nat} {f0 : List Int} {f1 : Int} {f2 : Int} {w' : World} {m : Nat} (hq : W.drewN m = w') (h : IsS66 w0 W g f0 f1 f2) : IsS66 w0 w' g f0 f1 f2 := by subst hq; exact IsS66.drewN h m
theorem IsS66.apart {w0 W : World} {g : Nat} {f0 : List Int} {f1 : Int} {f2 : Int} {α : Type} {d : Kd α} {e : Nat} {base : Nat} {ok : Nat → Prop} {v : Value} {xs : List α} (h : IsS66 w0 W g f0 f1 f2) (ho : d.R e W base ok v xs) (ht : ∀ q, q ∈ e :: d.E → q ≠ 66) : d.R e W base (fun k => ok k ∧ k ≠ g) v xs := by
 obtain ⟨A0, c0, hb, hg, hr0⟩ := h
 exact Kd.R_types ho hb ht
theorem IsS66.own_ne {w0 W : World} {g : Nat} {f0 : List Int} {f1 : Int} {f2 : Int} {α : Type} {d : Kd α} {e : Nat} {base : Nat} {ok : Nat → Prop} {v : Value} {xs : List α} (h : IsS66 w0 W g f0 f1 f2) (ho : d.R e W base ok v xs) (ht : e ≠ 66) : some g ≠ v.ownBlock := by
 obtain ⟨A0, c0, hb, hg, hr0⟩ := h
 exact Kd.R_ne ho hb ht
theorem IsS66.apartQ {w0 W : World} {g : Nat} {f0 : List Int} {f1 : Int} {f2 : Int} {α : Type} {d : Kd α} {e : Nat} {base : Nat} {ok : Nat → Prop} {v : Value} {xs : List α} (h : IsS66 w0 W g f0 f1 f2) (ho : d.Q e W base ok v xs) (ht : ∀ q, q ∈ e :: d.E → q ≠ 66) : d.Q e W base (fun k => ok k ∧ k ≠ g) v xs := by
 obtain ⟨A0, c0, hb, hg, hr0⟩ := h
 exact Kd.Q_types ho hb ht
theorem IsS66.own_neQ {w0 W : World} {g : Nat} {f0 : List Int} {f1 : Int} {f2 : Int} {α : Type} {d : Kd α} {e : Nat} {base : Nat} {ok : Nat → Prop} {v : Value} {xs : List α} (h : IsS66 w0 W g f0 f1 f2) (ho : d.Q e W base ok v xs) (ht : e ≠ 66) : some g ≠ v.ownBlock := by
 obtain ⟨A0, c0, hb, hg, hr0⟩ := h
 exact Kd.Q_ne ho hb ht
theorem IsS66.apartS {w0 W : World} {g : Nat} {f0 : List Int} {f1 : Int} {f2 : Int} {α : Type} {d : Kd α} {e : Nat} {base : Nat} {ok : Nat → Prop} {v : Value} {xs : List α} (h : IsS66 w0 W g f0 f1 f2) (ho : d.S e W base ok v xs) (ht : ∀ q, q ∈ e :: d.E → q ≠ 66) : d.S e W base (fun k => ok k ∧ k ≠ g) v xs := by
 obtain ⟨A0, c0, hb, hg, hr0⟩ := h
 exact Kd.S_types ho hb ht
theorem IsS66.own_neS {w0 W : World} {g : Nat} {f0 : List Int} {f1 : Int} {f2 : Int} {α : Type} {d : Kd α} {e : Nat} {base : Nat} {ok : Nat → Prop} {v : Value} {xs : List α} (h : IsS66 w0 W g f0 f1 f2) (ho : d.S e W base ok v xs) (ht : e ≠ 66) : some g ≠ v.ownBlock := by
 obtain ⟨A0, c0, hb, hg, hr0⟩ := h
 exact Kd.S_ne ho hb ht
theorem IsS66.lt {w0 W : World} {g : Nat} {f0 : List Int} {f1 : Int} {f2 : Int} (h : IsS66 w0 W g f0 f1 f2) : g < W.heap.size := by
 obtain ⟨A0, c0, hb, hg, hr0⟩ := h
 exact blk_lt hb
theorem IsS66.ge {w0 W : World} {g : Nat} {f0 : List Int} {f1 : Int} {f2 : Int} (h : IsS66 w0 W g f0 f1 f2) : w0.heap.size ≤ g := by
 obtain ⟨A0, c0, hb, hg, hr0⟩ := h
 exact hg
theorem IsS66.ne_blk {w0 W : World} {g : Nat} {f0 : List Int} {f1 : Int} {f2 : Int} {a : Nat} {cs : Array Value} {t : TypeId} {fr : Nat × Nat} (h : IsS66 w0 W g f0 f1 f2) (hb2 : W.heap[a]? = some (.cells cs t fr)) (ht : t ≠ 66) : g ≠ a := by
 obtain ⟨A0, c0, hb, hg, hr0⟩ := h
 rintro rfl
 rw [hb] at hb2
 injection hb2 with hb2
 injection hb2 with _ ht2
 exact ht ht2.symm
theorem IsS66.far {w0 W : World} {g : Nat} {f0 : List Int} {f1 : Int} {f2 : Int} {p : Addr} (h : IsS66 w0 W g f0 f1 f2) (hne : g ≠ p.block) (u : Value) : IsS66 w0 (W.setCell p u) g f0 f1 f2 := by
 obtain ⟨A0, c0, hb, hg, hr0⟩ := h
 exact ⟨A0, c0, al hb hne u, hg, hr0⟩
theorem cellS66_0 {W : World} {g : Nat} {A0 : Option Addr} {c0 : Nat} {f0 : List Int} {f1 : Int} {f2 : Int} (h : W.heap[g]? = some (.cells #[.slice A0 f0.length c0, .int .i64 f1, .int .u64 f2] 66 (0, 0))) : W.cell? ⟨g, 0, none⟩ = some (.slice A0 f0.length c0) := (bC h 0).trans rfl
theorem cellS66_1 {W : World} {g : Nat} {A0 : Option Addr} {c0 : Nat} {f0 : List Int} {f1 : Int} {f2 : Int} (h : W.heap[g]? = some (.cells #[.slice A0 f0.length c0, .int .i64 f1, .int .u64 f2] 66 (0, 0))) : W.cell? ⟨g, 1, none⟩ = some (.int .i64 f1) := (bC h 1).trans rfl
theorem IsS66.set_1 {w0 W : World} {g : Nat} {f0 : List Int} {f1 : Int} {f2 : Int} (h : IsS66 w0 W g f0 f1 f2) (x : Int) : IsS66 w0 (W.setCell ⟨g, 1, none⟩ (.int .i64 x)) g f0 x f2 := by
 obtain ⟨A0, c0, hb, hg, hr0⟩ := h
 exact ⟨A0, c0, by simpa using blk_set hb 1 (.int .i64 x), hg, hr0⟩
theorem cellS66_2 {W : World} {g : Nat} {A0 : Option Addr} {c0 : Nat} {f0 : List Int} {f1 : Int} {f2 : Int} (h : W.heap[g]? = some (.cells #[.slice A0 f0.length c0, .int .i64 f1, .int .u64 f2] 66 (0, 0))) : W.cell? ⟨g, 2, none⟩ = some (.int .u64 f2) := (bC h 2).trans rfl
theorem IsS66.set_2 {w0 W : World} {g : Nat} {f0 : List Int} {f1 : Int} {f2 : Int} (h : IsS66 w0 W g f0 f1 f2) (x : Int) : IsS66 w0 (W.setCell ⟨g, 2, none⟩ (.int .u64 x)) g f0 f1 x := by
 obtain ⟨A0, c0, hb, hg, hr0⟩ := h
 exact ⟨A0, c0, by simpa using blk_set hb 2 (.int .u64 x), hg, hr0⟩
theorem IsS66.new (w0 W : World) (A0 : Option Addr) (c0 : Nat) (f0 : List Int) (f1 : Int) (f2 : Int) (hB : Below w0.heap.size w0 W) (hr0 : Kd.C (Kd.int .u8) w0 A0 f0.length f0) : IsS66 w0 (W.alloc (.cells #[.slice A0 f0.length c0, .int .i64 f1, .int .u64 f2] 66)) W.heap.size f0 f1 f2 := ⟨A0, c0, by simpa using heap_alloc_new W _, hB.size, hr0⟩

/-! ### spec_l1Cur_next: function 81 -/
def spec_l1Cur_next.f (s0_0 : List Int) (s0_1 : Int) (s0_2 : Int) : Option (Int × Int × Int) := if s0_1 < (s0_0.length : Int) then (if 0 ≤ s0_1 then (if (wrap64 (s0_1 + 1)) ≤ (s0_0.length : Int) then (some (wrap64 (rd s0_0 s0_1), wrap64 (s0_1 + 1), IntKind.u64.wrap ((IntKind.u64.wrap ((IntKind.u64.wrap (s0_2 * 6364136223846793005)) + (IntKind.u64.wrap (wrap64 (rd s0_0 s0_1))))) + 1442695040888963407))) else (some (wrap64 (Go.bits .and .u64 ((IntKind.u64.wrap ((IntKind.u64.wrap ((IntKind.u64.wrap (s0_2 * 6364136223846793005)) + (IntKind.u64.wrap (wrap64 (rd s0_0 s0_1))))) + 1442695040888963407)) / 1099511627776) 255), wrap64 (s0_1 + 1), IntKind.u64.wrap ((IntKind.u64.wrap ((IntKind.u64.wrap (s0_2 * 6364136223846793005)) + (IntKind.u64.wrap (wrap64 (rd s0_0 s0_1))))) + 1442695040888963407)))) else (none)) else (if (wrap64 (s0_1 + 1)) ≤ (s0_0.length : Int) then (some (0, wrap64 (s0_1 + 1), IntKind.u64.wrap ((IntKind.u64.wrap ((IntKind.u64.wrap (s0_2 * 6364136223846793005)) + 0)) + 1442695040888963407))) else (some (wrap64 (Go.bits .and .u64 ((IntKind.u64.wrap ((IntKind.u64.wrap ((IntKind.u64.wrap (s0_2 * 6364136223846793005)) + 0)) + 1442695040888963407)) / 1099511627776) 255), wrap64 (s0_1 + 1), IntKind.u64.wrap ((IntKind.u64.wrap ((IntKind.u64.wrap (s0_2 * 6364136223846793005)) + 0)) + 1442695040888963407))))
set_option maxHeartbeats 8000000 in
set_option maxRecDepth 100000 in
theorem spec_l1Cur_next.calls (g : Nat) (s0_0 : List Int) (s0_1 : Int) (s0_2 : Int) (r1 : Int) (r2 : Int) (r3 : Int) (w0 w : World) (hI : IsS66 w0 w g s0_0 s0_1 s0_2) (hB : Below w0.heap.size w0 w) (h : spec_l1Cur_next.f s0_0 s0_1 s0_2 = some (r1, r2, r3)) :
  Calls Try.prog 81 #[.pointer (some ⟨g, 0, none⟩)] w fun e w' => e = .returned (.int .i64 r1) ∧ IsS66 w0 w' g s0_0 r2 r3 ∧ Below w0.heap.size w0 w' ∧ KeepBut w w' g none := by
 have HI0 := aM hI
 have HK := aM (KeepBut.refl w g none)
 have HL := aM hB.size
 clear hI
 have HW0 := aM hB.size
 have HB := aM hB
 clear hB
 have H : (if s0_1 < (s0_0.length : Int) then (if 0 ≤ s0_1 then (if (wrap64 (s0_1 + 1)) ≤ (s0_0.length : Int) then (some (wrap64 (rd s0_0 s0_1), wrap64 (s0_1 + 1), IntKind.u64.wrap ((IntKind.u64.wrap ((IntKind.u64.wrap (s0_2 * 6364136223846793005)) + (IntKind.u64.wrap (wrap64 (rd s0_0 s0_1))))) + 1442695040888963407))) else (some (wrap64 (Go.bits .and .u64 ((IntKind.u64.wrap ((IntKind.u64.wrap ((IntKind.u64.wrap (s0_2 * 6364136223846793005)) + (IntKind.u64.wrap (wrap64 (rd s0_0 s0_1))))) + 1442695040888963407)) / 1099511627776) 255), wrap64 (s0_1 + 1), IntKind.u64.wrap ((IntKind.u64.wrap ((IntKind.u64.wrap (s0_2 * 6364136223846793005)) + (IntKind.u64.wrap (wrap64 (rd s0_0 s0_1))))) + 1442695040888963407)))) else (none)) else (if (wrap64 (s0_1 + 1)) ≤ (s0_0.length : Int) then (some (0, wrap64 (s0_1 + 1), IntKind.u64.wrap ((IntKind.u64.wrap ((IntKind.u64.wrap (s0_2 * 6364136223846793005)) + 0)) + 1442695040888963407))) else (some (wrap64 (Go.bits .and .u64 ((IntKind.u64.wrap ((IntKind.u64.wrap ((IntKind.u64.wrap (s0_2 * 6364136223846793005)) + 0)) + 1442695040888963407)) / 1099511627776) 255), wrap64 (s0_1 + 1), IntKind.u64.wrap ((IntKind.u64.wrap ((IntKind.u64.wrap (s0_2 * 6364136223846793005)) + 0)) + 1442695040888963407))))) = some (r1, r2, r3) := h
 clear h
 by_cases c2 : s0_1 < (s0_0.length : Int)
 ·rw [if_pos c2] at H
  have c2b0 : decide (s0_1 < (s0_0.length : Int)) = true := dT c2
  clear c2
  by_cases c3 : 0 ≤ s0_1
  ·rw [if_pos c3] at H
   have c3b0 : decide (0 ≤ s0_1) = true := dT c3
   clear c3
   by_cases c4 : (wrap64 (s0_1 + 1)) ≤ (s0_0.length : Int)
   ·rw [if_pos c4] at H
    have c4b0 : decide ((wrap64 (s0_1 + 1)) ≤ (s0_0.length : Int)) = true := dT c4
    clear c4
    simp only [Option.some.injEq, Prod.mk.injEq] at H
    obtain ⟨rfl, rfl, rfl⟩ := H
    obtain ⟨ASz5_0, cSz5_0, HGz5, hgz5, HSz5_0⟩ := HI0.out
    have oe := cellS66_0 HGz5
    have od := cellS66_1 HGz5
    have oc := cellS66_2 HGz5
    have ob := bF HGz5 1
    have oa := bF HGz5 2
    clear HGz5 hgz5
    have p379 : 0 ≤ (s0_1 : Int) := oD z2
    have q379 : s0_1 < (s0_0.length : Int) := oD z2
    obtain ⟨ad379, e379, hx379_0⟩ := Kd.at_int HSz5_0 s0_1 p379 q379
    cases e379
    replace hx379_0 := pw_cell_below HB.out hx379_0
    replace p379 := eq_true p379
    replace q379 := eq_true q379
    go_enter Try.func81, Try.ntmps81
    go_wp2
    repeat (go_quiet (fail); try go_wp2)
    go_ret
    exact ⟨y4, y27, y21, y22⟩
   ·rw [if_neg c4] at H
    have c4b0 : decide ((wrap64 (s0_1 + 1)) ≤ (s0_0.length : Int)) = false := dF c4
    clear c4
    simp only [Option.some.injEq, Prod.mk.injEq] at H
    obtain ⟨rfl, rfl, rfl⟩ := H
    obtain ⟨ASz6_0, cSz6_0, HGz6, hgz6, HSz6_0⟩ := HI0.out
    have jW := cellS66_0 HGz6
    have jV := cellS66_1 HGz6
    have jU := cellS66_2 HGz6
    have jB := bF HGz6 1
    have jA := bF HGz6 2
    clear HGz6 hgz6
    have p379 : 0 ≤ (s0_1 : Int) := oD z2
    have q379 : s0_1 < (s0_0.length : Int) := oD z2
    obtain ⟨ad379, e379, hx379_0⟩ := Kd.at_int HSz6_0 s0_1 p379 q379
    cases e379
    replace hx379_0 := pw_cell_below HB.out hx379_0
    replace p379 := eq_true p379
    replace q379 := eq_true q379
    go_enter Try.func81, Try.ntmps81
    go_wp2
    repeat (go_quiet (fail); try go_wp2)
    go_ret
    exact ⟨y4, y27, y21, y22⟩
  ·rw [if_neg c3] at H
   exact absurd H (by simp)
 ·rw [if_neg c2] at H
  have c2b0 : decide (s0_1 < (s0_0.length : Int)) = false := dF c2
  clear c2
  by_cases c7 : (wrap64 (s0_1 + 1)) ≤ (s0_0.length : Int)
  ·rw [if_pos c7] at H
   have c7b0 : decide ((wrap64 (s0_1 + 1)) ≤ (s0_0.length : Int)) = true := dT c7
   clear c7
   simp only [Option.some.injEq, Prod.mk.injEq] at H
   obtain ⟨rfl, rfl, rfl⟩ := H
   obtain ⟨ASz8_0, cSz8_0, HGz8, hgz8, HSz8_0⟩ := HI0.out
   have cm := cellS66_0 HGz8
   have ck := cellS66_1 HGz8
   have cj := cellS66_2 HGz8
   have ci := bF HGz8 1
   have ch := bF HGz8 2
   clear HGz8 hgz8
   go_enter Try.func81, Try.ntmps81
   go_wp2
   repeat (go_quiet (fail); try go_wp2)
   go_ret
   exact ⟨y4, y27, y21, y22⟩
  ·rw [if_neg c7] at H
   have c7b0 : decide ((wrap64 (s0_1 + 1)) ≤ (s0_0.length : Int)) = false := dF c7
   clear c7
   simp only [Option.some.injEq, Prod.mk.injEq] at H
   obtain ⟨rfl, rfl, rfl⟩ := H
   obtain ⟨ASz9_0, cSz9_0, HGz9, hgz9, HSz9_0⟩ := HI0.out
   have b4 := cellS66_0 HGz9
   have b3 := cellS66_1 HGz9
   have bZ := cellS66_2 HGz9
   have bY := bF HGz9 1
   have bX := bF HGz9 2
   clear HGz9 hgz9
   go_enter Try.func81, Try.ntmps81
   go_wp2
   repeat (go_quiet (fail); try go_wp2)
   go_ret
   exact ⟨y4, y27, y21, y22⟩

end Go.Proofs.Ytmigfgcpdelnfaa.AFnUndoneBy
