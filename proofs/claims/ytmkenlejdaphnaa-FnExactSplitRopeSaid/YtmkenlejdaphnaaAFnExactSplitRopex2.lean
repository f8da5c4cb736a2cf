-- this session's own text: written by wip/tools/ownprint.py over the kit's print
import Derived.Test.YtmkenlejdaphnaaAFnExactSplitRopex0
import Derived.Test.YtmkenlejdaphnaaAFnExactSplitRopex1
namespace Go.Proofs.Ytmkenlejdaphnaa.AFnExactSplitRope
open Go.RowKit Go.Proofs.YtmkenlejdaphnaaW.PrintWords Go.Proofs.YtmkenlejdaphnaaW.PrintLast Go.Proofs.YtmkenlejdaphnaaW.PrintMore
attribute [local go_sem] max2_int min2_int max_two min_two max_three min_three max_four min_four   -- for this text's walks alone
set_option linter.unusedVariables false
set_option linter.unusedSimpArgs false

/-! ### laws_eqRope: function 18 -/
def laws_eqRope.f (k : Nat) (l0_0 : List (S58)) (l1_0 : List (S58)) : Option (Bool) := (laws_eqBoughS.f k l0_0 l1_0).bind fun nb => (if nb = true then (some true) else (some false))
theorem laws_eqRope.mono : ∀ a0 a1 k, LeO (laws_eqRope.f k a0 a1) (laws_eqRope.f (k + 1) a0 a1) := by
 intro a0 a1 k
 unfold laws_eqRope.f
 repeat' first
   | (with_reducible exact laws_eqBoughS.mono _ _ _)
   | (with_reducible exact LeO.refl _)
   | (with_reducible exact LeO.none _)
   | (with_reducible refine LeO.ite ?_ ?_)
   | (with_reducible refine LeO.bind ?_ (fun _ => ?_))
   | exact laws_eqBoughS.mono _ _ _
   | exact LeO.none _
   | refine LeO.ite ?_ ?_
   | refine LeO.bind ?_ (fun _ => ?_)
set_option maxHeartbeats 8000000 in
set_option maxRecDepth 100000 in
theorem laws_eqRope.calls (k : Nat) (bu : Option Addr) (bx : Nat) (l0_0 : List (S58)) (jj : Option Addr) (jh : Nat) (l1_0 : List (S58)) (r : Bool) (w : World) (hr0_0 : Kd.C k58 w bu l0_0.length l0_0) (hc0_0 : l0_0.length ≤ bx) (hr1_0 : Kd.C k58 w jj l1_0.length l1_0) (hc1_0 : l1_0.length ≤ jh) (h : laws_eqRope.f k l0_0 l1_0 = some r) :
  Calls Try.prog 18 #[.agg #[.slice bu l0_0.length bx], .agg #[.slice jj l1_0.length jh]] w fun e w' => e = .returned (.bool r) ∧ Below w.heap.size w w' := by
 have hu29 := Try.underlying29
 have eb := aM hr0_0
 have ee := aM hc0_0
 clear hr0_0 hc0_0
 have nX := aM hr1_0
 have nZ := aM hc1_0
 clear hr1_0 hc1_0
 have HB := aM (Below.refl w.heap.size w)
 have H : ((laws_eqBoughS.f k l0_0 l1_0).bind fun nb => (if nb = true then (some true) else (some false))) = some r := h
 clear h
 replace H := oB H
 obtain ⟨nb, iP, H⟩ := H
 try dsimp only at H
 have A3 := aM iP
 clear iP
 by_cases c4 : nb = true
 ·subst c4
  rw [if_pos rfl] at H
  obtain rfl := sI H
  go_enter Try.func18, Try.ntmps18
  go_wp2_with (first | ((with_reducible refine aK (N := 2) rfl ?_); refine aN ?hg (N := 2) ?hd (cs := #[.slice bu l0_0.length bx]) (t := 29) ?hr ?_; (case hd => rfl); (case hg => rfl); (case hr => first | (go_simp; done) | (go_simp; rfl)); intro eu hg w5 hbox hb; have ba := aM (ay z23 hb); have bb := aM (hbox); have bf := aM ((by rw [hg]; exact (az z23) : w.heap.size ≤ eu)); have bk := aM ((by rw [hg]; exact (az z23) : w.heap.size ≤ eu)); clear HB; have HB := ba; have eh := bb; have GW130 := bf; have fw := bk; clear ba bb bf bk; clear hb hbox hg) | ((with_reducible refine aK (N := 3) rfl ?_); refine aN ?hg (N := 3) ?hd (cs := #[.slice jj l1_0.length jh]) (t := 29) ?hr ?_; (case hd => rfl); (case hg => rfl); (case hr => first | (go_simp; done) | (go_simp; rfl)); intro fe hg w6 hbox hb; have ba := aM (ae (g := eu) (o := .cells #[.slice bu l0_0.length bx] 29 (0, 0)) (by (with_reducible repeat (first | refine aq ?_ _ | refine ap ?_ | refine ar ?_ _)); exact eh.out) hb); have bb := aM (ay (by repeat (first | (with_reducible first | exact HB.out | apply bA | apply pD | apply bD | refine ax ?_ fw.out) | exact HB.out)) hb); have bf := aM (hbox); have bk := aM ((by rw [hg]; exact (az (by repeat (first | (with_reducible first | exact HB.out | apply bA | apply pD | apply bD | refine ax ?_ fw.out) | exact HB.out))) : w.heap.size ≤ fe)); have bn := aM ((by rw [hg]; exact (az (by repeat (first | (with_reducible first | exact HB.out | apply bA | apply pD | apply bD | refine ax ?_ fw.out) | exact HB.out))) : w.heap.size ≤ fe)); have br := aM ((by rw [hg]; exact aA (aw (g := eu) (o := .cells #[.slice bu l0_0.length bx] 29 (0, 0)) (by (with_reducible repeat (first | refine aq ?_ _ | refine ap ?_ | refine ar ?_ _)); exact eh.out)) : eu ≠ fe)); have bM := aM ((by rw [hg]; exact aC (aw (g := eu) (o := .cells #[.slice bu l0_0.length bx] 29 (0, 0)) (by (with_reducible repeat (first | refine aq ?_ _ | refine ap ?_ | refine ar ?_ _)); exact eh.out)) : fe ≠ eu)); clear eh; clear HB; have eh := ba; have HB := bb; have fy := bf; have GW131 := bk; have lz := bn; have gT := br; have gS := bM; clear ba bb bf bk bn br bM; clear hb hbox hg; have hnb7 := gT.out; have hnc7 := gS.out; have hcz8_0 : w6.cell? ⟨eu, 0, none⟩ = some (.slice bu l0_0.length bx) := (bC eh.out 0).trans rfl; have hfz8_0 := bF eh.out 0; have fX : w6.cell? ⟨fe, 0, none⟩ = some (.slice jj l1_0.length jh) := (bC fy.out 0).trans rfl; have fR := bF fy.out 0) | ((with_reducible refine aJ (f := 49) rfl ?_); refine aQ (some 9) rfl rfl Try.func49 z1 rfl #[.slice bu l0_0.length bx, .slice jj l1_0.length jh] rfl z25 ?_; (with_reducible refine (laws_eqBoughS.calls k _ _ l0_0 _ _ l1_0 true _ ?side1 ?side2 ?side3 ?side4 A3.out).mono ?_); (case side1 => repeat (first | exact (aD eb.out HB.out) | (with_reducible refine aE ?_ _) | (with_reducible refine aG ?_ _) | (with_reducible refine aH ?_))); (case side2 => exact ee.out); (case side3 => repeat (first | exact (aD nX.out HB.out) | (with_reducible refine aE ?_ _) | (with_reducible refine aG ?_ _) | (with_reducible refine aH ?_))); (case side4 => exact nZ.out); rintro e w10 ⟨rfl, hb⟩; refine ⟨_, rfl, ?_⟩; have ba := aM (ae (g := eu) (o := .cells #[.slice bu l0_0.length bx] 29 (0, 0)) (by (with_reducible repeat (first | refine aq ?_ _ | refine ap ?_ | refine ar ?_ _)); exact eh.out) hb); have bb := aM (ae (g := fe) (o := .cells #[.slice jj l1_0.length jh] 29 (0, 0)) (by (with_reducible repeat (first | refine aq ?_ _ | refine ap ?_ | refine ar ?_ _)); exact fy.out) hb); have bf := aM (ay (by repeat (first | (with_reducible first | exact HB.out | apply bA | apply pD | apply bD | refine ax ?_ fw.out | refine ax ?_ lz.out) | exact HB.out)) hb); clear eh; clear fy; clear HB; have eh := ba; have fy := bb; have HB := bf; clear ba bb bf; (try clear hb); (try clear hb2); (try clear hk); (try clear hi)))
  go_ret
  exact ⟨y2, by repeat (first | (with_reducible first | exact HB.out | apply bA | apply pD | apply bD | refine ax ?_ fw.out | refine ax ?_ lz.out) | exact HB.out)⟩
 ·replace c4 := Bool.eq_false_iff.mpr c4
  subst c4
  rw [if_neg (show ¬ (false = true) by decide)] at H
  obtain rfl := sI H
  go_enter Try.func18, Try.ntmps18
  go_wp2_with (first | ((with_reducible refine aK (N := 2) rfl ?_); refine aN ?hg (N := 2) ?hd (cs := #[.slice bu l0_0.length bx]) (t := 29) ?hr ?_; (case hd => rfl); (case hg => rfl); (case hr => first | (go_simp; done) | (go_simp; rfl)); intro eu hg w11 hbox hb; have ba := aM (ay z23 hb); have bb := aM (hbox); have bf := aM ((by rw [hg]; exact (az z23) : w.heap.size ≤ eu)); have bk := aM ((by rw [hg]; exact (az z23) : w.heap.size ≤ eu)); clear HB; have HB := ba; have eh := bb; have GW130 := bf; have fw := bk; clear ba bb bf bk; clear hb hbox hg) | ((with_reducible refine aK (N := 3) rfl ?_); refine aN ?hg (N := 3) ?hd (cs := #[.slice jj l1_0.length jh]) (t := 29) ?hr ?_; (case hd => rfl); (case hg => rfl); (case hr => first | (go_simp; done) | (go_simp; rfl)); intro fe hg w12 hbox hb; have ba := aM (ae (g := eu) (o := .cells #[.slice bu l0_0.length bx] 29 (0, 0)) (by (with_reducible repeat (first | refine aq ?_ _ | refine ap ?_ | refine ar ?_ _)); exact eh.out) hb); have bb := aM (ay (by repeat (first | (with_reducible first | exact HB.out | apply bA | apply pD | apply bD | refine ax ?_ fw.out) | exact HB.out)) hb); have bf := aM (hbox); have bk := aM ((by rw [hg]; exact (az (by repeat (first | (with_reducible first | exact HB.out | apply bA | apply pD | apply bD | refine ax ?_ fw.out) | exact HB.out))) : w.heap.size ≤ fe)); have bn := aM ((by rw [hg]; exact (az (by repeat (first | (with_reducible first | exact HB.out | apply bA | apply pD | apply bD | refine ax ?_ fw.out) | exact HB.out))) : w.heap.size ≤ fe)); have br := aM ((by rw [hg]; exact aA (aw (g := eu) (o := .cells #[.slice bu l0_0.length bx] 29 (0, 0)) (by (with_reducible repeat (first | refine aq ?_ _ | refine ap ?_ | refine ar ?_ _)); exact eh.out)) : eu ≠ fe)); have bM := aM ((by rw [hg]; exact aC (aw (g := eu) (o := .cells #[.slice bu l0_0.length bx] 29 (0, 0)) (by (with_reducible repeat (first | refine aq ?_ _ | refine ap ?_ | refine ar ?_ _)); exact eh.out)) : fe ≠ eu)); clear eh; clear HB; have eh := ba; have HB := bb; have fy := bf; have GW131 := bk; have lz := bn; have gT := br; have gS := bM; clear ba bb bf bk bn br bM; clear hb hbox hg; have hnb13 := gT.out; have hnc13 := gS.out; have gq : w12.cell? ⟨eu, 0, none⟩ = some (.slice bu l0_0.length bx) := (bC eh.out 0).trans rfl; have gn := bF eh.out 0; have hcz15_0 : w12.cell? ⟨fe, 0, none⟩ = some (.slice jj l1_0.length jh) := (bC fy.out 0).trans rfl; have hfz15_0 := bF fy.out 0) | ((with_reducible refine aJ (f := 49) rfl ?_); refine aQ (some 9) rfl rfl Try.func49 z1 rfl #[.slice bu l0_0.length bx, .slice jj l1_0.length jh] rfl z25 ?_; (with_reducible refine (laws_eqBoughS.calls k _ _ l0_0 _ _ l1_0 false _ ?side1 ?side2 ?side3 ?side4 A3.out).mono ?_); (case side1 => repeat (first | exact (aD eb.out HB.out) | (with_reducible refine aE ?_ _) | (with_reducible refine aG ?_ _) | (with_reducible refine aH ?_))); (case side2 => exact ee.out); (case side3 => repeat (first | exact (aD nX.out HB.out) | (with_reducible refine aE ?_ _) | (with_reducible refine aG ?_ _) | (with_reducible refine aH ?_))); (case side4 => exact nZ.out); rintro e w16 ⟨rfl, hb⟩; refine ⟨_, rfl, ?_⟩; have ba := aM (ae (g := eu) (o := .cells #[.slice bu l0_0.length bx] 29 (0, 0)) (by (with_reducible repeat (first | refine aq ?_ _ | refine ap ?_ | refine ar ?_ _)); exact eh.out) hb); have bb := aM (ae (g := fe) (o := .cells #[.slice jj l1_0.length jh] 29 (0, 0)) (by (with_reducible repeat (first | refine aq ?_ _ | refine ap ?_ | refine ar ?_ _)); exact fy.out) hb); have bf := aM (ay (by repeat (first | (with_reducible first | exact HB.out | apply bA | apply pD | apply bD | refine ax ?_ fw.out | refine ax ?_ lz.out) | exact HB.out)) hb); clear eh; clear fy; clear HB; have eh := ba; have fy := bb; have HB := bf; clear ba bb bf; (try clear hb); (try clear hb2); (try clear hk); (try clear hi)))
  go_ret
  exact ⟨y2, by repeat (first | (with_reducible first | exact HB.out | apply bA | apply pD | apply bD | refine ax ?_ fw.out | refine ax ?_ lz.out) | exact HB.out)⟩

/-! ### laws_markText: function 67 -/
def laws_markText.l0 : Nat → Int → ByteArray → Option (ByteArray)
 | 0, _, _ => none
 | k + 1, x0, x3 => if x0 > 0 then ((some (([(wrap64 (48 + (Int.tmod x0 10))) % 256] : List Int) : List Int)).bind fun y133 => (if (strOfNums y133).size + x3.size ≤ 9223372036854775807 then (laws_markText.l0 k (wrap64 (Int.tdiv x0 10)) ((strOfNums y133) ++ x3)) else (none))) else (if 1 + x3.size ≤ 9223372036854775807 then (some ((⟨#[109]⟩ : ByteArray) ++ x3)) else (none))
def laws_markText.f (k : Nat) (a0 : Int) : Option (ByteArray) := if a0 ≤ 0 then (some (⟨#[109, 48]⟩ : ByteArray)) else (laws_markText.l0 k a0 (⟨#[]⟩ : ByteArray))
theorem laws_markText.mono_l : ∀ k, (∀ y0 y1, LeO (laws_markText.l0 k y0 y1) (laws_markText.l0 (k + 1) y0 y1))
 | 0 => fun _ _ r h => by simp [laws_markText.l0] at h
 | k + 1 => by
  have ih0 := laws_markText.mono_l k
  ·intro y0 y1
   unfold laws_markText.l0
   repeat' first
   | (with_reducible exact ih0 _ _)
   | (with_reducible exact LeO.refl _)
   | (with_reducible exact LeO.none _)
   | (with_reducible refine LeO.ite ?_ ?_)
   | (with_reducible refine LeO.bind ?_ (fun _ => ?_))
   | exact ih0 _ _
   | exact LeO.none _
   | refine LeO.ite ?_ ?_
   | refine LeO.bind ?_ (fun _ => ?_)
theorem laws_markText.mono : ∀ a0 k, LeO (laws_markText.f k a0) (laws_markText.f (k + 1) a0) := by
 intro a0 k
 have ih0 := laws_markText.mono_l k
 unfold laws_markText.f
 repeat' first
   | (with_reducible exact ih0 _ _)
   | (with_reducible exact LeO.refl _)
   | (with_reducible exact LeO.none _)
   | (with_reducible refine LeO.ite ?_ ?_)
   | (with_reducible refine LeO.bind ?_ (fun _ => ?_))
   | exact ih0 _ _
   | exact LeO.none _
   | refine LeO.ite ?_ ?_
   | refine LeO.bind ?_ (fun _ => ?_)
set_option maxHeartbeats 8000000 in
set_option maxRecDepth 100000 in
theorem laws_markText.calls (k : Nat) (a0 : Int) (r : ByteArray) (w : World) (h : laws_markText.f k a0 = some r) :
  Calls Try.prog 67 #[.int .i64 a0] w fun e w' => e = .returned (.string r) ∧ Below w.heap.size w w' := by
 have HB := aM (Below.refl w.heap.size w)
 have H : (if a0 ≤ 0 then (some (⟨#[109, 48]⟩ : ByteArray)) else (laws_markText.l0 k a0 (⟨#[]⟩ : ByteArray))) = some r := h
 clear h
 by_cases c2 : a0 ≤ 0
 ·rw [if_pos c2] at H
  have c2b0 : decide (a0 ≤ 0) = true := dT c2
  clear c2
  obtain rfl := sI H
  go_enter Try.func67, Try.ntmps67
  go_wp2
  go_ret
  exact ⟨y2, y3⟩
 ·rw [if_neg c2] at H
  have c2b0 : decide (a0 ≤ 0) = false := dF c2
  clear c2
  have H' := aM H
  clear H
  go_enter Try.func67, Try.ntmps67
  go_wp2
  go_loopg [0, 3] k (fun kq v0 v3 w' => ∃ (x0_1 : Int) (x3_1 : ByteArray), v0 = .int .i64 x0_1 ∧ v3 = .string x3_1 ∧ Aside0 (laws_markText.l0 kq x0_1 x3_1 = some r) ∧ Aside0 (kq ≤ k) ∧ Aside0 (Below w.heap.size w w'))
  case atStart => exact ⟨(a0), ((⟨#[]⟩ : ByteArray)), z2, z2, H', ⟨Nat.le_refl _⟩, ⟨y3⟩⟩
  case round =>
   clear H'
   try clear c2
   try clear c2b0
   try clear p2
   obtain ⟨x0_1, x3_1, rfl, rfl, HA, HK1, HB⟩ := hrel
   cases gk with
   | zero => exact absurd HA.out (by simp [laws_markText.l0])
   | succ k1 =>
    have H := HA.out
    clear HA
    simp only [laws_markText.l0] at H
    by_cases c3 : x0_1 > 0
    ·rw [if_pos c3] at H
     have c3b0 : decide (0 < x0_1) = true := dT c3
     clear c3
     obtain ⟨y133, hy133⟩ : ∃ y_ : List Int, y_ = (([(wrap64 (48 + (Int.tmod x0_1 10))) % 256] : List Int)) := ⟨_, rfl⟩
     replace H : (if (strOfNums y133).size + x3_1.size ≤ 9223372036854775807 then (laws_markText.l0 k1 (wrap64 (Int.tdiv x0_1 10)) ((strOfNums y133) ++ x3_1)) else (none)) = some r := by first | (rw [hy133]; with_reducible exact H) | (have H2_ := (Option.bind_some _ _).symm.trans H; rw [hy133]; with_reducible exact H2_) | (have H2_ := (Option.bind_some _ _).symm.trans H; with_reducible exact H2_) | with_reducible exact H | (rw [hy133]; exact H) | exact H
     have Ny133 := aM hy133
     clear hy133
     by_cases c4 : (strOfNums y133).size + x3_1.size ≤ 9223372036854775807
     ·rw [if_pos c4] at H
      have c4b0 := eq_true c4
      have c4b1 : decide ((strOfNums y133).size + x3_1.size ≤ 9223372036854775807) = true := dT c4
      try have c4b2 : (9223372036854775807 < (strOfNums y133).size + x3_1.size) = False := eq_false (Nat.not_lt.2 c4)
      have H' := aM H
      clear H
      go_wp2_with (first | ((with_reducible refine aK (N := 12) rfl ?_); refine Kd.R_lit (Kd.int .u8) _ 5 ?hg (N := 12) ?hd (xs := ([(wrap64 (48 + (Int.tmod x0_1 10))) % 256] : List Int)) (inner := [.int .u8 ((wrap64 (48 + (Int.tmod x0_1 10))) % 256)]) (ok := fun _ => True) (okp := fun _ => True) ?hr ?hp (fun _ hk => hk) trivial (Below.refl _ _) (Nat.le_refl _) (by simp) ?_; (case hd => rfl); (case hg => rfl); (case hr => first | (go_simp; done) | (go_simp; rfl)); (case hp => exact (Reps.one (show Kd.M (Kd.int .u8) _ _ _ ((wrap64 (48 + (Int.tmod x0_1 10))) % 256) [.int .u8 ((wrap64 (48 + (Int.tmod x0_1 10))) % 256)] from rfl) (Reps.none _ _))); intro v134 w5 ho6 hb hg_ hnew_; clear hg_ hnew_; (first | rw [← Ny133.out] at ho6 | (simp only [Int.reduceToNat] at ho6; rw [← Ny133.out] at ho6)); have ba := aM (aU ho6 (az z23)); have bb := aM (ay z23 hb); clear HB; have HO135 := ba; have HB := bb; clear ba bb; clear hb ho6; have hcv7 := own_string (P := Try.prog) Try.underlying54 Try.underlying5 Try.underlying9 (Kd.own_of_R HO135.out)))
      go_roundg k1
      case measure => have := HK1.out; omega
      case rel => exact ⟨(wrap64 (Int.tdiv x0_1 10)), ((strOfNums y133) ++ x3_1), z2, z2, H', ⟨by have := HK1.out; omega⟩, ⟨y3⟩⟩
     ·rw [if_neg c4] at H
      exact absurd H (by simp)
    ·rw [if_neg c3] at H
     have c3b0 : decide (0 < x0_1) = false := dF c3
     clear c3
     by_cases c8 : 1 + x3_1.size ≤ 9223372036854775807
     ·rw [if_pos c8] at H
      have c8b0 := eq_true c8
      have c8b1 : decide (1 + x3_1.size ≤ 9223372036854775807) = true := dT c8
      try have c8b2 : (9223372036854775807 < 1 + x3_1.size) = False := eq_false (Nat.not_lt.2 c8)
      obtain rfl := sI H
      go_wp2
      go_ret
      exact ⟨y2, y3⟩
     ·rw [if_neg c8] at H
      exact absurd H (by simp)

/-! ### laws_markBoughS: function 63 -/
def laws_markBoughS.l0 : Nat → List (S58) → Int → Int → Option (Int × (List (S58)))
 | 0, _, _, _ => none
 | k + 1, x0, x1, x5 => if x5 < (x0.length : Int) then (if 0 ≤ x5 then ((some (x0.set (x5 : Int).toNat (⟨x1, (rd_T58 x0 x5).f1, (rd_T58 x0 x5).f2, (rd_T58 x0 x5).f3, (rd_T58 x0 x5).f4⟩ : S58) : List (S58))).bind fun y136 => ((some (y136.set (x5 : Int).toNat (⟨(rd_T58 y136 x5).f0, wrap64 (x1 + 1), (rd_T58 y136 x5).f2, (rd_T58 y136 x5).f3, (rd_T58 y136 x5).f4⟩ : S58) : List (S58))).bind fun y137 => ((laws_markText.f k (wrap64 ((wrap64 (x1 + 1)) + 1))).bind fun hI => ((some (y137.set (x5 : Int).toNat (⟨(rd_T58 y137 x5).f0, (rd_T58 y137 x5).f1, hI, (rd_T58 y137 x5).f3, (rd_T58 y137 x5).f4⟩ : S58) : List (S58))).bind fun y139 => ((some (y139.set (x5 : Int).toNat (⟨(rd_T58 y139 x5).f0, (rd_T58 y139 x5).f1, (rd_T58 y139 x5).f2, wrap64 ((wrap64 ((wrap64 (x1 + 1)) + 1)) + 1), (rd_T58 y139 x5).f4⟩ : S58) : List (S58))).bind fun y140 => (laws_markBoughS.l0 k (y140.set (x5 : Int).toNat (⟨(rd_T58 y140 x5).f0, (rd_T58 y140 x5).f1, (rd_T58 y140 x5).f2, (rd_T58 y140 x5).f3, wrap64 ((wrap64 ((wrap64 ((wrap64 (x1 + 1)) + 1)) + 1)) + 1)⟩ : S58)) (wrap64 ((wrap64 ((wrap64 ((wrap64 ((wrap64 (x1 + 1)) + 1)) + 1)) + 1)) + 1)) (wrap64 (x5 + 1)))))))) else (none)) else (some (x1, x0))
def laws_markBoughS.f (k : Nat) (l0 : List (S58)) (a1 : Int) : Option (Int × (List (S58))) := laws_markBoughS.l0 k l0 a1 0
theorem laws_markBoughS.mono_l : ∀ k, (∀ y0 y1 y2, LeO (laws_markBoughS.l0 k y0 y1 y2) (laws_markBoughS.l0 (k + 1) y0 y1 y2))
 | 0 => fun _ _ _ r h => by simp [laws_markBoughS.l0] at h
 | k + 1 => by
  have ih0 := laws_markBoughS.mono_l k
  ·intro y0 y1 y2
   unfold laws_markBoughS.l0
   repeat' first
   | (with_reducible exact ih0 _ _ _)
   | (with_reducible exact laws_markText.mono _ _)
   | (with_reducible exact LeO.refl _)
   | (with_reducible exact LeO.none _)
   | (with_reducible refine LeO.ite ?_ ?_)
   | (with_reducible refine LeO.bind ?_ (fun _ => ?_))
   | exact ih0 _ _ _
   | exact laws_markText.mono _ _
   | exact LeO.none _
   | refine LeO.ite ?_ ?_
   | refine LeO.bind ?_ (fun _ => ?_)
theorem laws_markBoughS.mono : ∀ a0 a1 k, LeO (laws_markBoughS.f k a0 a1) (laws_markBoughS.f (k + 1) a0 a1) := by
 intro a0 a1 k
 have ih0 := laws_markBoughS.mono_l k
 unfold laws_markBoughS.f
 repeat' first
   | (with_reducible exact ih0 _ _ _)
   | (with_reducible exact laws_markText.mono _ _)
   | (with_reducible exact LeO.refl _)
   | (with_reducible exact LeO.none _)
   | (with_reducible refine LeO.ite ?_ ?_)
   | (with_reducible refine LeO.bind ?_ (fun _ => ?_))
   | exact ih0 _ _ _
   | exact laws_markText.mono _ _
   | exact LeO.none _
   | refine LeO.ite ?_ ?_
   | refine LeO.bind ?_ (fun _ => ?_)
set_option maxHeartbeats 8000000 in
set_option maxRecDepth 100000 in
theorem laws_markBoughS.calls (k : Nat) (P0_ : Nat → Prop) (u9000_ : Value) (l0 : List (S58)) (a1 : Int) (r1 : Int) (r2 : List (S58)) (w0 w : World) (hB : Below w0.heap.size w0 w) (ho0 : Kd.R k58 58 w w0.heap.size P0_ u9000_ l0) (h : laws_markBoughS.f k l0 a1 = some (r1, r2)) :
  Calls Try.prog 63 #[u9000_, .int .i64 a1] w fun e w' => e = .returned (.int .i64 r1) ∧ Kd.R k58 58 w' w0.heap.size (fun k_ => (P0_ k_ ∨ w.heap.size ≤ k_)) u9000_ r2 ∧ Below w0.heap.size w0 w' ∧ Kept w w' (fun k_ => P0_ k_) := by
 have dA := aM (show Kd.R k58 58 w w0.heap.size (fun k_ => (P0_ k_ ∨ w.heap.size ≤ k_)) u9000_ l0 from ag ho0 (fun k_ hk => (.inl hk)))
 have HK := aM (Kept.refl w (fun k_ => P0_ k_))
 have HW0 := aM hB.size
 have HB := aM hB
 clear hB
 have H : (laws_markBoughS.l0 k l0 a1 0) = some (r1, r2) := h
 clear h
 have H' := aM H
 clear H
 go_enter Try.func63, Try.ntmps63
 go_wp2
 go_loopg [1, 5] k (fun kq v1 v5 w' => ∃ (x0_1 : List (S58)) (x1_1 : Int) (x5_1 : Int), v1 = .int .i64 x1_1 ∧ v5 = .int .i64 x5_1 ∧ Aside0 (laws_markBoughS.l0 kq x0_1 x1_1 x5_1 = some (r1, r2)) ∧ Aside0 (kq ≤ k) ∧ Aside0 (Kd.R k58 58 w' w0.heap.size (fun k_ => (P0_ k_ ∨ w.heap.size ≤ k_)) u9000_ x0_1) ∧ Aside0 (Kept w w' (fun k_ => P0_ k_)) ∧ Aside0 (Below w0.heap.size w0 w'))
 case atStart => exact ⟨(l0), (a1), (0), z2, z2, H', ⟨Nat.le_refl _⟩, ⟨by (with_reducible repeat (first | apply ac | apply ab | apply aa)); exact dA.out⟩, ⟨y11⟩, ⟨y3⟩⟩
 case round =>
  clear H'
  try clear p2
  obtain ⟨x0_1, x1_1, x5_1, rfl, rfl, HA, HK1, cn, HK, HB⟩ := hrel
  cases gk with
  | zero => exact absurd HA.out (by simp [laws_markBoughS.l0])
  | succ k1 =>
   have H := HA.out
   clear HA
   simp only [laws_markBoughS.l0] at H
   by_cases c3 : x5_1 < (x0_1.length : Int)
   ·rw [if_pos c3] at H
    have c3b0 : decide (x5_1 < (x0_1.length : Int)) = true := dT c3
    clear c3
    by_cases c4 : 0 ≤ x5_1
    ·rw [if_pos c4] at H
     have c4b0 : decide (0 ≤ x5_1) = true := dT c4
     clear c4
     obtain ⟨y136, hy136⟩ : ∃ y_ : List (S58), y_ = (x0_1.set (x5_1 : Int).toNat (⟨x1_1, (rd_T58 x0_1 x5_1).f1, (rd_T58 x0_1 x5_1).f2, (rd_T58 x0_1 x5_1).f3, (rd_T58 x0_1 x5_1).f4⟩ : S58)) := ⟨_, rfl⟩
     replace H : ((some (y136.set (x5_1 : Int).toNat (⟨(rd_T58 y136 x5_1).f0, wrap64 (x1_1 + 1), (rd_T58 y136 x5_1).f2, (rd_T58 y136 x5_1).f3, (rd_T58 y136 x5_1).f4⟩ : S58) : List (S58))).bind fun y137 => ((laws_markText.f k1 (wrap64 ((wrap64 (x1_1 + 1)) + 1))).bind fun hI => ((some (y137.set (x5_1 : Int).toNat (⟨(rd_T58 y137 x5_1).f0, (rd_T58 y137 x5_1).f1, hI, (rd_T58 y137 x5_1).f3, (rd_T58 y137 x5_1).f4⟩ : S58) : List (S58))).bind fun y139 => ((some (y139.set (x5_1 : Int).toNat (⟨(rd_T58 y139 x5_1).f0, (rd_T58 y139 x5_1).f1, (rd_T58 y139 x5_1).f2, wrap64 ((wrap64 ((wrap64 (x1_1 + 1)) + 1)) + 1), (rd_T58 y139 x5_1).f4⟩ : S58) : List (S58))).bind fun y140 => (laws_markBoughS.l0 k1 (y140.set (x5_1 : Int).toNat (⟨(rd_T58 y140 x5_1).f0, (rd_T58 y140 x5_1).f1, (rd_T58 y140 x5_1).f2, (rd_T58 y140 x5_1).f3, wrap64 ((wrap64 ((wrap64 ((wrap64 (x1_1 + 1)) + 1)) + 1)) + 1)⟩ : S58)) (wrap64 ((wrap64 ((wrap64 ((wrap64 ((wrap64 (x1_1 + 1)) + 1)) + 1)) + 1)) + 1)) (wrap64 (x5_1 + 1))))))) = some (r1, r2) := by first | (rw [hy136]; with_reducible exact H) | (have H2_ := (Option.bind_some _ _).symm.trans H; rw [hy136]; with_reducible exact H2_) | (have H2_ := (Option.bind_some _ _).symm.trans H; with_reducible exact H2_) | with_reducible exact H | (rw [hy136]; exact H) | exact H
     have Ny136 := aM hy136
     clear hy136
     obtain ⟨y137, hy137⟩ : ∃ y_ : List (S58), y_ = (y136.set (x5_1 : Int).toNat (⟨(rd_T58 y136 x5_1).f0, wrap64 (x1_1 + 1), (rd_T58 y136 x5_1).f2, (rd_T58 y136 x5_1).f3, (rd_T58 y136 x5_1).f4⟩ : S58)) := ⟨_, rfl⟩
     replace H : ((laws_markText.f k1 (wrap64 ((wrap64 (x1_1 + 1)) + 1))).bind fun hI => ((some (y137.set (x5_1 : Int).toNat (⟨(rd_T58 y137 x5_1).f0, (rd_T58 y137 x5_1).f1, hI, (rd_T58 y137 x5_1).f3, (rd_T58 y137 x5_1).f4⟩ : S58) : List (S58))).bind fun y139 => ((some (y139.set (x5_1 : Int).toNat (⟨(rd_T58 y139 x5_1).f0, (rd_T58 y139 x5_1).f1, (rd_T58 y139 x5_1).f2, wrap64 ((wrap64 ((wrap64 (x1_1 + 1)) + 1)) + 1), (rd_T58 y139 x5_1).f4⟩ : S58) : List (S58))).bind fun y140 => (laws_markBoughS.l0 k1 (y140.set (x5_1 : Int).toNat (⟨(rd_T58 y140 x5_1).f0, (rd_T58 y140 x5_1).f1, (rd_T58 y140 x5_1).f2, (rd_T58 y140 x5_1).f3, wrap64 ((wrap64 ((wrap64 ((wrap64 (x1_1 + 1)) + 1)) + 1)) + 1)⟩ : S58)) (wrap64 ((wrap64 ((wrap64 ((wrap64 ((wrap64 (x1_1 + 1)) + 1)) + 1)) + 1)) + 1)) (wrap64 (x5_1 + 1)))))) = some (r1, r2) := by first | (rw [hy137]; with_reducible exact H) | (have H2_ := (Option.bind_some _ _).symm.trans H; rw [hy137]; with_reducible exact H2_) | (have H2_ := (Option.bind_some _ _).symm.trans H; with_reducible exact H2_) | with_reducible exact H | (rw [hy137]; exact H) | exact H
     have Ny137 := aM hy137
     clear hy137
     replace H := oB H
     obtain ⟨hI, oe, H⟩ := H
     try dsimp only at H
     have A7 := aM oe
     clear oe
     obtain ⟨y139, hy139⟩ : ∃ y_ : List (S58), y_ = (y137.set (x5_1 : Int).toNat (⟨(rd_T58 y137 x5_1).f0, (rd_T58 y137 x5_1).f1, hI, (rd_T58 y137 x5_1).f3, (rd_T58 y137 x5_1).f4⟩ : S58)) := ⟨_, rfl⟩
     replace H : ((some (y139.set (x5_1 : Int).toNat (⟨(rd_T58 y139 x5_1).f0, (rd_T58 y139 x5_1).f1, (rd_T58 y139 x5_1).f2, wrap64 ((wrap64 ((wrap64 (x1_1 + 1)) + 1)) + 1), (rd_T58 y139 x5_1).f4⟩ : S58) : List (S58))).bind fun y140 => (laws_markBoughS.l0 k1 (y140.set (x5_1 : Int).toNat (⟨(rd_T58 y140 x5_1).f0, (rd_T58 y140 x5_1).f1, (rd_T58 y140 x5_1).f2, (rd_T58 y140 x5_1).f3, wrap64 ((wrap64 ((wrap64 ((wrap64 (x1_1 + 1)) + 1)) + 1)) + 1)⟩ : S58)) (wrap64 ((wrap64 ((wrap64 ((wrap64 ((wrap64 (x1_1 + 1)) + 1)) + 1)) + 1)) + 1)) (wrap64 (x5_1 + 1)))) = some (r1, r2) := by first | (rw [hy139]; with_reducible exact H) | (have H2_ := (Option.bind_some _ _).symm.trans H; rw [hy139]; with_reducible exact H2_) | (have H2_ := (Option.bind_some _ _).symm.trans H; with_reducible exact H2_) | with_reducible exact H | (rw [hy139]; exact H) | exact H
     have Ny139 := aM hy139
     clear hy139
     obtain ⟨y140, hy140⟩ : ∃ y_ : List (S58), y_ = (y139.set (x5_1 : Int).toNat (⟨(rd_T58 y139 x5_1).f0, (rd_T58 y139 x5_1).f1, (rd_T58 y139 x5_1).f2, wrap64 ((wrap64 ((wrap64 (x1_1 + 1)) + 1)) + 1), (rd_T58 y139 x5_1).f4⟩ : S58)) := ⟨_, rfl⟩
     replace H : (laws_markBoughS.l0 k1 (y140.set (x5_1 : Int).toNat (⟨(rd_T58 y140 x5_1).f0, (rd_T58 y140 x5_1).f1, (rd_T58 y140 x5_1).f2, (rd_T58 y140 x5_1).f3, wrap64 ((wrap64 ((wrap64 ((wrap64 (x1_1 + 1)) + 1)) + 1)) + 1)⟩ : S58)) (wrap64 ((wrap64 ((wrap64 ((wrap64 ((wrap64 (x1_1 + 1)) + 1)) + 1)) + 1)) + 1)) (wrap64 (x5_1 + 1))) = some (r1, r2) := by first | (rw [hy140]; with_reducible exact H) | (have H2_ := (Option.bind_some _ _).symm.trans H; rw [hy140]; with_reducible exact H2_) | (have H2_ := (Option.bind_some _ _).symm.trans H; with_reducible exact H2_) | with_reducible exact H | (rw [hy140]; exact H) | exact H
     have Ny140 := aM hy140
     clear hy140
     obtain ⟨y141, hy141⟩ : ∃ y_ : List (S58), y_ = (y140.set (x5_1 : Int).toNat (⟨(rd_T58 y140 x5_1).f0, (rd_T58 y140 x5_1).f1, (rd_T58 y140 x5_1).f2, (rd_T58 y140 x5_1).f3, wrap64 ((wrap64 ((wrap64 ((wrap64 (x1_1 + 1)) + 1)) + 1)) + 1)⟩ : S58)) := ⟨_, rfl⟩
     replace H : (laws_markBoughS.l0 k1 y141 (wrap64 ((wrap64 ((wrap64 ((wrap64 ((wrap64 (x1_1 + 1)) + 1)) + 1)) + 1)) + 1)) (wrap64 (x5_1 + 1))) = some (r1, r2) := by first | (rw [hy141]; with_reducible exact H) | (have H2_ := (Option.bind_some _ _).symm.trans H; rw [hy141]; with_reducible exact H2_) | (have H2_ := (Option.bind_some _ _).symm.trans H; with_reducible exact H2_) | with_reducible exact H | (rw [hy141]; exact H) | exact H
     have Ny141 := aM hy141
     clear hy141
     have H' := aM H
     clear H
     obtain ⟨er, dN, eo11⟩ := Kd.R_slice cn.out
     subst eo11
     have p5 : 0 ≤ (x5_1 : Int) := oD z3
     have q5 : (x5_1 : Int) < ((x0_1.length : Int) : Int) := oD z3
     obtain ⟨go5, co5, eo5, qn, gl5, cl5, HG5⟩ := Kd.R_form cn.out (by omega)
     (first | cases eo5 | (injection eo5 with ea_ en_ ec_; (first | subst ea_ | (injection ea_ with ea_; subst ea_)); subst ec_; clear en_))
     have GB5 := aM qn
     have GG5 := aM HG5
     clear qn gl5 HG5
     have HMgo5 := aM (show (P0_ go5 ∨ w.heap.size ≤ go5) from (cn.out.1 _ rfl))
     obtain ⟨ce5, hcl5, hM5, hcc5, hfr5⟩ := Kd.R_elem cn.out z58 (x5_1 : Int) p5 q5
     obtain rfl := k58_openM hM5
     have hx5_0 : wr.cell? ⟨go5, (x5_1 : Int).toNat * 5, none⟩ = some (.int .i64 ((rd_T58 x0_1 x5_1).f0)) := hcc5 0 _ rfl
     have hx5_1 : wr.cell? ⟨go5, (x5_1 : Int).toNat * 5 + 1, none⟩ = some (.int .i64 ((rd_T58 x0_1 x5_1).f1)) := hcc5 1 _ rfl
     have hx5_2 : wr.cell? ⟨go5, (x5_1 : Int).toNat * 5 + 2, none⟩ = some (.string ((rd_T58 x0_1 x5_1).f2)) := hcc5 2 _ rfl
     have hx5_3 : wr.cell? ⟨go5, (x5_1 : Int).toNat * 5 + 3, none⟩ = some (.int .i64 ((rd_T58 x0_1 x5_1).f3)) := hcc5 3 _ rfl
     have hx5_4 : wr.cell? ⟨go5, (x5_1 : Int).toNat * 5 + 4, none⟩ = some (.int .i64 ((rd_T58 x0_1 x5_1).f4)) := hcc5 4 _ rfl
     have hf5_0 : wr.frozen? ⟨go5, (x5_1 : Int).toNat * 5, none⟩ = false := hfr5 0
     have hf5_1 : wr.frozen? ⟨go5, (x5_1 : Int).toNat * 5 + 1, none⟩ = false := hfr5 1
     have hf5_2 : wr.frozen? ⟨go5, (x5_1 : Int).toNat * 5 + 2, none⟩ = false := hfr5 2
     have hf5_3 : wr.frozen? ⟨go5, (x5_1 : Int).toNat * 5 + 3, none⟩ = false := hfr5 3
     have hf5_4 : wr.frozen? ⟨go5, (x5_1 : Int).toNat * 5 + 4, none⟩ = false := hfr5 4
     clear hcl5 hcc5 hfr5; (try clear hM5)
     replace p5 := eq_true p5
     replace q5 := eq_true q5
     have HX12 := aM (show Kd.R k58 58 wr w0.heap.size (fun k_ => (P0_ k_ ∨ w.heap.size ≤ k_)) (.slice (some ⟨go5, 0, none⟩) x0_1.length dN) x0_1 from (by (with_reducible repeat (first | apply ac | apply ab | apply aa)); exact cn.out))
     obtain ⟨ce12, hcl12, hM12, hcc12, hfr12⟩ := Kd.R_elem HX12.out z58 (x5_1 : Int) (oD z3) (by have h_ : (x5_1 : Int) < ((x0_1.length : Int) : Int) := oD z3; first | exact h_ | (have e_ := (ah cn.out).1; omega) | simpa using h_)
     obtain rfl := k58_openM hM12
     have HP12 := Kd.R_seg HX12.out (x5_1 : Int) (oD z3) (by have h_ : (x5_1 : Int) < ((x0_1.length : Int) : Int) := oD z3; first | exact h_ | (have e_ := (ah cn.out).1; omega) | simpa using h_) (seg := [.int .i64 x1_1]) (j := 0) hcl12 hcc12 (show 1 ≤ 5 from by decide) (x' := (⟨x1_1, (rd_T58 x0_1 x5_1).f1, (rd_T58 x0_1 x5_1).f2, (rd_T58 x0_1 x5_1).f3, (rd_T58 x0_1 x5_1).f4⟩ : S58)) (k58_mkM _ _ _ (⟨x1_1, (rd_T58 x0_1 x5_1).f1, (rd_T58 x0_1 x5_1).f2, (rd_T58 x0_1 x5_1).f3, (rd_T58 x0_1 x5_1).f4⟩ : S58) ) (fun _ hk => hk)
     have hx12_0 := hcc12 0 _ rfl
     (try simp only [show (k58).sz = 5 from rfl, Nat.mul_one, Nat.add_zero] at hx12_0)
     have hf12_0 := hfr12 0
     (try simp only [show (k58).sz = 5 from rfl, Nat.mul_one, Nat.add_zero] at hf12_0)
     clear hcl12 hcc12 hfr12; (try clear hM12)
     go_wp2_with (first | ((with_reducible refine gate_store (t := 3) (p := 16) rfl ?_); refine store_event (t := 3) (p := 16) (v := ?vo_w13) (w1 := (wr.setCell ⟨go5, (x5_1 : Int).toNat * 5, none⟩ (.int .i64 x1_1))) ?hg ?ho ?hn ?hr ?_; (case ho => rfl); (case hg => rfl); (case hn => rfl); (case hr => first | (go_simp; done) | (go_simp; rfl) | ((try simp only [aV] at *); go_simp; first | done | rfl)); intro w13 hw; have hg : wr.grownBy w13 (some go5) := (by rw [hw]; exact HP12.2); have hp_ : Kd.R k58 58 w13 w0.heap.size (fun k_ => (P0_ k_ ∨ w.heap.size ≤ k_)) (.slice (some ⟨go5, 0, none⟩) x0_1.length dN) y136 := (by rw [hw, Ny136.out]; exact HP12.1); clear HP12; have ba := aM (hp_); have bb := aM ((by rw [hw]; exact ax (HB.out) GB5.out : Below w0.heap.size w0 w13)); have bf := aM (Kept.of_grown (S := (fun k_ => P0_ k_)) hg z22 (fun k_ e_ => (cn.out.1 k_ e_))); clear cn; clear HB; clear HK; have cn := ba; have HB := bb; have HK := bf; clear ba bb bf; clear hg hw hp_; have p6 : 0 ≤ (x5_1 : Int) := oD z3; have q6 : (x5_1 : Int) < ((x0_1.length : Int) : Int) := oD z3; obtain ⟨ce6, hcl6, hM6, hcc6, hfr6⟩ := Kd.R_elem cn.out z58 (x5_1 : Int) p6 q6; obtain rfl := k58_openM hM6; have hx6_0 : w13.cell? ⟨go5, (x5_1 : Int).toNat * 5, none⟩ = some (.int .i64 ((rd_T58 y136 x5_1).f0)) := hcc6 0 _ rfl; have hx6_1 : w13.cell? ⟨go5, (x5_1 : Int).toNat * 5 + 1, none⟩ = some (.int .i64 ((rd_T58 y136 x5_1).f1)) := hcc6 1 _ rfl; have hx6_2 : w13.cell? ⟨go5, (x5_1 : Int).toNat * 5 + 2, none⟩ = some (.string ((rd_T58 y136 x5_1).f2)) := hcc6 2 _ rfl; have hx6_3 : w13.cell? ⟨go5, (x5_1 : Int).toNat * 5 + 3, none⟩ = some (.int .i64 ((rd_T58 y136 x5_1).f3)) := hcc6 3 _ rfl; have hx6_4 : w13.cell? ⟨go5, (x5_1 : Int).toNat * 5 + 4, none⟩ = some (.int .i64 ((rd_T58 y136 x5_1).f4)) := hcc6 4 _ rfl; have hf6_0 : w13.frozen? ⟨go5, (x5_1 : Int).toNat * 5, none⟩ = false := hfr6 0; have hf6_1 : w13.frozen? ⟨go5, (x5_1 : Int).toNat * 5 + 1, none⟩ = false := hfr6 1; have hf6_2 : w13.frozen? ⟨go5, (x5_1 : Int).toNat * 5 + 2, none⟩ = false := hfr6 2; have hf6_3 : w13.frozen? ⟨go5, (x5_1 : Int).toNat * 5 + 3, none⟩ = false := hfr6 3; have hf6_4 : w13.frozen? ⟨go5, (x5_1 : Int).toNat * 5 + 4, none⟩ = false := hfr6 4; clear hcl6 hcc6 hfr6; (try clear hM6); replace p6 := eq_true p6; replace q6 := eq_true q6; have HX14 := aM (show Kd.R k58 58 w13 w0.heap.size (fun k_ => (P0_ k_ ∨ w.heap.size ≤ k_)) (.slice (some ⟨go5, 0, none⟩) x0_1.length dN) y136 from (by (with_reducible repeat (first | apply ac | apply ab | apply aa)); exact cn.out)); obtain ⟨ce14, hcl14, hM14, hcc14, hfr14⟩ := Kd.R_elem HX14.out z58 (x5_1 : Int) (oD z3) (by have h_ : (x5_1 : Int) < ((x0_1.length : Int) : Int) := oD z3; first | exact h_ | (have e_ := (ah cn.out).1; omega) | simpa using h_); obtain rfl := k58_openM hM14; have HP14 := Kd.R_seg HX14.out (x5_1 : Int) (oD z3) (by have h_ : (x5_1 : Int) < ((x0_1.length : Int) : Int) := oD z3; first | exact h_ | (have e_ := (ah cn.out).1; omega) | simpa using h_) (seg := [.int .i64 (wrap64 (x1_1 + 1))]) (j := 1) hcl14 hcc14 (show 2 ≤ 5 from by decide) (x' := (⟨(rd_T58 y136 x5_1).f0, wrap64 (x1_1 + 1), (rd_T58 y136 x5_1).f2, (rd_T58 y136 x5_1).f3, (rd_T58 y136 x5_1).f4⟩ : S58)) (k58_mkM _ _ _ (⟨(rd_T58 y136 x5_1).f0, wrap64 (x1_1 + 1), (rd_T58 y136 x5_1).f2, (rd_T58 y136 x5_1).f3, (rd_T58 y136 x5_1).f4⟩ : S58) ) (fun _ hk => hk); have hx14_1 := hcc14 1 _ rfl; (try simp only [show (k58).sz = 5 from rfl, Nat.mul_one, Nat.add_zero] at hx14_1); have hf14_1 := hfr14 1; (try simp only [show (k58).sz = 5 from rfl, Nat.mul_one, Nat.add_zero] at hf14_1); clear hcl14 hcc14 hfr14; (try clear hM14)) | ((with_reducible refine gate_store (t := 3) (p := 23) rfl ?_); refine store_event (t := 3) (p := 23) (v := ?vo_w15) (w1 := (w13.setCell ⟨go5, (x5_1 : Int).toNat * 5 + 1, none⟩ (.int .i64 (wrap64 (x1_1 + 1))))) ?hg ?ho ?hn ?hr ?_; (case ho => rfl); (case hg => rfl); (case hn => rfl); (case hr => first | (go_simp; done) | (go_simp; rfl) | ((try simp only [aV] at *); go_simp; first | done | rfl)); intro w15 hw; have hg : w13.grownBy w15 (some go5) := (by rw [hw]; exact HP14.2); have hp_ : Kd.R k58 58 w15 w0.heap.size (fun k_ => (P0_ k_ ∨ w.heap.size ≤ k_)) (.slice (some ⟨go5, 0, none⟩) x0_1.length dN) y137 := (by rw [hw, Ny137.out]; exact HP14.1); clear HP14; have ba := aM (hp_); have bb := aM ((by rw [hw]; exact ax (HB.out) GB5.out : Below w0.heap.size w0 w15)); have bf := aM (Kept.of_grown (S := (fun k_ => P0_ k_)) hg z22 (fun k_ e_ => (cn.out.1 k_ e_))); clear cn; clear HB; clear HK; have cn := ba; have HB := bb; have HK := bf; clear ba bb bf; clear hg hw hp_) | ((with_reducible refine aJ (f := 67) rfl ?_); refine aQ (some 29) rfl rfl Try.func67 z1 rfl #[.int .i64 (wrap64 ((wrap64 (x1_1 + 1)) + 1))] rfl z25 ?_; (with_reducible refine (laws_markText.calls k1 (wrap64 ((wrap64 (x1_1 + 1)) + 1)) hI _ A7.out).mono ?_); rintro e w16 ⟨rfl, hb⟩; refine ⟨_, rfl, ?_⟩; have ba := aM (af (by (with_reducible repeat (first | apply ac | apply ab | apply aa)); exact cn.out) hb); have bb := aM (Kept.below (S := (fun k_ => P0_ k_)) z22 hb); have bf := aM (ay z23 hb); clear cn; clear HK; clear HB; have cn := ba; have HK := bb; have HB := bf; clear ba bb bf; (try clear hb); (try clear hb2); (try clear hk); (try clear hi); have p8 : 0 ≤ (x5_1 : Int) := oD z3; have q8 : (x5_1 : Int) < ((x0_1.length : Int) : Int) := oD z3; obtain ⟨ce8, hcl8, hM8, hcc8, hfr8⟩ := Kd.R_elem cn.out z58 (x5_1 : Int) p8 q8; obtain rfl := k58_openM hM8; have hx8_0 : w16.cell? ⟨go5, (x5_1 : Int).toNat * 5, none⟩ = some (.int .i64 ((rd_T58 y137 x5_1).f0)) := hcc8 0 _ rfl; have hx8_1 : w16.cell? ⟨go5, (x5_1 : Int).toNat * 5 + 1, none⟩ = some (.int .i64 ((rd_T58 y137 x5_1).f1)) := hcc8 1 _ rfl; have hx8_2 : w16.cell? ⟨go5, (x5_1 : Int).toNat * 5 + 2, none⟩ = some (.string ((rd_T58 y137 x5_1).f2)) := hcc8 2 _ rfl; have hx8_3 : w16.cell? ⟨go5, (x5_1 : Int).toNat * 5 + 3, none⟩ = some (.int .i64 ((rd_T58 y137 x5_1).f3)) := hcc8 3 _ rfl; have hx8_4 : w16.cell? ⟨go5, (x5_1 : Int).toNat * 5 + 4, none⟩ = some (.int .i64 ((rd_T58 y137 x5_1).f4)) := hcc8 4 _ rfl; have hf8_0 : w16.frozen? ⟨go5, (x5_1 : Int).toNat * 5, none⟩ = false := hfr8 0; have hf8_1 : w16.frozen? ⟨go5, (x5_1 : Int).toNat * 5 + 1, none⟩ = false := hfr8 1; have hf8_2 : w16.frozen? ⟨go5, (x5_1 : Int).toNat * 5 + 2, none⟩ = false := hfr8 2; have hf8_3 : w16.frozen? ⟨go5, (x5_1 : Int).toNat * 5 + 3, none⟩ = false := hfr8 3; have hf8_4 : w16.frozen? ⟨go5, (x5_1 : Int).toNat * 5 + 4, none⟩ = false := hfr8 4; clear hcl8 hcc8 hfr8; (try clear hM8); replace p8 := eq_true p8; replace q8 := eq_true q8; have HX17 := aM (show Kd.R k58 58 w16 w0.heap.size (fun k_ => (P0_ k_ ∨ w.heap.size ≤ k_)) (.slice (some ⟨go5, 0, none⟩) x0_1.length dN) y137 from (by (with_reducible repeat (first | apply ac | apply ab | apply aa)); exact cn.out)); obtain ⟨ce17, hcl17, hM17, hcc17, hfr17⟩ := Kd.R_elem HX17.out z58 (x5_1 : Int) (oD z3) (by have h_ : (x5_1 : Int) < ((x0_1.length : Int) : Int) := oD z3; first | exact h_ | (have e_ := (ah cn.out).1; omega) | simpa using h_); obtain rfl := k58_openM hM17; have HP17 := Kd.R_seg HX17.out (x5_1 : Int) (oD z3) (by have h_ : (x5_1 : Int) < ((x0_1.length : Int) : Int) := oD z3; first | exact h_ | (have e_ := (ah cn.out).1; omega) | simpa using h_) (seg := [.string hI]) (j := 2) hcl17 hcc17 (show 3 ≤ 5 from by decide) (x' := (⟨(rd_T58 y137 x5_1).f0, (rd_T58 y137 x5_1).f1, hI, (rd_T58 y137 x5_1).f3, (rd_T58 y137 x5_1).f4⟩ : S58)) (k58_mkM _ _ _ (⟨(rd_T58 y137 x5_1).f0, (rd_T58 y137 x5_1).f1, hI, (rd_T58 y137 x5_1).f3, (rd_T58 y137 x5_1).f4⟩ : S58) ) (fun _ hk => hk); have hx17_2 := hcc17 2 _ rfl; (try simp only [show (k58).sz = 5 from rfl, Nat.mul_one, Nat.add_zero] at hx17_2); have hf17_2 := hfr17 2; (try simp only [show (k58).sz = 5 from rfl, Nat.mul_one, Nat.add_zero] at hf17_2); clear hcl17 hcc17 hfr17; (try clear hM17)) | ((with_reducible refine gate_store (t := 9) (p := 31) rfl ?_); refine store_event (t := 9) (p := 31) (v := ?vo_w18) (w1 := (w16.setCell ⟨go5, (x5_1 : Int).toNat * 5 + 2, none⟩ (.string hI))) ?hg ?ho ?hn ?hr ?_; (case ho => rfl); (case hg => rfl); (case hn => rfl); (case hr => first | (go_simp; done) | (go_simp; rfl) | ((try simp only [aV] at *); go_simp; first | done | rfl)); intro w18 hw; have hg : w16.grownBy w18 (some go5) := (by rw [hw]; exact HP17.2); have hp_ : Kd.R k58 58 w18 w0.heap.size (fun k_ => (P0_ k_ ∨ w.heap.size ≤ k_)) (.slice (some ⟨go5, 0, none⟩) x0_1.length dN) y139 := (by rw [hw, Ny139.out]; exact HP17.1); clear HP17; have ba := aM (hp_); have bb := aM ((by rw [hw]; exact ax (HB.out) GB5.out : Below w0.heap.size w0 w18)); have bf := aM (Kept.of_grown (S := (fun k_ => P0_ k_)) hg z22 (fun k_ e_ => (cn.out.1 k_ e_))); clear cn; clear HB; clear HK; have cn := ba; have HB := bb; have HK := bf; clear ba bb bf; clear hg hw hp_; have p9 : 0 ≤ (x5_1 : Int) := oD z3; have q9 : (x5_1 : Int) < ((x0_1.length : Int) : Int) := oD z3; obtain ⟨ce9, hcl9, hM9, hcc9, hfr9⟩ := Kd.R_elem cn.out z58 (x5_1 : Int) p9 q9; obtain rfl := k58_openM hM9; have hx9_0 : w18.cell? ⟨go5, (x5_1 : Int).toNat * 5, none⟩ = some (.int .i64 ((rd_T58 y139 x5_1).f0)) := hcc9 0 _ rfl; have hx9_1 : w18.cell? ⟨go5, (x5_1 : Int).toNat * 5 + 1, none⟩ = some (.int .i64 ((rd_T58 y139 x5_1).f1)) := hcc9 1 _ rfl; have hx9_2 : w18.cell? ⟨go5, (x5_1 : Int).toNat * 5 + 2, none⟩ = some (.string ((rd_T58 y139 x5_1).f2)) := hcc9 2 _ rfl; have hx9_3 : w18.cell? ⟨go5, (x5_1 : Int).toNat * 5 + 3, none⟩ = some (.int .i64 ((rd_T58 y139 x5_1).f3)) := hcc9 3 _ rfl; have hx9_4 : w18.cell? ⟨go5, (x5_1 : Int).toNat * 5 + 4, none⟩ = some (.int .i64 ((rd_T58 y139 x5_1).f4)) := hcc9 4 _ rfl; have hf9_0 : w18.frozen? ⟨go5, (x5_1 : Int).toNat * 5, none⟩ = false := hfr9 0; have hf9_1 : w18.frozen? ⟨go5, (x5_1 : Int).toNat * 5 + 1, none⟩ = false := hfr9 1; have hf9_2 : w18.frozen? ⟨go5, (x5_1 : Int).toNat * 5 + 2, none⟩ = false := hfr9 2; have hf9_3 : w18.frozen? ⟨go5, (x5_1 : Int).toNat * 5 + 3, none⟩ = false := hfr9 3; have hf9_4 : w18.frozen? ⟨go5, (x5_1 : Int).toNat * 5 + 4, none⟩ = false := hfr9 4; clear hcl9 hcc9 hfr9; (try clear hM9); replace p9 := eq_true p9; replace q9 := eq_true q9; have HX19 := aM (show Kd.R k58 58 w18 w0.heap.size (fun k_ => (P0_ k_ ∨ w.heap.size ≤ k_)) (.slice (some ⟨go5, 0, none⟩) x0_1.length dN) y139 from (by (with_reducible repeat (first | apply ac | apply ab | apply aa)); exact cn.out)); obtain ⟨ce19, hcl19, hM19, hcc19, hfr19⟩ := Kd.R_elem HX19.out z58 (x5_1 : Int) (oD z3) (by have h_ : (x5_1 : Int) < ((x0_1.length : Int) : Int) := oD z3; first | exact h_ | (have e_ := (ah cn.out).1; omega) | simpa using h_); obtain rfl := k58_openM hM19; have HP19 := Kd.R_seg HX19.out (x5_1 : Int) (oD z3) (by have h_ : (x5_1 : Int) < ((x0_1.length : Int) : Int) := oD z3; first | exact h_ | (have e_ := (ah cn.out).1; omega) | simpa using h_) (seg := [.int .i64 (wrap64 ((wrap64 ((wrap64 (x1_1 + 1)) + 1)) + 1))]) (j := 3) hcl19 hcc19 (show 4 ≤ 5 from by decide) (x' := (⟨(rd_T58 y139 x5_1).f0, (rd_T58 y139 x5_1).f1, (rd_T58 y139 x5_1).f2, wrap64 ((wrap64 ((wrap64 (x1_1 + 1)) + 1)) + 1), (rd_T58 y139 x5_1).f4⟩ : S58)) (k58_mkM _ _ _ (⟨(rd_T58 y139 x5_1).f0, (rd_T58 y139 x5_1).f1, (rd_T58 y139 x5_1).f2, wrap64 ((wrap64 ((wrap64 (x1_1 + 1)) + 1)) + 1), (rd_T58 y139 x5_1).f4⟩ : S58) ) (fun _ hk => hk); have hx19_3 := hcc19 3 _ rfl; (try simp only [show (k58).sz = 5 from rfl, Nat.mul_one, Nat.add_zero] at hx19_3); have hf19_3 := hfr19 3; (try simp only [show (k58).sz = 5 from rfl, Nat.mul_one, Nat.add_zero] at hf19_3); clear hcl19 hcc19 hfr19; (try clear hM19)) | ((with_reducible refine gate_store (t := 3) (p := 38) rfl ?_); refine store_event (t := 3) (p := 38) (v := ?vo_w20) (w1 := (w18.setCell ⟨go5, (x5_1 : Int).toNat * 5 + 3, none⟩ (.int .i64 (wrap64 ((wrap64 ((wrap64 (x1_1 + 1)) + 1)) + 1))))) ?hg ?ho ?hn ?hr ?_; (case ho => rfl); (case hg => rfl); (case hn => rfl); (case hr => first | (go_simp; done) | (go_simp; rfl) | ((try simp only [aV] at *); go_simp; first | done | rfl)); intro w20 hw; have hg : w18.grownBy w20 (some go5) := (by rw [hw]; exact HP19.2); have hp_ : Kd.R k58 58 w20 w0.heap.size (fun k_ => (P0_ k_ ∨ w.heap.size ≤ k_)) (.slice (some ⟨go5, 0, none⟩) x0_1.length dN) y140 := (by rw [hw, Ny140.out]; exact HP19.1); clear HP19; have ba := aM (hp_); have bb := aM ((by rw [hw]; exact ax (HB.out) GB5.out : Below w0.heap.size w0 w20)); have bf := aM (Kept.of_grown (S := (fun k_ => P0_ k_)) hg z22 (fun k_ e_ => (cn.out.1 k_ e_))); clear cn; clear HB; clear HK; have cn := ba; have HB := bb; have HK := bf; clear ba bb bf; clear hg hw hp_; have p10 : 0 ≤ (x5_1 : Int) := oD z3; have q10 : (x5_1 : Int) < ((x0_1.length : Int) : Int) := oD z3; obtain ⟨ce10, hcl10, hM10, hcc10, hfr10⟩ := Kd.R_elem cn.out z58 (x5_1 : Int) p10 q10; obtain rfl := k58_openM hM10; have hx10_0 : w20.cell? ⟨go5, (x5_1 : Int).toNat * 5, none⟩ = some (.int .i64 ((rd_T58 y140 x5_1).f0)) := hcc10 0 _ rfl; have hx10_1 : w20.cell? ⟨go5, (x5_1 : Int).toNat * 5 + 1, none⟩ = some (.int .i64 ((rd_T58 y140 x5_1).f1)) := hcc10 1 _ rfl; have hx10_2 : w20.cell? ⟨go5, (x5_1 : Int).toNat * 5 + 2, none⟩ = some (.string ((rd_T58 y140 x5_1).f2)) := hcc10 2 _ rfl; have hx10_3 : w20.cell? ⟨go5, (x5_1 : Int).toNat * 5 + 3, none⟩ = some (.int .i64 ((rd_T58 y140 x5_1).f3)) := hcc10 3 _ rfl; have hx10_4 : w20.cell? ⟨go5, (x5_1 : Int).toNat * 5 + 4, none⟩ = some (.int .i64 ((rd_T58 y140 x5_1).f4)) := hcc10 4 _ rfl; have hf10_0 : w20.frozen? ⟨go5, (x5_1 : Int).toNat * 5, none⟩ = false := hfr10 0; have hf10_1 : w20.frozen? ⟨go5, (x5_1 : Int).toNat * 5 + 1, none⟩ = false := hfr10 1; have hf10_2 : w20.frozen? ⟨go5, (x5_1 : Int).toNat * 5 + 2, none⟩ = false := hfr10 2; have hf10_3 : w20.frozen? ⟨go5, (x5_1 : Int).toNat * 5 + 3, none⟩ = false := hfr10 3; have hf10_4 : w20.frozen? ⟨go5, (x5_1 : Int).toNat * 5 + 4, none⟩ = false := hfr10 4; clear hcl10 hcc10 hfr10; (try clear hM10); replace p10 := eq_true p10; replace q10 := eq_true q10; have HX21 := aM (show Kd.R k58 58 w20 w0.heap.size (fun k_ => (P0_ k_ ∨ w.heap.size ≤ k_)) (.slice (some ⟨go5, 0, none⟩) x0_1.length dN) y140 from (by (with_reducible repeat (first | apply ac | apply ab | apply aa)); exact cn.out)); obtain ⟨ce21, hcl21, hM21, hcc21, hfr21⟩ := Kd.R_elem HX21.out z58 (x5_1 : Int) (oD z3) (by have h_ : (x5_1 : Int) < ((x0_1.length : Int) : Int) := oD z3; first | exact h_ | (have e_ := (ah cn.out).1; omega) | simpa using h_); obtain rfl := k58_openM hM21; have HP21 := Kd.R_seg HX21.out (x5_1 : Int) (oD z3) (by have h_ : (x5_1 : Int) < ((x0_1.length : Int) : Int) := oD z3; first | exact h_ | (have e_ := (ah cn.out).1; omega) | simpa using h_) (seg := [.int .i64 (wrap64 ((wrap64 ((wrap64 ((wrap64 (x1_1 + 1)) + 1)) + 1)) + 1))]) (j := 4) hcl21 hcc21 (show 5 ≤ 5 from by decide) (x' := (⟨(rd_T58 y140 x5_1).f0, (rd_T58 y140 x5_1).f1, (rd_T58 y140 x5_1).f2, (rd_T58 y140 x5_1).f3, wrap64 ((wrap64 ((wrap64 ((wrap64 (x1_1 + 1)) + 1)) + 1)) + 1)⟩ : S58)) (k58_mkM _ _ _ (⟨(rd_T58 y140 x5_1).f0, (rd_T58 y140 x5_1).f1, (rd_T58 y140 x5_1).f2, (rd_T58 y140 x5_1).f3, wrap64 ((wrap64 ((wrap64 ((wrap64 (x1_1 + 1)) + 1)) + 1)) + 1)⟩ : S58) ) (fun _ hk => hk); have hx21_4 := hcc21 4 _ rfl; (try simp only [show (k58).sz = 5 from rfl, Nat.mul_one, Nat.add_zero] at hx21_4); have hf21_4 := hfr21 4; (try simp only [show (k58).sz = 5 from rfl, Nat.mul_one, Nat.add_zero] at hf21_4); clear hcl21 hcc21 hfr21; (try clear hM21)) | ((with_reducible refine gate_store (t := 3) (p := 45) rfl ?_); refine store_event (t := 3) (p := 45) (v := ?vo_w22) (w1 := (w20.setCell ⟨go5, (x5_1 : Int).toNat * 5 + 4, none⟩ (.int .i64 (wrap64 ((wrap64 ((wrap64 ((wrap64 (x1_1 + 1)) + 1)) + 1)) + 1))))) ?hg ?ho ?hn ?hr ?_; (case ho => rfl); (case hg => rfl); (case hn => rfl); (case hr => first | (go_simp; done) | (go_simp; rfl) | ((try simp only [aV] at *); go_simp; first | done | rfl)); intro w22 hw; have hg : w20.grownBy w22 (some go5) := (by rw [hw]; exact HP21.2); have hp_ : Kd.R k58 58 w22 w0.heap.size (fun k_ => (P0_ k_ ∨ w.heap.size ≤ k_)) (.slice (some ⟨go5, 0, none⟩) x0_1.length dN) y141 := (by rw [hw, Ny141.out]; exact HP21.1); clear HP21; have ba := aM (hp_); have bb := aM ((by rw [hw]; exact ax (HB.out) GB5.out : Below w0.heap.size w0 w22)); have bf := aM (Kept.of_grown (S := (fun k_ => P0_ k_)) hg z22 (fun k_ e_ => (cn.out.1 k_ e_))); clear cn; clear HB; clear HK; have cn := ba; have HB := bb; have HK := bf; clear ba bb bf; clear hg hw hp_))
     go_roundg k1
     case measure => have := HK1.out; omega
     case rel => exact ⟨(y141), (wrap64 ((wrap64 ((wrap64 ((wrap64 ((wrap64 (x1_1 + 1)) + 1)) + 1)) + 1)) + 1)), (wrap64 (x5_1 + 1)), z2, z2, H', ⟨by have := HK1.out; omega⟩, ⟨by (with_reducible repeat (first | apply ac | apply ab | apply aa)); exact cn.out⟩, ⟨y11⟩, ⟨y3⟩⟩
    ·rw [if_neg c4] at H
     exact absurd H (by simp)
   ·rw [if_neg c3] at H
    have c3b0 : decide (x5_1 < (x0_1.length : Int)) = false := dF c3
    clear c3
    simp only [Option.some.injEq, Prod.mk.injEq] at H
    obtain ⟨rfl, rfl⟩ := H
    obtain ⟨Ao23, co23, eo23⟩ := Kd.R_slice cn.out
    subst eo23
    go_wp2
    go_ret
    exact ⟨y2, by (with_reducible repeat (first | apply ac | apply ab | apply aa)); exact cn.out, y3, y11⟩

/-! ### laws_markRope: function 27 -/
def laws_markRope.f (k : Nat) (l0_0 : List (S58)) (a1 : Int) : Option (Int × (List (S58))) := (laws_markBoughS.f k l0_0 a1).bind fun ls => (some (ls.1, ls.2))
theorem laws_markRope.mono : ∀ a0 a1 k, LeO (laws_markRope.f k a0 a1) (laws_markRope.f (k + 1) a0 a1) := by
 intro a0 a1 k
 unfold laws_markRope.f
 repeat' first
   | (with_reducible exact laws_markBoughS.mono _ _ _)
   | (with_reducible exact LeO.refl _)
   | (with_reducible exact LeO.none _)
   | (with_reducible refine LeO.ite ?_ ?_)
   | (with_reducible refine LeO.bind ?_ (fun _ => ?_))
   | exact laws_markBoughS.mono _ _ _
   | exact LeO.none _
   | refine LeO.ite ?_ ?_
   | refine LeO.bind ?_ (fun _ => ?_)
set_option maxHeartbeats 8000000 in
set_option maxRecDepth 100000 in
theorem laws_markRope.calls (k : Nat) (P0_0_ : Nat → Prop) (u9000_ : Value) (l0_0 : List (S58)) (a1 : Int) (r1 : Int) (r2 : List (S58)) (w0 w : World) (hB : Below w0.heap.size w0 w) (ho0_0 : Kd.R k58 58 w w0.heap.size P0_0_ u9000_ l0_0) (h : laws_markRope.f k l0_0 a1 = some (r1, r2)) :
  Calls Try.prog 27 #[.agg #[u9000_], .int .i64 a1] w fun e w' => e = .returned (.int .i64 r1) ∧ Kd.R k58 58 w' w0.heap.size (fun k_ => (P0_0_ k_ ∨ w.heap.size ≤ k_)) u9000_ r2 ∧ Below w0.heap.size w0 w' ∧ Kept w w' (fun k_ => P0_0_ k_) := by
 have hu29 := Try.underlying29
 have cd := aM (show Kd.R k58 58 w w0.heap.size (fun k_ => (P0_0_ k_ ∨ w.heap.size ≤ k_)) u9000_ l0_0 from ag ho0_0 (fun k_ hk => (.inl hk)))
 have HK := aM (Kept.refl w (fun k_ => P0_0_ k_))
 have HW0 := aM hB.size
 have HB := aM hB
 clear hB
 have H : ((laws_markBoughS.f k l0_0 a1).bind fun ls => (some (ls.1, ls.2))) = some (r1, r2) := h
 clear h
 replace H := oB H
 obtain ⟨⟨t143, t144⟩, iP, H⟩ := H
 try dsimp only at H
 have A3 := aM iP
 clear iP
 simp only [Option.some.injEq, Prod.mk.injEq] at H
 obtain ⟨rfl, rfl⟩ := H
 obtain ⟨pn, pj, eo4⟩ := Kd.R_slice cd.out
 subst eo4
 go_enter Try.func27, Try.ntmps27
 go_wp2_with (first | ((with_reducible refine aK (N := 2) rfl ?_); refine aN ?hg (N := 2) ?hd (cs := #[.slice pn l0_0.length pj]) (t := 29) ?hr ?_; (case hd => rfl); (case hg => rfl); (case hr => first | (go_simp; done) | (go_simp; rfl)); intro nm hg w5 hbox hb; have ba := aM (af z5 hb); have bb := aM (Kept.below (S := (fun k_ => P0_0_ k_)) z22 hb); have bf := aM (ay z23 hb); have bk := aM (hbox); have bn := aM ((by rw [hg]; exact (by first | exact HK.out.1 | exact (show Kept w _ (fun k_ => P0_0_ k_) from by repeat (first | (with_reducible first | exact HK.out | apply Kept.alloc | apply Kept.drewN | apply Kept.drew) | exact HK.out)).1) : w.heap.size ≤ nm)); have br := aM ((by rw [hg]; exact (az z23) : w0.heap.size ≤ nm)); clear cd; clear HK; clear HB; have cd := ba; have HK := bb; have HB := bf; have jq := bk; have oa := bn; have od := br; clear ba bb bf bk bn br; clear hb hbox hg; have gD : w5.cell? ⟨nm, 0, none⟩ = some (.slice pn l0_0.length pj) := (bC jq.out 0).trans rfl; have gC := bF jq.out 0) | ((with_reducible refine aJ (f := 63) rfl ?_); refine aQ (some 8) rfl rfl Try.func63 z1 rfl #[.slice pn l0_0.length pj, .int .i64 a1] rfl z25 ?_; (with_reducible refine (laws_markBoughS.calls k (fun k_ => some k_ = (.slice pn l0_0.length pj : Value).ownBlock) (.slice pn l0_0.length pj) l0_0 a1 t143 t144 w0 _ ?side1 ?side2 A3.out).mono ?_); (case side1 => repeat (first | (with_reducible first | exact HB.out | apply bA | apply pD | apply bD | refine ax ?_ od.out) | exact HB.out)); (case side2 => exact Kd.R_tight rfl cd.out); rintro e w7 ⟨rfl, hy0, hb, hkp⟩; refine ⟨_, rfl, ?_⟩; have ba := aM (Kd.R_reok rfl hy0 (fun k_ e_ => cd.out.1 k_ e_)); have bb := aM (blk_kept (by (with_reducible repeat (first | refine aq ?_ _ | refine ap ?_ | refine ar ?_ _)); exact jq.out) hkp (fun hs_ => (fun e_ => (aI cd.out jq.out z0) e_) hs_)); have bf := aM (Kept.then_ (S := (fun k_ => P0_0_ k_)) (by repeat (first | (with_reducible first | exact HK.out | apply Kept.alloc | apply Kept.drewN | apply Kept.drew | refine Kept.setCell ?_ (.inr oa.out) _) | exact HK.out)) hkp (fun k_ hs_ => (fun e_ => (cd.out.1 k_ e_.symm)) hs_)); have bk := aM (hb); clear cd; clear jq; clear HK; clear HB; have cd := ba; have jq := bb; have HK := bf; have HB := bk; clear ba bb bf bk; (try clear hb); (try clear hkp); (try clear hy0)))
 go_ret
 exact ⟨y2, by (with_reducible repeat (first | apply ac | apply ab | apply aa)); exact cd.out, by repeat (first | (with_reducible first | exact HB.out | apply bA | apply pD | apply bD | refine ax ?_ od.out) | exact HB.out), by repeat (first | (with_reducible first | exact HK.out | apply Kept.alloc | apply Kept.drewN | apply Kept.drew | refine Kept.setCell ?_ (.inr oa.out) _) | exact HK.out)⟩

end Go.Proofs.Ytmkenlejdaphnaa.AFnExactSplitRope
