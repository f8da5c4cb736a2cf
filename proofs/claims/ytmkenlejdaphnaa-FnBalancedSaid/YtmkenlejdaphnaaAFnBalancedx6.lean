-- this session's own text: written by wip/tools/ownprint.py over the kit's print
import Derived.Test.YtmkenlejdaphnaaAFnBalancedx0
import Derived.Test.YtmkenlejdaphnaaAFnBalancedx1
import Derived.Test.YtmkenlejdaphnaaAFnBalancedx2
import Derived.Test.YtmkenlejdaphnaaAFnBalancedx3
import Derived.Test.YtmkenlejdaphnaaAFnBalancedx5
namespace Go.Proofs.Ytmkenlejdaphnaa.AFnBalanced
open Go.RowKit Go.Proofs.YtmkenlejdaphnaaW.PrintWords Go.Proofs.YtmkenlejdaphnaaW.PrintLast Go.Proofs.YtmkenlejdaphnaaW.PrintMore
attribute [local go_sem] max2_int min2_int max_two min_two max_three min_three max_four min_four   -- for this text's walks alone
set_option linter.unusedVariables false
set_option linter.unusedSimpArgs false

/-! ### spec_l12Build: function 57, by hand -/
def spec_l12Build.f : Nat → List ByteArray → Option ((List (S58)))
 | 0, _ => none
 | k + 1, l0 => if (l0.length : Int) = 0 then (some ([] : List (S58))) else (if (l0.length : Int) = 1 then (if 0 < (l0.length : Int) then ((spec_l12Piece.f (rdOf ByteArray.empty l0 0)).bind fun l8 => (some l8)) else (none)) else (if 0 ≤ (wrap64 (Int.tdiv (wrap64 ((l0.length : Int) + 1)) 2)) then (if (wrap64 (Int.tdiv (wrap64 ((l0.length : Int) + 1)) 2)) ≤ (l0.length : Int) then ((spec_l12Build.f k (l0.take ((wrap64 (Int.tdiv (wrap64 ((l0.length : Int) + 1)) 2)) : Int).toNat)).bind fun fc => ((spec_l12Build.f k (l0.drop ((wrap64 (Int.tdiv (wrap64 ((l0.length : Int) + 1)) 2)) : Int).toNat)).bind fun iU => ((spec_l12Join.f k fc iU).bind fun iT => (some iT)))) else (none)) else (none)))
theorem spec_l12Build.mono_l : ∀ k, (∀ y0, LeO (spec_l12Build.f k y0) (spec_l12Build.f (k + 1) y0))
 | 0 => fun _ r h => by simp [spec_l12Build.f] at h
 | k + 1 => by
  have ih0 := spec_l12Build.mono_l k
  ·intro y0
   unfold spec_l12Build.f
   repeat' first
   | (with_reducible exact ih0 _)
   | (with_reducible exact spec_l12Join.mono _ _ _)
   | (with_reducible exact LeO.refl _)
   | (with_reducible exact LeO.none _)
   | (with_reducible refine LeO.ite ?_ ?_)
   | (with_reducible refine LeO.bind ?_ (fun _ => ?_))
theorem spec_l12Build.mono : ∀ a0 k, LeO (spec_l12Build.f k a0) (spec_l12Build.f (k + 1) a0) := by
 intro a0 k
 have ih0 := spec_l12Build.mono_l k
 exact ih0 a0
def spec_l12Build.T7 : Bool × List (List Nat × List Nat) := (true, [([], []), ([], []), ([0, 1], [0, 1]), ([2], [2]), ([], []), ([], []), ([4, 5], [4, 5]), ([6, 3], [6]), ([3, 7, 7], [3, 7]), ([8, 8, 0, 1, 2, 3, 4, 5, 6, 7, 8], [8])])
def spec_l12Build.B7 : List Nat := [0, 0, 3, 7, 0, 0, 48, 127, 255, 511]
theorem spec_l12Build.tab7 : rtab .any (opsOf Try.f57 7) = spec_l12Build.T7 := by kernel_rfl
theorem spec_l12Build.bits7 : waitsOk spec_l12Build.T7.2 spec_l12Build.B7 = true := by kernel_rfl
set_option maxHeartbeats 8000000 in
set_option maxRecDepth 100000 in
theorem spec_l12Build.calls (k : Nat) : ∀ (A0 : Option Addr) (c0 : Nat) (l0 : List ByteArray) (r : List (S58)) (w : World) (hr0 : Kd.C Kd.string w A0 l0.length l0) (hc0 : l0.length ≤ c0) (h : spec_l12Build.f k l0 = some r),
  Calls Try.prog 57 #[.slice A0 l0.length c0] w fun e w' => ∃ v0_ : Value, e = .returned (v0_) ∧ Kd.R k58 58 w' w.heap.size (fun _ => True) v0_ r ∧ Below w.heap.size w w' := by
 induction k using Nat.strongRecOn with
 | _ k ih =>
 intro A0 c0 l0 r w hr0 hc0 h
 cases k with
 | zero => exact absurd h (by simp [spec_l12Build.f])
 | succ k =>
 simp only [spec_l12Build.f] at h
 have cN := aM hr0
 have dy := aM hc0
 clear hr0 hc0
 have HB := aM (Below.refl w.heap.size w)
 have H : (if (l0.length : Int) = 0 then (some ([] : List (S58))) else (if (l0.length : Int) = 1 then (if 0 < (l0.length : Int) then ((spec_l12Piece.f (rdOf ByteArray.empty l0 0)).bind fun l8 => (some l8)) else (none)) else (if 0 ≤ (wrap64 (Int.tdiv (wrap64 ((l0.length : Int) + 1)) 2)) then (if (wrap64 (Int.tdiv (wrap64 ((l0.length : Int) + 1)) 2)) ≤ (l0.length : Int) then ((spec_l12Build.f k (l0.take ((wrap64 (Int.tdiv (wrap64 ((l0.length : Int) + 1)) 2)) : Int).toNat)).bind fun fc => ((spec_l12Build.f k (l0.drop ((wrap64 (Int.tdiv (wrap64 ((l0.length : Int) + 1)) 2)) : Int).toNat)).bind fun iU => ((spec_l12Join.f k fc iU).bind fun iT => (some iT)))) else (none)) else (none)))) = some r := h
 clear h
 by_cases c2 : (l0.length : Int) = 0
 ·rw [if_pos c2] at H
  have c2b0 : ((l0.length : Int) == 0) = true := qT c2
  have c2b1 : ((l0.length : Int) != 0) = false := nF c2
  clear c2
  obtain rfl := sI H
  go_enter Try.func57, Try.ntmps57
  go_wp2
  go_ret
  exact ⟨_, y4, y10, y5⟩
 ·rw [if_neg c2] at H
  have c2b0 : ((l0.length : Int) == 0) = false := qF c2
  have c2b1 : ((l0.length : Int) != 0) = true := nT c2
  have c2b2 : ¬ (l0 = []) := fun h_ => c2 (by rw [h_]; rfl)
  by_cases c3 : (l0.length : Int) = 1
  ·rw [if_pos c3] at H
   have c3b0 : ((l0.length : Int) == 1) = true := qT c3
   have c3b1 : ((l0.length : Int) != 1) = false := nF c3
   clear c3
   by_cases c4 : 0 < (l0.length : Int)
   ·rw [if_pos c4] at H
    have c4b0 : decide (0 < (l0.length : Int)) = true := dT c4
    have c4b1 : decide (0 < l0.length) = true := dT (by omega)
    clear c4
    obtain ⟨l8, A5, H⟩ := oA_ H
    try dsimp only at H
    obtain rfl := sI H
    have p139 : 0 ≤ (0 : Int) := (by omega)
    have q139 : 0 < (l0.length : Int) := oD z2
    obtain ⟨ad139, e139, hx139_0⟩ := Kd.at_string cN.out 0 p139 q139
    cases e139
    have qi139 : (0 < l0.length) = True := eq_true (by omega)
    (try rw [show ((0 : Int)).toNat = 0 from rfl] at hx139_0)
    (try rw [Addr.add_zero'] at hx139_0)
    replace p139 := eq_true p139
    replace q139 := eq_true q139
    go_enter Try.func57, Try.ntmps57
    go_wp2_with (first | ((with_reducible refine aJ (f := 80) rfl ?_); refine aQ (some 13) rfl rfl Try.func80 z0 rfl #[.string (rdOf ByteArray.empty l0 0)] rfl z17 ?_; (with_reducible refine (spec_l12Piece.calls (rdOf ByteArray.empty l0 0) l8 _ A5.out).mono ?_); rintro e w6 ⟨v141, rfl, ho0, hb⟩; refine ⟨_, rfl, ?_⟩; have HO142 := aM (aV ho0 (aA z16)); replace HB := aM (az z16 hb); (try clear hb); (try clear ho0)))
    go_ret
    exact ⟨_, y4, by (with_reducible repeat (first | apply ae | apply ac | apply aa)); exact HO142.out, y5⟩
   ·rw [if_neg c4] at H
    exact absurd H (by simp)
  ·rw [if_neg c3] at H
   have c3b0 : ((l0.length : Int) == 1) = false := qF c3
   have c3b1 : ((l0.length : Int) != 1) = true := nT c3
   obtain ⟨gK, lK⟩ : ∃ j_ : Int, (wrap64 (Int.tdiv (wrap64 ((l0.length : Int) + 1)) 2)) = j_ := ⟨_, rfl⟩
   replace H : (if 0 ≤ (gK) then (if (gK) ≤ (l0.length : Int) then ((spec_l12Build.f k (l0.take ((gK) : Int).toNat)).bind fun fc => ((spec_l12Build.f k (l0.drop ((gK) : Int).toNat)).bind fun iU => ((spec_l12Join.f k fc iU).bind fun iT => (some iT)))) else (none)) else (none)) = some r := by first | (rw [lK] at H; exact H) | (simp only [lK] at H ⊢; exact H)
   have hji7w : (IntKind.i64.wrap (Int.tdiv (wrap64 ((l0.length : Int) + 1)) 2)) = gK := (i64_w _).trans lK
   by_cases c8 : 0 ≤ (gK)
   ·rw [if_pos c8] at H
    have c8b0 := eq_true c8
    have c8b1 : decide (0 ≤ (gK)) = true := dT c8
    clear c8
    by_cases c9 : (gK) ≤ (l0.length : Int)
    ·rw [if_pos c9] at H
     have c9b0 := eq_true c9
     have c9b1 : decide ((gK) ≤ (l0.length : Int)) = true := dT c9
     clear c9
     obtain ⟨fc, jP, H⟩ := oA_ H
     try dsimp only at H
     have c11b0 := eq_true (oD z2 : 0 ≤ (gK))
     have c12b0 := eq_true (oD z2 : (gK) ≤ (l0.length : Int))
     obtain ⟨iU, qM, H⟩ := oA_ H
     try dsimp only at H
     obtain ⟨iT, fL, H⟩ := oA_ H
     try dsimp only at H
     obtain rfl := sI H
     go_enter Try.func57, Try.ntmps57
     try go_wp2
     replace HB := aM (bD HB.out)
     obtain ⟨i016, hi016, _, hsz16, _⟩ := info_parts info9
     obtain ⟨hcut16, hA16, hC16⟩ := print_take_of (P := Try.prog) Value.string ⟨#[]⟩ 44 9 .i64 Try.underlying44 hi016 hsz16 A0 c0 l0 (gK) (oD z2) (oD z2) dy.out
     have nW := aM (Kd.C_of_reads (h1 := fun _ => rfl) (hA16 _ (Kd.reads_of_C cN.out)))
     have HC143 := aM hC16
     clear hA16 hC16 hi016 hsz16
     obtain ⟨i017, hi017, _, hsz17, _⟩ := info_parts info9
     obtain ⟨pf, hcut17, hA17, hC17⟩ := print_drop_of (P := Try.prog) Value.string ⟨#[]⟩ 44 9 .i64 Try.underlying44 hi017 hsz17 A0 c0 l0 (gK) (oD z2) (oD z2) dy.out
     have nV := aM (Kd.C_of_reads (h1 := fun _ => rfl) (hA17 _ (Kd.reads_of_C cN.out)))
     have HC147 := aM hC17
     clear hA17 hC17 hi017 hsz17
     refine start_ (n := 10) (S := fun w' => True) (ds := []) #[false, false, false, false, false, false, false, false, false, false] z0 rfl rfl trivial (fun hHeld => ?_); refine with_tabW spec_l12Build.tab7 spec_l12Build.bits7 (fun HT_ HW_ => ?_)
     generalize w.drew = w15 at HB nW nV hHeld ⊢
     refine pA 0 18 ?_
     refine pA 1 19 ?_
     refine pA 2 20 ?_
     refine pA 4 22 ?_
     refine pA 5 23 ?_
     refine pA 6 24 ?_
     refine one_ (i := 3) (N := some 21) #[true, true, true, true, true, true, true, false, false, false] rfl rfl (one_of HT_.out z0) (by decide) (fun K hK => ?_)
     refine goes_ Try.func57 z0 rfl #[.slice A0 (l0.take ((gK) : Int).toNat).length c0] (by rfl) rfl rfl (by (try simp only [List.map_toArray, List.map_cons, List.map_nil]); first | done | (rw [show (l0.take ((gK) : Int).toNat).length = (gK).toNat from (by rw [List.length_take]; have h_ : ((gK) : Int) ≤ (l0.length : Int) := oD z2; omega)] <;> rfl) | (simp only [lK]; rfl) | rfl | (simp only [List.length_drop, List.length_take]; rfl)) ?_
     with_reducible refine (ih k (by omega) _ _ (l0.take ((gK) : Int).toNat) fc _ ?side1 ?side2 jP.out).mono ?_
     (case side1 => repeat (first | exact (aE nW.out HB.out) | (with_reducible refine aG ?_ _) | (with_reducible refine aH ?_ _) | (with_reducible refine aI ?_)))
     (case side2 => exact HC143.out)
     rintro e w18 ⟨v145, rfl, ho0, hb⟩
     refine ⟨_, rfl, ?_⟩
     have fG := aM (aV ho0 (aA z16))
     replace HB := aM (az z16 hb)
     (try clear hb)
     skip
     skip
     skip
     (try clear ho0)
     refine hK.out _ _ trivial (fun hHeld => ?_)
     clear hK K
     refine norm_ (a' := ?_) ?_ ?_
     rotate_left
     ·show Act.put _ (some 21) _ = _
      simp only [Act.put, sA, sB, sC, i64_w, i32_w]
      rfl
     refine one_ (i := 7) (N := some 25) #[true, true, true, true, true, true, true, true, false, false] rfl rfl (one_of HT_.out z0) (by decide) (fun K hK => ?_)
     refine goes_ Try.func57 z0 rfl #[.slice pf (l0.drop ((gK) : Int).toNat).length (c0 - (gK).toNat)] (by rfl) rfl rfl (by (try simp only [List.map_toArray, List.map_cons, List.map_nil]); first | done | (rw [show (l0.drop ((gK) : Int).toNat).length = (l0.length - (gK).toNat) from List.length_drop] <;> rfl) | (simp only [lK]; rfl) | rfl | (simp only [List.length_drop, List.length_take]; rfl)) ?_
     with_reducible refine (ih k (by omega) _ _ (l0.drop ((gK) : Int).toNat) iU _ ?side1 ?side2 qM.out).mono ?_
     (case side1 => repeat (first | exact (aE nV.out HB.out) | (with_reducible refine aG ?_ _) | (with_reducible refine aH ?_ _) | (with_reducible refine aI ?_)))
     (case side2 => exact HC147.out)
     rintro e w19 ⟨v149, rfl, ho0, hb⟩
     refine ⟨_, rfl, ?_⟩
     have ie := aM (aV (ak ho0 (Kd.R_lt (kR_ fG.out))) (aA z16))
     replace fG := aM (aj (kR_ fG.out) (al ho0) hb)
     replace HB := aM (az z16 hb)
     (try clear hb)
     skip
     skip
     skip
     (try clear ho0)
     obtain ⟨qc, pU, eo20⟩ := Kd.R_slice fG.out
     (first | subst eo20 | (injection eo20 with f1_ f2_ f3_; have f4_ := f1_.symm; have f5_ := f3_.symm; clear f1_ f2_ f3_; subst f4_; subst f5_))
     obtain ⟨cX, cW, eo21⟩ := Kd.R_slice ie.out
     (first | subst eo21 | (injection eo21 with f1_ f2_ f3_; have f4_ := f1_.symm; have f5_ := f3_.symm; clear f1_ f2_ f3_; subst f4_; subst f5_))
     refine hK.out _ _ trivial (fun hHeld => ?_)
     clear hK K
     refine norm_ (a' := ?_) ?_ ?_
     rotate_left
     ·show Act.put _ (some 25) _ = _
      simp only [Act.put, sA, sB, sC, i64_w, i32_w]
      rfl
     refine one_ (i := 8) (N := some 26) #[true, true, true, true, true, true, true, true, true, false] rfl rfl (one_of HT_.out z0) (by decide) (fun K hK => ?_)
     refine goes_ Try.func68 z0 rfl #[.slice qc fc.length pU, .slice cX iU.length cW] (by rfl) rfl rfl z17 ?_
     with_reducible refine (join_own k fc qc pU iU cX cW iT _ ?side1 ?side2 ?side3 ?side4 fL.out).mono ?_
     (case side1 => repeat (first | exact (ai fG.out).2.2 | (with_reducible refine aG ?_ _) | (with_reducible refine aH ?_ _) | (with_reducible refine aI ?_)))
     (case side2 => exact (ai fG.out).2.1)
     (case side3 => repeat (first | exact (ai ie.out).2.2 | (with_reducible refine aG ?_ _) | (with_reducible refine aH ?_ _) | (with_reducible refine aI ?_)))
     (case side4 => exact (ai ie.out).2.1)
     rintro e w22 ⟨A22, nJ, rfl, hcase, hb⟩
     refine ⟨_, rfl, ?_⟩
     have a8 : Aside0 (Kd.R k58 58 w22 w.heap.size (fun _ => True) (.slice A22 iT.length nJ) iT) := ⟨by
      rcases hcase with ⟨rfl, rfl, rfl⟩ | ⟨rfl, rfl, rfl⟩ | h_
      ·exact ah (ag (kR_ ie.out) hb) (fun _ _ => trivial)
      ·exact ah (ag (kR_ fG.out) hb) (fun _ _ => trivial)
      ·exact aV h_ (aA z16)⟩
     have a9 := aM (az z16 hb)
     clear HB fG ie hcase hb
     have HO153 := a8
     have HB := a9
     clear a8 a9
     refine hK.out _ _ trivial (fun hHeld => ?_)
     clear hK K
     refine norm_ (a' := ?_) ?_ ?_
     rotate_left
     ·show Act.put _ (some 26) _ = _
      simp only [Act.put, sA, sB, sC, i64_w, i32_w]
      rfl
     refine pA 9 2 ?_
     refine done_ (done_of HT_.out z0) ?_
     try go_wp2
     go_ret
     exact ⟨_, by first | rfl | (simp [errW_none, errW_some] <;> rfl) | (simp only [← lK]; first | rfl | (simp [errW_none, errW_some] <;> rfl)) | (simp [*, errW_none, errW_some] <;> rfl), by (with_reducible repeat (first | apply ae | apply ac | apply aa)); exact HO153.out, y5⟩
    ·rw [if_neg c9] at H
     exact absurd H (by simp)
   ·rw [if_neg c8] at H
    exact absurd H (by simp)

/-! ### spec_l12Pieces: function 65 -/
def spec_l12Pieces.l0 : Nat → List ByteArray → List (S58) → Int → Int → Option (List ByteArray)
 | 0, _, _, _, _ => none
 | k + 1, x3, x6, x7, x8 => if x8 < x7 then (if 0 ≤ x8 then (if x8 < (x6.length : Int) then (if ((rd_T58 x6 x8).f0) < 0 then (if x3.length < 8796093022208 then (spec_l12Pieces.l0 k (x3 ++ [(rd_T58 x6 x8).f2]) x6 x7 (wrap64 (x8 + 1))) else (none)) else (spec_l12Pieces.l0 k x3 x6 x7 (wrap64 (x8 + 1)))) else (none)) else (none)) else (some x3)
def spec_l12Pieces.f (k : Nat) (l0 : List (S58)) : Option (List ByteArray) := spec_l12Pieces.l0 k ([] : List ByteArray) l0 (l0.length : Int) 0
theorem spec_l12Pieces.mono_l : ∀ k, (∀ y0 y1 y2 y3, LeO (spec_l12Pieces.l0 k y0 y1 y2 y3) (spec_l12Pieces.l0 (k + 1) y0 y1 y2 y3))
 | 0 => fun _ _ _ _ r h => by simp [spec_l12Pieces.l0] at h
 | k + 1 => by
  have ih0 := spec_l12Pieces.mono_l k
  ·intro y0 y1 y2 y3
   unfold spec_l12Pieces.l0
   repeat' first
   | (with_reducible exact ih0 _ _ _ _)
   | (with_reducible exact LeO.refl _)
   | (with_reducible exact LeO.none _)
   | (with_reducible refine LeO.ite ?_ ?_)
   | (with_reducible refine LeO.bind ?_ (fun _ => ?_))
theorem spec_l12Pieces.mono : ∀ a0 k, LeO (spec_l12Pieces.f k a0) (spec_l12Pieces.f (k + 1) a0) := by
 intro a0 k
 have ih0 := spec_l12Pieces.mono_l k
 unfold spec_l12Pieces.f
 repeat' first
   | (with_reducible exact ih0 _ _ _ _)
   | (with_reducible exact LeO.refl _)
   | (with_reducible exact LeO.none _)
   | (with_reducible refine LeO.ite ?_ ?_)
   | (with_reducible refine LeO.bind ?_ (fun _ => ?_))
set_option maxHeartbeats 8000000 in
set_option maxRecDepth 100000 in
theorem spec_l12Pieces.calls (k : Nat) (A0 : Option Addr) (c0 : Nat) (l0 : List (S58)) (r : List ByteArray) (w : World) (hr0 : Kd.C k58 w A0 l0.length l0) (hc0 : l0.length ≤ c0) (h : spec_l12Pieces.f k l0 = some r) :
  Calls Try.prog 65 #[.slice A0 l0.length c0] w fun e w' => ∃ v0_ : Value, e = .returned (v0_) ∧ Kd.R Kd.string 9 w' w.heap.size (fun _ => True) v0_ r ∧ Below w.heap.size w w' := by
 have hu58 := Try.underlying58
 have cN := aM hr0
 have dy := aM hc0
 clear hr0 hc0
 have HB := aM (Below.refl w.heap.size w)
 have H : (spec_l12Pieces.l0 k ([] : List ByteArray) l0 (l0.length : Int) 0) = some r := h
 clear h
 have H' := aM H
 clear H
 go_enter Try.func65, Try.ntmps65
 go_wp2
 go_loopg [3, 8] k (fun kq v3 v8 w' => ∃ (x3_1 : List ByteArray) (x8_1 : Int), v8 = .int .i64 x8_1 ∧ Aside0 (spec_l12Pieces.l0 kq x3_1 l0 (l0.length : Int) x8_1 = some r) ∧ Aside0 (kq ≤ k) ∧ Aside0 (Kd.R Kd.string 9 w' w.heap.size (fun _ => True) v3 x3_1) ∧ Aside0 (Below w.heap.size w w'))
 case atStart => exact ⟨(([] : List ByteArray)), (0), z1, H', ⟨Nat.le_refl _⟩, ⟨y10⟩, ⟨y5⟩⟩
 case round =>
  clear H'
  obtain ⟨x3_1, x8_1, rfl, HA, HK1, eF, HB⟩ := hrel
  cases gk with
  | zero => exact absurd HA.out (by simp [spec_l12Pieces.l0])
  | succ k1 =>
   have H := HA.out
   clear HA
   simp only [spec_l12Pieces.l0] at H
   by_cases c2 : x8_1 < (l0.length : Int)
   ·rw [if_pos c2] at H
    have c2b0 : decide (x8_1 < (l0.length : Int)) = true := dT c2
    clear c2
    by_cases c3 : 0 ≤ x8_1
    ·rw [if_pos c3] at H
     have c3b0 : decide (0 ≤ x8_1) = true := dT c3
     clear c3
     by_cases c4 : x8_1 < (l0.length : Int)
     ·rw [if_pos c4] at H
      have c4b0 : decide (x8_1 < (l0.length : Int)) = true := dT c4
      clear c4
      by_cases c5 : ((rd_T58 l0 x8_1).f0) < 0
      ·rw [if_pos c5] at H
       have c5b0 : decide (((rd_T58 l0 x8_1).f0) < 0) = true := dT c5
       clear c5
       by_cases c6 : x3_1.length < 8796093022208
       ·rw [if_pos c6] at H
        have LMc6 := aM c6
        clear c6
        obtain ⟨y132, hy132⟩ : ∃ y_ : List ByteArray, y_ = (x3_1 ++ [(rd_T58 l0 x8_1).f2]) := ⟨_, rfl⟩
        replace H : (spec_l12Pieces.l0 k1 y132 l0 (l0.length : Int) (wrap64 (x8_1 + 1))) = some r := by first | (rw [hy132]; with_reducible exact H) | (have H2_ := (Option.bind_some _ _).symm.trans H; rw [hy132]; with_reducible exact H2_) | (have H2_ := (Option.bind_some _ _).symm.trans H; with_reducible exact H2_) | with_reducible exact H | (rw [hy132]; exact H) | exact H
        have Ny132 := aM hy132
        clear hy132
        have H' := aM H
        clear H
        have p130 : 0 ≤ (x8_1 : Int) := oD z2
        have q130 : x8_1 < (l0.length : Int) := oD z2
        obtain ⟨ad130, e130, hx130_0, hx130_1, hx130_2, hx130_3, hx130_4⟩ := at_T58 cN.out x8_1 p130 q130
        cases e130
        replace hx130_0 := (HB.out.cell (World.block_lt_of_cell? w _ hx130_0)).trans hx130_0
        replace hx130_1 := (HB.out.cell (World.block_lt_of_cell? w _ hx130_1)).trans hx130_1
        replace hx130_2 := (HB.out.cell (World.block_lt_of_cell? w _ hx130_2)).trans hx130_2
        replace hx130_3 := (HB.out.cell (World.block_lt_of_cell? w _ hx130_3)).trans hx130_3
        replace hx130_4 := (HB.out.cell (World.block_lt_of_cell? w _ hx130_4)).trans hx130_4
        replace p130 := eq_true p130
        replace q130 := eq_true q130
        go_wp2_with (first | ((with_reducible refine aK (N := 5) rfl ?_); refine aN ?hg (N := 5) ?hd (cs := #[.int .i64 0, .int .i64 0, .string ⟨#[]⟩, .int .i64 0, .int .i64 0]) (t := 58) ?hr ?_; (case hd => rfl); (case hg => rfl); (case hr => first | (go_simp; done) | (go_simp; rfl)); intro cK hg w7 hbox hb; replace eF := aM (ag (kR_ eF.out) hb); have cJ := aM (hbox); have GW131 := aM ((by rw [hg]; exact (aA z16) : w.heap.size ≤ cK)); have jN := aM ((by rw [hg]; exact (aA z16) : w.heap.size ≤ cK)); replace HB := aM (az z16 hb); clear hb hbox hg; obtain ⟨fV, gV, gU, hcz8_3, hcz8_4, gP, gO, gN, hfz8_3, hfz8_4⟩ := cc5 cJ.out) | ((with_reducible refine gate_builtin (b := .append) (xs := #[.tmp 15, .tmp 18]) rfl ?_); at_builtin; refine Kd.R_append Kd.string (w0 := w) w.heap.size rfl (.tmp 15) (.tmp 18) 44 9 (.string ⟨#[]⟩) 16 rfl Try.underlying44 info9 rfl (by decide) (by omega) u3 x3_1 ((rd_T58 l0 x8_1).f2) [.string ((rd_T58 l0 x8_1).f2)] (fun _ => True) (fun _ => False) rfl (by first | (go_simp; done) | (go_simp; rfl)) ?aP (fun _ hk => hk.elim) ?aF ?aO ?aB ?aS ?aL ?_; (case aP => exact rfl); (case aB => exact (by repeat (first | (with_reducible first | exact HB.out | apply bA | apply pD | apply bD | refine ay ?_ jN.out) | exact HB.out))); (case aF => exact (fun _ _ => trivial)); (case aO => exact (by (with_reducible repeat (first | apply ae | apply ac | apply aa)); exact ah (am (p := ⟨cK, 4, none⟩) (am (p := ⟨cK, 3, none⟩) (am (p := ⟨cK, 2, none⟩) (am (p := ⟨cK, 1, none⟩) (am (p := ⟨cK, 0, none⟩) (ap eF.out cJ.out (by decide)) (fun _ hk => hk.2) (.int .i64 ((rd_T58 l0 x8_1).f0))) (fun _ hk => hk.2) (.int .i64 ((rd_T58 l0 x8_1).f1))) (fun _ hk => hk.2) (.string ((rd_T58 l0 x8_1).f2))) (fun _ hk => hk.2) (.int .i64 ((rd_T58 l0 x8_1).f3))) (fun _ hk => hk.2) (.int .i64 ((rd_T58 l0 x8_1).f4))) (fun _ hk => trivial))); (case aS => exact (aA (by repeat (first | (with_reducible first | exact HB.out | apply bA | apply pD | apply bD | refine ay ?_ jN.out) | exact HB.out)))); (case aL => have := LMc6.out; omega); intro v133 w9 ho hb hg hat; rw [← Ny132.out] at ho; replace cJ := aM (blk_grown (g := cK) (o := .cells #[.int .i64 ((rd_T58 l0 x8_1).f0), .int .i64 ((rd_T58 l0 x8_1).f1), .string ((rd_T58 l0 x8_1).f2), .int .i64 ((rd_T58 l0 x8_1).f3), .int .i64 ((rd_T58 l0 x8_1).f4)] 58 (0, 0)) (by (with_reducible repeat (first | refine ar ?_ _ | refine aq ?_ | refine au ?_ _)); refine aw (cs := #[.int .i64 ((rd_T58 l0 x8_1).f0), .int .i64 ((rd_T58 l0 x8_1).f1), .string ((rd_T58 l0 x8_1).f2), .int .i64 ((rd_T58 l0 x8_1).f3), .int .i64 0]) ?_ 4 _ rfl; (with_reducible repeat (first | refine ar ?_ _ | refine aq ?_ | refine au ?_ _)); refine aw (cs := #[.int .i64 ((rd_T58 l0 x8_1).f0), .int .i64 ((rd_T58 l0 x8_1).f1), .string ((rd_T58 l0 x8_1).f2), .int .i64 0, .int .i64 0]) ?_ 3 _ rfl; (with_reducible repeat (first | refine ar ?_ _ | refine aq ?_ | refine au ?_ _)); refine aw (cs := #[.int .i64 ((rd_T58 l0 x8_1).f0), .int .i64 ((rd_T58 l0 x8_1).f1), .string ⟨#[]⟩, .int .i64 0, .int .i64 0]) ?_ 2 _ rfl; (with_reducible repeat (first | refine ar ?_ _ | refine aq ?_ | refine au ?_ _)); refine aw (cs := #[.int .i64 ((rd_T58 l0 x8_1).f0), .int .i64 0, .string ⟨#[]⟩, .int .i64 0, .int .i64 0]) ?_ 1 _ rfl; (with_reducible repeat (first | refine ar ?_ _ | refine aq ?_ | refine au ?_ _)); refine aw (cs := #[.int .i64 0, .int .i64 0, .string ⟨#[]⟩, .int .i64 0, .int .i64 0]) ?_ 0 _ rfl; (with_reducible repeat (first | refine ar ?_ _ | refine aq ?_ | refine au ?_ _)); exact cJ.out) hg (Kd.R_ne eF.out cJ.out (by decide))); replace HB := aM (hb); have HO134 := aM (ho); clear eF; clear ho hb hg hat))
        go_roundg k1
        case measure => have := HK1.out; omega
        case rel => exact ⟨(y132), (wrap64 (x8_1 + 1)), z1, H', ⟨y0⟩, ⟨kR_ HO134.out⟩, ⟨by repeat (first | (with_reducible first | exact HB.out | apply bA | apply pD | apply bD | refine ay ?_ jN.out) | exact HB.out)⟩⟩
       ·rw [if_neg c6] at H
        exact absurd H (by simp)
      ·rw [if_neg c5] at H
       have c5b0 : decide (((rd_T58 l0 x8_1).f0) < 0) = false := dF c5
       clear c5
       have H' := aM H
       clear H
       have p130 : 0 ≤ (x8_1 : Int) := oD z2
       have q130 : x8_1 < (l0.length : Int) := oD z2
       obtain ⟨ad130, e130, hx130_0, hx130_1, hx130_2, hx130_3, hx130_4⟩ := at_T58 cN.out x8_1 p130 q130
       cases e130
       replace hx130_0 := (HB.out.cell (World.block_lt_of_cell? w _ hx130_0)).trans hx130_0
       replace hx130_1 := (HB.out.cell (World.block_lt_of_cell? w _ hx130_1)).trans hx130_1
       replace hx130_2 := (HB.out.cell (World.block_lt_of_cell? w _ hx130_2)).trans hx130_2
       replace hx130_3 := (HB.out.cell (World.block_lt_of_cell? w _ hx130_3)).trans hx130_3
       replace hx130_4 := (HB.out.cell (World.block_lt_of_cell? w _ hx130_4)).trans hx130_4
       replace p130 := eq_true p130
       replace q130 := eq_true q130
       go_wp2_with (first | ((with_reducible refine aK (N := 5) rfl ?_); refine aN ?hg (N := 5) ?hd (cs := #[.int .i64 0, .int .i64 0, .string ⟨#[]⟩, .int .i64 0, .int .i64 0]) (t := 58) ?hr ?_; (case hd => rfl); (case hg => rfl); (case hr => first | (go_simp; done) | (go_simp; rfl)); intro cK hg w10 hbox hb; replace eF := aM (ag (kR_ eF.out) hb); have cJ := aM (hbox); have GW131 := aM ((by rw [hg]; exact (aA z16) : w.heap.size ≤ cK)); have jN := aM ((by rw [hg]; exact (aA z16) : w.heap.size ≤ cK)); replace HB := aM (az z16 hb); clear hb hbox hg; obtain ⟨ji, lu, ls, hcz11_3, hcz11_4, i3, kM, kL, hfz11_3, hfz11_4⟩ := cc5 cJ.out))
       go_roundg k1
       case measure => have := HK1.out; omega
       case rel => exact ⟨(x3_1), (wrap64 (x8_1 + 1)), z1, H', ⟨y0⟩, ⟨by (with_reducible repeat (first | apply ae | apply ac | apply aa)); exact ah (am (p := ⟨cK, 4, none⟩) (am (p := ⟨cK, 3, none⟩) (am (p := ⟨cK, 2, none⟩) (am (p := ⟨cK, 1, none⟩) (am (p := ⟨cK, 0, none⟩) (ap eF.out cJ.out (by decide)) (fun _ hk => hk.2) (.int .i64 ((rd_T58 l0 x8_1).f0))) (fun _ hk => hk.2) (.int .i64 ((rd_T58 l0 x8_1).f1))) (fun _ hk => hk.2) (.string ((rd_T58 l0 x8_1).f2))) (fun _ hk => hk.2) (.int .i64 ((rd_T58 l0 x8_1).f3))) (fun _ hk => hk.2) (.int .i64 ((rd_T58 l0 x8_1).f4))) (fun _ hk => trivial)⟩, ⟨by repeat (first | (with_reducible first | exact HB.out | apply bA | apply pD | apply bD | refine ay ?_ jN.out) | exact HB.out)⟩⟩
     ·rw [if_neg c4] at H
      exact absurd H (by simp)
    ·rw [if_neg c3] at H
     exact absurd H (by simp)
   ·rw [if_neg c2] at H
    have c2b0 : decide (x8_1 < (l0.length : Int)) = false := dF c2
    clear c2
    obtain rfl := sI H
    go_wp2
    go_ret
    exact ⟨_, y4, by (with_reducible repeat (first | apply ae | apply ac | apply aa)); exact eF.out, y5⟩

/-! ### spec_Rebalance: function 36 -/
def spec_Rebalance.f (k : Nat) (l0_0 : List (S58)) : Option ((List (S58)) × Bool) := (spec_GoodRope.f k l0_0).bind fun l9 => (if l9 = true then ((spec_l12Pieces.f k l0_0).bind fun jW => ((spec_l12Build.f k jW).bind fun jV => (some (jV, true)))) else (some (([] : List (S58)), false)))
theorem spec_Rebalance.mono : ∀ a0 k, LeO (spec_Rebalance.f k a0) (spec_Rebalance.f (k + 1) a0) := by
 intro a0 k
 unfold spec_Rebalance.f
 repeat' first
   | (with_reducible exact spec_GoodRope.mono _ _)
   | (with_reducible exact spec_l12Build.mono _ _)
   | (with_reducible exact spec_l12Pieces.mono _ _)
   | (with_reducible exact LeO.refl _)
   | (with_reducible exact LeO.none _)
   | (with_reducible refine LeO.ite ?_ ?_)
   | (with_reducible refine LeO.bind ?_ (fun _ => ?_))
set_option maxHeartbeats 8000000 in
set_option maxRecDepth 100000 in
theorem spec_Rebalance.calls (k : Nat) (bB : Option Addr) (bo : Nat) (l0_0 : List (S58)) (r1 : List (S58)) (r2 : Bool) (w : World) (hr0_0 : Kd.C k58 w bB l0_0.length l0_0) (hc0_0 : l0_0.length ≤ bo) (h : spec_Rebalance.f k l0_0 = some (r1, r2)) :
  Calls Try.prog 36 #[.agg #[.slice bB l0_0.length bo]] w fun e w' => ∃ v0_ : Value, e = .returned (.tuple #[.agg #[v0_], .bool r2]) ∧ Kd.R k58 58 w' w.heap.size (fun _ => True) v0_ r1 ∧ Below w.heap.size w w' := by
 have hu29 := Try.underlying29
 have dw := aM hr0_0
 have eb := aM hc0_0
 clear hr0_0 hc0_0
 have HB := aM (Below.refl w.heap.size w)
 have H : ((spec_GoodRope.f k l0_0).bind fun l9 => (if l9 = true then ((spec_l12Pieces.f k l0_0).bind fun jW => ((spec_l12Build.f k jW).bind fun jV => (some (jV, true)))) else (some (([] : List (S58)), false)))) = some (r1, r2) := h
 clear h
 obtain ⟨l9, A2, H⟩ := oA_ H
 try dsimp only at H
 by_cases c3 : l9 = true
 ·subst c3
  rw [if_pos rfl] at H
  obtain ⟨jW, A4, H⟩ := oA_ H
  try dsimp only at H
  obtain ⟨jV, A5, H⟩ := oA_ H
  try dsimp only at H
  simp only [Option.some.injEq, Prod.mk.injEq] at H
  obtain ⟨rfl, rfl⟩ := H
  go_enter Try.func36, Try.ntmps36
  go_wp2_with (first | ((with_reducible refine aK (N := 1) rfl ?_); refine aN ?hg (N := 1) ?hd (cs := #[.slice bB l0_0.length bo]) (t := 29) ?hr ?_; (case hd => rfl); (case hg => rfl); (case hr => first | (go_simp; done) | (go_simp; rfl)); intro cV hg w6 hbox hb; have cH := aM (hbox); have GW135 := aM ((by rw [hg]; exact (aA z16) : w.heap.size ≤ cV)); have dJ := aM ((by rw [hg]; exact (aA z16) : w.heap.size ≤ cV)); replace HB := aM (az z16 hb); clear hb hbox hg) | ((with_reducible refine aK (N := 2) rfl ?_); refine aN ?hg (N := 2) ?hd (cs := #[.slice none 0 0]) (t := 29) ?hr ?_; (case hd => rfl); (case hg => rfl); (case hr => first | (go_simp; done) | (go_simp; rfl)); intro dn hg w7 hbox hb; have df := aM (hbox); have GW136 := aM ((by rw [hg]; exact (aA (by repeat (first | (with_reducible first | exact HB.out | apply bA | apply pD | apply bD | refine ay ?_ dJ.out) | exact HB.out))) : w.heap.size ≤ dn)); have fI := aM ((by rw [hg]; exact (aA (by repeat (first | (with_reducible first | exact HB.out | apply bA | apply pD | apply bD | refine ay ?_ dJ.out) | exact HB.out))) : w.heap.size ≤ dn)); replace HB := aM (az (by repeat (first | (with_reducible first | exact HB.out | apply bA | apply pD | apply bD | refine ay ?_ dJ.out) | exact HB.out)) hb); have f7 := aM ((by rw [hg]; exact aC (ax (g := cV) (o := .cells #[.slice bB l0_0.length bo] 29 (0, 0)) (kB_ cH.out)) : cV ≠ dn)); have f6 := aM ((by rw [hg]; exact aD (ax (g := cV) (o := .cells #[.slice bB l0_0.length bo] 29 (0, 0)) (kB_ cH.out)) : dn ≠ cV)); replace cH := aM (af (g := cV) (o := .cells #[.slice bB l0_0.length bo] 29 (0, 0)) (kB_ cH.out) hb); clear hb hbox hg; have hnb8 := f7.out; have hnc8 := f6.out; obtain ⟨fd, fS⟩ := cc1 cH.out) | ((with_reducible refine aJ (f := 15) rfl ?_); refine aQ (some 5) rfl rfl Try.func15 z0 rfl #[.agg #[.slice bB l0_0.length bo]] rfl z17 ?_; (with_reducible refine (spec_GoodRope.calls k _ _ l0_0 true _ ?side1 ?side2 A2.out).mono ?_); (case side1 => exact y38); (case side2 => exact eb.out); rintro e w10 ⟨rfl, hb⟩; refine ⟨_, rfl, ?_⟩; replace cH := aM (af (g := cV) (o := .cells #[.slice bB l0_0.length bo] 29 (0, 0)) (kB_ cH.out) hb); replace df := aM (af (g := dn) (o := .cells #[.slice none 0 0] 29 (0, 0)) (kB_ df.out) hb); replace HB := aM (az (by repeat (first | (with_reducible first | exact HB.out | apply bA | apply pD | apply bD | refine ay ?_ dJ.out | refine ay ?_ fI.out) | exact HB.out)) hb); (try clear hb); obtain ⟨ji, i3⟩ := cc1 cH.out) | ((with_reducible refine aJ (f := 65) rfl ?_); refine aQ (some 10) rfl rfl Try.func65 z0 rfl #[.slice bB l0_0.length bo] rfl z17 ?_; (with_reducible refine (spec_l12Pieces.calls k _ _ l0_0 jW _ ?side1 ?side2 A4.out).mono ?_); (case side1 => exact y38); (case side2 => exact eb.out); rintro e w12 ⟨v139, rfl, ho0, hb⟩; refine ⟨_, rfl, ?_⟩; have iG := aM (aV ho0 (aA (by repeat (first | (with_reducible first | exact HB.out | apply bA | apply pD | apply bD | refine ay ?_ dJ.out | refine ay ?_ fI.out) | exact HB.out)))); replace cH := aM (af (g := cV) (o := .cells #[.slice bB l0_0.length bo] 29 (0, 0)) (kB_ cH.out) hb); replace df := aM (af (g := dn) (o := .cells #[.slice none 0 0] 29 (0, 0)) (kB_ df.out) hb); replace HB := aM (az (by repeat (first | (with_reducible first | exact HB.out | apply bA | apply pD | apply bD | refine ay ?_ dJ.out | refine ay ?_ fI.out) | exact HB.out)) hb); (try clear hb); (try clear ho0); obtain ⟨Ao13, co13, eo13⟩ := Kd.R_slice iG.out; subst eo13) | ((with_reducible refine aJ (f := 57) rfl ?_); refine aQ (some 11) rfl rfl Try.func57 z0 rfl #[.slice Ao13 jW.length co13] rfl z17 ?_; (with_reducible refine (spec_l12Build.calls k _ _ jW jV _ ?side1 ?side2 A5.out).mono ?_); (case side1 => repeat (first | exact (ai iG.out).2.2 | (with_reducible refine aG ?_ _) | (with_reducible refine aH ?_ _) | (with_reducible refine aI ?_))); (case side2 => exact (ai iG.out).2.1); rintro e w14 ⟨v142, rfl, ho0, hb⟩; refine ⟨_, rfl, ?_⟩; replace iG := aM (ag (kR_ iG.out) hb); have n8 := aM (aV ho0 (aA (by repeat (first | (with_reducible first | exact HB.out | apply bA | apply pD | apply bD | refine ay ?_ dJ.out | refine ay ?_ fI.out) | exact HB.out)))); replace cH := aM (af (g := cV) (o := .cells #[.slice bB l0_0.length bo] 29 (0, 0)) (kB_ cH.out) hb); replace df := aM (af (g := dn) (o := .cells #[.slice none 0 0] 29 (0, 0)) (kB_ df.out) hb); replace HB := aM (az (by repeat (first | (with_reducible first | exact HB.out | apply bA | apply pD | apply bD | refine ay ?_ dJ.out | refine ay ?_ fI.out) | exact HB.out)) hb); (try clear hb); (try clear ho0); obtain ⟨b7, b6, eo15⟩ := Kd.R_slice n8.out; subst eo15; obtain ⟨hcz16_0, hfz16_0⟩ := cc1 df.out))
  refine aT (aU rfl _ _ dn 29 #[.slice b7 jV.length b6] (0, 0) _ rfl (by (with_reducible repeat (first | refine ar ?_ _ | refine aq ?_ | refine au ?_ _)); refine aw (cs := #[.slice none 0 0]) ?_ 0 _ rfl; (with_reducible repeat (first | refine ar ?_ _ | refine aq ?_ | refine au ?_ _)); exact df.out) Try.underlying29 rfl z0) rfl ?_
  exact ⟨_, y4, by (with_reducible repeat (first | apply ae | apply ac | apply aa)); exact ah (am (p := ⟨dn, 0, none⟩) (ap n8.out df.out (by decide)) (fun _ hk => hk.2) (.slice b7 jV.length b6)) (fun _ hk => trivial), by repeat (first | (with_reducible first | exact HB.out | apply bA | apply pD | apply bD | refine ay ?_ dJ.out | refine ay ?_ fI.out) | exact HB.out)⟩
 ·replace c3 := Bool.eq_false_iff.mpr c3
  subst c3
  rw [if_neg nF_] at H
  simp only [Option.some.injEq, Prod.mk.injEq] at H
  obtain ⟨rfl, rfl⟩ := H
  go_enter Try.func36, Try.ntmps36
  go_wp2_with (first | ((with_reducible refine aK (N := 1) rfl ?_); refine aN ?hg (N := 1) ?hd (cs := #[.slice bB l0_0.length bo]) (t := 29) ?hr ?_; (case hd => rfl); (case hg => rfl); (case hr => first | (go_simp; done) | (go_simp; rfl)); intro cV hg w17 hbox hb; have cH := aM (hbox); have GW135 := aM ((by rw [hg]; exact (aA z16) : w.heap.size ≤ cV)); have dJ := aM ((by rw [hg]; exact (aA z16) : w.heap.size ≤ cV)); replace HB := aM (az z16 hb); clear hb hbox hg) | ((with_reducible refine aK (N := 2) rfl ?_); refine aN ?hg (N := 2) ?hd (cs := #[.slice none 0 0]) (t := 29) ?hr ?_; (case hd => rfl); (case hg => rfl); (case hr => first | (go_simp; done) | (go_simp; rfl)); intro dn hg w18 hbox hb; have df := aM (hbox); have GW136 := aM ((by rw [hg]; exact (aA (by repeat (first | (with_reducible first | exact HB.out | apply bA | apply pD | apply bD | refine ay ?_ dJ.out) | exact HB.out))) : w.heap.size ≤ dn)); have fI := aM ((by rw [hg]; exact (aA (by repeat (first | (with_reducible first | exact HB.out | apply bA | apply pD | apply bD | refine ay ?_ dJ.out) | exact HB.out))) : w.heap.size ≤ dn)); replace HB := aM (az (by repeat (first | (with_reducible first | exact HB.out | apply bA | apply pD | apply bD | refine ay ?_ dJ.out) | exact HB.out)) hb); have f7 := aM ((by rw [hg]; exact aC (ax (g := cV) (o := .cells #[.slice bB l0_0.length bo] 29 (0, 0)) (kB_ cH.out)) : cV ≠ dn)); have f6 := aM ((by rw [hg]; exact aD (ax (g := cV) (o := .cells #[.slice bB l0_0.length bo] 29 (0, 0)) (kB_ cH.out)) : dn ≠ cV)); replace cH := aM (af (g := cV) (o := .cells #[.slice bB l0_0.length bo] 29 (0, 0)) (kB_ cH.out) hb); clear hb hbox hg; have hnb19 := f7.out; have hnc19 := f6.out; obtain ⟨gA, gv⟩ := cc1 cH.out) | ((with_reducible refine aJ (f := 15) rfl ?_); refine aQ (some 5) rfl rfl Try.func15 z0 rfl #[.agg #[.slice bB l0_0.length bo]] rfl z17 ?_; (with_reducible refine (spec_GoodRope.calls k _ _ l0_0 false _ ?side1 ?side2 A2.out).mono ?_); (case side1 => exact y38); (case side2 => exact eb.out); rintro e w21 ⟨rfl, hb⟩; refine ⟨_, rfl, ?_⟩; replace cH := aM (af (g := cV) (o := .cells #[.slice bB l0_0.length bo] 29 (0, 0)) (kB_ cH.out) hb); replace df := aM (af (g := dn) (o := .cells #[.slice none 0 0] 29 (0, 0)) (kB_ df.out) hb); replace HB := aM (az (by repeat (first | (with_reducible first | exact HB.out | apply bA | apply pD | apply bD | refine ay ?_ dJ.out | refine ay ?_ fI.out) | exact HB.out)) hb); (try clear hb); obtain ⟨ek, eh⟩ := cc1 df.out))
  refine aT (aU rfl _ _ dn 29 #[.slice none 0 0] (0, 0) _ rfl (by (with_reducible repeat (first | refine ar ?_ _ | refine aq ?_ | refine au ?_ _)); refine aw (cs := #[.slice none 0 0]) ?_ 0 _ rfl; (with_reducible repeat (first | refine ar ?_ _ | refine aq ?_ | refine au ?_ _)); exact df.out) Try.underlying29 rfl z0) rfl ?_
  exact ⟨_, y4, y10, by repeat (first | (with_reducible first | exact HB.out | apply bA | apply pD | apply bD | refine ay ?_ dJ.out | refine ay ?_ fI.out) | exact HB.out)⟩

/-! ### impl_balanced: function 60, by hand -/
/-- Pieces joined evenly. -/
def bal : Nat → List ByteArray → Limb
 | 0, _ => .nil
 | d + 1, ps => if ps.length = 0 then .nil else (if ps.length = 1 then lf (rdOf ByteArray.empty ps 0) else fk (bal d (ps.take ((ps.length + 1) / 2))) (bal d (ps.drop ((ps.length + 1) / 2))))
def BalAt (w : World) (ok : Nat → Prop) (t : Limb) (e : Ending) (w' : World) : Prop := ∃ P, e = .returned (.pointer P) ∧ LmAt w' ok t P ∧ Below w.heap.size w w'
set_option maxHeartbeats 4000000 in
set_option maxRecDepth 100000 in
theorem balanced_any : ∀ (d : Nat) (ps : List ByteArray) (A : Option Addr) (c : Nat) (ok : Nat → Prop) (w : World), ps.length ≤ d → Kd.string.C w A ps.length ps → ps.length ≤ c → ps.length ≤ 100000000 → (∀ k, w.heap.size ≤ k → ok k) →
  Calls Try.prog 60 #[.slice A ps.length c] w (BalAt w ok (bal d ps)) := by
 intro d
 induction d with
 | zero =>
  intro ps A c ok w hd hC hc hn hok
  obtain rfl : ps = [] := List.eq_nil_of_length_eq_zero (by omega)
  clear hC hn hd hok
  go_enter Try.func60, Try.ntmps60
  go_wp2
  go_ret
  exact ⟨none, rfl, rfl, Below.refl _ _⟩
 | succ d ih =>
  intro ps A c ok w hd hC hc hn hok
  by_cases h0 : ps.length = 0
  ·have hX : Aside0 (bal (d + 1) ps = .nil) := ⟨by unfold bal; rw [if_pos h0]⟩
   rw [hX.out, h0]
   clear hC hn hd hok hX h0 ih hc
   go_enter Try.func60, Try.ntmps60
   go_wp2
   go_ret
   exact ⟨none, rfl, rfl, Below.refl _ _⟩
  ·by_cases h1 : ps.length = 1
   ·have hX : Aside0 (bal (d + 1) ps = lf (rdOf ByteArray.empty ps 0)) := ⟨by unfold bal; rw [if_neg h0, if_pos h1]⟩
    obtain ⟨ad, rfl, hc0⟩ := Kd.at_string hC 0 (by omega) (by omega)
    have hc1 : w.cell? ad = some (.string (rdOf ByteArray.empty ps 0)) := by rw [show ad.add (Int.toNat 0) = ad by cases ad; rfl] at hc0; exact hc0
    clear hc0
    have HK := aM hok
    rw [hX.out, h1]
    clear hC hn hd hok hX h0 ih hc h1
    go_enter Try.func60, Try.ntmps60
    go_wp2_with (first | (go_at_call 78; refine (leaf_any _ _).mono ?_; rintro e w1 ⟨P, rfl, hl, hb⟩; have HL := aM hl; have HB := aM hb; clear hl hb))
    go_ret
    exact ⟨P, rfl, HL.out.mono HK.out, HB.out⟩
   ·obtain ⟨m, hm⟩ : ∃ m, (ps.length + 1) / 2 = m := ⟨_, rfl⟩
    have hm1 : m ≤ ps.length := by omega
    have hm2 : m ≤ d := by omega
    have hm3 : ps.length - m ≤ d := by omega
    have hX : Aside0 (bal (d + 1) ps = fk (bal d (ps.take m)) (bal d (ps.drop m))) := ⟨by rw [← hm]; conv => lhs; unfold bal; rw [if_neg h0, if_neg h1]⟩
    rw [hX.out]
    have L1 : (ps.take m).length = m := by rw [List.length_take]; omega
    have L2 : (ps.drop m).length = ps.length - m := by rw [List.length_drop]
    have C1 := Kd.C_take hC hm1
    have C2 : Kd.string.C w (if c = m then A else A.map (·.add (m * 1))) (ps.drop m).length (ps.drop m) := Kd.C_drop hC hm1 hc
    rw [L1] at C1
    rw [L2] at C2
    have dN := aM C1
    have HI1 : Aside0 (∀ w', Kd.string.C w' A m (ps.take m) → (∀ k, w'.heap.size ≤ k → ok k) → Calls Try.prog 60 #[.slice A m c] w' (BalAt w' ok (bal d (ps.take m)))) := ⟨fun w' h1 h2 => by
     have := ih (ps.take m) A c ok w' (by omega) (by rw [L1]; exact h1) (by omega) (by omega) h2
     rw [L1] at this
     exact this⟩
    have ly := aM C2
    have HI2 : Aside0 (∀ w', Kd.string.C w' (if c = m then A else A.map (·.add (m * 1))) (ps.length - m) (ps.drop m) → (∀ k, w'.heap.size ≤ k → ok k) → Calls Try.prog 60 #[.slice (if c = m then A else A.map (·.add (m * 1))) (ps.length - m) (c - m)] w' (BalAt w' ok (bal d (ps.drop m)))) := ⟨fun w' h1 h2 => by
     have := ih (ps.drop m) (if c = m then A else A.map (·.add (m * 1))) (c - m) ok w' (by omega) (by rw [L2]; exact h1) (by omega) (by omega) h2
     rw [L2] at this
     exact this⟩
    have HK := aM hok
    obtain ⟨i9, hi9, _, hz9, _⟩ := info_parts info9
    have hcut1 := cut_to (P := Try.prog) 44 9 .i64 Try.underlying44 hi9 A ps.length c (m : Int) (by omega) (by omega) hc
    have hcut2 := cut_from (P := Try.prog) 44 9 .i64 Try.underlying44 hi9 1 hz9 A ps.length c (m : Int) (by omega) (by omega)
    simp only [aW] at hcut1 hcut2
    obtain ⟨A2, hA2⟩ : ∃ A2, (if c = m then A else A.map (·.add (m * 1))) = A2 := ⟨_, rfl⟩
    rw [hA2] at HI2 ly hcut2
    clear hA2 hi9 hz9
    have hw1 : wrap64 ((ps.length : Int) + 1) = (ps.length : Int) + 1 := by unfold wrap64; omega
    have hw2 : ((ps.length : Int) + 1) / 2 = (m : Int) := by omega
    have b0 : ((ps.length : Int) == 0) = false := qF (by omega)
    have b1 : ((ps.length : Int) == 1) = false := qF (by omega)
    have HW := aM hw2
    clear hC hd hok hX ih C1 C2 L1 L2 hm1 hm2 hm3 hm h0 h1 hw1 hw2
    go_enter Try.func60, Try.ntmps60
    go_wp2
    rw [HW.out]
    go_region_held3 (fun _ => True) (first | trivial) (first | (go_at_call 69; refine (fork_any _ _ P1 P2 ok _ HL1.out HL2.out ?g1).mono ?_; (case g1 => exact fun k hk => HK.out k (by have h1 := HB1.out.size; have h2 := HB2.out.size; simp at h1 h2 hk; omega)); rintro e w3 ⟨P3, rfl, hl, hb⟩; have HL3 := aM hl; have HB3 := aM hb; clear hl hb) | (go_at_call_of 60 (Value.slice A m c); refine (HI1.out _ ?g1 ?g2).mono ?_; (case g1 => (first | exact dN.out | exact aI dN.out | exact aH dN.out _)); (case g2 => exact HK.out); rintro e w1 ⟨P1, rfl, hl, hb⟩; have HL1' := aM hl; have HB1 := aM hb; clear hl hb) | (go_at_call 60; refine (HI2.out _ ?g1 ?g2).mono ?_; (case g1 => exact aE (by (first | exact ly.out | exact aI ly.out | exact aH ly.out _)) HB1.out); (case g2 => exact fun k hk => HK.out k (by have h1 := HB1.out.size; simp at h1 hk; omega)); rintro e w2 ⟨P2, rfl, hl, hb⟩; have HL2 := aM hl; have HB2 := aM hb; have HL1 := aM (HL1'.out.below hb); clear hl hb))
    go_wp2
    go_ret
    exact ⟨P3, rfl, HL3.out, az (az (by (first | exact HB1.out | exact az (below_drew (Below.refl _ _)) HB1.out)) HB2.out) HB3.out⟩
/-- balanced, at a row of the call's own. -/
theorem balanced_row {w1 : World} {v : Value} {ps : List ByteArray} {base : Nat} {ok' : Nat → Prop} (h : Kd.R Kd.string 9 w1 base ok' v ps) (hn : ps.length ≤ 100000000) : ∃ A c, v = .slice A ps.length c ∧ Calls Try.prog 60 #[.slice A ps.length c] w1 (BalAt w1 (fun _ => True) (bal ps.length ps)) := by
 obtain ⟨A, c, e, hc, hr⟩ := Kd.R_reads h
 exact ⟨A, c, e, balanced_any ps.length ps A c (fun _ => True) w1 (Nat.le_refl _) hr hc hn (fun _ _ => trivial)⟩

/-! ### impl_limb_boughs: function 83, by hand -/
/-- The boughs of a tree, behind others. -/
def bgs : Limb → List S58 → List S58
 | .nil, out => out
 | .node l r s n d, out => if l.isNil = true then out ++ [⟨-1, -1, s, n, 0⟩] else bgs r (bgs l out) ++ [⟨((bgs l out).length : Int) - 1, ((bgs r (bgs l out)).length : Int) - 1, ⟨#[]⟩, n, d⟩]
theorem bgs_length (t : Limb) : ∀ out, (bgs t out).length = out.length + cnt t := by
 induction t with
 | nil => intro out; rfl
 | node l r s n d ihl ihr =>
  intro out
  unfold bgs cnt
  split
  ·simp
  ·rw [aX, ihr, ihl]; simp; omega
def BgAt (w0 w : World) (v : Value) (xs : List S58) (e : Ending) (w' : World) : Prop := ∃ v', e = .returned v' ∧ Kd.R k58 58 w' w0.heap.size (fun _ => True) v' xs ∧ Below w0.heap.size w0 w' ∧ RowTo w w' v v'
set_option maxHeartbeats 4000000 in
theorem boughs_any (t : Limb) : ∀ (A : Option Addr) (ok : Nat → Prop) (w0 w : World) (v : Value) (xs : List S58), LmAt w ok t A → Kd.R k58 58 w w0.heap.size (fun _ => True) v xs → Below w0.heap.size w0 w → xs.length + cnt t ≤ 100000000 →
  Calls Try.prog 83 #[.pointer A, v] w (BgAt w0 w v (bgs t xs)) := by
 induction t with
 | nil =>
  intro A ok w0 w v xs hA hv hB hn
  obtain rfl : A = none := hA
  have HV := aM hv
  have HB := aM hB
  obtain ⟨Av, cv, rfl, -, -⟩ := Kd.R_reads hv
  have HX : Aside0 (bgs .nil xs = xs) := ⟨rfl⟩
  rw [HX.out]
  clear hv hB hn HX
  go_enter Try.func83, Try.ntmps83
  go_wp2
  go_ret
  exact ⟨_, rfl, HV.out, HB.out, RowTo.refl _ _⟩
 | node l r s n d ihl ihr =>
  intro A ok w0 w v xs hA hv hB hn
  have HA := aM hA
  have HV := aM hv
  have HB := aM hB
  obtain ⟨b, L, R, rfl, hb, hc, hl, hr⟩ := hA
  have HC := aM hc
  have c0 : w.cell? ⟨b, 0, none⟩ = some (.pointer L) := (bC hc 0).trans rfl
  have HL := aM hl
  have HR := aM hr
  obtain ⟨Av, cv, rfl, -, -⟩ := Kd.R_reads hv
  cases l with
  | nil =>
   obtain rfl : L = none := hl
   have c2 : w.cell? ⟨b, 2, none⟩ = some (.string s) := (bC hc 2).trans rfl
   have c3 : w.cell? ⟨b, 3, none⟩ = some (.int .i64 n) := (bC hc 3).trans rfl
   have HN1 : Aside0 (xs.length + 1 ≤ 100000000) := ⟨hn⟩
   have HX : Aside0 (bgs (.node .nil r s n d) xs = xs ++ [⟨-1, -1, s, n, 0⟩]) := ⟨rfl⟩
   rw [HX.out]
   clear hr hb hc hv hB hn ihl ihr HX
   go_enter Try.func83, Try.ntmps83
   go_wp2
   go_region_law (refine Kd.R_append_step k58 (w0 := w0) (W := w.drew) w0.heap.size ?hw (.tmp 16) (.tmp 26) 27 58 (.agg #[(.int .i64 0), (.int .i64 0), (.string ⟨#[]⟩), (.int .i64 0), (.int .i64 0)]) 48 ?ho Try.underlying27 info58 rfl (by decide) (by decide) (.slice Av xs.length cv) xs (⟨-1, -1, s, n, 0⟩ : S58) [.int .i64 (-1), .int .i64 (-1), .string s, .int .i64 n, .int .i64 0] (fun _ => True) (fun _ => False) ?hs ?hx ?aP (fun _ h => h.elim) (fun _ _ => trivial) ?aO ?aB ?aS ?aL ?_; (case aL => have := HN1.out; omega); (case hw => rfl); (case ho => rfl); (case hs => rfl); (case hx => rfl); (case aP => exact k58_mkM _ _ _ _); (case aB => exact below_drew HB.out); (case aO => exact aa HV.out); (case aS => exact HB.out.size); intro v1 w1 ho hb hg hat; obtain ⟨A1, c1, eo, -, -⟩ := Kd.R_reads ho; rw [aX, aY] at eo; subst eo; have HO := aM ho; have HB1 := aM hb; have HT : Aside0 (RowTo w w1 (.slice Av xs.length cv) (.slice A1 (xs.length + 1) c1)) := ⟨⟨Kept.of_grown hg (Kept.refl w _) (fun k hk => .inl hk.symm), hat⟩⟩; clear ho hb hg hat)
   all_goals
    go_wp2
    go_ret
    exact ⟨_, rfl, HO.out, HB1.out, HT.out⟩
  | node l' r' s' n' d' =>
   have hl2 := hl
   obtain ⟨bl, L2, R2, rfl, -⟩ := hl2
   have c1 : w.cell? ⟨b, 1, none⟩ = some (.pointer R) := (bC hc 1).trans rfl
   have HN1 : Aside0 (xs.length + cnt (.node l' r' s' n' d') + cnt r + 1 ≤ 100000000) := ⟨by have : cnt (.node (.node l' r' s' n' d') r s n d) = cnt (.node l' r' s' n' d') + cnt r + 1 := rfl; rw [this] at hn; omega⟩
   have HX : Aside0 (bgs (.node (.node l' r' s' n' d') r s n d) xs = bgs r (bgs (.node l' r' s' n' d') xs) ++ [⟨((bgs (.node l' r' s' n' d') xs).length : Int) - 1, ((bgs r (bgs (.node l' r' s' n' d') xs)).length : Int) - 1, ⟨#[]⟩, n, d⟩]) := ⟨rfl⟩
   rw [HX.out]
   clear hr hb hc hv hB hn hl HX
   generalize (Limb.node l' r' s' n' d') = l at *
   obtain ⟨o1, ho1⟩ : ∃ o, bgs l xs = o := ⟨_, rfl⟩
   have HZ1 : Aside0 (bgs l xs = o1) := ⟨ho1⟩
   obtain ⟨o2, ho2⟩ : ∃ o, bgs r o1 = o := ⟨_, rfl⟩
   have HZ2 : Aside0 (bgs r o1 = o2) := ⟨ho2⟩
   have HE1 : Aside0 (o1.length = xs.length + cnt l) := ⟨by rw [← ho1, bgs_length]⟩
   have HE2 : Aside0 (o2.length = o1.length + cnt r) := ⟨by rw [← ho2, bgs_length]⟩
   rw [ho1, ho2]
   clear ho1 ho2
   go_enter Try.func83, Try.ntmps83
   go_wp2_with (first | (go_at_call_of 83 (Value.pointer (some ⟨bl, 0, none⟩)); refine (ihl (some ⟨bl, 0, none⟩) ok w0 _ _ xs HL.out HV.out HB.out ?g4).mono ?_; (case g4 => have := HN1.out; omega); rintro e w1 ⟨v1, rfl, ho, hb, ht⟩; rw [HZ1.out] at ho; obtain ⟨A1, k1, eo, -, -⟩ := Kd.R_reads ho; subst eo; have HV1 := aM ho; have HB1 := aM hb; have HT1 := aM ht; have dN := aM (blk_kept (W := w) HC.out HT1.out.1 (fun e => Kd.R_ne HV.out HC.out (by decide) e)); have d1 : w1.cell? ⟨b, 1, none⟩ = some (.pointer R) := (bC dN.out 1).trans rfl; have lP := aM (HR.out.rowTo HV.out (by decide) HT1.out); clear ho hb ht) | (go_at_call_of 83 (Value.pointer R); refine (ihr R ok w0 _ _ o1 lP.out HV1.out HB1.out ?g4).mono ?_; (case g4 => have := HN1.out; have := HE1.out; omega); rintro e w2 ⟨v2, rfl, ho, hb, ht⟩; rw [HZ2.out] at ho; obtain ⟨A2, k2, eo, -, -⟩ := Kd.R_reads ho; subst eo; have HV2 := aM ho; have HB2 := aM hb; have HT2 := aM ht; have ly := aM (blk_kept (W := w1) dN.out HT2.out.1 (fun e => Kd.R_ne HV1.out dN.out (by decide) e)); have d3 : w2.cell? ⟨b, 3, none⟩ = some (.int .i64 n) := (bC ly.out 3).trans rfl; have d4 : w2.cell? ⟨b, 4, none⟩ = some (.int .i64 d) := (bC ly.out 4).trans rfl; clear ho hb ht))
   have HW1 : Aside0 (wrap64 ((o1.length : Int) - 1) = (o1.length : Int) - 1) := ⟨by have := HN1.out; have := HE1.out; unfold wrap64; omega⟩
   have HW2 : Aside0 (wrap64 ((o2.length : Int) - 1) = (o2.length : Int) - 1) := ⟨by have := HN1.out; have := HE1.out; have := HE2.out; unfold wrap64; omega⟩
   rw [HW1.out]
   clear c0 c1 d1 ihl ihr
   go_region_law (refine Kd.R_append_step k58 (w0 := w0) (W := w2.drew) w0.heap.size ?hw (.tmp 43) (.tmp 57) 27 58 (.agg #[(.int .i64 0), (.int .i64 0), (.string ⟨#[]⟩), (.int .i64 0), (.int .i64 0)]) 48 ?ho Try.underlying27 info58 rfl (by decide) (by decide) (.slice A2 o2.length k2) o2 (⟨(o1.length : Int) - 1, IntKind.i64.wrap ((o2.length : Int) - 1), ⟨#[]⟩, n, d⟩ : S58) [.int .i64 ((o1.length : Int) - 1), .int .i64 (IntKind.i64.wrap ((o2.length : Int) - 1)), .string ⟨#[]⟩, .int .i64 n, .int .i64 d] (fun _ => True) (fun _ => False) ?hs ?hx ?aP (fun _ h => h.elim) (fun _ _ => trivial) ?aO ?aB ?aS ?aL ?_; (case aL => have := HN1.out; have := HE1.out; have := HE2.out; omega); (case hw => rfl); (case ho => rfl); (case hs => rfl); (case hx => rfl); (case aP => exact k58_mkM _ _ _ _); (case aB => exact below_drew HB2.out); (case aO => exact aa HV2.out); (case aS => exact HB2.out.size); intro v3 w3 ho hb hg hat; obtain ⟨A3, k3, eo, -, -⟩ := Kd.R_reads ho; rw [aX, aY] at eo; subst eo; have HO := aM ho; have HB3 := aM hb; have HT3 : Aside0 (RowTo w2 w3 (.slice A2 o2.length k2) (.slice A3 (o2.length + 1) k3)) := ⟨⟨Kept.of_grown hg (Kept.refl w2 _) (fun k hk => .inl hk.symm), hat⟩⟩; clear ho hb hg hat)
   all_goals
    go_wp2
    go_ret
    refine ⟨_, rfl, ?_, HB3.out, (HT1.out.trans HT2.out).trans HT3.out⟩
    have := HO.out
    rw [i64_w, HW2.out] at this
    exact this

/-! ### impl_limb_rope: function 62, by hand -/
def ropeF (t : Limb) : Option (List S58 × Bool) :=
 if cnt t ≤ 10000000 then (if 200 < cnt t then some ([], false) else (if t.isNil = true then some (bgs t [], true) else (if 300 < t.size then some ([], false) else some (bgs t [], true)))) else none
set_option maxHeartbeats 4000000 in
theorem rope_any (t : Limb) (A : Option Addr) (ok : Nat → Prop) (w : World) (r1 : List S58) (r2 : Bool) (hA : LmAt w ok t A) (h : ropeF t = some (r1, r2)) :
  Calls Try.prog 62 #[.pointer A] w fun e w' => ∃ v0_ : Value, e = .returned (.tuple #[.agg #[v0_], .bool r2]) ∧ Kd.R k58 58 w' w.heap.size (fun _ => True) v0_ r1 ∧ Below w.heap.size w w' := by
 unfold ropeF at h
 split at h
 case isFalse => cases h
 case isTrue hc =>
 have HN : Aside0 (([] : List S58).length + cnt t ≤ 100000000) := ⟨by show 0 + _ ≤ _; omega⟩
 have HA := aM hA
 have HV : Aside0 (Kd.R k58 58 w w.heap.size (fun _ => True) (.slice none 0 0) ([] : List S58)) := ⟨Kd.R_nil _ _ _ _ _⟩
 obtain ⟨B, hB⟩ : ∃ B, bgs t [] = B := ⟨_, rfl⟩
 have HZ : Aside0 (bgs t [] = B) := ⟨hB⟩
 have hl : B.length = cnt t := by rw [← hB, bgs_length]; simp
 rw [hB] at h
 rw [← hl] at h
 clear hB hc hl
 by_cases hq : 200 < B.length
 ·rw [if_pos hq] at h
  obtain ⟨rfl, rfl⟩ := Prod.mk.inj (sI h)
  have q1 : decide ((200 : Int) < (B.length : Int)) = true := dT (by omega)
  clear h hA hq
  go_enter Try.func62, Try.ntmps62
  go_wp2_with (first | (go_at_call 83; refine (boughs_any _ _ ok w _ _ [] (HA.out.alloc _) (ae HV.out _) (bA (Below.refl _ _) _) HN.out).mono ?_; rintro e w1 ⟨v1, rfl, ho, hb, ht⟩; rw [HZ.out] at ho; obtain ⟨A1, k1, eo, -, -⟩ := Kd.R_reads ho; subst eo; have HV1 := aM ho; have HB1 := aM hb; have HT1 := aM ht; have dN := aM (blk_kept (W := w.alloc (.cells #[.slice none 0 0] 29)) (blk_new _ _) HT1.out.1 (by simp [Value.ownBlock])); have e0 : ∀ o, (w1.alloc o).cell? ⟨w.heap.size, 0, none⟩ = some (.slice none 0 0) := fun o => (bC (au dN.out o) 0).trans rfl; have e1 : ∀ o, (w1.alloc o).frozen? ⟨w.heap.size, 0, none⟩ = false := fun o => bF (au dN.out o) 0;  clear ho hb ht))
  refine aT (aU rfl _ _ w.heap.size 29 #[.slice none 0 0] (0, 0) _ rfl (by refine aw (cs := #[.slice none 0 0]) (au dN.out _) 0 _ rfl) Try.underlying29 rfl z0) rfl ?_
  exact ⟨_, rfl, Kd.R_nil _ _ _ _ _, ay (bA HB1.out _) (Nat.le_refl _)⟩
 ·rw [if_neg hq] at h
  have q1 : decide ((200 : Int) < (B.length : Int)) = false := dF (by omega)
  clear hq
  cases t with
  | nil =>
   obtain rfl : A = none := hA
   obtain ⟨rfl, rfl⟩ := Prod.mk.inj (sI h)
   clear h
   go_enter Try.func62, Try.ntmps62
   go_wp2_with (first | (go_at_call 83; refine (boughs_any _ _ ok w _ _ [] (HA.out.alloc _) (ae HV.out _) (bA (Below.refl _ _) _) HN.out).mono ?_; rintro e w1 ⟨v1, rfl, ho, hb, ht⟩; rw [HZ.out] at ho; obtain ⟨A1, k1, eo, -, -⟩ := Kd.R_reads ho; subst eo; have HV1 := aM ho; have HB1 := aM hb; have HT1 := aM ht; have dN := aM (blk_kept (W := w.alloc (.cells #[.slice none 0 0] 29)) (blk_new _ _) HT1.out.1 (by simp [Value.ownBlock])); have e0 : ∀ o, (w1.alloc o).cell? ⟨w.heap.size, 0, none⟩ = some (.slice none 0 0) := fun o => (bC (au dN.out o) 0).trans rfl; have e1 : ∀ o, (w1.alloc o).frozen? ⟨w.heap.size, 0, none⟩ = false := fun o => bF (au dN.out o) 0;  clear ho hb ht))
   refine aT (aU rfl _ _ w.heap.size 29 #[.slice A1 B.length k1] (0, 0) _ rfl (by refine aw (cs := #[.slice none 0 0]) (au dN.out _) 0 _ rfl) Try.underlying29 rfl z0) rfl ?_
   exact ⟨_, rfl, Kd.R_set (ae HV1.out _) (au dN.out _) (by decide) 0 _, ay (bA HB1.out _) (Nat.le_refl _)⟩
  | node l r s n d =>
   obtain ⟨b, L, R, rfl, hb, hc, -, -⟩ := hA
   have HD := aM hc
   clear hb hc
   have h' : (if 300 < n then some ([], false) else some (B, true)) = some (r1, r2) := h
   clear h
   by_cases hn : 300 < n
   ·rw [if_pos hn] at h'
    obtain ⟨rfl, rfl⟩ := Prod.mk.inj (sI h')
    have q2 : decide (300 < n) = true := dT hn
    clear h' hn
    go_enter Try.func62, Try.ntmps62
    go_wp2_with (first | (go_at_call 83; refine (boughs_any _ _ ok w _ _ [] (HA.out.alloc _) (ae HV.out _) (bA (Below.refl _ _) _) HN.out).mono ?_; rintro e w1 ⟨v1, rfl, ho, hb, ht⟩; rw [HZ.out] at ho; obtain ⟨A1, k1, eo, -, -⟩ := Kd.R_reads ho; subst eo; have HV1 := aM ho; have HB1 := aM hb; have HT1 := aM ht; have dN := aM (blk_kept (W := w.alloc (.cells #[.slice none 0 0] 29)) (blk_new _ _) HT1.out.1 (by simp [Value.ownBlock])); have e0 : ∀ o, (w1.alloc o).cell? ⟨w.heap.size, 0, none⟩ = some (.slice none 0 0) := fun o => (bC (au dN.out o) 0).trans rfl; have e1 : ∀ o, (w1.alloc o).frozen? ⟨w.heap.size, 0, none⟩ = false := fun o => bF (au dN.out o) 0; have HA1 := aM ((HA.out.alloc (.cells #[.slice none 0 0] 29)).rowTo (ae HV.out _) (by decide) HT1.out); have HD1 := aM (blk_kept (W := w.alloc (.cells #[.slice none 0 0] 29)) (au HD.out _) HT1.out.1 (by simp [Value.ownBlock])); have d3 : ∀ o, (w1.alloc o).cell? ⟨b, 3, none⟩ = some (.int .i64 n) := fun o => (bC (au HD1.out o) 3).trans rfl; clear ho hb ht))
    refine aT (aU rfl _ _ w.heap.size 29 #[.slice none 0 0] (0, 0) _ rfl (by refine aw (cs := #[.slice none 0 0]) (au dN.out _) 0 _ rfl) Try.underlying29 rfl z0) rfl ?_
    exact ⟨_, rfl, Kd.R_nil _ _ _ _ _, ay (bA HB1.out _) (Nat.le_refl _)⟩
   ·rw [if_neg hn] at h'
    obtain ⟨rfl, rfl⟩ := Prod.mk.inj (sI h')
    have q2 : decide (300 < n) = false := dF hn
    clear h' hn
    go_enter Try.func62, Try.ntmps62
    go_wp2_with (first | (go_at_call 83; refine (boughs_any _ _ ok w _ _ [] (HA.out.alloc _) (ae HV.out _) (bA (Below.refl _ _) _) HN.out).mono ?_; rintro e w1 ⟨v1, rfl, ho, hb, ht⟩; rw [HZ.out] at ho; obtain ⟨A1, k1, eo, -, -⟩ := Kd.R_reads ho; subst eo; have HV1 := aM ho; have HB1 := aM hb; have HT1 := aM ht; have dN := aM (blk_kept (W := w.alloc (.cells #[.slice none 0 0] 29)) (blk_new _ _) HT1.out.1 (by simp [Value.ownBlock])); have e0 : ∀ o, (w1.alloc o).cell? ⟨w.heap.size, 0, none⟩ = some (.slice none 0 0) := fun o => (bC (au dN.out o) 0).trans rfl; have e1 : ∀ o, (w1.alloc o).frozen? ⟨w.heap.size, 0, none⟩ = false := fun o => bF (au dN.out o) 0; have HA1 := aM ((HA.out.alloc (.cells #[.slice none 0 0] 29)).rowTo (ae HV.out _) (by decide) HT1.out); have HD1 := aM (blk_kept (W := w.alloc (.cells #[.slice none 0 0] 29)) (au HD.out _) HT1.out.1 (by simp [Value.ownBlock])); have d3 : ∀ o, (w1.alloc o).cell? ⟨b, 3, none⟩ = some (.int .i64 n) := fun o => (bC (au HD1.out o) 3).trans rfl; clear ho hb ht))
    refine aT (aU rfl _ _ w.heap.size 29 #[.slice A1 B.length k1] (0, 0) _ rfl (by refine aw (cs := #[.slice none 0 0]) (au dN.out _) 0 _ rfl) Try.underlying29 rfl z0) rfl ?_
    exact ⟨_, rfl, Kd.R_set (ae HV1.out _) (au dN.out _) (by decide) 0 _, ay (bA HB1.out _) (Nat.le_refl _)⟩

/-! ### impl_Rebalance: function 37, by hand -/
def impl_Rebalance.f (k : Nat) (l0_0 : List S58) : Option (List S58 × Bool) := (opnF k l0_0).bind fun p => if p.2 = true then (if (pcs p.1).length ≤ 100000000 then ropeF (bal (pcs p.1).length (pcs p.1)) else none) else some ([], false)
theorem impl_Rebalance.mono : ∀ a0 k, LeO (impl_Rebalance.f k a0) (impl_Rebalance.f (k + 1) a0) := fun a0 k => open_drop (fun _ => LeO.refl _)
set_option maxHeartbeats 1000000 in
theorem impl_Rebalance.calls (k : Nat) (bB : Option Addr) (bo : Nat) (l0_0 : List S58) (r1 : List S58) (r2 : Bool) (w : World) (hr0_0 : Kd.C k58 w bB l0_0.length l0_0) (hc0_0 : l0_0.length ≤ bo) (h : impl_Rebalance.f k l0_0 = some (r1, r2)) :
  Calls Try.prog 37 #[.agg #[.slice bB l0_0.length bo]] w fun e w' => ∃ v0_ : Value, e = .returned (.tuple #[.agg #[v0_], .bool r2]) ∧ Kd.R k58 58 w' w.heap.size (fun _ => True) v0_ r1 ∧ Below w.heap.size w w' := by
 obtain ⟨⟨t, b⟩, h1, h2⟩ := oB h
 have HO := aM (fun (w' : World) (hC : Kd.C k58 w' bB l0_0.length l0_0) => open_any k l0_0 bB bo t b w' hC hc0_0 h1)
 have HC := aM hr0_0
 have HW : Aside0 (((w.alloc (.cells #[.slice bB l0_0.length bo] 29)).alloc (.cells #[.slice none 0 0] 29)).heap[w.heap.size + 1]? = some (.cells #[.slice none 0 0] 29 (0, 0))) := ⟨by have := blk_new (w.alloc (.cells #[.slice bB l0_0.length bo] 29)) (.cells #[.slice none 0 0] 29); simpa using this⟩
 have HWB : Aside0 (Below w.heap.size w ((w.alloc (.cells #[.slice bB l0_0.length bo] 29)).alloc (.cells #[.slice none 0 0] 29))) := ⟨bA (bA (Below.refl _ _) _) _⟩
 clear h h1 hr0_0 hc0_0
 cases b with
 | false =>
  rw [if_neg (by simp)] at h2
  obtain ⟨rfl, rfl⟩ := Prod.mk.inj (sI h2)
  clear h2
  go_enter Try.func37, Try.ntmps37
  go_wp2_with (first | (go_at_call 48; refine (HO.out _ (aG (aG HC.out _) _)).mono ?_; rintro e w1 ⟨P, rfl, hl, hb⟩; have HB := aM hb; have HX3 := aM (af HW.out hb); have e0 : w1.cell? ⟨w.heap.size + 1, 0, none⟩ = some (.slice none 0 0) := (bC HX3.out 0).trans rfl; have e1 := bF HX3.out 0; clear hl hb))
  refine aT (aU rfl _ _ (w.heap.size + 1) 29 #[.slice none 0 0] (0, 0) _ rfl (by exact aw (cs := #[.slice none 0 0]) HX3.out 0 _ rfl) Try.underlying29 rfl z0) rfl ?_
  exact ⟨_, rfl, Kd.R_nil _ _ _ _ _, ay (az HWB.out HB.out) (by omega)⟩
 | true =>
  rw [if_pos rfl] at h2
  split at h2
  case isFalse => cases h2
  case isTrue hn =>
  have hn2 : (pcs t).length ≤ 100000000 := hn
  have HN : Aside0 (([] : List ByteArray).length + (pcs t).length ≤ 100000000) := ⟨by show 0 + _ ≤ _; omega⟩
  have HN2 := aM hn2
  have HR : Aside0 (ropeF (bal (pcs t).length (pcs t)) = some (r1, r2)) := ⟨h2⟩
  clear h2 hn hn2
  go_enter Try.func37, Try.ntmps37
  go_wp2_with (first | (go_at_call 48; refine (HO.out _ (aG (aG HC.out _) _)).mono ?_; rintro e w1 ⟨P, rfl, hl, hb⟩; have HB1 : Aside0 (Below w.heap.size w w1) := ⟨az HWB.out hb⟩; have HL1 := aM hl; have HX1 := aM (af HW.out hb); clear hl hb) | (go_at_call 66; refine (pieces_any t P _ w1 w1 _ [] HL1.out (Kd.R_nil _ _ _ _ _) (Below.refl _ _) HN.out).mono ?_; rintro e w2 ⟨v2, rfl, ho, hb, ht⟩; rw [List.nil_append] at ho; obtain ⟨A1, c1, rfl, HBA⟩ := balanced_row ho HN2.out; have HBL := aM HBA; have HB2 := aM hb; have HX2 := aM (af HX1.out hb); clear ho hb ht HBA) | (go_at_call 60; refine HBL.out.mono ?_; rintro e w3 ⟨P3, rfl, hl, hb⟩; have HL3 := aM hl; have HB3 := aM hb; have HX3 := aM (af HX2.out hb); clear hl hb) | (go_at_call 62; refine (rope_any _ P3 _ _ r1 r2 HL3.out HR.out).mono ?_; rintro e w4 ⟨v4, rfl, ho, hb⟩; obtain ⟨A4, c4, eo, -, -⟩ := Kd.R_reads ho; subst eo; have dV := aM ho; have HB4 := aM hb; have HX4 := aM (af HX3.out hb); have e0 : w4.cell? ⟨w.heap.size + 1, 0, none⟩ = some (.slice none 0 0) := (bC HX4.out 0).trans rfl; have e1 := bF HX4.out 0; clear ho hb))
  refine aT (aU rfl _ _ (w.heap.size + 1) 29 #[.slice A4 r1.length c4] (0, 0) _ rfl (by exact aw (cs := #[.slice none 0 0]) HX4.out 0 _ rfl) Try.underlying29 rfl z0) rfl ?_
  have HBB : Below w.heap.size w w4 := az (az (az HB1.out HB2.out) HB3.out) HB4.out
  have HB23 : Below w.heap.size w w3 := az (az HB1.out HB2.out) HB3.out
  exact ⟨_, rfl, Kd.R_set (aV dV.out HB23.size) HX4.out (by decide) 0 _, ay HBB (by omega)⟩

/-! ### spec_GoodText: function 56 -/
def spec_GoodText.f (k : Nat) (a0 : ByteArray) : Option (Bool) := (spec_l1Text.f k a0).bind fun fc => (if fc = true then (some (decide ((a0.size : Int) ≤ 300))) else (some false))
theorem spec_GoodText.mono : ∀ a0 k, LeO (spec_GoodText.f k a0) (spec_GoodText.f (k + 1) a0) := by
 intro a0 k
 unfold spec_GoodText.f
 repeat' first
   | (with_reducible exact spec_l1Text.mono _ _)
   | (with_reducible exact LeO.refl _)
   | (with_reducible exact LeO.none _)
   | (with_reducible refine LeO.ite ?_ ?_)
   | (with_reducible refine LeO.bind ?_ (fun _ => ?_))
set_option maxHeartbeats 8000000 in
set_option maxRecDepth 100000 in
theorem spec_GoodText.calls (k : Nat) (a0 : ByteArray) (r : Bool) (w : World) (h : spec_GoodText.f k a0 = some r) :
  Calls Try.prog 56 #[.string a0] w fun e w' => e = .returned (.bool r) ∧ Drawn0 w w' := by
 have H : ((spec_l1Text.f k a0).bind fun fc => (if fc = true then (some (decide ((a0.size : Int) ≤ 300))) else (some false))) = some r := h
 clear h
 obtain ⟨fc, A2, H⟩ := oA_ H
 try dsimp only at H
 by_cases c3 : fc = true
 ·subst c3
  rw [if_pos rfl] at H
  obtain rfl := sI H
  go_enter Try.func56, Try.ntmps56
  go_wp2_with (first | ((with_reducible refine aJ (f := 76) rfl ?_); refine aQ (some 4) rfl rfl Try.func76 z0 rfl #[.string a0] rfl z17 ?_; (with_reducible refine (spec_l1Text.calls k a0 true _ A2.out).mono ?_); rintro e w' ⟨rfl, ⟨nd, rfl⟩⟩; refine ⟨_, rfl, ?_⟩))
  go_ret
  exact ⟨y1, y3⟩
 ·replace c3 := Bool.eq_false_iff.mpr c3
  subst c3
  rw [if_neg nF_] at H
  obtain rfl := sI H
  go_enter Try.func56, Try.ntmps56
  go_wp2_with (first | ((with_reducible refine aJ (f := 76) rfl ?_); refine aQ (some 4) rfl rfl Try.func76 z0 rfl #[.string a0] rfl z17 ?_; (with_reducible refine (spec_l1Text.calls k a0 false _ A2.out).mono ?_); rintro e w' ⟨rfl, ⟨nd, rfl⟩⟩; refine ⟨_, rfl, ?_⟩))
  go_ret
  exact ⟨y1, y3⟩

end Go.Proofs.Ytmkenlejdaphnaa.AFnBalanced
