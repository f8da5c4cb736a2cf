-- this session's own text: written by wip/tools/ownprint.py over the kit's print
import Derived.Laws.Cover1
import Derived.Test.YtjbllgdehpomiaaAFnMarksx0
import Derived.Test.YtjbllgdehpomiaaAFnMarksx8
namespace Go.Proofs.Ytjbllgdehpomiaa.AFnMarks
open Go.RowKit Go.Proofs.YtjbllgdehpomiaaW.PrintWords Go.Proofs.YtjbllgdehpomiaaW.PrintLast Go.Proofs.YtjbllgdehpomiaaW.PrintMore
attribute [local go_sem] max2_int min2_int max_two min_two max_three min_three max_four min_four   -- for this text's walks alone
set_option linter.unusedVariables false
set_option maxHeartbeats 8000000
set_option maxRecDepth 100000
set_option linter.unusedSimpArgs false
/-! ### impl_GoodMarks: function 9 -/
mutual
def impl_GoodMarks.j0 : Nat → List (S34) → Int → Bool → Option (Bool)
 | 0, _, _, _ => none
 | k + 1, x0, x1, x17 => if x17 = true then (some false) else (impl_GoodMarks.l0 k x0 x1 x0 (x0.length : Int) 0)
def impl_GoodMarks.l0 : Nat → List (S34) → Int → List (S34) → Int → Int → Option (Bool)
 | 0, _, _, _, _, _ => none
 | k + 1, x0, x1, x18, x19, x20 => if x20 < x19 then (if 0 ≤ x20 then (if x20 < (x18.length : Int) then ((impl_isMark.f k ((so x18 x20).f0) ((so x18 x20).f1) ((so x18 x20).f2) x1).bind fun ql => (if ql = true then (if x20 > 0 then (if 0 ≤ (wrap64 (x20 - 1)) then (if (wrap64 (x20 - 1)) < (x0.length : Int) then (if (Op.bytesLess (((so x18 x20).f2).toList) (((so x0 (wrap64 (x20 - 1))).f2).toList)) = true then (some false) else (if ((so x0 (wrap64 (x20 - 1))).f2).toList = ((so x18 x20).f2).toList then (if ((so x0 (wrap64 (x20 - 1))).f1) ≥ ((so x18 x20).f0) then (some false) else (impl_GoodMarks.l0 k x0 x1 x18 x19 (wrap64 (x20 + 1)))) else (impl_GoodMarks.l0 k x0 x1 x18 x19 (wrap64 (x20 + 1))))) else (none)) else (none)) else (impl_GoodMarks.l0 k x0 x1 x18 x19 (wrap64 (x20 + 1)))) else (some false))) else (none)) else (none)) else (some true)
end
def impl_GoodMarks.f (k : Nat) (l0 : List (S34)) (a1 : Int) : Option (Bool) := if a1 < 0 then (impl_GoodMarks.j0 k l0 a1 true) else (if a1 > 300 then (impl_GoodMarks.j0 k l0 a1 true) else (impl_GoodMarks.j0 k l0 a1 (decide ((l0.length : Int) > 40))))
theorem impl_GoodMarks.mono_l : ∀ k, (∀ y0 y1 y2, LeO (impl_GoodMarks.j0 k y0 y1 y2) (impl_GoodMarks.j0 (k + 1) y0 y1 y2)) ∧ (∀ y0 y1 y2 y3 y4, LeO (impl_GoodMarks.l0 k y0 y1 y2 y3 y4) (impl_GoodMarks.l0 (k + 1) y0 y1 y2 y3 y4))
 | 0 => ⟨fun _ _ _ r h => by simp [impl_GoodMarks.j0] at h, fun _ _ _ _ _ r h => by simp [impl_GoodMarks.l0] at h⟩
 | k + 1 => by
  obtain ⟨ih0, ih1⟩ := impl_GoodMarks.mono_l k
  refine ⟨?_, ?_⟩
  ·intro y0 y1 y2
   unfold impl_GoodMarks.j0
   with_reducible repeat' first | exact ih0 _ _ _ | exact ih1 _ _ _ _ _ | exact impl_isMark.mono _ _ _ _ _ | exact lR_ _ | exact lN_ _ | refine lI_ ?_ ?_ | refine lB_ ?_ fun _ => ?_
  ·intro y0 y1 y2 y3 y4
   unfold impl_GoodMarks.l0
   with_reducible repeat' first | exact ih0 _ _ _ | exact ih1 _ _ _ _ _ | exact impl_isMark.mono _ _ _ _ _ | exact lR_ _ | exact lN_ _ | refine lI_ ?_ ?_ | refine lB_ ?_ fun _ => ?_
theorem impl_GoodMarks.mono : ∀ a0 a1 k, LeO (impl_GoodMarks.f k a0 a1) (impl_GoodMarks.f (k + 1) a0 a1) := by
 intro a0 a1 k
 obtain ⟨ih0, ih1⟩ := impl_GoodMarks.mono_l k
 unfold impl_GoodMarks.f
 with_reducible repeat' first | exact ih0 _ _ _ | exact ih1 _ _ _ _ _ | exact impl_isMark.mono _ _ _ _ _ | exact lR_ _ | exact lN_ _ | refine lI_ ?_ ?_ | refine lB_ ?_ fun _ => ?_
def impl_GoodMarks.T6 : Bool × List (List Nat × List Nat) := (true, [([], []), ([], []), ([0, 1], [0, 1]), ([2], [2]), ([3, 2], [3]), ([4], [4]), ([5, 4], [4, 5]), ([6, 4, 4], [4, 6]), ([7], [7]), ([7], [7]), ([9, 7], [7, 9]), ([8, 10, 7], [7, 8, 10]), ([11, 7], [7, 11]), ([12, 7], [7, 12]), ([7], [7]), ([14, 7], [7, 14]), ([13, 15, 7], [7, 13, 15]), ([16, 7, 7], [7, 16]), ([17], [17]), ([17], [17]), ([19, 17], [17, 19]), ([18, 20, 17], [17, 18, 20]), ([21, 17], [17, 21]), ([22, 17], [17, 22]), ([17], [17]), ([24, 17], [17, 24]), ([23, 25, 17], [17, 23, 25]), ([26, 17, 17], [17, 26]), ([27], [27]), ([27], [27]), ([29, 27], [27, 29]), ([28, 30, 27], [27, 28, 30]), ([31, 27], [27, 31]), ([32, 27], [27, 32]), ([27], [27]), ([34, 27], [27, 34]), ([33, 35, 27], [27, 33, 35]), ([27, 36, 17], [17, 27, 36]), ([17, 37, 7], [7, 17, 37]), ([7, 38, 4], [4, 7, 38]), ([4, 39], [4, 39])])
def impl_GoodMarks.B6 : List Nat := [0, 0, 3, 7, 15, 31, 63, 127, 255, 255, 767, 2047, 4095, 8191, 255, 16639, 65535, 131071, 262143, 262143, 786431, 2097151, 4194303, 8388607, 262143, 17039359, 67108863, 134217727, 268435455, 268435455, 805306367, 2147483647, 4294967295, 8589934591, 268435455, 17448304639, 68719476735, 137438953471, 274877906943, 549755813887, 1099511627775]
theorem impl_GoodMarks.tab6 : rtab .any (opsOf Try.f9 6) = impl_GoodMarks.T6 := by kernel_rfl
theorem impl_GoodMarks.bits6 : waitsOk impl_GoodMarks.T6.2 impl_GoodMarks.B6 = true := by kernel_rfl
theorem impl_GoodMarks.calls (k : Nat) (A0 : Option Addr) (c0 : Nat) (l0 : List (S34)) (a1 : Int) (r : Bool) (w : World) (hr0 : Kd.C k34 w A0 l0.length l0) (hc0 : l0.length ≤ c0) (h : impl_GoodMarks.f k l0 a1 = some r) :
  Calls Try.prog 9 #[.slice A0 l0.length c0, .int .i64 a1] w fun e w' => e = .returned (.bool r) ∧ Below w.heap.size w w' := by
 have hu34 := Try.underlying34
 have bH := aM hr0
 have cH := aM hc0
 clear hr0 hc0
 have HB := aM (Below.refl w.heap.size w)
 have H : (if a1 < 0 then (impl_GoodMarks.j0 k l0 a1 true) else (if a1 > 300 then (impl_GoodMarks.j0 k l0 a1 true) else (impl_GoodMarks.j0 k l0 a1 (decide ((l0.length : Int) > 40))))) = some r := h
 clear h
 have qV := aM H
 clear H
 go_enter Try.func9, Try.ntmps9
 go_upto_region 1 with (fail)
 go_cut [17] (fun v17 wc => ∃ (kq : Nat) (x17_2 : Bool), v17 = .bool x17_2 ∧ Aside0 (impl_GoodMarks.j0 kq l0 a1 x17_2 = some r) ∧ Aside0 (kq ≤ k) ∧ Aside0 (Below w.heap.size w wc))
 case first =>
  have H := qV.out
  clear qV
  by_cases c4 : a1 < 0
  ·rw [if_pos c4] at H
   have c4b0 : decide (a1 < 0) = true := dT c4
   clear c4
   (first | rw [c4b0] | (simp only [i64_w, i32_w]; rw [c4b0]) | skip)
   have H' := aM H
   clear H
   go_wp2
   go_meet
   case rel => exact ⟨_, (true), z1, H', ⟨y1⟩, ⟨y6⟩⟩
  ·rw [if_neg c4] at H
   have c4b0 : decide (a1 < 0) = false := dF c4
   clear c4
   (first | rw [c4b0] | (simp only [i64_w, i32_w]; rw [c4b0]) | skip)
   by_cases c5 : a1 > 300
   ·rw [if_pos c5] at H
    have c5b0 : decide (300 < a1) = true := dT c5
    clear c5
    have H' := aM H
    clear H
    go_wp2
    go_meet
    case rel => exact ⟨_, (true), z1, H', ⟨y1⟩, ⟨y6⟩⟩
   ·rw [if_neg c5] at H
    have c5b0 : decide (300 < a1) = false := dF c5
    clear c5
    have H' := aM H
    clear H
    go_wp2
    go_meet
    case rel => exact ⟨_, (decide ((l0.length : Int) > 40)), z1, H', ⟨y1⟩, ⟨y6⟩⟩
 case rest =>
  clear qV
  obtain ⟨kq, x17_2, rfl, HA, mf, HB⟩ := hcut
  cases kq with
  | zero => exact absurd HA.out (by simp [impl_GoodMarks.j0])
  | succ kj2 =>
   have H := HA.out
   clear HA
   simp only [impl_GoodMarks.j0] at H
   by_cases c6 : x17_2 = true
   ·subst c6
    rw [if_pos rfl] at H
    obtain rfl := sI H
    go_wp2
    go_ret
    exact ⟨y5, y6⟩
   ·replace c6 := Bool.eq_false_iff.mpr c6
    subst c6
    rw [if_neg nF_] at H
    have H' := aM H
    clear H
    go_wp2
    go_loopg [20] kj2 (fun kq v20 w' => ∃ (x20_2 : Int), v20 = .int .i64 x20_2 ∧ Aside0 (impl_GoodMarks.l0 kq l0 a1 l0 (l0.length : Int) x20_2 = some r) ∧ Aside0 (kq ≤ kj2) ∧ Aside0 (Below w.heap.size w w'))
    case atStart => exact ⟨(0), z1, H', ⟨Nat.le_refl _⟩, ⟨y6⟩⟩
    case round =>
     clear H'
     try clear c6
     obtain ⟨x20_2, rfl, HA, HK2, HB⟩ := hrel
     cases gk with
     | zero => exact absurd HA.out (by simp [impl_GoodMarks.l0])
     | succ k2 =>
      have H := HA.out
      clear HA
      simp only [impl_GoodMarks.l0] at H
      by_cases c7 : x20_2 < (l0.length : Int)
      ·rw [if_pos c7] at H
       have c7b0 : decide (x20_2 < (l0.length : Int)) = true := dT c7
       clear c7
       by_cases c8 : 0 ≤ x20_2
       ·rw [if_pos c8] at H
        have c8b0 : decide (0 ≤ x20_2) = true := dT c8
        clear c8
        by_cases c9 : x20_2 < (l0.length : Int)
        ·rw [if_pos c9] at H
         have c9b0 : decide (x20_2 < (l0.length : Int)) = true := dT c9
         clear c9
         obtain ⟨ql, iA, H⟩ := oA_ H
         try dsimp only at H
         by_cases b4 : ql = true
         ·subst b4
          rw [if_pos rfl] at H
          by_cases bT : x20_2 > 0
          ·rw [if_pos bT] at H
           have c12b0 : decide (0 < x20_2) = true := dT bT
           clear bT
           obtain ⟨bk, gK⟩ : ∃ j_ : Int, (wrap64 (x20_2 - 1)) = j_ := ⟨_, rfl⟩
           replace H : (if 0 ≤ (bk) then (if (bk) < (l0.length : Int) then (if (Op.bytesLess (((so l0 x20_2).f2).toList) (((so l0 (bk)).f2).toList)) = true then (some false) else (if ((so l0 (bk)).f2).toList = ((so l0 x20_2).f2).toList then (if ((so l0 (bk)).f1) ≥ ((so l0 x20_2).f0) then (some false) else (impl_GoodMarks.l0 k2 l0 a1 l0 (l0.length : Int) (wrap64 (x20_2 + 1)))) else (impl_GoodMarks.l0 k2 l0 a1 l0 (l0.length : Int) (wrap64 (x20_2 + 1))))) else (none)) else (none)) = some r := by first | (rw [gK] at H; exact H) | (simp only [gK] at H ⊢; exact H)
           (try rw [gK] at iA)
           have hji13w : (IntKind.i64.wrap (x20_2 - 1)) = bk := (i64_w _).trans gK
           by_cases cO : 0 ≤ (bk)
           ·rw [if_pos cO] at H
            have c14b0 : decide (0 ≤ (bk)) = true := dT cO
            clear cO
            by_cases ce : (bk) < (l0.length : Int)
            ·rw [if_pos ce] at H
             have c15b0 : decide ((bk) < (l0.length : Int)) = true := dT ce
             clear ce
             by_cases dV : (Op.bytesLess (((so l0 x20_2).f2).toList) (((so l0 (bk)).f2).toList)) = true
             ·rw [if_pos dV] at H
              have c16b0 : (Op.bytesLess (((so l0 x20_2).f2).toList) (((so l0 (bk)).f2).toList)) = true := dV
              have c16g1 := bl_asym c16b0
              have c16g2 := bl_ne c16b0
              have c16g3 := bl_ne' c16b0
              have c16g4 := qF c16g2
              have c16g5 := qF c16g3
              clear dV
              obtain rfl := sI H
              have p349 : 0 ≤ (x20_2 : Int) := oD z2
              have q349 : x20_2 < (l0.length : Int) := oD z2
              obtain ⟨ad349, e349, hx349_0, hx349_1, hx349_2⟩ := at_T34 bH.out x20_2 p349 q349
              cases e349
              replace hx349_0 := hC_ HB.out hx349_0
              replace hx349_1 := hC_ HB.out hx349_1
              replace hx349_2 := hC_ HB.out hx349_2
              replace p349 := eq_true p349
              replace q349 := eq_true q349
              try go_wp2_with (first | ((with_reducible refine ay (N := 6) rfl ?_); (try (refine gate_guard (by rfl) ?_; dsimp only)); refine bE_ (N := 6) (cs := #[.int .i64 0, .int .i64 0, .string ⟨#[]⟩]) (t := 34) (h := ?_); intro aY hg w17 hbox hb; have aW := aM (hbox); have lM := aM ((zg_ : w.heap.size ≤ aY)); have f6 := aM ((zg_ : w.heap.size ≤ aY)); replace HB := aM (ap z9 hb); clear hb hbox hg; obtain ⟨fx, fw, fv, ff, fe, fd⟩ := cc3 aW.out))
              have aI : Aside0 ((((w17.setCell ⟨aY, 0, none⟩ (.int .i64 ((so l0 x20_2).f0))).setCell ⟨aY, 1, none⟩ (.int .i64 ((so l0 x20_2).f1))).setCell ⟨aY, 2, none⟩ (.string ((so l0 x20_2).f2))).heap[aY]? = some (.cells #[.int .i64 ((so l0 x20_2).f0), .int .i64 ((so l0 x20_2).f1), .string ((so l0 x20_2).f2)] 34 (0, 0))) := ⟨y47⟩
              have aJ : Aside0 (Below w.heap.size w (((w17.setCell ⟨aY, 0, none⟩ (.int .i64 ((so l0 x20_2).f0))).setCell ⟨aY, 1, none⟩ (.int .i64 ((so l0 x20_2).f1))).setCell ⟨aY, 2, none⟩ (.string ((so l0 x20_2).f2)))) := ⟨y27⟩
              (try clear aW)
              (try clear HB)
              generalize (((w17.setCell ⟨aY, 0, none⟩ (.int .i64 ((so l0 x20_2).f0))).setCell ⟨aY, 1, none⟩ (.int .i64 ((so l0 x20_2).f1))).setCell ⟨aY, 2, none⟩ (.string ((so l0 x20_2).f2))) = w19 at aI aJ ⊢
              have aW := aI
              have HB := aJ
              clear aI aJ
              replace aW := aM (aj aW.out)
              replace HB := aM (bD HB.out)
              have p352 : 0 ≤ ((bk) : Int) := oD z2
              have q352 : (bk) < (l0.length : Int) := oD z2
              obtain ⟨ad352, e352, hx352_0, hx352_1, hx352_2⟩ := at_T34 bH.out (bk) p352 q352
              have hw352_2 := hx352_2
              have hw352_1 := hx352_1
              have hw352_0 := hx352_0
              obtain rfl : ad349 = ad352 := (by injection e352)
              replace hx352_0 := hC_ HB.out hx352_0
              replace hx352_1 := hC_ HB.out hx352_1
              replace hx352_2 := hC_ HB.out hx352_2
              replace p352 := eq_true p352
              replace q352 := eq_true q352
              refine start_ (n := 41) (S := fun w' => w'.cell? ⟨aY, 0, none⟩ = some (.int .i64 ((so l0 x20_2).f0)) ∧ w'.cell? ⟨aY, 1, none⟩ = some (.int .i64 ((so l0 x20_2).f1)) ∧ w'.cell? ⟨aY, 2, none⟩ = some (.string ((so l0 x20_2).f2)) ∧ w'.cell? (ad349.add (((bk)).toNat * 3)) = some (.int .i64 ((so l0 (bk)).f0)) ∧ w'.cell? ⟨(ad349.add (((bk)).toNat * 3)).block, (ad349.add (((bk)).toNat * 3)).off + 1, none⟩ = some (.int .i64 ((so l0 (bk)).f1)) ∧ w'.cell? ⟨(ad349.add (((bk)).toNat * 3)).block, (ad349.add (((bk)).toNat * 3)).off + 2, none⟩ = some (.string ((so l0 (bk)).f2))) (ds := []) #[false, false, false, false, false, false, false, false, false, false, false, false, false, false, false, false, false, false, false, false, false, false, false, false, false, false, false, false, false, false, false, false, false, false, false, false, false, false, false, false, false] z0 rfl rfl ⟨(bC aW.out 0).trans rfl, (bC aW.out 1).trans rfl, (bC aW.out 2).trans rfl, (hC_ HB.out hw352_0), (hC_ HB.out hw352_1), (hC_ HB.out hw352_2)⟩ (fun hHeld => ?_); refine with_tabW impl_GoodMarks.tab6 impl_GoodMarks.bits6 (fun HT_ HW_ => ?_)
              generalize w19.drew = w20 at aW HB hx352_0 hx352_1 hx352_2 hHeld ⊢
              refine pA 1 26 ?_
              refine t6_ 0 25 ?_
              refine one_ (i := 2) (N := some 27) #[true, true, true, false, false, false, false, false, false, false, false, false, false, false, false, false, false, false, false, false, false, false, false, false, false, false, false, false, false, false, false, false, false, false, false, false, false, false, false, false, false] rfl rfl (one_of HT_.out z0) (by decide) (fun K hK => ?_)
              refine goes_ Try.func28 z0 rfl #[.agg #[.int .i64 ((so l0 x20_2).f0), .int .i64 ((so l0 x20_2).f1), .string ((so l0 x20_2).f2)], .int .i64 a1] (by rfl) rfl rfl z10 ?_
              with_reducible refine (impl_isMark.calls k2 ((so l0 x20_2).f0) ((so l0 x20_2).f1) ((so l0 x20_2).f2) a1 true _ iA.out).mono ?_
              rintro e w21 ⟨rfl, hb⟩
              refine ⟨_, rfl, ?_⟩
              replace aW := aM (ae (g := aY) (o := .cells #[.int .i64 ((so l0 x20_2).f0), .int .i64 ((so l0 x20_2).f1), .string ((so l0 x20_2).f2)] 34 (0, 0)) (kB_ aW.out) hb)
              replace HB := aM (ap zb_ hb)
              (try clear hb)
              skip
              skip
              skip
              refine hK.out _ _ ⟨(bC aW.out 0).trans rfl, (bC aW.out 1).trans rfl, (bC aW.out 2).trans rfl, (hC_ HB.out hw352_0), (hC_ HB.out hw352_1), (hC_ HB.out hw352_2)⟩ (fun hHeld => ?_)
              clear hK K
              refine norm_ (a' := ?_) ?_ ?_
              rotate_left
              ·show Act.put _ (some 27) _ = _
               simp only [Act.put, sA, sB, sC, i64_w, i32_w]
               rfl
              refine pA 3 28 ?_
              refine pA 4 29 ?_
              refine pA 5 30 ?_
              refine pA 6 31 ?_
              refine pA 7 32 ?_
              refine pA 8 33 ?_
              refine pA 9 34 ?_
              refine pA 10 35 ?_
              refine pA 11 36 ?_
              refine pA 12 37 ?_
              refine pA 14 39 ?_
              refine t6_ 13 38 ?_
              refine t6_ 15 40 ?_
              refine pA 16 41 ?_
              refine pA 17 42 ?_
              refine pB 18 43 ?_
              refine pB 19 44 ?_
              refine pB 20 45 ?_
              refine pB 21 46 ?_
              refine pB 22 47 ?_
              refine pB 23 48 ?_
              refine pB 24 49 ?_
              refine pB 25 50 ?_
              refine pB 26 51 ?_
              refine pB 27 52 ?_
              refine pB 28 53 ?_
              refine pB 29 54 ?_
              refine pB 30 55 ?_
              refine pB 31 56 ?_
              refine pB 32 57 ?_
              refine pB 33 58 ?_
              refine pB 34 59 ?_
              refine pB 35 60 ?_
              refine pB 36 61 ?_
              refine pB 37 62 ?_
              refine pA 38 63 ?_
              refine pA 39 64 ?_
              refine pA 40 65 ?_
              refine done_ (done_of HT_.out z0) ?_
              try go_wp2
              go_ret
              exact ⟨by first | rfl | (simp [errW_none, errW_some] <;> rfl) | (simp only [← gK]; first | rfl | (simp [errW_none, errW_some] <;> rfl)) | (simp [*, errW_none, errW_some] <;> rfl), y27⟩
             ·rw [if_neg dV] at H
              have c16b0 : (Op.bytesLess (((so l0 x20_2).f2).toList) (((so l0 (bk)).f2).toList)) = false := by simpa using dV
              have c16g6 := bl_or c16b0
              have c16g7 := bl_or2 c16b0
              clear dV
              by_cases fK : ((so l0 (bk)).f2).toList = ((so l0 x20_2).f2).toList
              ·rw [if_pos fK] at H
               have c22b0 : (((so l0 (bk)).f2).toList == ((so l0 x20_2).f2).toList) = true := qT fK
               have c22g1 := bl_eq1 c22b0
               have c22b1 : (((so l0 (bk)).f2).toList != ((so l0 x20_2).f2).toList) = false := nF fK
               clear fK
               by_cases fz : ((so l0 (bk)).f1) ≥ ((so l0 x20_2).f0)
               ·rw [if_pos fz] at H
                have c23b0 : decide (((so l0 x20_2).f0) ≤ ((so l0 (bk)).f1)) = true := dT fz
                clear fz
                obtain rfl := sI H
                have p349 : 0 ≤ (x20_2 : Int) := oD z2
                have q349 : x20_2 < (l0.length : Int) := oD z2
                obtain ⟨ad349, e349, hx349_0, hx349_1, hx349_2⟩ := at_T34 bH.out x20_2 p349 q349
                cases e349
                replace hx349_0 := hC_ HB.out hx349_0
                replace hx349_1 := hC_ HB.out hx349_1
                replace hx349_2 := hC_ HB.out hx349_2
                replace p349 := eq_true p349
                replace q349 := eq_true q349
                try go_wp2_with (first | ((with_reducible refine ay (N := 6) rfl ?_); (try (refine gate_guard (by rfl) ?_; dsimp only)); refine bE_ (N := 6) (cs := #[.int .i64 0, .int .i64 0, .string ⟨#[]⟩]) (t := 34) (h := ?_); intro aY hg w24 hbox hb; have aW := aM (hbox); have lM := aM ((zg_ : w.heap.size ≤ aY)); have f6 := aM ((zg_ : w.heap.size ≤ aY)); replace HB := aM (ap z9 hb); clear hb hbox hg; obtain ⟨ed, ec, eb, d4, d3, d2⟩ := cc3 aW.out))
                have aI : Aside0 ((((w24.setCell ⟨aY, 0, none⟩ (.int .i64 ((so l0 x20_2).f0))).setCell ⟨aY, 1, none⟩ (.int .i64 ((so l0 x20_2).f1))).setCell ⟨aY, 2, none⟩ (.string ((so l0 x20_2).f2))).heap[aY]? = some (.cells #[.int .i64 ((so l0 x20_2).f0), .int .i64 ((so l0 x20_2).f1), .string ((so l0 x20_2).f2)] 34 (0, 0))) := ⟨y47⟩
                have aJ : Aside0 (Below w.heap.size w (((w24.setCell ⟨aY, 0, none⟩ (.int .i64 ((so l0 x20_2).f0))).setCell ⟨aY, 1, none⟩ (.int .i64 ((so l0 x20_2).f1))).setCell ⟨aY, 2, none⟩ (.string ((so l0 x20_2).f2)))) := ⟨y27⟩
                (try clear aW)
                (try clear HB)
                generalize (((w24.setCell ⟨aY, 0, none⟩ (.int .i64 ((so l0 x20_2).f0))).setCell ⟨aY, 1, none⟩ (.int .i64 ((so l0 x20_2).f1))).setCell ⟨aY, 2, none⟩ (.string ((so l0 x20_2).f2))) = w26 at aI aJ ⊢
                have aW := aI
                have HB := aJ
                clear aI aJ
                replace aW := aM (aj aW.out)
                replace HB := aM (bD HB.out)
                have p352 : 0 ≤ ((bk) : Int) := oD z2
                have q352 : (bk) < (l0.length : Int) := oD z2
                obtain ⟨ad352, e352, hx352_0, hx352_1, hx352_2⟩ := at_T34 bH.out (bk) p352 q352
                have hw352_2 := hx352_2
                have hw352_1 := hx352_1
                have hw352_0 := hx352_0
                obtain rfl : ad349 = ad352 := (by injection e352)
                replace hx352_0 := hC_ HB.out hx352_0
                replace hx352_1 := hC_ HB.out hx352_1
                replace hx352_2 := hC_ HB.out hx352_2
                replace p352 := eq_true p352
                replace q352 := eq_true q352
                have p353 : 0 ≤ ((bk) : Int) := oD z2
                have q353 : (bk) < (l0.length : Int) := oD z2
                obtain ⟨ad353, e353, hx353_0, hx353_1, hx353_2⟩ := at_T34 bH.out (bk) p353 q353
                have hw353_2 := hx353_2
                have hw353_1 := hx353_1
                have hw353_0 := hx353_0
                obtain rfl : ad349 = ad353 := (by injection e353)
                replace hx353_0 := hC_ HB.out hx353_0
                replace hx353_1 := hC_ HB.out hx353_1
                replace hx353_2 := hC_ HB.out hx353_2
                replace p353 := eq_true p353
                replace q353 := eq_true q353
                have p354 : 0 ≤ ((bk) : Int) := oD z2
                have q354 : (bk) < (l0.length : Int) := oD z2
                obtain ⟨ad354, e354, hx354_0, hx354_1, hx354_2⟩ := at_T34 bH.out (bk) p354 q354
                have hw354_2 := hx354_2
                have hw354_1 := hx354_1
                have hw354_0 := hx354_0
                obtain rfl : ad349 = ad354 := (by injection e354)
                replace hx354_0 := hC_ HB.out hx354_0
                replace hx354_1 := hC_ HB.out hx354_1
                replace hx354_2 := hC_ HB.out hx354_2
                replace p354 := eq_true p354
                replace q354 := eq_true q354
                refine start_ (n := 41) (S := fun w' => w'.cell? ⟨aY, 0, none⟩ = some (.int .i64 ((so l0 x20_2).f0)) ∧ w'.cell? ⟨aY, 1, none⟩ = some (.int .i64 ((so l0 x20_2).f1)) ∧ w'.cell? ⟨aY, 2, none⟩ = some (.string ((so l0 x20_2).f2)) ∧ w'.cell? (ad349.add (((bk)).toNat * 3)) = some (.int .i64 ((so l0 (bk)).f0)) ∧ w'.cell? ⟨(ad349.add (((bk)).toNat * 3)).block, (ad349.add (((bk)).toNat * 3)).off + 1, none⟩ = some (.int .i64 ((so l0 (bk)).f1)) ∧ w'.cell? ⟨(ad349.add (((bk)).toNat * 3)).block, (ad349.add (((bk)).toNat * 3)).off + 2, none⟩ = some (.string ((so l0 (bk)).f2)) ∧ w'.cell? (ad349.add (((bk)).toNat * 3)) = some (.int .i64 ((so l0 (bk)).f0)) ∧ w'.cell? ⟨(ad349.add (((bk)).toNat * 3)).block, (ad349.add (((bk)).toNat * 3)).off + 1, none⟩ = some (.int .i64 ((so l0 (bk)).f1)) ∧ w'.cell? ⟨(ad349.add (((bk)).toNat * 3)).block, (ad349.add (((bk)).toNat * 3)).off + 2, none⟩ = some (.string ((so l0 (bk)).f2)) ∧ w'.cell? (ad349.add (((bk)).toNat * 3)) = some (.int .i64 ((so l0 (bk)).f0)) ∧ w'.cell? ⟨(ad349.add (((bk)).toNat * 3)).block, (ad349.add (((bk)).toNat * 3)).off + 1, none⟩ = some (.int .i64 ((so l0 (bk)).f1)) ∧ w'.cell? ⟨(ad349.add (((bk)).toNat * 3)).block, (ad349.add (((bk)).toNat * 3)).off + 2, none⟩ = some (.string ((so l0 (bk)).f2))) (ds := []) #[false, false, false, false, false, false, false, false, false, false, false, false, false, false, false, false, false, false, false, false, false, false, false, false, false, false, false, false, false, false, false, false, false, false, false, false, false, false, false, false, false] z0 rfl rfl ⟨(bC aW.out 0).trans rfl, (bC aW.out 1).trans rfl, (bC aW.out 2).trans rfl, (hC_ HB.out hw352_0), (hC_ HB.out hw352_1), (hC_ HB.out hw352_2), (hC_ HB.out hw353_0), (hC_ HB.out hw353_1), (hC_ HB.out hw353_2), (hC_ HB.out hw354_0), (hC_ HB.out hw354_1), (hC_ HB.out hw354_2)⟩ (fun hHeld => ?_); refine with_tabW impl_GoodMarks.tab6 impl_GoodMarks.bits6 (fun HT_ HW_ => ?_)
                generalize w26.drew = w27 at aW HB hx352_0 hx352_1 hx352_2 hx353_0 hx353_1 hx353_2 hx354_0 hx354_1 hx354_2 hHeld ⊢
                refine pA 1 26 ?_
                refine t12_ 0 25 ?_
                refine one_ (i := 2) (N := some 27) #[true, true, true, false, false, false, false, false, false, false, false, false, false, false, false, false, false, false, false, false, false, false, false, false, false, false, false, false, false, false, false, false, false, false, false, false, false, false, false, false, false] rfl rfl (one_of HT_.out z0) (by decide) (fun K hK => ?_)
                refine goes_ Try.func28 z0 rfl #[.agg #[.int .i64 ((so l0 x20_2).f0), .int .i64 ((so l0 x20_2).f1), .string ((so l0 x20_2).f2)], .int .i64 a1] (by rfl) rfl rfl z10 ?_
                with_reducible refine (impl_isMark.calls k2 ((so l0 x20_2).f0) ((so l0 x20_2).f1) ((so l0 x20_2).f2) a1 true _ iA.out).mono ?_
                rintro e w28 ⟨rfl, hb⟩
                refine ⟨_, rfl, ?_⟩
                replace aW := aM (ae (g := aY) (o := .cells #[.int .i64 ((so l0 x20_2).f0), .int .i64 ((so l0 x20_2).f1), .string ((so l0 x20_2).f2)] 34 (0, 0)) (kB_ aW.out) hb)
                replace HB := aM (ap zb_ hb)
                (try clear hb)
                skip
                skip
                skip
                refine hK.out _ _ ⟨(bC aW.out 0).trans rfl, (bC aW.out 1).trans rfl, (bC aW.out 2).trans rfl, (hC_ HB.out hw352_0), (hC_ HB.out hw352_1), (hC_ HB.out hw352_2), (hC_ HB.out hw353_0), (hC_ HB.out hw353_1), (hC_ HB.out hw353_2), (hC_ HB.out hw354_0), (hC_ HB.out hw354_1), (hC_ HB.out hw354_2)⟩ (fun hHeld => ?_)
                clear hK K
                refine norm_ (a' := ?_) ?_ ?_
                rotate_left
                ·show Act.put _ (some 27) _ = _
                 simp only [Act.put, sA, sB, sC, i64_w, i32_w]
                 rfl
                refine pA 3 28 ?_
                refine pA 4 29 ?_
                refine pA 5 30 ?_
                refine pA 6 31 ?_
                refine pA 7 32 ?_
                refine pA 8 33 ?_
                refine pA 9 34 ?_
                refine pA 10 35 ?_
                refine pA 11 36 ?_
                refine pA 12 37 ?_
                refine pA 14 39 ?_
                refine t12_ 13 38 ?_
                refine t12_ 15 40 ?_
                refine pA 16 41 ?_
                refine pA 17 42 ?_
                refine pA 18 43 ?_
                refine pA 19 44 ?_
                refine pA 20 45 ?_
                refine pA 21 46 ?_
                refine pA 22 47 ?_
                refine pA 24 49 ?_
                refine t12_ 23 48 ?_
                refine t12_ 25 50 ?_
                refine pA 26 51 ?_
                refine pA 27 52 ?_
                refine pA 28 53 ?_
                refine pA 29 54 ?_
                refine pA 30 55 ?_
                refine pA 31 56 ?_
                refine pA 32 57 ?_
                refine pA 34 59 ?_
                refine t12_ 33 58 ?_
                refine t12_ 35 60 ?_
                refine pA 36 61 ?_
                refine pA 37 62 ?_
                refine pA 38 63 ?_
                refine pA 39 64 ?_
                refine pA 40 65 ?_
                refine done_ (done_of HT_.out z0) ?_
                try go_wp2
                go_ret
                exact ⟨by first | rfl | (simp [errW_none, errW_some] <;> rfl) | (simp only [← gK]; first | rfl | (simp [errW_none, errW_some] <;> rfl)) | (simp [*, errW_none, errW_some] <;> rfl), y27⟩
               ·rw [if_neg fz] at H
                have c23b0 : decide (((so l0 x20_2).f0) ≤ ((so l0 (bk)).f1)) = false := dF fz
                clear fz
                have H' := aM H
                clear H
                have p349 : 0 ≤ (x20_2 : Int) := oD z2
                have q349 : x20_2 < (l0.length : Int) := oD z2
                obtain ⟨ad349, e349, hx349_0, hx349_1, hx349_2⟩ := at_T34 bH.out x20_2 p349 q349
                cases e349
                replace hx349_0 := hC_ HB.out hx349_0
                replace hx349_1 := hC_ HB.out hx349_1
                replace hx349_2 := hC_ HB.out hx349_2
                replace p349 := eq_true p349
                replace q349 := eq_true q349
                try go_wp2_with (first | ((with_reducible refine ay (N := 6) rfl ?_); (try (refine gate_guard (by rfl) ?_; dsimp only)); refine bE_ (N := 6) (cs := #[.int .i64 0, .int .i64 0, .string ⟨#[]⟩]) (t := 34) (h := ?_); intro aY hg w29 hbox hb; have aW := aM (hbox); have lM := aM ((zg_ : w.heap.size ≤ aY)); have f6 := aM ((zg_ : w.heap.size ≤ aY)); replace HB := aM (ap z9 hb); clear hb hbox hg; obtain ⟨fl, fk, fj, e6, e5, e4⟩ := cc3 aW.out))
                have aI : Aside0 ((((w29.setCell ⟨aY, 0, none⟩ (.int .i64 ((so l0 x20_2).f0))).setCell ⟨aY, 1, none⟩ (.int .i64 ((so l0 x20_2).f1))).setCell ⟨aY, 2, none⟩ (.string ((so l0 x20_2).f2))).heap[aY]? = some (.cells #[.int .i64 ((so l0 x20_2).f0), .int .i64 ((so l0 x20_2).f1), .string ((so l0 x20_2).f2)] 34 (0, 0))) := ⟨y47⟩
                have aJ : Aside0 (Below w.heap.size w (((w29.setCell ⟨aY, 0, none⟩ (.int .i64 ((so l0 x20_2).f0))).setCell ⟨aY, 1, none⟩ (.int .i64 ((so l0 x20_2).f1))).setCell ⟨aY, 2, none⟩ (.string ((so l0 x20_2).f2)))) := ⟨y27⟩
                (try clear aW)
                (try clear HB)
                generalize (((w29.setCell ⟨aY, 0, none⟩ (.int .i64 ((so l0 x20_2).f0))).setCell ⟨aY, 1, none⟩ (.int .i64 ((so l0 x20_2).f1))).setCell ⟨aY, 2, none⟩ (.string ((so l0 x20_2).f2))) = w31 at aI aJ ⊢
                have aW := aI
                have HB := aJ
                clear aI aJ
                replace aW := aM (aj aW.out)
                replace HB := aM (bD HB.out)
                have p352 : 0 ≤ ((bk) : Int) := oD z2
                have q352 : (bk) < (l0.length : Int) := oD z2
                obtain ⟨ad352, e352, hx352_0, hx352_1, hx352_2⟩ := at_T34 bH.out (bk) p352 q352
                have hw352_2 := hx352_2
                have hw352_1 := hx352_1
                have hw352_0 := hx352_0
                obtain rfl : ad349 = ad352 := (by injection e352)
                replace hx352_0 := hC_ HB.out hx352_0
                replace hx352_1 := hC_ HB.out hx352_1
                replace hx352_2 := hC_ HB.out hx352_2
                replace p352 := eq_true p352
                replace q352 := eq_true q352
                have p353 : 0 ≤ ((bk) : Int) := oD z2
                have q353 : (bk) < (l0.length : Int) := oD z2
                obtain ⟨ad353, e353, hx353_0, hx353_1, hx353_2⟩ := at_T34 bH.out (bk) p353 q353
                have hw353_2 := hx353_2
                have hw353_1 := hx353_1
                have hw353_0 := hx353_0
                obtain rfl : ad349 = ad353 := (by injection e353)
                replace hx353_0 := hC_ HB.out hx353_0
                replace hx353_1 := hC_ HB.out hx353_1
                replace hx353_2 := hC_ HB.out hx353_2
                replace p353 := eq_true p353
                replace q353 := eq_true q353
                have p354 : 0 ≤ ((bk) : Int) := oD z2
                have q354 : (bk) < (l0.length : Int) := oD z2
                obtain ⟨ad354, e354, hx354_0, hx354_1, hx354_2⟩ := at_T34 bH.out (bk) p354 q354
                have hw354_2 := hx354_2
                have hw354_1 := hx354_1
                have hw354_0 := hx354_0
                obtain rfl : ad349 = ad354 := (by injection e354)
                replace hx354_0 := hC_ HB.out hx354_0
                replace hx354_1 := hC_ HB.out hx354_1
                replace hx354_2 := hC_ HB.out hx354_2
                replace p354 := eq_true p354
                replace q354 := eq_true q354
                refine start_ (n := 41) (S := fun w' => w'.cell? ⟨aY, 0, none⟩ = some (.int .i64 ((so l0 x20_2).f0)) ∧ w'.cell? ⟨aY, 1, none⟩ = some (.int .i64 ((so l0 x20_2).f1)) ∧ w'.cell? ⟨aY, 2, none⟩ = some (.string ((so l0 x20_2).f2)) ∧ w'.cell? (ad349.add (((bk)).toNat * 3)) = some (.int .i64 ((so l0 (bk)).f0)) ∧ w'.cell? ⟨(ad349.add (((bk)).toNat * 3)).block, (ad349.add (((bk)).toNat * 3)).off + 1, none⟩ = some (.int .i64 ((so l0 (bk)).f1)) ∧ w'.cell? ⟨(ad349.add (((bk)).toNat * 3)).block, (ad349.add (((bk)).toNat * 3)).off + 2, none⟩ = some (.string ((so l0 (bk)).f2)) ∧ w'.cell? (ad349.add (((bk)).toNat * 3)) = some (.int .i64 ((so l0 (bk)).f0)) ∧ w'.cell? ⟨(ad349.add (((bk)).toNat * 3)).block, (ad349.add (((bk)).toNat * 3)).off + 1, none⟩ = some (.int .i64 ((so l0 (bk)).f1)) ∧ w'.cell? ⟨(ad349.add (((bk)).toNat * 3)).block, (ad349.add (((bk)).toNat * 3)).off + 2, none⟩ = some (.string ((so l0 (bk)).f2)) ∧ w'.cell? (ad349.add (((bk)).toNat * 3)) = some (.int .i64 ((so l0 (bk)).f0)) ∧ w'.cell? ⟨(ad349.add (((bk)).toNat * 3)).block, (ad349.add (((bk)).toNat * 3)).off + 1, none⟩ = some (.int .i64 ((so l0 (bk)).f1)) ∧ w'.cell? ⟨(ad349.add (((bk)).toNat * 3)).block, (ad349.add (((bk)).toNat * 3)).off + 2, none⟩ = some (.string ((so l0 (bk)).f2))) (ds := []) #[false, false, false, false, false, false, false, false, false, false, false, false, false, false, false, false, false, false, false, false, false, false, false, false, false, false, false, false, false, false, false, false, false, false, false, false, false, false, false, false, false] z0 rfl rfl ⟨(bC aW.out 0).trans rfl, (bC aW.out 1).trans rfl, (bC aW.out 2).trans rfl, (hC_ HB.out hw352_0), (hC_ HB.out hw352_1), (hC_ HB.out hw352_2), (hC_ HB.out hw353_0), (hC_ HB.out hw353_1), (hC_ HB.out hw353_2), (hC_ HB.out hw354_0), (hC_ HB.out hw354_1), (hC_ HB.out hw354_2)⟩ (fun hHeld => ?_); refine with_tabW impl_GoodMarks.tab6 impl_GoodMarks.bits6 (fun HT_ HW_ => ?_)
                generalize w31.drew = w32 at aW HB hx352_0 hx352_1 hx352_2 hx353_0 hx353_1 hx353_2 hx354_0 hx354_1 hx354_2 hHeld ⊢
                refine pA 1 26 ?_
                refine t12_ 0 25 ?_
                refine one_ (i := 2) (N := some 27) #[true, true, true, false, false, false, false, false, false, false, false, false, false, false, false, false, false, false, false, false, false, false, false, false, false, false, false, false, false, false, false, false, false, false, false, false, false, false, false, false, false] rfl rfl (one_of HT_.out z0) (by decide) (fun K hK => ?_)
                refine goes_ Try.func28 z0 rfl #[.agg #[.int .i64 ((so l0 x20_2).f0), .int .i64 ((so l0 x20_2).f1), .string ((so l0 x20_2).f2)], .int .i64 a1] (by rfl) rfl rfl z10 ?_
                with_reducible refine (impl_isMark.calls k2 ((so l0 x20_2).f0) ((so l0 x20_2).f1) ((so l0 x20_2).f2) a1 true _ iA.out).mono ?_
                rintro e w33 ⟨rfl, hb⟩
                refine ⟨_, rfl, ?_⟩
                replace aW := aM (ae (g := aY) (o := .cells #[.int .i64 ((so l0 x20_2).f0), .int .i64 ((so l0 x20_2).f1), .string ((so l0 x20_2).f2)] 34 (0, 0)) (kB_ aW.out) hb)
                replace HB := aM (ap zb_ hb)
                (try clear hb)
                skip
                skip
                skip
                refine hK.out _ _ ⟨(bC aW.out 0).trans rfl, (bC aW.out 1).trans rfl, (bC aW.out 2).trans rfl, (hC_ HB.out hw352_0), (hC_ HB.out hw352_1), (hC_ HB.out hw352_2), (hC_ HB.out hw353_0), (hC_ HB.out hw353_1), (hC_ HB.out hw353_2), (hC_ HB.out hw354_0), (hC_ HB.out hw354_1), (hC_ HB.out hw354_2)⟩ (fun hHeld => ?_)
                clear hK K
                refine norm_ (a' := ?_) ?_ ?_
                rotate_left
                ·show Act.put _ (some 27) _ = _
                 simp only [Act.put, sA, sB, sC, i64_w, i32_w]
                 rfl
                refine pA 3 28 ?_
                refine pA 4 29 ?_
                refine pA 5 30 ?_
                refine pA 6 31 ?_
                refine pA 7 32 ?_
                refine pA 8 33 ?_
                refine pA 9 34 ?_
                refine pA 10 35 ?_
                refine pA 11 36 ?_
                refine pA 12 37 ?_
                refine pA 14 39 ?_
                refine t12_ 13 38 ?_
                refine t12_ 15 40 ?_
                refine pA 16 41 ?_
                refine pA 17 42 ?_
                refine pA 18 43 ?_
                refine pA 19 44 ?_
                refine pA 20 45 ?_
                refine pA 21 46 ?_
                refine pA 22 47 ?_
                refine pA 24 49 ?_
                refine t12_ 23 48 ?_
                refine t12_ 25 50 ?_
                refine pA 26 51 ?_
                refine pA 27 52 ?_
                refine pA 28 53 ?_
                refine pA 29 54 ?_
                refine pA 30 55 ?_
                refine pA 31 56 ?_
                refine pA 32 57 ?_
                refine pA 34 59 ?_
                refine t12_ 33 58 ?_
                refine t12_ 35 60 ?_
                refine pA 36 61 ?_
                refine pA 37 62 ?_
                refine pA 38 63 ?_
                refine pA 39 64 ?_
                refine pA 40 65 ?_
                refine done_ (done_of HT_.out z0) ?_
                try go_wp2
                go_roundg k2
                case measure => have := mf.out; have := HK2.out; omega
                case rel => exact ⟨(wrap64 (x20_2 + 1)), z1, (by first | exact H' | (simp only [gK]; exact H') | (simp only [← gK]; exact H')), ⟨by have := mf.out; have := HK2.out; omega⟩, ⟨y27⟩⟩
              ·rw [if_neg fK] at H
               have c22b0 : (((so l0 (bk)).f2).toList == ((so l0 x20_2).f2).toList) = false := qF fK
               have c22g5 := qF (Ne.symm (beq_eq_false_iff_ne.mp c22b0))
               have c22g1 := bl_tot1 c16b0 c22b0
               have c22b1 : (((so l0 (bk)).f2).toList != ((so l0 x20_2).f2).toList) = true := nT fK
               have H' := aM H
               clear H
               have p349 : 0 ≤ (x20_2 : Int) := oD z2
               have q349 : x20_2 < (l0.length : Int) := oD z2
               obtain ⟨ad349, e349, hx349_0, hx349_1, hx349_2⟩ := at_T34 bH.out x20_2 p349 q349
               cases e349
               replace hx349_0 := hC_ HB.out hx349_0
               replace hx349_1 := hC_ HB.out hx349_1
               replace hx349_2 := hC_ HB.out hx349_2
               replace p349 := eq_true p349
               replace q349 := eq_true q349
               try go_wp2_with (first | ((with_reducible refine ay (N := 6) rfl ?_); (try (refine gate_guard (by rfl) ?_; dsimp only)); refine bE_ (N := 6) (cs := #[.int .i64 0, .int .i64 0, .string ⟨#[]⟩]) (t := 34) (h := ?_); intro aY hg w34 hbox hb; have aW := aM (hbox); have lM := aM ((zg_ : w.heap.size ≤ aY)); have f6 := aM ((zg_ : w.heap.size ≤ aY)); replace HB := aM (ap z9 hb); clear hb hbox hg; obtain ⟨jd, jc, jb, i3, i2, i1⟩ := cc3 aW.out))
               have aI : Aside0 ((((w34.setCell ⟨aY, 0, none⟩ (.int .i64 ((so l0 x20_2).f0))).setCell ⟨aY, 1, none⟩ (.int .i64 ((so l0 x20_2).f1))).setCell ⟨aY, 2, none⟩ (.string ((so l0 x20_2).f2))).heap[aY]? = some (.cells #[.int .i64 ((so l0 x20_2).f0), .int .i64 ((so l0 x20_2).f1), .string ((so l0 x20_2).f2)] 34 (0, 0))) := ⟨y47⟩
               have aJ : Aside0 (Below w.heap.size w (((w34.setCell ⟨aY, 0, none⟩ (.int .i64 ((so l0 x20_2).f0))).setCell ⟨aY, 1, none⟩ (.int .i64 ((so l0 x20_2).f1))).setCell ⟨aY, 2, none⟩ (.string ((so l0 x20_2).f2)))) := ⟨y27⟩
               (try clear aW)
               (try clear HB)
               generalize (((w34.setCell ⟨aY, 0, none⟩ (.int .i64 ((so l0 x20_2).f0))).setCell ⟨aY, 1, none⟩ (.int .i64 ((so l0 x20_2).f1))).setCell ⟨aY, 2, none⟩ (.string ((so l0 x20_2).f2))) = w36 at aI aJ ⊢
               have aW := aI
               have HB := aJ
               clear aI aJ
               replace aW := aM (aj aW.out)
               replace HB := aM (bD HB.out)
               have p352 : 0 ≤ ((bk) : Int) := oD z2
               have q352 : (bk) < (l0.length : Int) := oD z2
               obtain ⟨ad352, e352, hx352_0, hx352_1, hx352_2⟩ := at_T34 bH.out (bk) p352 q352
               have hw352_2 := hx352_2
               have hw352_1 := hx352_1
               have hw352_0 := hx352_0
               obtain rfl : ad349 = ad352 := (by injection e352)
               replace hx352_0 := hC_ HB.out hx352_0
               replace hx352_1 := hC_ HB.out hx352_1
               replace hx352_2 := hC_ HB.out hx352_2
               replace p352 := eq_true p352
               replace q352 := eq_true q352
               have p353 : 0 ≤ ((bk) : Int) := oD z2
               have q353 : (bk) < (l0.length : Int) := oD z2
               obtain ⟨ad353, e353, hx353_0, hx353_1, hx353_2⟩ := at_T34 bH.out (bk) p353 q353
               have hw353_2 := hx353_2
               have hw353_1 := hx353_1
               have hw353_0 := hx353_0
               obtain rfl : ad349 = ad353 := (by injection e353)
               replace hx353_0 := hC_ HB.out hx353_0
               replace hx353_1 := hC_ HB.out hx353_1
               replace hx353_2 := hC_ HB.out hx353_2
               replace p353 := eq_true p353
               replace q353 := eq_true q353
               refine start_ (n := 41) (S := fun w' => w'.cell? ⟨aY, 0, none⟩ = some (.int .i64 ((so l0 x20_2).f0)) ∧ w'.cell? ⟨aY, 1, none⟩ = some (.int .i64 ((so l0 x20_2).f1)) ∧ w'.cell? ⟨aY, 2, none⟩ = some (.string ((so l0 x20_2).f2)) ∧ w'.cell? (ad349.add (((bk)).toNat * 3)) = some (.int .i64 ((so l0 (bk)).f0)) ∧ w'.cell? ⟨(ad349.add (((bk)).toNat * 3)).block, (ad349.add (((bk)).toNat * 3)).off + 1, none⟩ = some (.int .i64 ((so l0 (bk)).f1)) ∧ w'.cell? ⟨(ad349.add (((bk)).toNat * 3)).block, (ad349.add (((bk)).toNat * 3)).off + 2, none⟩ = some (.string ((so l0 (bk)).f2)) ∧ w'.cell? (ad349.add (((bk)).toNat * 3)) = some (.int .i64 ((so l0 (bk)).f0)) ∧ w'.cell? ⟨(ad349.add (((bk)).toNat * 3)).block, (ad349.add (((bk)).toNat * 3)).off + 1, none⟩ = some (.int .i64 ((so l0 (bk)).f1)) ∧ w'.cell? ⟨(ad349.add (((bk)).toNat * 3)).block, (ad349.add (((bk)).toNat * 3)).off + 2, none⟩ = some (.string ((so l0 (bk)).f2))) (ds := []) #[false, false, false, false, false, false, false, false, false, false, false, false, false, false, false, false, false, false, false, false, false, false, false, false, false, false, false, false, false, false, false, false, false, false, false, false, false, false, false, false, false] z0 rfl rfl ⟨(bC aW.out 0).trans rfl, (bC aW.out 1).trans rfl, (bC aW.out 2).trans rfl, (hC_ HB.out hw352_0), (hC_ HB.out hw352_1), (hC_ HB.out hw352_2), (hC_ HB.out hw353_0), (hC_ HB.out hw353_1), (hC_ HB.out hw353_2)⟩ (fun hHeld => ?_); refine with_tabW impl_GoodMarks.tab6 impl_GoodMarks.bits6 (fun HT_ HW_ => ?_)
               generalize w36.drew = w37 at aW HB hx352_0 hx352_1 hx352_2 hx353_0 hx353_1 hx353_2 hHeld ⊢
               refine pA 1 26 ?_
               refine t9_ 0 25 ?_
               refine one_ (i := 2) (N := some 27) #[true, true, true, false, false, false, false, false, false, false, false, false, false, false, false, false, false, false, false, false, false, false, false, false, false, false, false, false, false, false, false, false, false, false, false, false, false, false, false, false, false] rfl rfl (one_of HT_.out z0) (by decide) (fun K hK => ?_)
               refine goes_ Try.func28 z0 rfl #[.agg #[.int .i64 ((so l0 x20_2).f0), .int .i64 ((so l0 x20_2).f1), .string ((so l0 x20_2).f2)], .int .i64 a1] (by rfl) rfl rfl z10 ?_
               with_reducible refine (impl_isMark.calls k2 ((so l0 x20_2).f0) ((so l0 x20_2).f1) ((so l0 x20_2).f2) a1 true _ iA.out).mono ?_
               rintro e w38 ⟨rfl, hb⟩
               refine ⟨_, rfl, ?_⟩
               replace aW := aM (ae (g := aY) (o := .cells #[.int .i64 ((so l0 x20_2).f0), .int .i64 ((so l0 x20_2).f1), .string ((so l0 x20_2).f2)] 34 (0, 0)) (kB_ aW.out) hb)
               replace HB := aM (ap zb_ hb)
               (try clear hb)
               skip
               skip
               skip
               refine hK.out _ _ ⟨(bC aW.out 0).trans rfl, (bC aW.out 1).trans rfl, (bC aW.out 2).trans rfl, (hC_ HB.out hw352_0), (hC_ HB.out hw352_1), (hC_ HB.out hw352_2), (hC_ HB.out hw353_0), (hC_ HB.out hw353_1), (hC_ HB.out hw353_2)⟩ (fun hHeld => ?_)
               clear hK K
               refine norm_ (a' := ?_) ?_ ?_
               rotate_left
               ·show Act.put _ (some 27) _ = _
                simp only [Act.put, sA, sB, sC, i64_w, i32_w]
                rfl
               refine pA 3 28 ?_
               refine pA 4 29 ?_
               refine pA 5 30 ?_
               refine pA 6 31 ?_
               refine pA 7 32 ?_
               refine pA 8 33 ?_
               refine pA 9 34 ?_
               refine pA 10 35 ?_
               refine pA 11 36 ?_
               refine pA 12 37 ?_
               refine pA 14 39 ?_
               refine t9_ 13 38 ?_
               refine t9_ 15 40 ?_
               refine pA 16 41 ?_
               refine pA 17 42 ?_
               refine pA 18 43 ?_
               refine pA 19 44 ?_
               refine pA 20 45 ?_
               refine pA 21 46 ?_
               refine pA 22 47 ?_
               refine pA 24 49 ?_
               refine t9_ 23 48 ?_
               refine t9_ 25 50 ?_
               refine pA 26 51 ?_
               refine pA 27 52 ?_
               refine pB 28 53 ?_
               refine pB 29 54 ?_
               refine pB 30 55 ?_
               refine pB 31 56 ?_
               refine pB 32 57 ?_
               refine pB 33 58 ?_
               refine pB 34 59 ?_
               refine pB 35 60 ?_
               refine pB 36 61 ?_
               refine pA 37 62 ?_
               refine pA 38 63 ?_
               refine pA 39 64 ?_
               refine pA 40 65 ?_
               refine done_ (done_of HT_.out z0) ?_
               try go_wp2
               go_roundg k2
               case measure => have := mf.out; have := HK2.out; omega
               case rel => exact ⟨(wrap64 (x20_2 + 1)), z1, (by first | exact H' | (simp only [gK]; exact H') | (simp only [← gK]; exact H')), ⟨by have := mf.out; have := HK2.out; omega⟩, ⟨y27⟩⟩
            ·rw [if_neg ce] at H
             exact absurd H (by simp)
           ·rw [if_neg cO] at H
            exact absurd H (by simp)
          ·rw [if_neg bT] at H
           have c12b0 : decide (0 < x20_2) = false := dF bT
           clear bT
           have H' := aM H
           clear H
           have p349 : 0 ≤ (x20_2 : Int) := oD z2
           have q349 : x20_2 < (l0.length : Int) := oD z2
           obtain ⟨ad349, e349, hx349_0, hx349_1, hx349_2⟩ := at_T34 bH.out x20_2 p349 q349
           cases e349
           replace hx349_0 := hC_ HB.out hx349_0
           replace hx349_1 := hC_ HB.out hx349_1
           replace hx349_2 := hC_ HB.out hx349_2
           replace p349 := eq_true p349
           replace q349 := eq_true q349
           try go_wp2_with (first | ((with_reducible refine ay (N := 6) rfl ?_); (try (refine gate_guard (by rfl) ?_; dsimp only)); refine bE_ (N := 6) (cs := #[.int .i64 0, .int .i64 0, .string ⟨#[]⟩]) (t := 34) (h := ?_); intro aY hg w39 hbox hb; have aW := aM (hbox); have lM := aM ((zg_ : w.heap.size ≤ aY)); have f6 := aM ((zg_ : w.heap.size ≤ aY)); replace HB := aM (ap z9 hb); clear hb hbox hg; obtain ⟨hcz40_0, hcz40_1, hcz40_2, hfz40_0, hfz40_1, hfz40_2⟩ := cc3 aW.out))
           have aI : Aside0 ((((w39.setCell ⟨aY, 0, none⟩ (.int .i64 ((so l0 x20_2).f0))).setCell ⟨aY, 1, none⟩ (.int .i64 ((so l0 x20_2).f1))).setCell ⟨aY, 2, none⟩ (.string ((so l0 x20_2).f2))).heap[aY]? = some (.cells #[.int .i64 ((so l0 x20_2).f0), .int .i64 ((so l0 x20_2).f1), .string ((so l0 x20_2).f2)] 34 (0, 0))) := ⟨y47⟩
           have aJ : Aside0 (Below w.heap.size w (((w39.setCell ⟨aY, 0, none⟩ (.int .i64 ((so l0 x20_2).f0))).setCell ⟨aY, 1, none⟩ (.int .i64 ((so l0 x20_2).f1))).setCell ⟨aY, 2, none⟩ (.string ((so l0 x20_2).f2)))) := ⟨y27⟩
           (try clear aW)
           (try clear HB)
           generalize (((w39.setCell ⟨aY, 0, none⟩ (.int .i64 ((so l0 x20_2).f0))).setCell ⟨aY, 1, none⟩ (.int .i64 ((so l0 x20_2).f1))).setCell ⟨aY, 2, none⟩ (.string ((so l0 x20_2).f2))) = w41 at aI aJ ⊢
           have aW := aI
           have HB := aJ
           clear aI aJ
           replace aW := aM (aj aW.out)
           replace HB := aM (bD HB.out)
           refine start_ (n := 41) (S := fun w' => w'.cell? ⟨aY, 0, none⟩ = some (.int .i64 ((so l0 x20_2).f0)) ∧ w'.cell? ⟨aY, 1, none⟩ = some (.int .i64 ((so l0 x20_2).f1)) ∧ w'.cell? ⟨aY, 2, none⟩ = some (.string ((so l0 x20_2).f2))) (ds := []) #[false, false, false, false, false, false, false, false, false, false, false, false, false, false, false, false, false, false, false, false, false, false, false, false, false, false, false, false, false, false, false, false, false, false, false, false, false, false, false, false, false] z0 rfl rfl ⟨(bC aW.out 0).trans rfl, (bC aW.out 1).trans rfl, (bC aW.out 2).trans rfl⟩ (fun hHeld => ?_); refine with_tabW impl_GoodMarks.tab6 impl_GoodMarks.bits6 (fun HT_ HW_ => ?_)
           generalize w41.drew = w42 at aW HB hHeld ⊢
           refine pA 1 26 ?_
           refine t3_ 0 25 ?_
           refine one_ (i := 2) (N := some 27) #[true, true, true, false, false, false, false, false, false, false, false, false, false, false, false, false, false, false, false, false, false, false, false, false, false, false, false, false, false, false, false, false, false, false, false, false, false, false, false, false, false] rfl rfl (one_of HT_.out z0) (by decide) (fun K hK => ?_)
           refine goes_ Try.func28 z0 rfl #[.agg #[.int .i64 ((so l0 x20_2).f0), .int .i64 ((so l0 x20_2).f1), .string ((so l0 x20_2).f2)], .int .i64 a1] (by rfl) rfl rfl z10 ?_
           with_reducible refine (impl_isMark.calls k2 ((so l0 x20_2).f0) ((so l0 x20_2).f1) ((so l0 x20_2).f2) a1 true _ iA.out).mono ?_
           rintro e w43 ⟨rfl, hb⟩
           refine ⟨_, rfl, ?_⟩
           replace aW := aM (ae (g := aY) (o := .cells #[.int .i64 ((so l0 x20_2).f0), .int .i64 ((so l0 x20_2).f1), .string ((so l0 x20_2).f2)] 34 (0, 0)) (kB_ aW.out) hb)
           replace HB := aM (ap zb_ hb)
           (try clear hb)
           skip
           skip
           skip
           refine hK.out _ _ ⟨(bC aW.out 0).trans rfl, (bC aW.out 1).trans rfl, (bC aW.out 2).trans rfl⟩ (fun hHeld => ?_)
           clear hK K
           refine norm_ (a' := ?_) ?_ ?_
           rotate_left
           ·show Act.put _ (some 27) _ = _
            simp only [Act.put, sA, sB, sC, i64_w, i32_w]
            rfl
           refine pA 3 28 ?_
           refine pA 4 29 ?_
           refine pA 5 30 ?_
           refine pA 6 31 ?_
           refine pA 7 32 ?_
           refine pB 8 33 ?_
           refine pB 9 34 ?_
           refine pB 10 35 ?_
           refine pB 11 36 ?_
           refine pB 12 37 ?_
           refine pB 13 38 ?_
           refine pB 14 39 ?_
           refine pB 15 40 ?_
           refine pB 16 41 ?_
           refine pB 17 42 ?_
           refine pB 18 43 ?_
           refine pB 19 44 ?_
           refine pB 20 45 ?_
           refine pB 21 46 ?_
           refine pB 22 47 ?_
           refine pB 23 48 ?_
           refine pB 24 49 ?_
           refine pB 25 50 ?_
           refine pB 26 51 ?_
           refine pB 27 52 ?_
           refine pB 28 53 ?_
           refine pB 29 54 ?_
           refine pB 30 55 ?_
           refine pB 31 56 ?_
           refine pB 32 57 ?_
           refine pB 33 58 ?_
           refine pB 34 59 ?_
           refine pB 35 60 ?_
           refine pB 36 61 ?_
           refine pB 37 62 ?_
           refine pB 38 63 ?_
           refine pA 39 64 ?_
           refine pA 40 65 ?_
           refine done_ (done_of HT_.out z0) ?_
           try go_wp2
           go_roundg k2
           case measure => have := mf.out; have := HK2.out; omega
           case rel => exact ⟨(wrap64 (x20_2 + 1)), z1, H', ⟨by have := mf.out; have := HK2.out; omega⟩, ⟨y27⟩⟩
         ·replace b4 := Bool.eq_false_iff.mpr b4
          subst b4
          rw [if_neg nF_] at H
          obtain rfl := sI H
          have p349 : 0 ≤ (x20_2 : Int) := oD z2
          have q349 : x20_2 < (l0.length : Int) := oD z2
          obtain ⟨ad349, e349, hx349_0, hx349_1, hx349_2⟩ := at_T34 bH.out x20_2 p349 q349
          cases e349
          replace hx349_0 := hC_ HB.out hx349_0
          replace hx349_1 := hC_ HB.out hx349_1
          replace hx349_2 := hC_ HB.out hx349_2
          replace p349 := eq_true p349
          replace q349 := eq_true q349
          try go_wp2_with (first | ((with_reducible refine ay (N := 6) rfl ?_); (try (refine gate_guard (by rfl) ?_; dsimp only)); refine bE_ (N := 6) (cs := #[.int .i64 0, .int .i64 0, .string ⟨#[]⟩]) (t := 34) (h := ?_); intro aY hg w44 hbox hb; have aW := aM (hbox); have lM := aM ((zg_ : w.heap.size ≤ aY)); have f6 := aM ((zg_ : w.heap.size ≤ aY)); replace HB := aM (ap z9 hb); clear hb hbox hg; obtain ⟨hcz45_0, hcz45_1, hcz45_2, hfz45_0, hfz45_1, hfz45_2⟩ := cc3 aW.out))
          have aI : Aside0 ((((w44.setCell ⟨aY, 0, none⟩ (.int .i64 ((so l0 x20_2).f0))).setCell ⟨aY, 1, none⟩ (.int .i64 ((so l0 x20_2).f1))).setCell ⟨aY, 2, none⟩ (.string ((so l0 x20_2).f2))).heap[aY]? = some (.cells #[.int .i64 ((so l0 x20_2).f0), .int .i64 ((so l0 x20_2).f1), .string ((so l0 x20_2).f2)] 34 (0, 0))) := ⟨y47⟩
          have aJ : Aside0 (Below w.heap.size w (((w44.setCell ⟨aY, 0, none⟩ (.int .i64 ((so l0 x20_2).f0))).setCell ⟨aY, 1, none⟩ (.int .i64 ((so l0 x20_2).f1))).setCell ⟨aY, 2, none⟩ (.string ((so l0 x20_2).f2)))) := ⟨y27⟩
          (try clear aW)
          (try clear HB)
          generalize (((w44.setCell ⟨aY, 0, none⟩ (.int .i64 ((so l0 x20_2).f0))).setCell ⟨aY, 1, none⟩ (.int .i64 ((so l0 x20_2).f1))).setCell ⟨aY, 2, none⟩ (.string ((so l0 x20_2).f2))) = w46 at aI aJ ⊢
          have aW := aI
          have HB := aJ
          clear aI aJ
          replace aW := aM (aj aW.out)
          replace HB := aM (bD HB.out)
          refine start_ (n := 41) (S := fun w' => w'.cell? ⟨aY, 0, none⟩ = some (.int .i64 ((so l0 x20_2).f0)) ∧ w'.cell? ⟨aY, 1, none⟩ = some (.int .i64 ((so l0 x20_2).f1)) ∧ w'.cell? ⟨aY, 2, none⟩ = some (.string ((so l0 x20_2).f2))) (ds := []) #[false, false, false, false, false, false, false, false, false, false, false, false, false, false, false, false, false, false, false, false, false, false, false, false, false, false, false, false, false, false, false, false, false, false, false, false, false, false, false, false, false] z0 rfl rfl ⟨(bC aW.out 0).trans rfl, (bC aW.out 1).trans rfl, (bC aW.out 2).trans rfl⟩ (fun hHeld => ?_); refine with_tabW impl_GoodMarks.tab6 impl_GoodMarks.bits6 (fun HT_ HW_ => ?_)
          generalize w46.drew = w47 at aW HB hHeld ⊢
          refine pA 1 26 ?_
          refine t3_ 0 25 ?_
          refine one_ (i := 2) (N := some 27) #[true, true, true, false, false, false, false, false, false, false, false, false, false, false, false, false, false, false, false, false, false, false, false, false, false, false, false, false, false, false, false, false, false, false, false, false, false, false, false, false, false] rfl rfl (one_of HT_.out z0) (by decide) (fun K hK => ?_)
          refine goes_ Try.func28 z0 rfl #[.agg #[.int .i64 ((so l0 x20_2).f0), .int .i64 ((so l0 x20_2).f1), .string ((so l0 x20_2).f2)], .int .i64 a1] (by rfl) rfl rfl z10 ?_
          with_reducible refine (impl_isMark.calls k2 ((so l0 x20_2).f0) ((so l0 x20_2).f1) ((so l0 x20_2).f2) a1 false _ iA.out).mono ?_
          rintro e w48 ⟨rfl, hb⟩
          refine ⟨_, rfl, ?_⟩
          replace aW := aM (ae (g := aY) (o := .cells #[.int .i64 ((so l0 x20_2).f0), .int .i64 ((so l0 x20_2).f1), .string ((so l0 x20_2).f2)] 34 (0, 0)) (kB_ aW.out) hb)
          replace HB := aM (ap zb_ hb)
          (try clear hb)
          skip
          skip
          skip
          refine hK.out _ _ ⟨(bC aW.out 0).trans rfl, (bC aW.out 1).trans rfl, (bC aW.out 2).trans rfl⟩ (fun hHeld => ?_)
          clear hK K
          refine norm_ (a' := ?_) ?_ ?_
          rotate_left
          ·show Act.put _ (some 27) _ = _
           simp only [Act.put, sA, sB, sC, i64_w, i32_w]
           rfl
          refine pA 3 28 ?_
          refine pA 4 29 ?_
          refine pB 5 30 ?_
          refine pB 6 31 ?_
          refine pB 7 32 ?_
          refine pB 8 33 ?_
          refine pB 9 34 ?_
          refine pB 10 35 ?_
          refine pB 11 36 ?_
          refine pB 12 37 ?_
          refine pB 13 38 ?_
          refine pB 14 39 ?_
          refine pB 15 40 ?_
          refine pB 16 41 ?_
          refine pB 17 42 ?_
          refine pB 18 43 ?_
          refine pB 19 44 ?_
          refine pB 20 45 ?_
          refine pB 21 46 ?_
          refine pB 22 47 ?_
          refine pB 23 48 ?_
          refine pB 24 49 ?_
          refine pB 25 50 ?_
          refine pB 26 51 ?_
          refine pB 27 52 ?_
          refine pB 28 53 ?_
          refine pB 29 54 ?_
          refine pB 30 55 ?_
          refine pB 31 56 ?_
          refine pB 32 57 ?_
          refine pB 33 58 ?_
          refine pB 34 59 ?_
          refine pB 35 60 ?_
          refine pB 36 61 ?_
          refine pB 37 62 ?_
          refine pB 38 63 ?_
          refine pB 39 64 ?_
          refine pA 40 65 ?_
          refine done_ (done_of HT_.out z0) ?_
          try go_wp2
          go_ret
          exact ⟨y5, y27⟩
        ·rw [if_neg c9] at H
         exact absurd H (by simp)
       ·rw [if_neg c8] at H
        exact absurd H (by simp)
      ·rw [if_neg c7] at H
       have c7b0 : decide (x20_2 < (l0.length : Int)) = false := dF c7
       clear c7
       obtain rfl := sI H
       go_wp2
       go_ret
       exact ⟨y5, y6⟩

/-! ### impl_sizes: function 39 -/
def impl_sizes.l0 : Nat → Int → Int → List (S68) → Int → Int → Option (Int × Int)
 | 0, _, _, _, _, _ => none
 | k + 1, x4, x5, x8, x9, x10 => if x10 < x9 then (if 0 ≤ x10 then (if x10 < (x8.length : Int) then (impl_sizes.l0 k (wrap64 (x4 + (wrap64 (((sp x8 x10).f0) + (((sp x8 x10).f2).size : Int))))) (wrap64 (x5 + (wrap64 (((sp x8 x10).f0) + (((sp x8 x10).f1).size : Int))))) x8 x9 (wrap64 (x10 + 1))) else (none)) else (none)) else (some (x4, x5))
def impl_sizes.f (k : Nat) (l0 : List (S68)) : Option (Int × Int) := impl_sizes.l0 k 0 0 l0 (l0.length : Int) 0
theorem impl_sizes.mono_l : ∀ k, (∀ y0 y1 y2 y3 y4, LeO (impl_sizes.l0 k y0 y1 y2 y3 y4) (impl_sizes.l0 (k + 1) y0 y1 y2 y3 y4))
 | 0 => fun _ _ _ _ _ r h => by simp [impl_sizes.l0] at h
 | k + 1 => by
  have ih0 := impl_sizes.mono_l k
  ·intro y0 y1 y2 y3 y4
   unfold impl_sizes.l0
   with_reducible repeat' first | exact ih0 _ _ _ _ _ | exact lR_ _ | exact lN_ _ | refine lI_ ?_ ?_ | refine lB_ ?_ fun _ => ?_
theorem impl_sizes.mono : ∀ a0 k, LeO (impl_sizes.f k a0) (impl_sizes.f (k + 1) a0) := by
 intro a0 k
 have ih0 := impl_sizes.mono_l k
 unfold impl_sizes.f
 with_reducible repeat' first | exact ih0 _ _ _ _ _ | exact lR_ _ | exact lN_ _ | refine lI_ ?_ ?_ | refine lB_ ?_ fun _ => ?_
theorem impl_sizes.calls (k : Nat) (A0 : Option Addr) (c0 : Nat) (l0 : List (S68)) (r1 : Int) (r2 : Int) (w : World) (hr0 : Kd.C k68 w A0 l0.length l0) (hc0 : l0.length ≤ c0) (h : impl_sizes.f k l0 = some (r1, r2)) :
  Calls Try.prog 39 #[.slice A0 l0.length c0] w fun e w' => e = .returned (.tuple #[.int .i64 r1, .int .i64 r2]) ∧ Below w.heap.size w w' := by
 have hu68 := Try.underlying68
 have bH := aM hr0
 have cH := aM hc0
 clear hr0 hc0
 have HB := aM (Below.refl w.heap.size w)
 have H : (impl_sizes.l0 k 0 0 l0 (l0.length : Int) 0) = some (r1, r2) := h
 clear h
 have H' := aM H
 clear H
 go_enter Try.func39, Try.ntmps39
 go_wp2
 go_loopg [4, 5, 10] k (fun kq v4 v5 v10 w' => ∃ (x4_1 : Int) (x5_1 : Int) (x10_1 : Int), v4 = .int .i64 x4_1 ∧ v5 = .int .i64 x5_1 ∧ v10 = .int .i64 x10_1 ∧ Aside0 (impl_sizes.l0 kq x4_1 x5_1 l0 (l0.length : Int) x10_1 = some (r1, r2)) ∧ Aside0 (kq ≤ k) ∧ Aside0 (Below w.heap.size w w'))
 case atStart => exact ⟨(0), (0), (0), z1, z1, z1, H', ⟨Nat.le_refl _⟩, ⟨y6⟩⟩
 case round =>
  clear H'
  obtain ⟨x4_1, x5_1, x10_1, rfl, rfl, rfl, HA, HK1, HB⟩ := hrel
  cases gk with
  | zero => exact absurd HA.out (by simp [impl_sizes.l0])
  | succ k1 =>
   have H := HA.out
   clear HA
   simp only [impl_sizes.l0] at H
   by_cases c2 : x10_1 < (l0.length : Int)
   ·rw [if_pos c2] at H
    have c2b0 : decide (x10_1 < (l0.length : Int)) = true := dT c2
    clear c2
    by_cases c3 : 0 ≤ x10_1
    ·rw [if_pos c3] at H
     have c3b0 : decide (0 ≤ x10_1) = true := dT c3
     clear c3
     by_cases c4 : x10_1 < (l0.length : Int)
     ·rw [if_pos c4] at H
      have c4b0 : decide (x10_1 < (l0.length : Int)) = true := dT c4
      clear c4
      have H' := aM H
      clear H
      have p355 : 0 ≤ (x10_1 : Int) := oD z2
      have q355 : x10_1 < (l0.length : Int) := oD z2
      obtain ⟨ad355, e355, hx355_0, hx355_1, hx355_2⟩ := at_T68 bH.out x10_1 p355 q355
      cases e355
      replace hx355_0 := hC_ HB.out hx355_0
      replace hx355_1 := hC_ HB.out hx355_1
      replace hx355_2 := hC_ HB.out hx355_2
      replace p355 := eq_true p355
      replace q355 := eq_true q355
      go_wp2_with (first | ((with_reducible refine ay (N := 7) rfl ?_); refine bE_ (N := 7) (cs := #[.int .i64 0, .string ⟨#[]⟩, .string ⟨#[]⟩]) (t := 68) (h := ?_); intro lv hg w5 hbox hb; have ks := aM (hbox); have GW356 := aM ((zg_ : w.heap.size ≤ lv)); have GE356 := aM ((zg_ : w.heap.size ≤ lv)); replace HB := aM (ap z9 hb); clear hb hbox hg; obtain ⟨kW, kV, kU, l8, kF, kE⟩ := cc3 ks.out))
      go_roundg k1
      case measure => have := HK1.out; omega
      case rel => exact ⟨(wrap64 (x4_1 + (wrap64 (((sp l0 x10_1).f0) + (((sp l0 x10_1).f2).size : Int))))), (wrap64 (x5_1 + (wrap64 (((sp l0 x10_1).f0) + (((sp l0 x10_1).f1).size : Int))))), (wrap64 (x10_1 + 1)), z1, z1, z1, H', ⟨y0⟩, ⟨zb_⟩⟩
     ·rw [if_neg c4] at H
      exact absurd H (by simp)
    ·rw [if_neg c3] at H
     exact absurd H (by simp)
   ·rw [if_neg c2] at H
    have c2b0 : decide (x10_1 < (l0.length : Int)) = false := dF c2
    clear c2
    simp only [Option.some.injEq, Prod.mk.injEq] at H
    obtain ⟨rfl, rfl⟩ := H
    go_wp2
    go_ret2
    exact ⟨y5, y6⟩

/-! ### impl_isName: function 81 -/
def impl_isName.f (a0 : Int) : Option (Bool) := if a0 ≥ 65 then (some (decide (a0 ≤ 70))) else (some false)
theorem impl_isName.calls (a0 : Int) (r : Bool) (w : World) (h : impl_isName.f a0 = some r) :
  Calls Try.prog 81 #[.int .u8 a0] w fun e w' => e = .returned (.bool r) ∧ Drawn0 w w' := by
 have H : (if a0 ≥ 65 then (some (decide (a0 ≤ 70))) else (some false)) = some r := h
 clear h
 by_cases c2 : a0 ≥ 65
 ·rw [if_pos c2] at H
  have c2b0 : decide (65 ≤ a0) = true := dT c2
  clear c2
  obtain rfl := sI H
  go_enter Try.func81, Try.ntmps81
  go_wp2
  go_ret
  exact ⟨y2, y4⟩
 ·rw [if_neg c2] at H
  have c2b0 : decide (65 ≤ a0) = false := dF c2
  clear c2
  obtain rfl := sI H
  go_enter Try.func81, Try.ntmps81
  go_wp2
  go_ret
  exact ⟨y2, y4⟩

/-! ### impl_isPlain: function 82 -/
def impl_isPlain.f (a0 : Int) : Option (Bool) := if a0 ≥ 97 then (if a0 ≤ 122 then (some true) else (if a0 ≥ 48 then (if a0 ≤ 57 then (some true) else (if a0 = 32 then (some true) else (if a0 = 46 then (some true) else (some (a0 == 44))))) else (if a0 = 32 then (some true) else (if a0 = 46 then (some true) else (some (a0 == 44)))))) else (if a0 ≥ 48 then (if a0 ≤ 57 then (some true) else (if a0 = 32 then (some true) else (if a0 = 46 then (some true) else (some (a0 == 44))))) else (if a0 = 32 then (some true) else (if a0 = 46 then (some true) else (some (a0 == 44)))))
theorem impl_isPlain.calls (a0 : Int) (r : Bool) (w : World) (h : impl_isPlain.f a0 = some r) :
  Calls Try.prog 82 #[.int .u8 a0] w fun e w' => e = .returned (.bool r) ∧ Drawn0 w w' := by
 have H : (if a0 ≥ 97 then (if a0 ≤ 122 then (some true) else (if a0 ≥ 48 then (if a0 ≤ 57 then (some true) else (if a0 = 32 then (some true) else (if a0 = 46 then (some true) else (some (a0 == 44))))) else (if a0 = 32 then (some true) else (if a0 = 46 then (some true) else (some (a0 == 44)))))) else (if a0 ≥ 48 then (if a0 ≤ 57 then (some true) else (if a0 = 32 then (some true) else (if a0 = 46 then (some true) else (some (a0 == 44))))) else (if a0 = 32 then (some true) else (if a0 = 46 then (some true) else (some (a0 == 44)))))) = some r := h
 clear h
 by_cases c2 : a0 ≥ 97
 ·rw [if_pos c2] at H
  have c2b0 : decide (97 ≤ a0) = true := dT c2
  clear c2
  by_cases c3 : a0 ≤ 122
  ·rw [if_pos c3] at H
   have c3b0 : decide (a0 ≤ 122) = true := dT c3
   clear c3
   obtain rfl := sI H
   go_enter Try.func82, Try.ntmps82
   go_wp2
   go_ret
   exact ⟨y2, y4⟩
  ·rw [if_neg c3] at H
   have c3b0 : decide (a0 ≤ 122) = false := dF c3
   clear c3
   by_cases c4 : a0 ≥ 48
   ·rw [if_pos c4] at H
    have c4b0 : decide (48 ≤ a0) = true := dT c4
    clear c4
    by_cases c5 : a0 ≤ 57
    ·rw [if_pos c5] at H
     have c5b0 : decide (a0 ≤ 57) = true := dT c5
     clear c5
     obtain rfl := sI H
     go_enter Try.func82, Try.ntmps82
     go_wp2
     go_ret
     exact ⟨y2, y4⟩
    ·rw [if_neg c5] at H
     have c5b0 : decide (a0 ≤ 57) = false := dF c5
     clear c5
     by_cases c6 : a0 = 32
     ·rw [if_pos c6] at H
      have c6b0 : (a0 == 32) = true := qT c6
      have c6b1 : (a0 != 32) = false := nF c6
      clear c6
      obtain rfl := sI H
      go_enter Try.func82, Try.ntmps82
      go_wp2
      go_ret
      exact ⟨y2, y4⟩
     ·rw [if_neg c6] at H
      have c6b0 : (a0 == 32) = false := qF c6
      have c6b1 : (a0 != 32) = true := nT c6
      by_cases c7 : a0 = 46
      ·rw [if_pos c7] at H
       have c7b0 : (a0 == 46) = true := qT c7
       have c7b1 : (a0 != 46) = false := nF c7
       clear c7
       obtain rfl := sI H
       go_enter Try.func82, Try.ntmps82
       go_wp2
       go_ret
       exact ⟨y2, y4⟩
      ·rw [if_neg c7] at H
       have c7b0 : (a0 == 46) = false := qF c7
       have c7b1 : (a0 != 46) = true := nT c7
       obtain rfl := sI H
       go_enter Try.func82, Try.ntmps82
       go_wp2
       go_ret
       exact ⟨y2, y4⟩
   ·rw [if_neg c4] at H
    have c4b0 : decide (48 ≤ a0) = false := dF c4
    clear c4
    by_cases c8 : a0 = 32
    ·rw [if_pos c8] at H
     have c8b0 : (a0 == 32) = true := qT c8
     have c8b1 : (a0 != 32) = false := nF c8
     clear c8
     obtain rfl := sI H
     go_enter Try.func82, Try.ntmps82
     go_wp2
     go_ret
     exact ⟨y2, y4⟩
    ·rw [if_neg c8] at H
     have c8b0 : (a0 == 32) = false := qF c8
     have c8b1 : (a0 != 32) = true := nT c8
     by_cases c9 : a0 = 46
     ·rw [if_pos c9] at H
      have c9b0 : (a0 == 46) = true := qT c9
      have c9b1 : (a0 != 46) = false := nF c9
      clear c9
      obtain rfl := sI H
      go_enter Try.func82, Try.ntmps82
      go_wp2
      go_ret
      exact ⟨y2, y4⟩
     ·rw [if_neg c9] at H
      have c9b0 : (a0 == 46) = false := qF c9
      have c9b1 : (a0 != 46) = true := nT c9
      obtain rfl := sI H
      go_enter Try.func82, Try.ntmps82
      go_wp2
      go_ret
      exact ⟨y2, y4⟩
 ·rw [if_neg c2] at H
  have c2b0 : decide (97 ≤ a0) = false := dF c2
  clear c2
  by_cases cq : a0 ≥ 48
  ·rw [if_pos cq] at H
   have c10b0 : decide (48 ≤ a0) = true := dT cq
   clear cq
   by_cases b4 : a0 ≤ 57
   ·rw [if_pos b4] at H
    have c11b0 : decide (a0 ≤ 57) = true := dT b4
    clear b4
    obtain rfl := sI H
    go_enter Try.func82, Try.ntmps82
    go_wp2
    go_ret
    exact ⟨y2, y4⟩
   ·rw [if_neg b4] at H
    have c11b0 : decide (a0 ≤ 57) = false := dF b4
    clear b4
    by_cases bT : a0 = 32
    ·rw [if_pos bT] at H
     have c12b0 : (a0 == 32) = true := qT bT
     have c12b1 : (a0 != 32) = false := nF bT
     clear bT
     obtain rfl := sI H
     go_enter Try.func82, Try.ntmps82
     go_wp2
     go_ret
     exact ⟨y2, y4⟩
    ·rw [if_neg bT] at H
     have c12b0 : (a0 == 32) = false := qF bT
     have c12b1 : (a0 != 32) = true := nT bT
     by_cases bU : a0 = 46
     ·rw [if_pos bU] at H
      have c13b0 : (a0 == 46) = true := qT bU
      have c13b1 : (a0 != 46) = false := nF bU
      clear bU
      obtain rfl := sI H
      go_enter Try.func82, Try.ntmps82
      go_wp2
      go_ret
      exact ⟨y2, y4⟩
     ·rw [if_neg bU] at H
      have c13b0 : (a0 == 46) = false := qF bU
      have c13b1 : (a0 != 46) = true := nT bU
      obtain rfl := sI H
      go_enter Try.func82, Try.ntmps82
      go_wp2
      go_ret
      exact ⟨y2, y4⟩
  ·rw [if_neg cq] at H
   have c10b0 : decide (48 ≤ a0) = false := dF cq
   clear cq
   by_cases cO : a0 = 32
   ·rw [if_pos cO] at H
    have c14b0 : (a0 == 32) = true := qT cO
    have c14b1 : (a0 != 32) = false := nF cO
    clear cO
    obtain rfl := sI H
    go_enter Try.func82, Try.ntmps82
    go_wp2
    go_ret
    exact ⟨y2, y4⟩
   ·rw [if_neg cO] at H
    have c14b0 : (a0 == 32) = false := qF cO
    have c14b1 : (a0 != 32) = true := nT cO
    by_cases ce : a0 = 46
    ·rw [if_pos ce] at H
     have c15b0 : (a0 == 46) = true := qT ce
     have c15b1 : (a0 != 46) = false := nF ce
     clear ce
     obtain rfl := sI H
     go_enter Try.func82, Try.ntmps82
     go_wp2
     go_ret
     exact ⟨y2, y4⟩
    ·rw [if_neg ce] at H
     have c15b0 : (a0 == 46) = false := qF ce
     have c15b1 : (a0 != 46) = true := nT ce
     obtain rfl := sI H
     go_enter Try.func82, Try.ntmps82
     go_wp2
     go_ret
     exact ⟨y2, y4⟩

/-! ### impl_GoodText: function 67 -/
def impl_GoodText.l0 : Nat → ByteArray → Int → Int → Option (Bool)
 | 0, _, _, _ => none
 | k + 1, x0, x5, x6 => if x6 < x5 then (if 0 ≤ x6 then (if x6 < (x0.size : Int) then ((impl_isName.f (bt x0 x6)).bind fun qk => (if qk = true then (impl_GoodText.l0 k x0 x5 (wrap64 (x6 + 1))) else ((impl_isPlain.f (bt x0 x6)).bind fun qj => (if qj = true then (impl_GoodText.l0 k x0 x5 (wrap64 (x6 + 1))) else (if (bt x0 x6) = 47 then (impl_GoodText.l0 k x0 x5 (wrap64 (x6 + 1))) else (some false)))))) else (none)) else (none)) else (some (decide ((x0.size : Int) ≤ 300)))
def impl_GoodText.f (k : Nat) (a0 : ByteArray) : Option (Bool) := impl_GoodText.l0 k a0 (a0.size : Int) 0
theorem impl_GoodText.mono_l : ∀ k, (∀ y0 y1 y2, LeO (impl_GoodText.l0 k y0 y1 y2) (impl_GoodText.l0 (k + 1) y0 y1 y2))
 | 0 => fun _ _ _ r h => by simp [impl_GoodText.l0] at h
 | k + 1 => by
  have ih0 := impl_GoodText.mono_l k
  ·intro y0 y1 y2
   unfold impl_GoodText.l0
   with_reducible repeat' first | exact ih0 _ _ _ | exact lR_ _ | exact lN_ _ | refine lI_ ?_ ?_ | refine lB_ ?_ fun _ => ?_
theorem impl_GoodText.mono : ∀ a0 k, LeO (impl_GoodText.f k a0) (impl_GoodText.f (k + 1) a0) := by
 intro a0 k
 have ih0 := impl_GoodText.mono_l k
 unfold impl_GoodText.f
 with_reducible repeat' first | exact ih0 _ _ _ | exact lR_ _ | exact lN_ _ | refine lI_ ?_ ?_ | refine lB_ ?_ fun _ => ?_
theorem impl_GoodText.calls (k : Nat) (a0 : ByteArray) (r : Bool) (w : World) (h : impl_GoodText.f k a0 = some r) :
  Calls Try.prog 67 #[.string a0] w fun e w' => e = .returned (.bool r) ∧ Drawn0 w w' := by
 have H : (impl_GoodText.l0 k a0 (a0.size : Int) 0) = some r := h
 clear h
 have H' := aM H
 clear H
 go_enter Try.func67, Try.ntmps67
 go_wp2
 go_loopg [6] k (fun kq v6 w' => ∃ (x6_1 : Int), v6 = .int .i64 x6_1 ∧ Aside0 (impl_GoodText.l0 kq a0 (a0.size : Int) x6_1 = some r) ∧ Aside0 (kq ≤ k) ∧ Drawn0 w w')
 case atStart => exact ⟨(0), z1, H', ⟨Nat.le_refl _⟩, y4⟩
 case round =>
  clear H'
  obtain ⟨x6_1, rfl, HA, HK1, ⟨m1, rfl⟩⟩ := hrel
  cases gk with
  | zero => exact absurd HA.out (by simp [impl_GoodText.l0])
  | succ k1 =>
   have H := HA.out
   clear HA
   simp only [impl_GoodText.l0] at H
   by_cases c2 : x6_1 < (a0.size : Int)
   ·rw [if_pos c2] at H
    have c2b0 : decide (x6_1 < (a0.size : Int)) = true := dT c2
    clear c2
    by_cases c3 : 0 ≤ x6_1
    ·rw [if_pos c3] at H
     have c3b0 : decide (0 ≤ x6_1) = true := dT c3
     clear c3
     by_cases c4 : x6_1 < (a0.size : Int)
     ·rw [if_pos c4] at H
      have c4b0 : decide (x6_1 < (a0.size : Int)) = true := dT c4
      clear c4
      obtain ⟨qk, A6, H⟩ := oA_ H
      try dsimp only at H
      by_cases c7 : qk = true
      ·subst c7
       rw [if_pos rfl] at H
       have H' := aM H
       clear H
       have p5 : 0 ≤ (x6_1 : Int) := oD z2
       have q5 : x6_1 < (a0.size : Int) := oD z2
       have hx5 := bt_at a0 x6_1
       replace p5 := eq_true p5
       replace q5 := eq_true q5
       go_wp2_with (first | ((with_reducible refine ax (f := 81) rfl ?_); refine aC (some 12) rfl rfl Try.func81 z0 rfl #[.int .u8 (bt a0 x6_1)] rfl z10 ?_; (with_reducible refine (impl_isName.calls (bt a0 x6_1) true _ A6.out).mono ?_); rintro e w' ⟨rfl, ⟨nd, rfl⟩⟩; refine ⟨_, rfl, ?_⟩))
       go_roundg k1
       case measure => have := HK1.out; omega
       case rel => exact ⟨(wrap64 (x6_1 + 1)), z1, H', ⟨y0⟩, y4⟩
      ·replace c7 := Bool.eq_false_iff.mpr c7
       subst c7
       rw [if_neg nF_] at H
       obtain ⟨qj, A9, H⟩ := oA_ H
       try dsimp only at H
       by_cases cq : qj = true
       ·subst cq
        rw [if_pos rfl] at H
        have H' := aM H
        clear H
        have p5 : 0 ≤ (x6_1 : Int) := oD z2
        have q5 : x6_1 < (a0.size : Int) := oD z2
        have hx5 := bt_at a0 x6_1
        replace p5 := eq_true p5
        replace q5 := eq_true q5
        go_wp2_with (first | ((with_reducible refine ax (f := 81) rfl ?_); refine aC (some 12) rfl rfl Try.func81 z0 rfl #[.int .u8 (bt a0 x6_1)] rfl z10 ?_; (with_reducible refine (impl_isName.calls (bt a0 x6_1) false _ A6.out).mono ?_); rintro e w' ⟨rfl, ⟨nd, rfl⟩⟩; refine ⟨_, rfl, ?_⟩; have p8 : 0 ≤ (x6_1 : Int) := oD z2; have q8 : x6_1 < (a0.size : Int) := oD z2; have hx8 := bt_at a0 x6_1; replace p8 := eq_true p8; replace q8 := eq_true q8) | (go_at_call 82; (with_reducible refine (impl_isPlain.calls (bt a0 x6_1) true _ A9.out).mono ?_); rintro e w' ⟨rfl, ⟨nd, rfl⟩⟩))
        go_roundg k1
        case measure => have := HK1.out; omega
        case rel => exact ⟨(wrap64 (x6_1 + 1)), z1, H', ⟨y0⟩, y4⟩
       ·replace cq := Bool.eq_false_iff.mpr cq
        subst cq
        rw [if_neg nF_] at H
        by_cases bT : (bt a0 x6_1) = 47
        ·rw [if_pos bT] at H
         have c12b0 : ((bt a0 x6_1) == 47) = true := qT bT
         have c12b1 : ((bt a0 x6_1) != 47) = false := nF bT
         clear bT
         have H' := aM H
         clear H
         have p5 : 0 ≤ (x6_1 : Int) := oD z2
         have q5 : x6_1 < (a0.size : Int) := oD z2
         have hx5 := bt_at a0 x6_1
         replace p5 := eq_true p5
         replace q5 := eq_true q5
         go_wp2_with (first | ((with_reducible refine ax (f := 81) rfl ?_); refine aC (some 12) rfl rfl Try.func81 z0 rfl #[.int .u8 (bt a0 x6_1)] rfl z10 ?_; (with_reducible refine (impl_isName.calls (bt a0 x6_1) false _ A6.out).mono ?_); rintro e w' ⟨rfl, ⟨nd, rfl⟩⟩; refine ⟨_, rfl, ?_⟩; have p8 : 0 ≤ (x6_1 : Int) := oD z2; have q8 : x6_1 < (a0.size : Int) := oD z2; have hx8 := bt_at a0 x6_1; replace p8 := eq_true p8; replace q8 := eq_true q8) | (go_at_call 82; (with_reducible refine (impl_isPlain.calls (bt a0 x6_1) false _ A9.out).mono ?_); rintro e w' ⟨rfl, ⟨nd, rfl⟩⟩; have p11 : 0 ≤ (x6_1 : Int) := oD z2; have q11 : x6_1 < (a0.size : Int) := oD z2; have hx11 := bt_at a0 x6_1; replace p11 := eq_true p11; replace q11 := eq_true q11))
         go_roundg k1
         case measure => have := HK1.out; omega
         case rel => exact ⟨(wrap64 (x6_1 + 1)), z1, H', ⟨y0⟩, y4⟩
        ·rw [if_neg bT] at H
         have c12b0 : ((bt a0 x6_1) == 47) = false := qF bT
         have c12b1 : ((bt a0 x6_1) != 47) = true := nT bT
         obtain rfl := sI H
         have p5 : 0 ≤ (x6_1 : Int) := oD z2
         have q5 : x6_1 < (a0.size : Int) := oD z2
         have hx5 := bt_at a0 x6_1
         replace p5 := eq_true p5
         replace q5 := eq_true q5
         go_wp2_with (first | ((with_reducible refine ax (f := 81) rfl ?_); refine aC (some 12) rfl rfl Try.func81 z0 rfl #[.int .u8 (bt a0 x6_1)] rfl z10 ?_; (with_reducible refine (impl_isName.calls (bt a0 x6_1) false _ A6.out).mono ?_); rintro e w' ⟨rfl, ⟨nd, rfl⟩⟩; refine ⟨_, rfl, ?_⟩; have p8 : 0 ≤ (x6_1 : Int) := oD z2; have q8 : x6_1 < (a0.size : Int) := oD z2; have hx8 := bt_at a0 x6_1; replace p8 := eq_true p8; replace q8 := eq_true q8) | (go_at_call 82; (with_reducible refine (impl_isPlain.calls (bt a0 x6_1) false _ A9.out).mono ?_); rintro e w' ⟨rfl, ⟨nd, rfl⟩⟩; have p11 : 0 ≤ (x6_1 : Int) := oD z2; have q11 : x6_1 < (a0.size : Int) := oD z2; have hx11 := bt_at a0 x6_1; replace p11 := eq_true p11; replace q11 := eq_true q11))
         go_ret
         exact ⟨y2, y4⟩
     ·rw [if_neg c4] at H
      exact absurd H (by simp)
    ·rw [if_neg c3] at H
     exact absurd H (by simp)
   ·rw [if_neg c2] at H
    have c2b0 : decide (x6_1 < (a0.size : Int)) = false := dF c2
    clear c2
    obtain rfl := sI H
    go_wp2
    go_ret
    exact ⟨y2, y4⟩

/-! ### impl_Part_isPart: function 55 -/
def impl_Part_isPart.f (k : Nat) (a0_0 : Int) (a0_1 : ByteArray) (a0_2 : ByteArray) : Option (Bool) := if a0_0 = 0 then (if a0_1.toList = ([] : List UInt8) then (if a0_2.toList = ([] : List UInt8) then (some false) else ((impl_GoodText.f k a0_2).bind fun oq => (some oq))) else (if a0_2.toList = ([] : List UInt8) then ((impl_GoodText.f k a0_1).bind fun oo => (some oo)) else (some false))) else (if a0_0 ≥ 1 then (if a0_0 ≤ 300 then (if a0_1.toList = ([] : List UInt8) then (some (a0_2.toList == ([] : List UInt8))) else (some false)) else (some false)) else (some false))
theorem impl_Part_isPart.mono : ∀ a0 a1 a2 k, LeO (impl_Part_isPart.f k a0 a1 a2) (impl_Part_isPart.f (k + 1) a0 a1 a2) := by
 intro a0 a1 a2 k
 unfold impl_Part_isPart.f
 with_reducible repeat' first | exact impl_GoodText.mono _ _ | exact lR_ _ | exact lN_ _ | refine lI_ ?_ ?_ | refine lB_ ?_ fun _ => ?_
theorem impl_Part_isPart.calls (k : Nat) (a0_0 : Int) (a0_1 : ByteArray) (a0_2 : ByteArray) (r : Bool) (w : World) (h : impl_Part_isPart.f k a0_0 a0_1 a0_2 = some r) :
  Calls Try.prog 55 #[.agg #[.int .i64 a0_0, .string a0_1, .string a0_2]] w fun e w' => e = .returned (.bool r) ∧ Below w.heap.size w w' := by
 have hu68 := Try.underlying68
 have HB := aM (Below.refl w.heap.size w)
 have H : (if a0_0 = 0 then (if a0_1.toList = ([] : List UInt8) then (if a0_2.toList = ([] : List UInt8) then (some false) else ((impl_GoodText.f k a0_2).bind fun oq => (some oq))) else (if a0_2.toList = ([] : List UInt8) then ((impl_GoodText.f k a0_1).bind fun oo => (some oo)) else (some false))) else (if a0_0 ≥ 1 then (if a0_0 ≤ 300 then (if a0_1.toList = ([] : List UInt8) then (some (a0_2.toList == ([] : List UInt8))) else (some false)) else (some false)) else (some false))) = some r := h
 clear h
 by_cases c2 : a0_0 = 0
 ·rw [if_pos c2] at H
  have c2b0 : (a0_0 == 0) = true := qT c2
  have c2b1 : (a0_0 != 0) = false := nF c2
  clear c2
  by_cases c3 : a0_1.toList = ([] : List UInt8)
  ·rw [if_pos c3] at H
   have c3b0 : (a0_1.toList == ([] : List UInt8)) = true := qT c3
   have c3b1 : (a0_1.toList != ([] : List UInt8)) = false := nF c3
   have c3b8 : (!a0_1.toList.isEmpty) = false := by have h_ := c3b1; revert h_; cases a0_1.toList <;> simp
   clear c3
   by_cases c4 : a0_2.toList = ([] : List UInt8)
   ·rw [if_pos c4] at H
    have c4b0 : (a0_2.toList == ([] : List UInt8)) = true := qT c4
    have c4b1 : (a0_2.toList != ([] : List UInt8)) = false := nF c4
    have c4b8 : (!a0_2.toList.isEmpty) = false := by have h_ := c4b1; revert h_; cases a0_2.toList <;> simp
    clear c4
    obtain rfl := sI H
    go_enter Try.func55, Try.ntmps55
    go_wp2_with (first | ((with_reducible refine ay (N := 1) rfl ?_); refine bE_ (N := 1) (cs := #[.int .i64 a0_0, .string a0_1, .string a0_2]) (t := 68) (h := ?_); intro bK hg w5 hbox hb; have bE := aM (hbox); have jP := aM ((zg_ : w.heap.size ≤ bK)); have jS := aM ((zg_ : w.heap.size ≤ bK)); replace HB := aM (ap z9 hb); clear hb hbox hg; obtain ⟨kW, kV, kU, l8, kF, kE⟩ := cc3 bE.out))
    all_goals (try (exfalso; rename_i h_; rw [c3b0] at h_; cases h_; done))
    all_goals (try (exfalso; rename_i h_; rw [c4b0] at h_; cases h_; done))
    go_ret
    exact ⟨y5, y17⟩
   ·rw [if_neg c4] at H
    have c4b0 : (a0_2.toList == ([] : List UInt8)) = false := qF c4
    have c4b1 : (a0_2.toList != ([] : List UInt8)) = true := nT c4
    have c4b8 : (!a0_2.toList.isEmpty) = true := by have h_ := c4b1; revert h_; cases a0_2.toList <;> simp
    obtain ⟨oq, A7, H⟩ := oA_ H
    try dsimp only at H
    obtain rfl := sI H
    go_enter Try.func55, Try.ntmps55
    go_wp2_with (first | ((with_reducible refine ay (N := 1) rfl ?_); refine bE_ (N := 1) (cs := #[.int .i64 a0_0, .string a0_1, .string a0_2]) (t := 68) (h := ?_); intro bK hg w8 hbox hb; have bE := aM (hbox); have jP := aM ((zg_ : w.heap.size ≤ bK)); have jS := aM ((zg_ : w.heap.size ≤ bK)); replace HB := aM (ap z9 hb); clear hb hbox hg; obtain ⟨dc, db, da, dh, cZ, cY⟩ := cc3 bE.out) | (go_at_call 67; (with_reducible refine (impl_GoodText.calls k a0_2 oq _ A7.out).mono ?_); rintro e w' ⟨rfl, ⟨nd, rfl⟩⟩))
    all_goals (try (exfalso; rename_i h_; rw [c3b0] at h_; cases h_; done))
    all_goals (try (exfalso; rename_i h_; rw [c4b0] at h_; cases h_; done))
    go_ret
    exact ⟨y5, y17⟩
  ·rw [if_neg c3] at H
   have c3b0 : (a0_1.toList == ([] : List UInt8)) = false := qF c3
   have c3b1 : (a0_1.toList != ([] : List UInt8)) = true := nT c3
   have c3b8 : (!a0_1.toList.isEmpty) = true := by have h_ := c3b1; revert h_; cases a0_1.toList <;> simp
   by_cases cq : a0_2.toList = ([] : List UInt8)
   ·rw [if_pos cq] at H
    have c10b0 : (a0_2.toList == ([] : List UInt8)) = true := qT cq
    have c10b1 : (a0_2.toList != ([] : List UInt8)) = false := nF cq
    have c10b8 : (!a0_2.toList.isEmpty) = false := by have h_ := c10b1; revert h_; cases a0_2.toList <;> simp
    clear cq
    obtain ⟨oo, pJ, H⟩ := oA_ H
    try dsimp only at H
    obtain rfl := sI H
    go_enter Try.func55, Try.ntmps55
    go_wp2_with (first | ((with_reducible refine ay (N := 1) rfl ?_); refine bE_ (N := 1) (cs := #[.int .i64 a0_0, .string a0_1, .string a0_2]) (t := 68) (h := ?_); intro bK hg w12 hbox hb; have bE := aM (hbox); have jP := aM ((zg_ : w.heap.size ≤ bK)); have jS := aM ((zg_ : w.heap.size ≤ bK)); replace HB := aM (ap z9 hb); clear hb hbox hg; obtain ⟨il, ik, ij, hV, hU, hP⟩ := cc3 bE.out) | (go_at_call 67; (with_reducible refine (impl_GoodText.calls k a0_1 oo _ pJ.out).mono ?_); rintro e w' ⟨rfl, ⟨nd, rfl⟩⟩))
    all_goals (try (exfalso; rename_i h_; rw [c3b0] at h_; cases h_; done))
    all_goals (try (exfalso; rename_i h_; rw [c10b0] at h_; cases h_; done))
    go_ret
    exact ⟨y5, y17⟩
   ·rw [if_neg cq] at H
    have c10b0 : (a0_2.toList == ([] : List UInt8)) = false := qF cq
    have c10b1 : (a0_2.toList != ([] : List UInt8)) = true := nT cq
    have c10b8 : (!a0_2.toList.isEmpty) = true := by have h_ := c10b1; revert h_; cases a0_2.toList <;> simp
    obtain rfl := sI H
    go_enter Try.func55, Try.ntmps55
    go_wp2_with (first | ((with_reducible refine ay (N := 1) rfl ?_); refine bE_ (N := 1) (cs := #[.int .i64 a0_0, .string a0_1, .string a0_2]) (t := 68) (h := ?_); intro bK hg w14 hbox hb; have bE := aM (hbox); have jP := aM ((zg_ : w.heap.size ≤ bK)); have jS := aM ((zg_ : w.heap.size ≤ bK)); replace HB := aM (ap z9 hb); clear hb hbox hg; obtain ⟨ii, ig, ie, hO, hL, hJ⟩ := cc3 bE.out))
    all_goals (try (exfalso; rename_i h_; rw [c3b0] at h_; cases h_; done))
    all_goals (try (exfalso; rename_i h_; rw [c10b0] at h_; cases h_; done))
    go_ret
    exact ⟨y5, y17⟩
 ·rw [if_neg c2] at H
  have c2b0 : (a0_0 == 0) = false := qF c2
  have c2b1 : (a0_0 != 0) = true := nT c2
  by_cases dV : a0_0 ≥ 1
  ·rw [if_pos dV] at H
   have c16b0 : decide (1 ≤ a0_0) = true := dT dV
   clear dV
   by_cases cA : a0_0 ≤ 300
   ·rw [if_pos cA] at H
    have c17b0 : decide (a0_0 ≤ 300) = true := dT cA
    clear cA
    by_cases cJ : a0_1.toList = ([] : List UInt8)
    ·rw [if_pos cJ] at H
     have c18b0 : (a0_1.toList == ([] : List UInt8)) = true := qT cJ
     have c18b1 : (a0_1.toList != ([] : List UInt8)) = false := nF cJ
     have c18b8 : (!a0_1.toList.isEmpty) = false := by have h_ := c18b1; revert h_; cases a0_1.toList <;> simp
     clear cJ
     obtain rfl := sI H
     go_enter Try.func55, Try.ntmps55
     go_wp2_with (first | ((with_reducible refine ay (N := 1) rfl ?_); refine bE_ (N := 1) (cs := #[.int .i64 a0_0, .string a0_1, .string a0_2]) (t := 68) (h := ?_); intro bK hg w19 hbox hb; have bE := aM (hbox); have jP := aM ((zg_ : w.heap.size ≤ bK)); have jS := aM ((zg_ : w.heap.size ≤ bK)); replace HB := aM (ap z9 hb); clear hb hbox hg; obtain ⟨eg, ef, ee, d7, d6, d5⟩ := cc3 bE.out))
     all_goals (try (exfalso; rename_i h_; rw [c18b0] at h_; cases h_; done))
     go_ret
     exact ⟨y5, y17⟩
    ·rw [if_neg cJ] at H
     have c18b0 : (a0_1.toList == ([] : List UInt8)) = false := qF cJ
     have c18b1 : (a0_1.toList != ([] : List UInt8)) = true := nT cJ
     have c18b8 : (!a0_1.toList.isEmpty) = true := by have h_ := c18b1; revert h_; cases a0_1.toList <;> simp
     obtain rfl := sI H
     go_enter Try.func55, Try.ntmps55
     go_wp2_with (first | ((with_reducible refine ay (N := 1) rfl ?_); refine bE_ (N := 1) (cs := #[.int .i64 a0_0, .string a0_1, .string a0_2]) (t := 68) (h := ?_); intro bK hg w21 hbox hb; have bE := aM (hbox); have jP := aM ((zg_ : w.heap.size ≤ bK)); have jS := aM ((zg_ : w.heap.size ≤ bK)); replace HB := aM (ap z9 hb); clear hb hbox hg; obtain ⟨dN, dM, dL, dK, dJ, dI⟩ := cc3 bE.out))
     all_goals (try (exfalso; rename_i h_; rw [c18b0] at h_; cases h_; done))
     go_ret
     exact ⟨y5, y17⟩
   ·rw [if_neg cA] at H
    have c17b0 : decide (a0_0 ≤ 300) = false := dF cA
    clear cA
    obtain rfl := sI H
    go_enter Try.func55, Try.ntmps55
    go_wp2_with (first | ((with_reducible refine ay (N := 1) rfl ?_); refine bE_ (N := 1) (cs := #[.int .i64 a0_0, .string a0_1, .string a0_2]) (t := 68) (h := ?_); intro bK hg w23 hbox hb; have bE := aM (hbox); have jP := aM ((zg_ : w.heap.size ≤ bK)); have jS := aM ((zg_ : w.heap.size ≤ bK)); replace HB := aM (ap z9 hb); clear hb hbox hg; obtain ⟨fp, fo, fm, e9, e8, e7⟩ := cc3 bE.out))
    go_ret
    exact ⟨y5, y17⟩
  ·rw [if_neg dV] at H
   have c16b0 : decide (1 ≤ a0_0) = false := dF dV
   clear dV
   obtain rfl := sI H
   go_enter Try.func55, Try.ntmps55
   go_wp2_with (first | ((with_reducible refine ay (N := 1) rfl ?_); refine bE_ (N := 1) (cs := #[.int .i64 a0_0, .string a0_1, .string a0_2]) (t := 68) (h := ?_); intro bK hg w25 hbox hb; have bE := aM (hbox); have jP := aM ((zg_ : w.heap.size ≤ bK)); have jS := aM ((zg_ : w.heap.size ≤ bK)); replace HB := aM (ap z9 hb); clear hb hbox hg; obtain ⟨eK, eJ, eI, eB, eA, ez⟩ := cc3 bE.out))
   go_ret
   exact ⟨y5, y17⟩

/-! ### impl_GoodOp_1: function 54 -/
def impl_GoodOp_1.f (k : Nat) (a0_0 : Int) (a0_1 : ByteArray) (a0_2 : ByteArray) : Option (Bool) := (impl_Part_isPart.f k a0_0 a0_1 a0_2).bind fun om => (some (!om))
theorem impl_GoodOp_1.mono : ∀ a0 a1 a2 k, LeO (impl_GoodOp_1.f k a0 a1 a2) (impl_GoodOp_1.f (k + 1) a0 a1 a2) := by
 intro a0 a1 a2 k
 unfold impl_GoodOp_1.f
 with_reducible repeat' first | exact impl_Part_isPart.mono _ _ _ _ | exact lR_ _ | exact lN_ _ | refine lI_ ?_ ?_ | refine lB_ ?_ fun _ => ?_
theorem impl_GoodOp_1.calls (k : Nat) (a0_0 : Int) (a0_1 : ByteArray) (a0_2 : ByteArray) (r : Bool) (w : World) (h : impl_GoodOp_1.f k a0_0 a0_1 a0_2 = some r) :
  Calls Try.prog 54 #[.agg #[.int .i64 a0_0, .string a0_1, .string a0_2]] w fun e w' => e = .returned (.bool r) ∧ Below w.heap.size w w' := by
 have hu68 := Try.underlying68
 have HB := aM (Below.refl w.heap.size w)
 have H : ((impl_Part_isPart.f k a0_0 a0_1 a0_2).bind fun om => (some (!om))) = some r := h
 clear h
 obtain ⟨om, A2, H⟩ := oA_ H
 try dsimp only at H
 obtain rfl := sI H
 go_enter Try.func54, Try.ntmps54
 go_wp2_with (first | ((with_reducible refine ay (N := 1) rfl ?_); refine bE_ (N := 1) (cs := #[.int .i64 a0_0, .string a0_1, .string a0_2]) (t := 68) (h := ?_); intro kg hg w3 hbox hb; have ix := aM (hbox); have GW362 := aM ((zg_ : w.heap.size ≤ kg)); have pX := aM ((zg_ : w.heap.size ≤ kg)); replace HB := aM (ap z9 hb); clear hb hbox hg; obtain ⟨hcz4_0, hcz4_1, hcz4_2, hfz4_0, hfz4_1, hfz4_2⟩ := cc3 ix.out) | ((with_reducible refine ax (f := 55) rfl ?_); refine aC (some 4) rfl rfl Try.func55 z0 rfl #[.agg #[.int .i64 a0_0, .string a0_1, .string a0_2]] rfl z10 ?_; (with_reducible refine (impl_Part_isPart.calls k a0_0 a0_1 a0_2 om _ A2.out).mono ?_); rintro e w5 ⟨rfl, hb⟩; refine ⟨_, rfl, ?_⟩; replace ix := aM (ae (g := kg) (o := .cells #[.int .i64 a0_0, .string a0_1, .string a0_2] 68 (0, 0)) (kB_ ix.out) hb); replace HB := aM (ap zb_ hb); (try clear hb)))
 go_ret
 exact ⟨y5, zb_⟩

/-! ### impl_Part_66: function 66 -/
def impl_Part_66.l0 : Nat → List (S68) → Int → Int → Option (Int)
 | 0, _, _, _ => none
 | k + 1, x0, x7, x8 => if x8 < x7 then (if 0 ≤ x8 then (if x8 < (x0.length : Int) then ((impl_GoodOp_1.f k ((sp x0 x8).f0) ((sp x0 x8).f1) ((sp x0 x8).f2)).bind fun qi => (if qi = true then (some x8) else (impl_Part_66.l0 k x0 x7 (wrap64 (x8 + 1))))) else (none)) else (none)) else (some (-1))
def impl_Part_66.f (k : Nat) (l0 : List (S68))  : Option (Int) := impl_Part_66.l0 k l0 (l0.length : Int) 0
theorem impl_Part_66.mono_l : ∀ k, (∀ y0 y1 y2, LeO (impl_Part_66.l0 k y0 y1 y2) (impl_Part_66.l0 (k + 1) y0 y1 y2))
 | 0 => fun _ _ _ r h => by simp [impl_Part_66.l0] at h
 | k + 1 => by
  have ih0 := impl_Part_66.mono_l k
  ·intro y0 y1 y2
   unfold impl_Part_66.l0
   with_reducible repeat' first | exact ih0 _ _ _ | exact impl_GoodOp_1.mono _ _ _ _ | exact lR_ _ | exact lN_ _ | refine lI_ ?_ ?_ | refine lB_ ?_ fun _ => ?_
theorem impl_Part_66.mono : ∀ a0 k, LeO (impl_Part_66.f k a0) (impl_Part_66.f (k + 1) a0) := by
 intro a0 k
 have ih0 := impl_Part_66.mono_l k
 unfold impl_Part_66.f
 with_reducible repeat' first | exact ih0 _ _ _ | exact impl_GoodOp_1.mono _ _ _ _ | exact lR_ _ | exact lN_ _ | refine lI_ ?_ ?_ | refine lB_ ?_ fun _ => ?_
theorem impl_Part_66.calls (k : Nat) (A0 : Option Addr) (c0 : Nat) (l0 : List (S68))  (r : Int) (w : World) (hr0 : Kd.C k68 w A0 l0.length l0) (hc0 : l0.length ≤ c0) (h : impl_Part_66.f k l0 = some r) :
  Calls Try.prog 66 #[.slice A0 l0.length c0, .func (.func 54) #[] #[]] w fun e w' => e = .returned (.int .i64 r) ∧ Below w.heap.size w w' := by
 have hu68 := Try.underlying68
 have bH := aM hr0
 have cH := aM hc0
 clear hr0 hc0
 have HB := aM (Below.refl w.heap.size w)
 have H : (impl_Part_66.l0 k l0 (l0.length : Int) 0) = some r := h
 clear h
 have H' := aM H
 clear H
 go_enter Try.func66, Try.ntmps66
 go_wp2
 go_loopg [8] k (fun kq v8 w' => ∃ (x8_1 : Int), v8 = .int .i64 x8_1 ∧ Aside0 (impl_Part_66.l0 kq l0 (l0.length : Int) x8_1 = some r) ∧ Aside0 (kq ≤ k) ∧ Aside0 (Below w.heap.size w w'))
 case atStart => exact ⟨(0), z1, H', ⟨Nat.le_refl _⟩, ⟨y6⟩⟩
 case round =>
  clear H'
  obtain ⟨x8_1, rfl, HA, HK1, HB⟩ := hrel
  cases gk with
  | zero => exact absurd HA.out (by simp [impl_Part_66.l0])
  | succ k1 =>
   have H := HA.out
   clear HA
   simp only [impl_Part_66.l0] at H
   by_cases c3 : x8_1 < (l0.length : Int)
   ·rw [if_pos c3] at H
    have c3b0 : decide (x8_1 < (l0.length : Int)) = true := dT c3
    clear c3
    by_cases c4 : 0 ≤ x8_1
    ·rw [if_pos c4] at H
     have c4b0 : decide (0 ≤ x8_1) = true := dT c4
     clear c4
     by_cases c5 : x8_1 < (l0.length : Int)
     ·rw [if_pos c5] at H
      have c5b0 : decide (x8_1 < (l0.length : Int)) = true := dT c5
      clear c5
      obtain ⟨qi, A6, H⟩ := oA_ H
      try dsimp only at H
      by_cases c7 : qi = true
      ·subst c7
       rw [if_pos rfl] at H
       obtain rfl := sI H
       have p364 : 0 ≤ (x8_1 : Int) := oD z2
       have q364 : x8_1 < (l0.length : Int) := oD z2
       obtain ⟨ad364, e364, hx364_0, hx364_1, hx364_2⟩ := at_T68 bH.out x8_1 p364 q364
       cases e364
       replace hx364_0 := hC_ HB.out hx364_0
       replace hx364_1 := hC_ HB.out hx364_1
       replace hx364_2 := hC_ HB.out hx364_2
       replace p364 := eq_true p364
       replace q364 := eq_true q364
       go_wp2_with (first | (go_at_call 54; (with_reducible refine (impl_GoodOp_1.calls k1 ((sp l0 x8_1).f0) ((sp l0 x8_1).f1) ((sp l0 x8_1).f2) true _ A6.out).mono ?_); rintro e w8 ⟨rfl, hb⟩; replace HB := aM (ap z9 hb); (try clear hb)))
       go_ret
       exact ⟨y5, y6⟩
      ·replace c7 := Bool.eq_false_iff.mpr c7
       subst c7
       rw [if_neg nF_] at H
       have H' := aM H
       clear H
       have p364 : 0 ≤ (x8_1 : Int) := oD z2
       have q364 : x8_1 < (l0.length : Int) := oD z2
       obtain ⟨ad364, e364, hx364_0, hx364_1, hx364_2⟩ := at_T68 bH.out x8_1 p364 q364
       cases e364
       replace hx364_0 := hC_ HB.out hx364_0
       replace hx364_1 := hC_ HB.out hx364_1
       replace hx364_2 := hC_ HB.out hx364_2
       replace p364 := eq_true p364
       replace q364 := eq_true q364
       go_wp2_with (first | (go_at_call 54; (with_reducible refine (impl_GoodOp_1.calls k1 ((sp l0 x8_1).f0) ((sp l0 x8_1).f1) ((sp l0 x8_1).f2) false _ A6.out).mono ?_); rintro e w9 ⟨rfl, hb⟩; replace HB := aM (ap z9 hb); (try clear hb)))
       go_roundg k1
       case measure => have := HK1.out; omega
       case rel => exact ⟨(wrap64 (x8_1 + 1)), z1, H', ⟨y0⟩, ⟨y6⟩⟩
     ·rw [if_neg c5] at H
      exact absurd H (by simp)
    ·rw [if_neg c4] at H
     exact absurd H (by simp)
   ·rw [if_neg c3] at H
    have c3b0 : decide (x8_1 < (l0.length : Int)) = false := dF c3
    clear c3
    obtain rfl := sI H
    go_wp2
    go_ret
    exact ⟨y5, y6⟩

/-! ### impl_Part_53: function 53 -/
def impl_Part_53.f (k : Nat) (l0 : List (S68))  : Option (Bool) := (impl_Part_66.f k l0).bind fun ol => (some (decide (ol ≥ 0)))
theorem impl_Part_53.mono : ∀ a0 k, LeO (impl_Part_53.f k a0) (impl_Part_53.f (k + 1) a0) := by
 intro a0 k
 unfold impl_Part_53.f
 with_reducible repeat' first | exact impl_Part_66.mono _ _ | exact lR_ _ | exact lN_ _ | refine lI_ ?_ ?_ | refine lB_ ?_ fun _ => ?_
theorem impl_Part_53.calls (k : Nat) (A0 : Option Addr) (c0 : Nat) (l0 : List (S68))  (r : Bool) (w : World) (hr0 : Kd.C k68 w A0 l0.length l0) (hc0 : l0.length ≤ c0) (h : impl_Part_53.f k l0 = some r) :
  Calls Try.prog 53 #[.slice A0 l0.length c0, .func (.func 54) #[] #[]] w fun e w' => e = .returned (.bool r) ∧ Below w.heap.size w w' := by
 have bH := aM hr0
 have cH := aM hc0
 clear hr0 hc0
 have HB := aM (Below.refl w.heap.size w)
 have H : ((impl_Part_66.f k l0).bind fun ol => (some (decide (ol ≥ 0)))) = some r := h
 clear h
 obtain ⟨ol, A3, H⟩ := oA_ H
 try dsimp only at H
 obtain rfl := sI H
 go_enter Try.func53, Try.ntmps53
 go_wp2_with (first | ((with_reducible refine ax (f := 66) rfl ?_); refine aC (some 7) rfl rfl Try.func66 z0 rfl #[.slice A0 l0.length c0, .func (.func 54) #[] #[]] rfl z10 ?_; (with_reducible refine (impl_Part_66.calls k _ _ l0  ol _ ?side1 ?side2 A3.out).mono ?_); (case side1 => exact y53); (case side2 => exact y51); rintro e w4 ⟨rfl, hb⟩; refine ⟨_, rfl, ?_⟩; replace HB := aM (ap z9 hb); (try clear hb)))
 go_ret
 exact ⟨y5, y6⟩

/-! ### impl_GoodOp: function 38 -/
def impl_GoodOp.f (k : Nat) (l0 : List (S68)) : Option (Bool) := if (l0.length : Int) > 60 then (some false) else ((impl_Part_53.f k l0).bind fun oh => (if oh = true then (some false) else ((impl_sizes.f k l0).bind fun lE => (if lE.1 ≤ 300 then (some (decide (lE.2 ≤ 300))) else (some false)))))
theorem impl_GoodOp.mono : ∀ a0 k, LeO (impl_GoodOp.f k a0) (impl_GoodOp.f (k + 1) a0) := by
 intro a0 k
 unfold impl_GoodOp.f
 with_reducible repeat' first | exact impl_Part_53.mono _ _ | exact impl_sizes.mono _ _ | exact lR_ _ | exact lN_ _ | refine lI_ ?_ ?_ | refine lB_ ?_ fun _ => ?_
theorem impl_GoodOp.calls (k : Nat) (A0 : Option Addr) (c0 : Nat) (l0 : List (S68)) (r : Bool) (w : World) (hr0 : Kd.C k68 w A0 l0.length l0) (hc0 : l0.length ≤ c0) (h : impl_GoodOp.f k l0 = some r) :
  Calls Try.prog 38 #[.slice A0 l0.length c0] w fun e w' => e = .returned (.bool r) ∧ Below w.heap.size w w' := by
 have bH := aM hr0
 have cH := aM hc0
 clear hr0 hc0
 have HB := aM (Below.refl w.heap.size w)
 have H : (if (l0.length : Int) > 60 then (some false) else ((impl_Part_53.f k l0).bind fun oh => (if oh = true then (some false) else ((impl_sizes.f k l0).bind fun lE => (if lE.1 ≤ 300 then (some (decide (lE.2 ≤ 300))) else (some false)))))) = some r := h
 clear h
 by_cases c2 : (l0.length : Int) > 60
 ·rw [if_pos c2] at H
  have c2b0 : decide (60 < (l0.length : Int)) = true := dT c2
  have c2b1 : decide (60 < l0.length) = true := dT (by omega)
  clear c2
  obtain rfl := sI H
  go_enter Try.func38, Try.ntmps38
  go_wp2
  go_ret
  exact ⟨y5, y6⟩
 ·rw [if_neg c2] at H
  have c2b0 : decide (60 < (l0.length : Int)) = false := dF c2
  have c2b1 : decide (60 < l0.length) = false := dF (by omega)
  clear c2
  obtain ⟨oh, A3, H⟩ := oA_ H
  try dsimp only at H
  by_cases c4 : oh = true
  ·subst c4
   rw [if_pos rfl] at H
   obtain rfl := sI H
   go_enter Try.func38, Try.ntmps38
   go_wp2_with (first | (go_at_call 53; (with_reducible refine (impl_Part_53.calls k _ _ l0  true _ ?side1 ?side2 A3.out).mono ?_); (case side1 => exact y53); (case side2 => exact y51); rintro e w5 ⟨rfl, hb⟩; replace HB := aM (ap z9 hb); (try clear hb)))
   go_ret
   exact ⟨y5, y6⟩
  ·replace c4 := Bool.eq_false_iff.mpr c4
   subst c4
   rw [if_neg nF_] at H
   obtain ⟨⟨oe, rE⟩, A6, H⟩ := oA_ H
   try dsimp only at H
   by_cases c7 : oe ≤ 300
   ·rw [if_pos c7] at H
    have c7b0 : decide (oe ≤ 300) = true := dT c7
    clear c7
    obtain rfl := sI H
    go_enter Try.func38, Try.ntmps38
    go_wp2_with (first | (go_at_call 53; (with_reducible refine (impl_Part_53.calls k _ _ l0  false _ ?side1 ?side2 A3.out).mono ?_); (case side1 => exact y53); (case side2 => exact y51); rintro e w8 ⟨rfl, hb⟩; replace HB := aM (ap z9 hb); (try clear hb)) | ((with_reducible refine ax (f := 39) rfl ?_); refine aC (some 14) rfl rfl Try.func39 z0 rfl #[.slice A0 l0.length c0] rfl z10 ?_; (with_reducible refine (impl_sizes.calls k _ _ l0 oe rE _ ?side1 ?side2 A6.out).mono ?_); (case side1 => exact y64); (case side2 => exact y51); rintro e w9 ⟨rfl, hb⟩; refine ⟨_, rfl, ?_⟩; replace HB := aM (ap z9 hb); (try clear hb)))
    go_ret
    exact ⟨y5, y6⟩
   ·rw [if_neg c7] at H
    have c7b0 : decide (oe ≤ 300) = false := dF c7
    clear c7
    obtain rfl := sI H
    go_enter Try.func38, Try.ntmps38
    go_wp2_with (first | (go_at_call 53; (with_reducible refine (impl_Part_53.calls k _ _ l0  false _ ?side1 ?side2 A3.out).mono ?_); (case side1 => exact y53); (case side2 => exact y51); rintro e w10 ⟨rfl, hb⟩; replace HB := aM (ap z9 hb); (try clear hb)) | ((with_reducible refine ax (f := 39) rfl ?_); refine aC (some 14) rfl rfl Try.func39 z0 rfl #[.slice A0 l0.length c0] rfl z10 ?_; (with_reducible refine (impl_sizes.calls k _ _ l0 oe rE _ ?side1 ?side2 A6.out).mono ?_); (case side1 => exact y64); (case side2 => exact y51); rintro e w11 ⟨rfl, hb⟩; refine ⟨_, rfl, ?_⟩; replace HB := aM (ap z9 hb); (try clear hb)))
    go_ret
    exact ⟨y5, y6⟩

end Go.Proofs.Ytjbllgdehpomiaa.AFnMarks
