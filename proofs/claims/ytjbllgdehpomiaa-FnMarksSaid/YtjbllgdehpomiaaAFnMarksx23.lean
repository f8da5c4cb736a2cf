-- this session's own text: written by wip/tools/ownprint.py over the kit's print
import Derived.Test.YtjbllgdehpomiaaAFnMarksx0
import Derived.Test.YtjbllgdehpomiaaAFnMarksx20
import Derived.Test.YtjbllgdehpomiaaAFnMarksx5
import Derived.Test.YtjbllgdehpomiaaAFnMarksx10
namespace Go.Proofs.Ytjbllgdehpomiaa.AFnMarks
open Go.RowKit Go.Proofs.YtjbllgdehpomiaaW.PrintWords Go.Proofs.YtjbllgdehpomiaaW.PrintLast Go.Proofs.YtjbllgdehpomiaaW.PrintMore
attribute [local go_sem] max2_int min2_int max_two min_two max_three min_three max_four min_four   -- for this text's walks alone
set_option linter.unusedVariables false
set_option maxHeartbeats 8000000
set_option maxRecDepth 100000
set_option linter.unusedSimpArgs false
/-! ### impl_joined: function 23 -/
def impl_joined.l0 : Nat → List (S34) → List (S34) → Int → Int → Option ((List (S34)))
 | 0, _, _, _, _ => none
 | k + 1, x3, x11, x12, x13 => if x13 < x12 then (if 0 ≤ x13 then (if x13 < (x11.length : Int) then (if (wrap64 ((x3.length : Int) - 1)) ≥ 0 then (if 0 ≤ (wrap64 ((x3.length : Int) - 1)) then (if (wrap64 ((x3.length : Int) - 1)) < (x3.length : Int) then (if ((so x3 (wrap64 ((x3.length : Int) - 1))).f2).toList = ((so x11 x13).f2).toList then (if ((so x3 (wrap64 ((x3.length : Int) - 1))).f1) ≥ ((so x11 x13).f0) then (impl_joined.l0 k (x3.set ((wrap64 ((x3.length : Int) - 1)) : Int).toNat (⟨(so x3 (wrap64 ((x3.length : Int) - 1))).f0, mx ((so x3 (wrap64 ((x3.length : Int) - 1))).f1) ((so x11 x13).f1), (so x3 (wrap64 ((x3.length : Int) - 1))).f2⟩ : S34)) x11 x12 (wrap64 (x13 + 1))) else (if x3.length < 4398046511104 then (impl_joined.l0 k (x3 ++ [(⟨(so x11 x13).f0, (so x11 x13).f1, (so x11 x13).f2⟩ : S34)]) x11 x12 (wrap64 (x13 + 1))) else (none))) else (if x3.length < 4398046511104 then (impl_joined.l0 k (x3 ++ [(⟨(so x11 x13).f0, (so x11 x13).f1, (so x11 x13).f2⟩ : S34)]) x11 x12 (wrap64 (x13 + 1))) else (none))) else (none)) else (none)) else (if x3.length < 4398046511104 then (impl_joined.l0 k (x3 ++ [(⟨(so x11 x13).f0, (so x11 x13).f1, (so x11 x13).f2⟩ : S34)]) x11 x12 (wrap64 (x13 + 1))) else (none))) else (none)) else (none)) else (some x3)
def impl_joined.f (k : Nat) (l0 : List (S34)) : Option ((List (S34))) := (impl_Mark_31.f l0).bind fun dW => ((impl_Mark_42.f k dW).bind fun nr => (impl_joined.l0 k ([] : List (S34)) nr (dW.length : Int) 0))
theorem impl_joined.mono_l : ∀ k, (∀ y0 y1 y2 y3, LeO (impl_joined.l0 k y0 y1 y2 y3) (impl_joined.l0 (k + 1) y0 y1 y2 y3))
 | 0 => fun _ _ _ _ r h => by simp [impl_joined.l0] at h
 | k + 1 => by
  have ih0 := impl_joined.mono_l k
  ·intro y0 y1 y2 y3
   unfold impl_joined.l0
   with_reducible repeat' first | exact ih0 _ _ _ _ | exact impl_Mark_42.mono _ _ | exact lR_ _ | exact lN_ _ | refine lI_ ?_ ?_ | refine lB_ ?_ fun _ => ?_
theorem impl_joined.mono : ∀ a0 k, LeO (impl_joined.f k a0) (impl_joined.f (k + 1) a0) := by
 intro a0 k
 have ih0 := impl_joined.mono_l k
 unfold impl_joined.f
 with_reducible repeat' first | exact ih0 _ _ _ _ | exact impl_Mark_42.mono _ _ | exact lR_ _ | exact lN_ _ | refine lI_ ?_ ?_ | refine lB_ ?_ fun _ => ?_
def impl_joined.T8 : Bool × List (List Nat × List Nat) := (true, [([], []), ([0], [0]), ([1], [1]), ([2], [2]), ([2], [2]), ([3, 4, 2], [2, 3, 4]), ([5, 2], [2, 5]), ([6, 2], [2, 6]), ([2], [2]), ([8, 2], [2, 8]), ([7, 9, 2], [2, 7, 9]), ([2, 10], [2, 10]), ([11, 2], [11]), ([12], [12]), ([12], [12]), ([13, 14, 12], [12, 13, 14]), ([15, 12], [12, 15]), ([16, 12], [12, 16]), ([12], [12]), ([18, 12], [12, 18]), ([17, 19, 12], [12, 17, 19]), ([12, 20], [12, 20])])
def impl_joined.B8 : List Nat := [0, 1, 3, 7, 7, 31, 63, 127, 7, 263, 1023, 2047, 4095, 8191, 8191, 32767, 65535, 131071, 8191, 270335, 1048575, 2097151]
theorem impl_joined.tab8 : rtab .any (opsOf Try.f23 8) = impl_joined.T8 := by kernel_rfl
theorem impl_joined.bits8 : waitsOk impl_joined.T8.2 impl_joined.B8 = true := by kernel_rfl
def impl_joined.T9 : Bool × List (List Nat × List Nat) := (true, [([], []), ([], []), ([], []), ([], []), ([2, 3], [2, 3]), ([4], [4]), ([5], [5]), ([], []), ([7], [7]), ([6, 8], [6, 8]), ([0, 1, 0, 1, 2, 3, 4, 5, 6, 7, 8, 9], [0, 1]), ([10, 0, 1, 2, 3, 4, 5, 6, 7, 8, 9], [10]), ([11, 9, 0, 1, 2, 3, 4, 5, 6, 7, 8, 9], [9, 11])])
def impl_joined.B9 : List Nat := [0, 0, 0, 0, 12, 28, 60, 0, 128, 508, 1023, 2047, 4095]
theorem impl_joined.tab9 : rtab .any (opsOf Try.f23 9) = impl_joined.T9 := by kernel_rfl
theorem impl_joined.bits9 : waitsOk impl_joined.T9.2 impl_joined.B9 = true := by kernel_rfl
theorem impl_joined.calls (k : Nat) (A0 : Option Addr) (c0 : Nat) (l0 : List (S34)) (r : List (S34)) (w : World) (hr0 : Kd.C k34 w A0 l0.length l0) (hc0 : l0.length ≤ c0) (h : impl_joined.f k l0 = some r) :
  Calls Try.prog 23 #[.slice A0 l0.length c0] w fun e w' => ∃ v0_ : Value, e = .returned (v0_) ∧ Kd.R k34 34 w' w.heap.size (fun _ => True) v0_ r ∧ Below w.heap.size w w' := by
 have hu34 := Try.underlying34
 have bH := aM hr0
 have cH := aM hc0
 clear hr0 hc0
 have HB := aM (Below.refl w.heap.size w)
 have H : ((impl_Mark_31.f l0).bind fun dW => ((impl_Mark_42.f k dW).bind fun nr => (impl_joined.l0 k ([] : List (S34)) nr (dW.length : Int) 0))) = some r := h
 clear h
 obtain ⟨dW, A2, H⟩ := oA_ H
 try dsimp only at H
 obtain ⟨nr, A3, H⟩ := oA_ H
 try dsimp only at H
 have H' := aM H
 clear H
 go_enter Try.func23, Try.ntmps23
 go_wp2_with (first | ((with_reducible refine ax (f := 31) rfl ?_); refine aC (some 8) rfl rfl Try.func31 z0 rfl #[.slice A0 l0.length c0] rfl z10 ?_; (with_reducible refine (impl_Mark_31.calls _ _ l0 dW _ ?side1 ?side2 A2.out).mono ?_); (case side1 => exact y53); (case side2 => exact y51); rintro e w4 ⟨v499, rfl, ho0, hb⟩; refine ⟨_, rfl, ?_⟩; have km := aM (aD ho0 (aq z9)); replace HB := aM (ap z9 hb); (try clear hb); (try clear ho0); obtain ⟨lY, fy, eo5⟩ := Kd.R_slice km.out; subst eo5) | ((with_reducible refine ax (f := 42) rfl ?_); refine aC (some 10) rfl rfl Try.func42 z0 rfl #[.slice lY dW.length fy, .func (.func 43) #[] #[]] rfl z10 ?_; (with_reducible refine (impl_Mark_42.calls k (fun k_ => some k_ = (.slice lY dW.length fy : Value).ownBlock) (.slice lY dW.length fy) dW  nr w _ ?side1 ?side2 A3.out).mono ?_); (case side1 => exact y52); (case side2 => exact Kd.R_tight rfl km.out); rintro e w6 ⟨rfl, hy0, hb, hkp⟩; refine ⟨_, rfl, ?_⟩; replace km := aM (Kd.R_reok rfl hy0 (fun k_ e_ => km.out.1 k_ e_)); replace HB := aM hb; (try clear hb); (try clear hkp); (try clear hy0)))
 go_loopg [3, 13] k (fun kq v3 v13 w' => ∃ (x3_1 : List (S34)) (x11_1 : List (S34)) (x13_1 : Int), v13 = .int .i64 x13_1 ∧ Aside0 (impl_joined.l0 kq x3_1 x11_1 (dW.length : Int) x13_1 = some r) ∧ Aside0 (kq ≤ k) ∧ Aside0 (Kd.R k34 34 w' w.heap.size (fun k_ => some k_ ≠ ((.slice lY dW.length fy) : Value).ownBlock) v3 x3_1) ∧ Aside0 (Kd.R k34 34 w' w.heap.size (fun k_ => some k_ ≠ (v3 : Value).ownBlock) (.slice lY dW.length fy) x11_1) ∧ Aside0 (Below w.heap.size w w'))
 case atStart => exact ⟨(([] : List (S34))), (nr), (0), z1, H', ⟨Nat.le_refl _⟩, ⟨y29⟩, ⟨kM_ km.out (fun _ hk => (by simp [Value.ownBlock]))⟩, ⟨y6⟩⟩
 case round =>
  clear H'
  obtain ⟨x3_1, x11_1, x13_1, rfl, HA, HK1, bf, bo, HB⟩ := hrel
  have hl11_1 := (ah bo.out).1
  rw [hl11_1] at bo
  (try simp only [hl11_1])
  (try simp only [hl11_1] at bf)
  cases gk with
  | zero => exact absurd HA.out (by simp [impl_joined.l0])
  | succ k1 =>
   have H := HA.out
   clear HA
   simp only [impl_joined.l0] at H
   by_cases c7 : x13_1 < (dW.length : Int)
   ·rw [if_pos c7] at H
    have c7b0 : decide (x13_1 < (dW.length : Int)) = true := dT c7
    have c7b0hl11_1 := c7b0
    (try simp only [hl11_1] at c7b0hl11_1)
    clear c7
    by_cases c8 : 0 ≤ x13_1
    ·rw [if_pos c8] at H
     have c8b0 : decide (0 ≤ x13_1) = true := dT c8
     clear c8
     by_cases c9 : x13_1 < (x11_1.length : Int)
     ·rw [if_pos c9] at H
      have c9b0 : decide (x13_1 < (x11_1.length : Int)) = true := dT c9
      have c9b0hl11_1 := c9b0
      (try simp only [hl11_1] at c9b0hl11_1)
      clear c9
      by_cases cq : (wrap64 ((x3_1.length : Int) - 1)) ≥ 0
      ·rw [if_pos cq] at H
       have c10b0 : decide (0 ≤ (wrap64 ((x3_1.length : Int) - 1))) = true := dT cq
       have c10b0hl11_1 := c10b0
       (try simp only [hl11_1] at c10b0hl11_1)
       clear cq
       obtain ⟨bl, gL⟩ : ∃ j_ : Int, (wrap64 ((x3_1.length : Int) - 1)) = j_ := ⟨_, rfl⟩
       replace H : (if 0 ≤ (bl) then (if (bl) < (x3_1.length : Int) then (if ((so x3_1 (bl)).f2).toList = ((so x11_1 x13_1).f2).toList then (if ((so x3_1 (bl)).f1) ≥ ((so x11_1 x13_1).f0) then (impl_joined.l0 k1 (x3_1.set ((bl) : Int).toNat (⟨(so x3_1 (bl)).f0, mx ((so x3_1 (bl)).f1) ((so x11_1 x13_1).f1), (so x3_1 (bl)).f2⟩ : S34)) x11_1 (dW.length : Int) (wrap64 (x13_1 + 1))) else (if x3_1.length < 4398046511104 then (impl_joined.l0 k1 (x3_1 ++ [(⟨(so x11_1 x13_1).f0, (so x11_1 x13_1).f1, (so x11_1 x13_1).f2⟩ : S34)]) x11_1 (dW.length : Int) (wrap64 (x13_1 + 1))) else (none))) else (if x3_1.length < 4398046511104 then (impl_joined.l0 k1 (x3_1 ++ [(⟨(so x11_1 x13_1).f0, (so x11_1 x13_1).f1, (so x11_1 x13_1).f2⟩ : S34)]) x11_1 (dW.length : Int) (wrap64 (x13_1 + 1))) else (none))) else (none)) else (none)) = some r := by first | (rw [gL] at H; exact H) | (simp only [gL] at H ⊢; exact H)
       (try rw [gL] at c10b0)
       have hji11w : (IntKind.i64.wrap ((x3_1.length : Int) - 1)) = bl := (i64_w _).trans gL
       by_cases bT : 0 ≤ (bl)
       ·rw [if_pos bT] at H
        have c12b0 : decide (0 ≤ (bl)) = true := dT bT
        clear bT
        by_cases bU : (bl) < (x3_1.length : Int)
        ·rw [if_pos bU] at H
         have c13b0 : decide ((bl) < (x3_1.length : Int)) = true := dT bU
         have c13b0hl11_1 := c13b0
         (try simp only [hl11_1] at c13b0hl11_1)
         clear bU
         by_cases cO : ((so x3_1 (bl)).f2).toList = ((so x11_1 x13_1).f2).toList
         ·rw [if_pos cO] at H
          have c14b0 : (((so x3_1 (bl)).f2).toList == ((so x11_1 x13_1).f2).toList) = true := qT cO
          have c14b1 : (((so x3_1 (bl)).f2).toList != ((so x11_1 x13_1).f2).toList) = false := nF cO
          clear cO
          by_cases ce : ((so x3_1 (bl)).f1) ≥ ((so x11_1 x13_1).f0)
          ·rw [if_pos ce] at H
           have c15b0 : decide (((so x11_1 x13_1).f0) ≤ ((so x3_1 (bl)).f1)) = true := dT ce
           clear ce
           obtain ⟨a8, bR⟩ : ∃ j_ : Int, (mx ((so x3_1 (bl)).f1) ((so x11_1 x13_1).f1)) = j_ := ⟨_, rfl⟩
           replace H : (impl_joined.l0 k1 (x3_1.set ((bl) : Int).toNat (⟨(so x3_1 (bl)).f0, a8, (so x3_1 (bl)).f2⟩ : S34)) x11_1 (dW.length : Int) (wrap64 (x13_1 + 1))) = some r := by first | (rw [bR] at H; exact H) | (simp only [bR] at H ⊢; exact H)
           have hji16_ : (if ((so x3_1 (bl)).f1) < ((so x11_1 x13_1).f1) then ((so x11_1 x13_1).f1) else ((so x3_1 (bl)).f1)) = a8 := bR
           obtain ⟨y507, hy507⟩ : ∃ y_ : List (S34), y_ = (x3_1.set ((bl) : Int).toNat (⟨(so x3_1 (bl)).f0, a8, (so x3_1 (bl)).f2⟩ : S34)) := ⟨_, rfl⟩
           replace H : (impl_joined.l0 k1 y507 x11_1 (dW.length : Int) (wrap64 (x13_1 + 1))) = some r := zh_ hy507
           have Ny507 := aM hy507
           clear hy507
           have H' := aM H
           clear H
           have p502 : 0 ≤ (x13_1 : Int) := oD z2
           have q502 : x13_1 < (x11_1.length : Int) := oD z2
           obtain ⟨ad502, e502, hx502_0, hx502_1, hx502_2⟩ := at_T34 (ah bo.out).2.2 x13_1 p502 q502
           cases e502
           replace p502 := eq_true p502
           replace q502 := eq_true q502
           try go_wp2_with (first | ((with_reducible refine ay (N := 5) rfl ?_); refine bE_ (N := 5) (cs := #[.int .i64 0, .int .i64 0, .string ⟨#[]⟩]) (t := 34) (h := ?_); intro aV hg w18 hbox hb; replace bf := aM (af (Kd.R_elderB z4 aV (Nat.le_of_eq hg.symm)) hb); replace bo := aM (af (Kd.R_elderB (kR_ bo.out) aV (Nat.le_of_eq hg.symm)) hb); have a5 := aM (hbox); have o7 := aM ((zg_ : w.heap.size ≤ aV)); have gT := aM ((zg_ : w.heap.size ≤ aV)); replace HB := aM (ap z9 hb); clear hb hbox hg; obtain ⟨ld, lc, lb, kT, kR, kQ⟩ := cc3 a5.out; obtain ⟨sR, sG, eo20⟩ := Kd.R_slice bf.out; subst eo20))
           have aI : Aside0 (Kd.R k34 34 (((w18.setCell ⟨aV, 0, none⟩ (.int .i64 ((so x11_1 x13_1).f0))).setCell ⟨aV, 1, none⟩ (.int .i64 ((so x11_1 x13_1).f1))).setCell ⟨aV, 2, none⟩ (.string ((so x11_1 x13_1).f2))) w.heap.size (fun k_ => some k_ ≠ (.slice (some ad502) x11_1.length fy : Value).ownBlock ∧ k_ ≠ aV) (.slice sR x3_1.length sG) x3_1) := ⟨y42⟩
           have aJ : Aside0 (Kd.R k34 34 (((w18.setCell ⟨aV, 0, none⟩ (.int .i64 ((so x11_1 x13_1).f0))).setCell ⟨aV, 1, none⟩ (.int .i64 ((so x11_1 x13_1).f1))).setCell ⟨aV, 2, none⟩ (.string ((so x11_1 x13_1).f2))) w.heap.size (fun k_ => some k_ ≠ (.slice sR x3_1.length sG : Value).ownBlock ∧ k_ ≠ aV) (.slice (some ad502) x11_1.length fy) x11_1) := ⟨y43⟩
           have aK : Aside0 ((((w18.setCell ⟨aV, 0, none⟩ (.int .i64 ((so x11_1 x13_1).f0))).setCell ⟨aV, 1, none⟩ (.int .i64 ((so x11_1 x13_1).f1))).setCell ⟨aV, 2, none⟩ (.string ((so x11_1 x13_1).f2))).heap[aV]? = some (.cells #[.int .i64 ((so x11_1 x13_1).f0), .int .i64 ((so x11_1 x13_1).f1), .string ((so x11_1 x13_1).f2)] 34 (0, 0))) := ⟨y48⟩
           have aN : Aside0 (Below w.heap.size w (((w18.setCell ⟨aV, 0, none⟩ (.int .i64 ((so x11_1 x13_1).f0))).setCell ⟨aV, 1, none⟩ (.int .i64 ((so x11_1 x13_1).f1))).setCell ⟨aV, 2, none⟩ (.string ((so x11_1 x13_1).f2)))) := ⟨y19⟩
           (try clear bf)
           (try clear bo)
           (try clear a5)
           (try clear HB)
           generalize (((w18.setCell ⟨aV, 0, none⟩ (.int .i64 ((so x11_1 x13_1).f0))).setCell ⟨aV, 1, none⟩ (.int .i64 ((so x11_1 x13_1).f1))).setCell ⟨aV, 2, none⟩ (.string ((so x11_1 x13_1).f2))) = w21 at aI aJ aK aN ⊢
           have bf := aI
           have bo := aJ
           have a5 := aK
           have HB := aN
           clear aI aJ aK aN
           replace bf := aM (aa bf.out)
           replace bo := aM (aa bo.out)
           replace a5 := aM (aj a5.out)
           replace HB := aM (bD HB.out)
           have p504 : 0 ≤ ((bl) : Int) := oD z2
           have q504 : (bl) < (x3_1.length : Int) := oD z2
           obtain ⟨ad504, e504, hx504_0, hx504_1, hx504_2⟩ := at_T34 (ah bf.out).2.2 (bl) p504 q504
           cases e504
           replace p504 := eq_true p504
           replace q504 := eq_true q504
           have p505 : 0 ≤ ((bl) : Int) := oD z2
           have q505 : (bl) < (x3_1.length : Int) := oD z2
           obtain ⟨ad505, e505, hx505_0, hx505_1, hx505_2⟩ := at_T34 (ah bf.out).2.2 (bl) p505 q505
           obtain rfl : ad504 = ad505 := (by injection e505)
           replace p505 := eq_true p505
           replace q505 := eq_true q505
           refine start_ (n := 22) (S := fun w' => w'.cell? ⟨aV, 0, none⟩ = some (.int .i64 ((so x11_1 x13_1).f0)) ∧ w'.cell? ⟨aV, 1, none⟩ = some (.int .i64 ((so x11_1 x13_1).f1)) ∧ w'.cell? ⟨aV, 2, none⟩ = some (.string ((so x11_1 x13_1).f2)) ∧ w'.cell? (ad504.add (((bl)).toNat * 3)) = some (.int .i64 ((so x3_1 (bl)).f0)) ∧ w'.cell? ⟨(ad504.add (((bl)).toNat * 3)).block, (ad504.add (((bl)).toNat * 3)).off + 1, none⟩ = some (.int .i64 ((so x3_1 (bl)).f1)) ∧ w'.cell? ⟨(ad504.add (((bl)).toNat * 3)).block, (ad504.add (((bl)).toNat * 3)).off + 2, none⟩ = some (.string ((so x3_1 (bl)).f2)) ∧ w'.cell? (ad504.add (((bl)).toNat * 3)) = some (.int .i64 ((so x3_1 (bl)).f0)) ∧ w'.cell? ⟨(ad504.add (((bl)).toNat * 3)).block, (ad504.add (((bl)).toNat * 3)).off + 1, none⟩ = some (.int .i64 ((so x3_1 (bl)).f1)) ∧ w'.cell? ⟨(ad504.add (((bl)).toNat * 3)).block, (ad504.add (((bl)).toNat * 3)).off + 2, none⟩ = some (.string ((so x3_1 (bl)).f2))) (ds := []) #[false, false, false, false, false, false, false, false, false, false, false, false, false, false, false, false, false, false, false, false, false, false] z0 rfl rfl ⟨(bC a5.out 0).trans rfl, (bC a5.out 1).trans rfl, (bC a5.out 2).trans rfl, hx504_0, hx504_1, hx504_2, hx505_0, hx505_1, hx505_2⟩ (fun hHeld => ?_); refine with_tabW impl_joined.tab8 impl_joined.bits8 (fun HT_ HW_ => ?_)
           (first | generalize w21.drew = w22 at bf bo a5 HB hx504_0 hx504_1 hx504_2 hx505_0 hx505_1 hx505_2 hHeld ⊢ | generalize w21.drew = w22 at bf bo a5 HB hHeld ⊢)
           refine pA 0 20 ?_
           refine pA 1 21 ?_
           refine pA 2 22 ?_
           refine pA 3 23 ?_
           refine pA 4 24 ?_
           refine pA 5 25 ?_
           refine pA 6 26 ?_
           refine pA 8 28 ?_
           refine t9_ 7 27 ?_
           refine t9_ 9 29 ?_
           refine pA 10 30 ?_
           refine pA 11 31 ?_
           refine pA 12 32 ?_
           refine pA 13 33 ?_
           refine pA 14 34 ?_
           refine pA 15 35 ?_
           refine pA 16 36 ?_
           refine pA 18 38 ?_
           refine t9_ 17 37 ?_
           refine t9_ 19 39 ?_
           refine pA 20 40 ?_
           refine pA 21 41 ?_
           refine done_ (done_of HT_.out z0) ?_
           try go_wp2
           replace bf := aM (aa bf.out)
           replace bo := aM (aa bo.out)
           replace a5 := aM (aj a5.out)
           replace HB := aM (bD HB.out)
           have p506 : 0 ≤ ((bl) : Int) := oD z2
           have q506 : (bl) < (x3_1.length : Int) := oD z2
           obtain ⟨ad506, e506, hx506_0, hx506_1, hx506_2⟩ := at_T34 (ah bf.out).2.2 (bl) p506 q506
           obtain rfl : ad504 = ad506 := (by injection e506)
           replace p506 := eq_true p506
           replace q506 := eq_true q506
           have p17 : 0 ≤ ((bl) : Int) := oD z2
           have q17 : ((bl) : Int) < ((x3_1.length : Int) : Int) := oD z2
           obtain ⟨go17, qL, eo17, sD, gl17, cl17, HG17⟩ := Kd.R_form bf.out (by omega)
           (first | cases eo17 | (injection eo17 with ea_ en_ ec_; (first | subst ea_ | (injection ea_ with ea_; subst ea_)); subst ec_; clear en_))
           have GB17 := aM sD
           have GG17 := aM HG17
           clear sD gl17 HG17
           (first | simp only [add_plain] at hx504_0 | skip)
           (first | simp only [add_plain] at hx504_1 | skip)
           (first | simp only [add_plain] at hx504_2 | skip)
           (first | simp only [add_plain] at hx505_0 | skip)
           (first | simp only [add_plain] at hx505_1 | skip)
           (first | simp only [add_plain] at hx505_2 | skip)
           (first | simp only [add_plain] at hx506_0 | skip)
           (first | simp only [add_plain] at hx506_1 | skip)
           (first | simp only [add_plain] at hx506_2 | skip)
           obtain ⟨ce17, hcl17, hM17, hcc17, hfr17⟩ := Kd.R_elem bf.out z34 ((bl) : Int) p17 q17
           obtain rfl := k34_openM hM17
           have hx17_0 : World.cell? _ ⟨go17, ((bl) : Int).toNat * 3, none⟩ = some (.int .i64 ((so x3_1 (bl)).f0)) := hcc17 0 _ rfl
           have hx17_1 : World.cell? _ ⟨go17, ((bl) : Int).toNat * 3 + 1, none⟩ = some (.int .i64 ((so x3_1 (bl)).f1)) := hcc17 1 _ rfl
           have hx17_2 : World.cell? _ ⟨go17, ((bl) : Int).toNat * 3 + 2, none⟩ = some (.string ((so x3_1 (bl)).f2)) := hcc17 2 _ rfl
           have hf17_0 : World.frozen? _ ⟨go17, ((bl) : Int).toNat * 3, none⟩ = false := hfr17 0
           have hf17_1 : World.frozen? _ ⟨go17, ((bl) : Int).toNat * 3 + 1, none⟩ = false := hfr17 1
           have hf17_2 : World.frozen? _ ⟨go17, ((bl) : Int).toNat * 3 + 2, none⟩ = false := hfr17 2
           clear hcl17 hcc17 hfr17; (try clear hM17)
           replace p17 := eq_true p17
           replace q17 := eq_true q17
           obtain ⟨ce24, hcl24, hM24, hcc24, hfr24⟩ := Kd.R_elem bf.out z34 ((bl) : Int) (oD z2) (by have h_ : ((bl) : Int) < ((x3_1.length : Int) : Int) := oD z2; first | exact h_ | (have e_ := (ah bf.out).1; omega) | simpa using h_)
           obtain rfl := k34_openM hM24
           have HP24 := (Kd.R_seg bf.out ((bl) : Int) (oD z2) (by have h_ : ((bl) : Int) < ((x3_1.length : Int) : Int) := oD z2; first | exact h_ | (have e_ := (ah bf.out).1; omega) | simpa using h_) (seg := [.int .i64 a8]) (j := 1) hcl24 hcc24 (show 2 ≤ 3 from by decide) (x' := (⟨(so x3_1 (bl)).f0, a8, (so x3_1 (bl)).f2⟩ : S34)) (k34_mkM _ _ _ (⟨(so x3_1 (bl)).f0, a8, (so x3_1 (bl)).f2⟩ : S34) ) (fun _ hk => hk)).1
           rw [← Ny507.out] at HP24
           have HQ24 := aM HP24
           clear hcl24 hcc24 hfr24 HP24; (try clear hM24)
           refine start_ (n := 13) (S := fun w' => w'.cell? ⟨aV, 0, none⟩ = some (.int .i64 ((so x11_1 x13_1).f0)) ∧ w'.cell? ⟨aV, 1, none⟩ = some (.int .i64 ((so x11_1 x13_1).f1)) ∧ w'.cell? ⟨aV, 2, none⟩ = some (.string ((so x11_1 x13_1).f2)) ∧ w'.cell? ⟨go17, ((bl)).toNat * 3, none⟩ = some (.int .i64 ((so x3_1 (bl)).f0)) ∧ w'.cell? ⟨go17, ((bl)).toNat * 3 + 1, none⟩ = some (.int .i64 ((so x3_1 (bl)).f1)) ∧ w'.cell? ⟨go17, ((bl)).toNat * 3 + 2, none⟩ = some (.string ((so x3_1 (bl)).f2))) (ds := [12]) #[false, false, false, false, false, false, false, false, false, false, false, false, false] z0 rfl rfl ⟨(bC a5.out 0).trans rfl, (bC a5.out 1).trans rfl, (bC a5.out 2).trans rfl, hx506_0, hx506_1, hx506_2⟩ (fun hHeld => ?_); refine with_tabW impl_joined.tab9 impl_joined.bits9 (fun HT_ HW_ => ?_)
           (first | generalize w22.drew = w23 at bf bo a5 HB GG17 HQ24 hf17_0 hf17_1 hf17_2 hx17_0 hx17_1 hx17_2 hx504_0 hx504_1 hx504_2 hx505_0 hx505_1 hx505_2 hx506_0 hx506_1 hx506_2 hHeld ⊢ | generalize w22.drew = w23 at bf bo a5 HB GG17 HQ24 hf17_0 hf17_1 hf17_2 hx17_0 hx17_1 hx17_2 hHeld ⊢)
           refine pA 0 42 ?_
           refine pA 1 43 ?_
           refine pA 2 44 ?_
           refine pA 3 45 ?_
           refine pA 4 46 ?_
           refine pA 5 47 ?_
           refine pA 7 49 ?_
           refine t6_ 6 48 ?_
           refine t6_ 8 50 ?_
           refine pA 9 51 ?_
           refine pA 10 52 ?_
           refine pA 11 53 ?_
           refine last_ (i := 12) (N := none) #[true, true, true, true, true, true, true, true, true, true, true, true, true] rfl rfl (one_of HT_.out z0) (by decide) (fun K hK => ?_)
           refine skip_ (w1 := ?_) (by rfl) rfl ?_ ?_
           rotate_left
           ·go_simp
            rfl
           refine hK.out _ _ ?_
           clear hK K
           refine done_ (done_of HT_.out z0) ?_
           try go_wp2
           (try simp only [← hl11_1])
           go_roundg k1
           case measure => have := HK1.out; omega
           case rel => exact ⟨(y507), (x11_1), (wrap64 (x13_1 + 1)), z1, (by first | exact H' | (simp only [gL, bR]; exact H') | (simp only [← gL, ← bR]; exact H')), ⟨y0⟩, ⟨by (try simp only [hl11_1]); (with_reducible repeat (first | apply ac | apply ab | apply aa)); exact ag HQ24.out (fun _ hk => hk.1)⟩, ⟨by (try simp only [hl11_1]); (with_reducible repeat (first | apply ac | apply ab | apply aa)); exact ag (ai (p := ⟨go17, ((bl) : Int).toNat * 3 + 1, none⟩) (ag bo.out (fun k_ hk => (⟨hk, fun e_ => hk.1 (by rw [e_]; rfl)⟩ : _ ∧ k_ ≠ go17))) (fun _ hk => hk.2) (.int .i64 a8)) (fun _ hk => hk.1.1)⟩, ⟨zb_⟩⟩
          ·rw [if_neg ce] at H
           have c15b0 : decide (((so x11_1 x13_1).f0) ≤ ((so x3_1 (bl)).f1)) = false := dF ce
           clear ce
           by_cases im : x3_1.length < 4398046511104
           ·rw [if_pos im] at H
            have LMc25 := aM im
            clear im
            obtain ⟨y508, hy508⟩ : ∃ y_ : List (S34), y_ = (x3_1 ++ [(⟨(so x11_1 x13_1).f0, (so x11_1 x13_1).f1, (so x11_1 x13_1).f2⟩ : S34)]) := ⟨_, rfl⟩
            replace H : (impl_joined.l0 k1 y508 x11_1 (dW.length : Int) (wrap64 (x13_1 + 1))) = some r := zh_ hy508
            have Ny508 := aM hy508
            clear hy508
            have H' := aM H
            clear H
            have p502 : 0 ≤ (x13_1 : Int) := oD z2
            have q502 : x13_1 < (x11_1.length : Int) := oD z2
            obtain ⟨ad502, e502, hx502_0, hx502_1, hx502_2⟩ := at_T34 (ah bo.out).2.2 x13_1 p502 q502
            cases e502
            replace p502 := eq_true p502
            replace q502 := eq_true q502
            try go_wp2_with (first | ((with_reducible refine ay (N := 5) rfl ?_); refine bE_ (N := 5) (cs := #[.int .i64 0, .int .i64 0, .string ⟨#[]⟩]) (t := 34) (h := ?_); intro aV hg w26 hbox hb; replace bf := aM (af (Kd.R_elderB z4 aV (Nat.le_of_eq hg.symm)) hb); replace bo := aM (af (Kd.R_elderB (kR_ bo.out) aV (Nat.le_of_eq hg.symm)) hb); have a5 := aM (hbox); have o7 := aM ((zg_ : w.heap.size ≤ aV)); have gT := aM ((zg_ : w.heap.size ≤ aV)); replace HB := aM (ap z9 hb); clear hb hbox hg; obtain ⟨la, k9, k7, kP, kN, kM⟩ := cc3 a5.out; obtain ⟨nO, ma, eo28⟩ := Kd.R_slice bf.out; subst eo28))
            have aI : Aside0 (Kd.R k34 34 (((w26.setCell ⟨aV, 0, none⟩ (.int .i64 ((so x11_1 x13_1).f0))).setCell ⟨aV, 1, none⟩ (.int .i64 ((so x11_1 x13_1).f1))).setCell ⟨aV, 2, none⟩ (.string ((so x11_1 x13_1).f2))) w.heap.size (fun k_ => some k_ ≠ (.slice (some ad502) x11_1.length fy : Value).ownBlock ∧ k_ ≠ aV) (.slice nO x3_1.length ma) x3_1) := ⟨y42⟩
            have aJ : Aside0 (Kd.R k34 34 (((w26.setCell ⟨aV, 0, none⟩ (.int .i64 ((so x11_1 x13_1).f0))).setCell ⟨aV, 1, none⟩ (.int .i64 ((so x11_1 x13_1).f1))).setCell ⟨aV, 2, none⟩ (.string ((so x11_1 x13_1).f2))) w.heap.size (fun k_ => some k_ ≠ (.slice nO x3_1.length ma : Value).ownBlock ∧ k_ ≠ aV) (.slice (some ad502) x11_1.length fy) x11_1) := ⟨y43⟩
            have aK : Aside0 ((((w26.setCell ⟨aV, 0, none⟩ (.int .i64 ((so x11_1 x13_1).f0))).setCell ⟨aV, 1, none⟩ (.int .i64 ((so x11_1 x13_1).f1))).setCell ⟨aV, 2, none⟩ (.string ((so x11_1 x13_1).f2))).heap[aV]? = some (.cells #[.int .i64 ((so x11_1 x13_1).f0), .int .i64 ((so x11_1 x13_1).f1), .string ((so x11_1 x13_1).f2)] 34 (0, 0))) := ⟨y48⟩
            have aN : Aside0 (Below w.heap.size w (((w26.setCell ⟨aV, 0, none⟩ (.int .i64 ((so x11_1 x13_1).f0))).setCell ⟨aV, 1, none⟩ (.int .i64 ((so x11_1 x13_1).f1))).setCell ⟨aV, 2, none⟩ (.string ((so x11_1 x13_1).f2)))) := ⟨y19⟩
            (try clear bf)
            (try clear bo)
            (try clear a5)
            (try clear HB)
            generalize (((w26.setCell ⟨aV, 0, none⟩ (.int .i64 ((so x11_1 x13_1).f0))).setCell ⟨aV, 1, none⟩ (.int .i64 ((so x11_1 x13_1).f1))).setCell ⟨aV, 2, none⟩ (.string ((so x11_1 x13_1).f2))) = w29 at aI aJ aK aN ⊢
            have bf := aI
            have bo := aJ
            have a5 := aK
            have HB := aN
            clear aI aJ aK aN
            replace bf := aM (aa bf.out)
            replace bo := aM (aa bo.out)
            replace a5 := aM (aj a5.out)
            replace HB := aM (bD HB.out)
            have p504 : 0 ≤ ((bl) : Int) := oD z2
            have q504 : (bl) < (x3_1.length : Int) := oD z2
            obtain ⟨ad504, e504, hx504_0, hx504_1, hx504_2⟩ := at_T34 (ah bf.out).2.2 (bl) p504 q504
            cases e504
            replace p504 := eq_true p504
            replace q504 := eq_true q504
            have p505 : 0 ≤ ((bl) : Int) := oD z2
            have q505 : (bl) < (x3_1.length : Int) := oD z2
            obtain ⟨ad505, e505, hx505_0, hx505_1, hx505_2⟩ := at_T34 (ah bf.out).2.2 (bl) p505 q505
            obtain rfl : ad504 = ad505 := (by injection e505)
            replace p505 := eq_true p505
            replace q505 := eq_true q505
            refine start_ (n := 22) (S := fun w' => w'.cell? ⟨aV, 0, none⟩ = some (.int .i64 ((so x11_1 x13_1).f0)) ∧ w'.cell? ⟨aV, 1, none⟩ = some (.int .i64 ((so x11_1 x13_1).f1)) ∧ w'.cell? ⟨aV, 2, none⟩ = some (.string ((so x11_1 x13_1).f2)) ∧ w'.cell? (ad504.add (((bl)).toNat * 3)) = some (.int .i64 ((so x3_1 (bl)).f0)) ∧ w'.cell? ⟨(ad504.add (((bl)).toNat * 3)).block, (ad504.add (((bl)).toNat * 3)).off + 1, none⟩ = some (.int .i64 ((so x3_1 (bl)).f1)) ∧ w'.cell? ⟨(ad504.add (((bl)).toNat * 3)).block, (ad504.add (((bl)).toNat * 3)).off + 2, none⟩ = some (.string ((so x3_1 (bl)).f2)) ∧ w'.cell? (ad504.add (((bl)).toNat * 3)) = some (.int .i64 ((so x3_1 (bl)).f0)) ∧ w'.cell? ⟨(ad504.add (((bl)).toNat * 3)).block, (ad504.add (((bl)).toNat * 3)).off + 1, none⟩ = some (.int .i64 ((so x3_1 (bl)).f1)) ∧ w'.cell? ⟨(ad504.add (((bl)).toNat * 3)).block, (ad504.add (((bl)).toNat * 3)).off + 2, none⟩ = some (.string ((so x3_1 (bl)).f2))) (ds := []) #[false, false, false, false, false, false, false, false, false, false, false, false, false, false, false, false, false, false, false, false, false, false] z0 rfl rfl ⟨(bC a5.out 0).trans rfl, (bC a5.out 1).trans rfl, (bC a5.out 2).trans rfl, hx504_0, hx504_1, hx504_2, hx505_0, hx505_1, hx505_2⟩ (fun hHeld => ?_); refine with_tabW impl_joined.tab8 impl_joined.bits8 (fun HT_ HW_ => ?_)
            (first | generalize w29.drew = w30 at bf bo a5 HB hx504_0 hx504_1 hx504_2 hx505_0 hx505_1 hx505_2 hHeld ⊢ | generalize w29.drew = w30 at bf bo a5 HB hHeld ⊢)
            refine pA 0 20 ?_
            refine pA 1 21 ?_
            refine pA 2 22 ?_
            refine pA 3 23 ?_
            refine pA 4 24 ?_
            refine pA 5 25 ?_
            refine pA 6 26 ?_
            refine pA 8 28 ?_
            refine t9_ 7 27 ?_
            refine t9_ 9 29 ?_
            refine pA 10 30 ?_
            refine pA 11 31 ?_
            refine pA 12 32 ?_
            refine pA 13 33 ?_
            refine pA 14 34 ?_
            refine pA 15 35 ?_
            refine pA 16 36 ?_
            refine pA 18 38 ?_
            refine t9_ 17 37 ?_
            refine t9_ 19 39 ?_
            refine pA 20 40 ?_
            refine pA 21 41 ?_
            refine done_ (done_of HT_.out z0) ?_
            obtain ⟨gz, gy, gx, gl, gj, gi⟩ := cc3 a5.out
            try go_wp2_with (first | ((with_reducible refine gate_builtin (b := .append) (xs := #[.tmp 54, .tmp 56]) rfl ?_); at_builtin; refine aE k34 (w0 := w) w.heap.size rfl (.tmp 54) (.tmp 56) 24 34 (.agg #[(.int .i64 0), (.int .i64 0), (.string ⟨#[]⟩)]) 32 rfl Try.underlying24 info34 rfl (by decide) (by omega) (.slice (some ad504) x3_1.length ma) x3_1 (⟨(so x11_1 x13_1).f0, (so x11_1 x13_1).f1, (so x11_1 x13_1).f2⟩ : S34) [.int .i64 ((so x11_1 x13_1).f0), .int .i64 ((so x11_1 x13_1).f1), .string ((so x11_1 x13_1).f2)] (fun k_ => some k_ ≠ (.slice (some ad502) x11_1.length fy : Value).ownBlock ∧ k_ ≠ aV) (fun _ => False) rfl rfl ?aP (fun _ hk => hk.elim) ?aF ?aO ?aB ?aS ?aL ?_; (case aP => exact k34_mkM _ _ _ (⟨(so x11_1 x13_1).f0, (so x11_1 x13_1).f1, (so x11_1 x13_1).f2⟩ : S34)); (case aB => exact zb_); (case aF => exact (fun k_ hk => ⟨Kd.fresh' (Kd.R_lt (kR_ bo.out)) k_ hk, Kd.freshB (g := aV) (o := .cells #[.int .i64 ((so x11_1 x13_1).f0), .int .i64 ((so x11_1 x13_1).f1), .string ((so x11_1 x13_1).f2)] 34 (0, 0)) (kB_ a5.out) k_ hk⟩)); (case aO => exact z4); (case aS => exact (aq zb_)); (case aL => have := LMc25.out; omega); intro v509 w32 ho hb hg hat; rw [← Ny508.out] at ho; replace bo := aM (Kd.R_after (ok := (fun k_ => k_ ≠ aV)) (kM_ bo.out (fun _ hk => ⟨hk.2, hk.1⟩)) hg hat); replace a5 := aM (blk_grown (g := aV) (o := .cells #[.int .i64 ((so x11_1 x13_1).f0), .int .i64 ((so x11_1 x13_1).f1), .string ((so x11_1 x13_1).f2)] 34 (0, 0)) (kB_ a5.out) hg (Kd.R_away bf.out (fun _ hk => hk.2))); replace HB := aM hb; have HO510 := aM (ho); clear bf; clear ho hb hg hat))
            (try simp only [← hl11_1])
            go_roundg k1
            case measure => have := HK1.out; omega
            case rel => exact ⟨(y508), (x11_1), (wrap64 (x13_1 + 1)), z1, (by first | exact H' | (simp only [gL]; exact H') | (simp only [← gL]; exact H')), ⟨y0⟩, ⟨by (try simp only [hl11_1]); (with_reducible repeat (first | apply ac | apply ab | apply aa)); exact ag HO510.out (fun _ hk => hk.1)⟩, ⟨by (try simp only [hl11_1]); (with_reducible repeat (first | apply ac | apply ab | apply aa)); exact ag bo.out (fun _ hk => hk.2)⟩, ⟨y19⟩⟩
           ·rw [if_neg im] at H
            exact absurd H (by simp)
         ·rw [if_neg cO] at H
          have c14b0 : (((so x3_1 (bl)).f2).toList == ((so x11_1 x13_1).f2).toList) = false := qF cO
          have c14b1 : (((so x3_1 (bl)).f2).toList != ((so x11_1 x13_1).f2).toList) = true := nT cO
          by_cases ln : x3_1.length < 4398046511104
          ·rw [if_pos ln] at H
           have LMc33 := aM ln
           clear ln
           obtain ⟨y511, hy511⟩ : ∃ y_ : List (S34), y_ = (x3_1 ++ [(⟨(so x11_1 x13_1).f0, (so x11_1 x13_1).f1, (so x11_1 x13_1).f2⟩ : S34)]) := ⟨_, rfl⟩
           replace H : (impl_joined.l0 k1 y511 x11_1 (dW.length : Int) (wrap64 (x13_1 + 1))) = some r := zh_ hy511
           have Ny511 := aM hy511
           clear hy511
           have H' := aM H
           clear H
           have p502 : 0 ≤ (x13_1 : Int) := oD z2
           have q502 : x13_1 < (x11_1.length : Int) := oD z2
           obtain ⟨ad502, e502, hx502_0, hx502_1, hx502_2⟩ := at_T34 (ah bo.out).2.2 x13_1 p502 q502
           cases e502
           replace p502 := eq_true p502
           replace q502 := eq_true q502
           try go_wp2_with (first | ((with_reducible refine ay (N := 5) rfl ?_); refine bE_ (N := 5) (cs := #[.int .i64 0, .int .i64 0, .string ⟨#[]⟩]) (t := 34) (h := ?_); intro aV hg w34 hbox hb; replace bf := aM (af (Kd.R_elderB z4 aV (Nat.le_of_eq hg.symm)) hb); replace bo := aM (af (Kd.R_elderB (kR_ bo.out) aV (Nat.le_of_eq hg.symm)) hb); have a5 := aM (hbox); have o7 := aM ((zg_ : w.heap.size ≤ aV)); have gT := aM ((zg_ : w.heap.size ≤ aV)); replace HB := aM (ap z9 hb); clear hb hbox hg; obtain ⟨jd, jc, jb, i3, i2, i1⟩ := cc3 a5.out; obtain ⟨sQ, qG, eo36⟩ := Kd.R_slice bf.out; subst eo36))
           have aI : Aside0 (Kd.R k34 34 (((w34.setCell ⟨aV, 0, none⟩ (.int .i64 ((so x11_1 x13_1).f0))).setCell ⟨aV, 1, none⟩ (.int .i64 ((so x11_1 x13_1).f1))).setCell ⟨aV, 2, none⟩ (.string ((so x11_1 x13_1).f2))) w.heap.size (fun k_ => some k_ ≠ (.slice (some ad502) x11_1.length fy : Value).ownBlock ∧ k_ ≠ aV) (.slice sQ x3_1.length qG) x3_1) := ⟨y42⟩
           have aJ : Aside0 (Kd.R k34 34 (((w34.setCell ⟨aV, 0, none⟩ (.int .i64 ((so x11_1 x13_1).f0))).setCell ⟨aV, 1, none⟩ (.int .i64 ((so x11_1 x13_1).f1))).setCell ⟨aV, 2, none⟩ (.string ((so x11_1 x13_1).f2))) w.heap.size (fun k_ => some k_ ≠ (.slice sQ x3_1.length qG : Value).ownBlock ∧ k_ ≠ aV) (.slice (some ad502) x11_1.length fy) x11_1) := ⟨y43⟩
           have aK : Aside0 ((((w34.setCell ⟨aV, 0, none⟩ (.int .i64 ((so x11_1 x13_1).f0))).setCell ⟨aV, 1, none⟩ (.int .i64 ((so x11_1 x13_1).f1))).setCell ⟨aV, 2, none⟩ (.string ((so x11_1 x13_1).f2))).heap[aV]? = some (.cells #[.int .i64 ((so x11_1 x13_1).f0), .int .i64 ((so x11_1 x13_1).f1), .string ((so x11_1 x13_1).f2)] 34 (0, 0))) := ⟨y48⟩
           have aN : Aside0 (Below w.heap.size w (((w34.setCell ⟨aV, 0, none⟩ (.int .i64 ((so x11_1 x13_1).f0))).setCell ⟨aV, 1, none⟩ (.int .i64 ((so x11_1 x13_1).f1))).setCell ⟨aV, 2, none⟩ (.string ((so x11_1 x13_1).f2)))) := ⟨y19⟩
           (try clear bf)
           (try clear bo)
           (try clear a5)
           (try clear HB)
           generalize (((w34.setCell ⟨aV, 0, none⟩ (.int .i64 ((so x11_1 x13_1).f0))).setCell ⟨aV, 1, none⟩ (.int .i64 ((so x11_1 x13_1).f1))).setCell ⟨aV, 2, none⟩ (.string ((so x11_1 x13_1).f2))) = w37 at aI aJ aK aN ⊢
           have bf := aI
           have bo := aJ
           have a5 := aK
           have HB := aN
           clear aI aJ aK aN
           replace bf := aM (aa bf.out)
           replace bo := aM (aa bo.out)
           replace a5 := aM (aj a5.out)
           replace HB := aM (bD HB.out)
           have p504 : 0 ≤ ((bl) : Int) := oD z2
           have q504 : (bl) < (x3_1.length : Int) := oD z2
           obtain ⟨ad504, e504, hx504_0, hx504_1, hx504_2⟩ := at_T34 (ah bf.out).2.2 (bl) p504 q504
           cases e504
           replace p504 := eq_true p504
           replace q504 := eq_true q504
           refine start_ (n := 22) (S := fun w' => w'.cell? ⟨aV, 0, none⟩ = some (.int .i64 ((so x11_1 x13_1).f0)) ∧ w'.cell? ⟨aV, 1, none⟩ = some (.int .i64 ((so x11_1 x13_1).f1)) ∧ w'.cell? ⟨aV, 2, none⟩ = some (.string ((so x11_1 x13_1).f2)) ∧ w'.cell? (ad504.add (((bl)).toNat * 3)) = some (.int .i64 ((so x3_1 (bl)).f0)) ∧ w'.cell? ⟨(ad504.add (((bl)).toNat * 3)).block, (ad504.add (((bl)).toNat * 3)).off + 1, none⟩ = some (.int .i64 ((so x3_1 (bl)).f1)) ∧ w'.cell? ⟨(ad504.add (((bl)).toNat * 3)).block, (ad504.add (((bl)).toNat * 3)).off + 2, none⟩ = some (.string ((so x3_1 (bl)).f2))) (ds := []) #[false, false, false, false, false, false, false, false, false, false, false, false, false, false, false, false, false, false, false, false, false, false] z0 rfl rfl ⟨(bC a5.out 0).trans rfl, (bC a5.out 1).trans rfl, (bC a5.out 2).trans rfl, hx504_0, hx504_1, hx504_2⟩ (fun hHeld => ?_); refine with_tabW impl_joined.tab8 impl_joined.bits8 (fun HT_ HW_ => ?_)
           (first | generalize w37.drew = w38 at bf bo a5 HB hx504_0 hx504_1 hx504_2 hHeld ⊢ | generalize w37.drew = w38 at bf bo a5 HB hHeld ⊢)
           refine pA 0 20 ?_
           refine pA 1 21 ?_
           refine pA 2 22 ?_
           refine pA 3 23 ?_
           refine pA 4 24 ?_
           refine pA 5 25 ?_
           refine pA 6 26 ?_
           refine pA 8 28 ?_
           refine t6_ 7 27 ?_
           refine t6_ 9 29 ?_
           refine pA 10 30 ?_
           refine pA 11 31 ?_
           refine pA 12 32 ?_
           refine pB 13 33 ?_
           refine pB 14 34 ?_
           refine pB 15 35 ?_
           refine pB 16 36 ?_
           refine pB 17 37 ?_
           refine pB 18 38 ?_
           refine pB 19 39 ?_
           refine pB 20 40 ?_
           refine pA 21 41 ?_
           refine done_ (done_of HT_.out z0) ?_
           obtain ⟨cU, cT, cS, cR, cQ, cP⟩ := cc3 a5.out
           try go_wp2_with (first | ((with_reducible refine gate_builtin (b := .append) (xs := #[.tmp 54, .tmp 56]) rfl ?_); at_builtin; refine aE k34 (w0 := w) w.heap.size rfl (.tmp 54) (.tmp 56) 24 34 (.agg #[(.int .i64 0), (.int .i64 0), (.string ⟨#[]⟩)]) 32 rfl Try.underlying24 info34 rfl (by decide) (by omega) (.slice (some ad504) x3_1.length qG) x3_1 (⟨(so x11_1 x13_1).f0, (so x11_1 x13_1).f1, (so x11_1 x13_1).f2⟩ : S34) [.int .i64 ((so x11_1 x13_1).f0), .int .i64 ((so x11_1 x13_1).f1), .string ((so x11_1 x13_1).f2)] (fun k_ => some k_ ≠ (.slice (some ad502) x11_1.length fy : Value).ownBlock ∧ k_ ≠ aV) (fun _ => False) rfl rfl ?aP (fun _ hk => hk.elim) ?aF ?aO ?aB ?aS ?aL ?_; (case aP => exact k34_mkM _ _ _ (⟨(so x11_1 x13_1).f0, (so x11_1 x13_1).f1, (so x11_1 x13_1).f2⟩ : S34)); (case aB => exact zb_); (case aF => exact (fun k_ hk => ⟨Kd.fresh' (Kd.R_lt (kR_ bo.out)) k_ hk, Kd.freshB (g := aV) (o := .cells #[.int .i64 ((so x11_1 x13_1).f0), .int .i64 ((so x11_1 x13_1).f1), .string ((so x11_1 x13_1).f2)] 34 (0, 0)) (kB_ a5.out) k_ hk⟩)); (case aO => exact z4); (case aS => exact (aq zb_)); (case aL => have := LMc33.out; omega); intro v512 w40 ho hb hg hat; rw [← Ny511.out] at ho; replace bo := aM (Kd.R_after (ok := (fun k_ => k_ ≠ aV)) (kM_ bo.out (fun _ hk => ⟨hk.2, hk.1⟩)) hg hat); replace a5 := aM (blk_grown (g := aV) (o := .cells #[.int .i64 ((so x11_1 x13_1).f0), .int .i64 ((so x11_1 x13_1).f1), .string ((so x11_1 x13_1).f2)] 34 (0, 0)) (kB_ a5.out) hg (Kd.R_away bf.out (fun _ hk => hk.2))); replace HB := aM hb; have HO513 := aM (ho); clear bf; clear ho hb hg hat))
           (try simp only [← hl11_1])
           go_roundg k1
           case measure => have := HK1.out; omega
           case rel => exact ⟨(y511), (x11_1), (wrap64 (x13_1 + 1)), z1, (by first | exact H' | (simp only [gL]; exact H') | (simp only [← gL]; exact H')), ⟨y0⟩, ⟨by (try simp only [hl11_1]); (with_reducible repeat (first | apply ac | apply ab | apply aa)); exact ag HO513.out (fun _ hk => hk.1)⟩, ⟨by (try simp only [hl11_1]); (with_reducible repeat (first | apply ac | apply ab | apply aa)); exact ag bo.out (fun _ hk => hk.2)⟩, ⟨y19⟩⟩
          ·rw [if_neg ln] at H
           exact absurd H (by simp)
        ·rw [if_neg bU] at H
         exact absurd H (by simp)
       ·rw [if_neg bT] at H
        exact absurd H (by simp)
      ·rw [if_neg cq] at H
       have c10b0 : decide (0 ≤ (wrap64 ((x3_1.length : Int) - 1))) = false := dF cq
       have c10b0hl11_1 := c10b0
       (try simp only [hl11_1] at c10b0hl11_1)
       clear cq
       by_cases m8 : x3_1.length < 4398046511104
       ·rw [if_pos m8] at H
        have LMc41 := aM m8
        clear m8
        obtain ⟨y514, hy514⟩ : ∃ y_ : List (S34), y_ = (x3_1 ++ [(⟨(so x11_1 x13_1).f0, (so x11_1 x13_1).f1, (so x11_1 x13_1).f2⟩ : S34)]) := ⟨_, rfl⟩
        replace H : (impl_joined.l0 k1 y514 x11_1 (dW.length : Int) (wrap64 (x13_1 + 1))) = some r := zh_ hy514
        have Ny514 := aM hy514
        clear hy514
        have H' := aM H
        clear H
        have p502 : 0 ≤ (x13_1 : Int) := oD z2
        have q502 : x13_1 < (x11_1.length : Int) := oD z2
        obtain ⟨ad502, e502, hx502_0, hx502_1, hx502_2⟩ := at_T34 (ah bo.out).2.2 x13_1 p502 q502
        cases e502
        replace p502 := eq_true p502
        replace q502 := eq_true q502
        try go_wp2_with (first | ((with_reducible refine ay (N := 5) rfl ?_); refine bE_ (N := 5) (cs := #[.int .i64 0, .int .i64 0, .string ⟨#[]⟩]) (t := 34) (h := ?_); intro aV hg w42 hbox hb; replace bf := aM (af (Kd.R_elderB z4 aV (Nat.le_of_eq hg.symm)) hb); replace bo := aM (af (Kd.R_elderB (kR_ bo.out) aV (Nat.le_of_eq hg.symm)) hb); have a5 := aM (hbox); have o7 := aM ((zg_ : w.heap.size ≤ aV)); have gT := aM ((zg_ : w.heap.size ≤ aV)); replace HB := aM (ap z9 hb); clear hb hbox hg; obtain ⟨hcz43_0, hcz43_1, hcz43_2, hfz43_0, hfz43_1, hfz43_2⟩ := cc3 a5.out; obtain ⟨mi, l9, eo44⟩ := Kd.R_slice bf.out; subst eo44))
        have aI : Aside0 (Kd.R k34 34 (((w42.setCell ⟨aV, 0, none⟩ (.int .i64 ((so x11_1 x13_1).f0))).setCell ⟨aV, 1, none⟩ (.int .i64 ((so x11_1 x13_1).f1))).setCell ⟨aV, 2, none⟩ (.string ((so x11_1 x13_1).f2))) w.heap.size (fun k_ => some k_ ≠ (.slice (some ad502) x11_1.length fy : Value).ownBlock ∧ k_ ≠ aV) (.slice mi x3_1.length l9) x3_1) := ⟨y42⟩
        have aJ : Aside0 (Kd.R k34 34 (((w42.setCell ⟨aV, 0, none⟩ (.int .i64 ((so x11_1 x13_1).f0))).setCell ⟨aV, 1, none⟩ (.int .i64 ((so x11_1 x13_1).f1))).setCell ⟨aV, 2, none⟩ (.string ((so x11_1 x13_1).f2))) w.heap.size (fun k_ => some k_ ≠ (.slice mi x3_1.length l9 : Value).ownBlock ∧ k_ ≠ aV) (.slice (some ad502) x11_1.length fy) x11_1) := ⟨y43⟩
        have aK : Aside0 ((((w42.setCell ⟨aV, 0, none⟩ (.int .i64 ((so x11_1 x13_1).f0))).setCell ⟨aV, 1, none⟩ (.int .i64 ((so x11_1 x13_1).f1))).setCell ⟨aV, 2, none⟩ (.string ((so x11_1 x13_1).f2))).heap[aV]? = some (.cells #[.int .i64 ((so x11_1 x13_1).f0), .int .i64 ((so x11_1 x13_1).f1), .string ((so x11_1 x13_1).f2)] 34 (0, 0))) := ⟨y48⟩
        have aN : Aside0 (Below w.heap.size w (((w42.setCell ⟨aV, 0, none⟩ (.int .i64 ((so x11_1 x13_1).f0))).setCell ⟨aV, 1, none⟩ (.int .i64 ((so x11_1 x13_1).f1))).setCell ⟨aV, 2, none⟩ (.string ((so x11_1 x13_1).f2)))) := ⟨y19⟩
        (try clear bf)
        (try clear bo)
        (try clear a5)
        (try clear HB)
        generalize (((w42.setCell ⟨aV, 0, none⟩ (.int .i64 ((so x11_1 x13_1).f0))).setCell ⟨aV, 1, none⟩ (.int .i64 ((so x11_1 x13_1).f1))).setCell ⟨aV, 2, none⟩ (.string ((so x11_1 x13_1).f2))) = w45 at aI aJ aK aN ⊢
        have bf := aI
        have bo := aJ
        have a5 := aK
        have HB := aN
        clear aI aJ aK aN
        replace bf := aM (aa bf.out)
        replace bo := aM (aa bo.out)
        replace a5 := aM (aj a5.out)
        replace HB := aM (bD HB.out)
        refine start_ (n := 22) (S := fun w' => True) (ds := []) #[false, false, false, false, false, false, false, false, false, false, false, false, false, false, false, false, false, false, false, false, false, false] z0 rfl rfl trivial (fun hHeld => ?_); refine with_tabW impl_joined.tab8 impl_joined.bits8 (fun HT_ HW_ => ?_)
        generalize w45.drew = w46 at bf bo a5 HB hHeld ⊢
        refine pA 0 20 ?_
        refine pA 1 21 ?_
        refine pA 2 22 ?_
        refine pB 3 23 ?_
        refine pB 4 24 ?_
        refine pB 5 25 ?_
        refine pB 6 26 ?_
        refine pB 7 27 ?_
        refine pB 8 28 ?_
        refine pB 9 29 ?_
        refine pB 10 30 ?_
        refine pA 11 31 ?_
        refine pA 12 32 ?_
        refine pB 13 33 ?_
        refine pB 14 34 ?_
        refine pB 15 35 ?_
        refine pB 16 36 ?_
        refine pB 17 37 ?_
        refine pB 18 38 ?_
        refine pB 19 39 ?_
        refine pB 20 40 ?_
        refine pA 21 41 ?_
        refine done_ (done_of HT_.out z0) ?_
        obtain ⟨hcz47_0, hcz47_1, hcz47_2, hfz47_0, hfz47_1, hfz47_2⟩ := cc3 a5.out
        try go_wp2_with (first | ((with_reducible refine gate_builtin (b := .append) (xs := #[.tmp 54, .tmp 56]) rfl ?_); at_builtin; refine aE k34 (w0 := w) w.heap.size rfl (.tmp 54) (.tmp 56) 24 34 (.agg #[(.int .i64 0), (.int .i64 0), (.string ⟨#[]⟩)]) 32 rfl Try.underlying24 info34 rfl (by decide) (by omega) (.slice mi x3_1.length l9) x3_1 (⟨(so x11_1 x13_1).f0, (so x11_1 x13_1).f1, (so x11_1 x13_1).f2⟩ : S34) [.int .i64 ((so x11_1 x13_1).f0), .int .i64 ((so x11_1 x13_1).f1), .string ((so x11_1 x13_1).f2)] (fun k_ => some k_ ≠ (.slice (some ad502) x11_1.length fy : Value).ownBlock ∧ k_ ≠ aV) (fun _ => False) rfl rfl ?aP (fun _ hk => hk.elim) ?aF ?aO ?aB ?aS ?aL ?_; (case aP => exact k34_mkM _ _ _ (⟨(so x11_1 x13_1).f0, (so x11_1 x13_1).f1, (so x11_1 x13_1).f2⟩ : S34)); (case aB => exact zb_); (case aF => exact (fun k_ hk => ⟨Kd.fresh' (Kd.R_lt (kR_ bo.out)) k_ hk, Kd.freshB (g := aV) (o := .cells #[.int .i64 ((so x11_1 x13_1).f0), .int .i64 ((so x11_1 x13_1).f1), .string ((so x11_1 x13_1).f2)] 34 (0, 0)) (kB_ a5.out) k_ hk⟩)); (case aO => exact z4); (case aS => exact (aq zb_)); (case aL => have := LMc41.out; omega); intro v515 w48 ho hb hg hat; rw [← Ny514.out] at ho; replace bo := aM (Kd.R_after (ok := (fun k_ => k_ ≠ aV)) (kM_ bo.out (fun _ hk => ⟨hk.2, hk.1⟩)) hg hat); replace a5 := aM (blk_grown (g := aV) (o := .cells #[.int .i64 ((so x11_1 x13_1).f0), .int .i64 ((so x11_1 x13_1).f1), .string ((so x11_1 x13_1).f2)] 34 (0, 0)) (kB_ a5.out) hg (Kd.R_away bf.out (fun _ hk => hk.2))); replace HB := aM hb; have HO516 := aM (ho); clear bf; clear ho hb hg hat))
        (try simp only [← hl11_1])
        go_roundg k1
        case measure => have := HK1.out; omega
        case rel => exact ⟨(y514), (x11_1), (wrap64 (x13_1 + 1)), z1, H', ⟨y0⟩, ⟨by (try simp only [hl11_1]); (with_reducible repeat (first | apply ac | apply ab | apply aa)); exact ag HO516.out (fun _ hk => hk.1)⟩, ⟨by (try simp only [hl11_1]); (with_reducible repeat (first | apply ac | apply ab | apply aa)); exact ag bo.out (fun _ hk => hk.2)⟩, ⟨y19⟩⟩
       ·rw [if_neg m8] at H
        exact absurd H (by simp)
     ·rw [if_neg c9] at H
      exact absurd H (by simp)
    ·rw [if_neg c8] at H
     exact absurd H (by simp)
   ·rw [if_neg c7] at H
    have c7b0 : decide (x13_1 < (dW.length : Int)) = false := dF c7
    have c7b0hl11_1 := c7b0
    (try simp only [hl11_1] at c7b0hl11_1)
    clear c7
    obtain rfl := sI H
    go_wp2
    go_ret
    exact ⟨_, y5, by (with_reducible repeat (first | apply ac | apply ab | apply aa)); exact ag bf.out (fun _ hk => trivial), y6⟩

/-! ### impl_MoveMarks: function 5 -/
mutual
def impl_MoveMarks.j0 : Nat → List (S68) → List (S34) → Int → Bool → Option ((List (S34)) × Bool)
 | 0, _, _, _, _ => none
 | k + 1, x0, x1, x7, x25 => if x25 = true then (some (([] : List (S34)), false)) else ((impl_normal.f x0).bind fun gF => (impl_MoveMarks.l0 k gF x7 ([] : List (S34)) x1 (x1.length : Int) 0))
def impl_MoveMarks.l0 : Nat → List (S68) → Int → List (S34) → List (S34) → Int → Int → Option ((List (S34)) × Bool)
 | 0, _, _, _, _, _, _ => none
 | k + 1, x0, x7, x9, x28, x29, x30 => if x30 < x29 then (if 0 ≤ x30 then (if x30 < (x28.length : Int) then ((impl_movePlace.f k x0 ((so x28 x30).f0) true).bind fun eM => ((impl_movePlace.f k x0 ((so x28 x30).f1) false).bind fun eW => (if eM < eW then (if x9.length < 4398046511104 then (impl_MoveMarks.l0 k x0 x7 (x9 ++ [(⟨eM, eW, (so x28 x30).f2⟩ : S34)]) x28 x29 (wrap64 (x30 + 1))) else (none)) else (impl_MoveMarks.l0 k x0 x7 x9 x28 x29 (wrap64 (x30 + 1)))))) else (none)) else (none)) else ((impl_joined.f k x9).bind fun l5 => ((impl_goodMarks.f k l5 x7).bind fun pQ => (some (pQ.1, pQ.2))))
end
def impl_MoveMarks.f (k : Nat) (l0 : List (S68)) (l1 : List (S34)) : Option ((List (S34)) × Bool) := (impl_SizesOf.f k l0).bind fun iq => (if iq.2.2 = true then ((impl_GoodMarks.f k l1 iq.1).bind fun np => (impl_MoveMarks.j0 k l0 l1 iq.2.1 (!np))) else (impl_MoveMarks.j0 k l0 l1 iq.2.1 true))
theorem impl_MoveMarks.mono_l : ∀ k, (∀ y0 y1 y2 y3, LeO (impl_MoveMarks.j0 k y0 y1 y2 y3) (impl_MoveMarks.j0 (k + 1) y0 y1 y2 y3)) ∧ (∀ y0 y1 y2 y3 y4 y5, LeO (impl_MoveMarks.l0 k y0 y1 y2 y3 y4 y5) (impl_MoveMarks.l0 (k + 1) y0 y1 y2 y3 y4 y5))
 | 0 => ⟨fun _ _ _ _ r h => by simp [impl_MoveMarks.j0] at h, fun _ _ _ _ _ _ r h => by simp [impl_MoveMarks.l0] at h⟩
 | k + 1 => by
  obtain ⟨ih0, ih1⟩ := impl_MoveMarks.mono_l k
  refine ⟨?_, ?_⟩
  ·intro y0 y1 y2 y3
   unfold impl_MoveMarks.j0
   with_reducible repeat' first | exact ih0 _ _ _ _ | exact ih1 _ _ _ _ _ _ | exact impl_GoodMarks.mono _ _ _ | exact impl_SizesOf.mono _ _ | exact impl_goodMarks.mono _ _ _ | exact impl_joined.mono _ _ | exact impl_movePlace.mono _ _ _ _ | exact lR_ _ | exact lN_ _ | refine lI_ ?_ ?_ | refine lB_ ?_ fun _ => ?_
  ·intro y0 y1 y2 y3 y4 y5
   unfold impl_MoveMarks.l0
   with_reducible repeat' first | exact ih0 _ _ _ _ | exact ih1 _ _ _ _ _ _ | exact impl_GoodMarks.mono _ _ _ | exact impl_SizesOf.mono _ _ | exact impl_goodMarks.mono _ _ _ | exact impl_joined.mono _ _ | exact impl_movePlace.mono _ _ _ _ | exact lR_ _ | exact lN_ _ | refine lI_ ?_ ?_ | refine lB_ ?_ fun _ => ?_
theorem impl_MoveMarks.mono : ∀ a0 a1 k, LeO (impl_MoveMarks.f k a0 a1) (impl_MoveMarks.f (k + 1) a0 a1) := by
 intro a0 a1 k
 obtain ⟨ih0, ih1⟩ := impl_MoveMarks.mono_l k
 unfold impl_MoveMarks.f
 with_reducible repeat' first | exact ih0 _ _ _ _ | exact ih1 _ _ _ _ _ _ | exact impl_GoodMarks.mono _ _ _ | exact impl_SizesOf.mono _ _ | exact impl_goodMarks.mono _ _ _ | exact impl_joined.mono _ _ | exact impl_movePlace.mono _ _ _ _ | exact lR_ _ | exact lN_ _ | refine lI_ ?_ ?_ | refine lB_ ?_ fun _ => ?_
def impl_MoveMarks.T9 : Bool × List (List Nat × List Nat) := (true, [([], []), ([], []), ([1], [1]), ([0, 2], [0, 2]), ([], []), ([], []), ([5], [5]), ([4, 6, 3], [4, 6]), ([0, 1, 2, 3, 5, 6], []), ([8, 3, 7, 0, 1, 2, 3, 5, 6], [3, 8]), ([0, 1, 2, 3, 4, 5, 6, 7, 8, 9], []), ([10, 7, 9, 0, 1, 2, 3, 4, 5, 6, 7, 8, 9], [7, 10])])
def impl_MoveMarks.B9 : List Nat := [0, 0, 2, 7, 0, 0, 32, 127, 111, 511, 1023, 2047]
theorem impl_MoveMarks.tab9 : rtab .any (opsOf Try.f5 9) = impl_MoveMarks.T9 := by kernel_rfl
theorem impl_MoveMarks.bits9 : waitsOk impl_MoveMarks.T9.2 impl_MoveMarks.B9 = true := by kernel_rfl
theorem impl_MoveMarks.calls (k : Nat) (A0 : Option Addr) (c0 : Nat) (l0 : List (S68)) (A1 : Option Addr) (c1 : Nat) (l1 : List (S34)) (r1 : List (S34)) (r2 : Bool) (w : World) (hr0 : Kd.C k68 w A0 l0.length l0) (hc0 : l0.length ≤ c0) (hr1 : Kd.C k34 w A1 l1.length l1) (hc1 : l1.length ≤ c1) (h : impl_MoveMarks.f k l0 l1 = some (r1, r2)) :
  Calls Try.prog 5 #[.slice A0 l0.length c0, .slice A1 l1.length c1] w fun e w' => ∃ v0_ : Value, e = .returned (.tuple #[v0_, .bool r2]) ∧ Kd.R k34 34 w' w.heap.size (fun _ => True) v0_ r1 ∧ Below w.heap.size w w' := by
 have hu34 := Try.underlying34
 have bH := aM hr0
 have cH := aM hc0
 clear hr0 hc0
 have lp := aM hr1
 have pU := aM hc1
 clear hr1 hc1
 have HB := aM (Below.refl w.heap.size w)
 have H : ((impl_SizesOf.f k l0).bind fun iq => (if iq.2.2 = true then ((impl_GoodMarks.f k l1 iq.1).bind fun np => (impl_MoveMarks.j0 k l0 l1 iq.2.1 (!np))) else (impl_MoveMarks.j0 k l0 l1 iq.2.1 true))) = some (r1, r2) := h
 clear h
 obtain ⟨⟨rD, nq, rC⟩, A3, H⟩ := oA_ H
 try dsimp only at H
 have iJ := aM H
 clear H
 go_enter Try.func5, Try.ntmps5
 go_upto_region 2 with (first | ((with_reducible refine ax (f := 19) rfl ?_); refine aC (some 14) rfl rfl Try.func19 z0 rfl #[.slice A0 l0.length c0] rfl z10 ?_; (with_reducible refine (impl_SizesOf.calls k _ _ l0 rD nq rC _ ?side1 ?side2 A3.out).mono ?_); (case side1 => exact y53); (case side2 => exact y51); rintro e w5 ⟨rfl, hb⟩; refine ⟨_, rfl, ?_⟩; replace HB := aM (ap z9 hb); (try clear hb)))
 (try simp only [Act.put, sA, sB, sC])
 go_cut [25] (fun v25 wc => ∃ (kq : Nat) (x25_3 : Bool), v25 = .bool x25_3 ∧ Aside0 (impl_MoveMarks.j0 kq l0 l1 nq x25_3 = some (r1, r2)) ∧ Aside0 (kq ≤ k) ∧ Aside0 (Below w.heap.size w wc))
 case first =>
  have H := iJ.out
  clear iJ
  by_cases c6 : rC = true
  ·subst c6
   rw [if_pos rfl] at H
   obtain ⟨np, A7, H⟩ := oA_ H
   try dsimp only at H
   have H' := aM H
   clear H
   go_wp2_with (first | (go_at_call 9; (with_reducible refine (impl_GoodMarks.calls k _ _ l1 rD np _ ?side1 ?side2 A7.out).mono ?_); (case side1 => exact y65); (case side2 => exact pU.out); rintro e w8 ⟨rfl, hb⟩; replace HB := aM (ap z9 hb); (try clear hb)))
   go_meet
   case rel => exact ⟨_, (!np), z1, H', ⟨y1⟩, ⟨y6⟩⟩
  ·replace c6 := Bool.eq_false_iff.mpr c6
   subst c6
   rw [if_neg nF_] at H
   have H' := aM H
   clear H
   go_wp2
   go_meet
   case rel => exact ⟨_, (true), z1, H', ⟨y1⟩, ⟨y6⟩⟩
 case rest =>
  clear iJ
  try clear c1
  obtain ⟨kq, x25_3, rfl, HA, jh, HB⟩ := hcut
  cases kq with
  | zero => exact absurd HA.out (by simp [impl_MoveMarks.j0])
  | succ kj3 =>
   have H := HA.out
   clear HA
   simp only [impl_MoveMarks.j0] at H
   by_cases c9 : x25_3 = true
   ·subst c9
    rw [if_pos rfl] at H
    simp only [Option.some.injEq, Prod.mk.injEq] at H
    obtain ⟨rfl, rfl⟩ := H
    go_wp2
    go_ret2
    exact ⟨_, y5, y29, y6⟩
   ·replace c9 := Bool.eq_false_iff.mpr c9
    subst c9
    rw [if_neg nF_] at H
    obtain ⟨gF, iA, H⟩ := oA_ H
    try dsimp only at H
    have H' := aM H
    clear H
    go_wp2_with (first | ((with_reducible refine ax (f := 20) rfl ?_); refine aC (some 27) rfl rfl Try.func20 z0 rfl #[.slice A0 l0.length c0] rfl z10 ?_; (with_reducible refine (impl_normal.calls _ _ l0 gF _ ?side1 ?side2 iA.out).mono ?_); (case side1 => exact y64); (case side2 => exact y51); rintro e w11 ⟨v522, rfl, ho0, hb⟩; refine ⟨_, rfl, ?_⟩; have HO523 := aM (aD ho0 (aq z9)); replace HB := aM (ap z9 hb); (try clear hb); (try clear ho0)))
    go_loopg [9, 30] kj3 (fun kq v9 v30 w' => ∃ (x9_2 : List (S34)) (x30_2 : Int), v30 = .int .i64 x30_2 ∧ Aside0 (impl_MoveMarks.l0 kq gF nq x9_2 l1 (l1.length : Int) x30_2 = some (r1, r2)) ∧ Aside0 (kq ≤ kj3) ∧ Aside0 (Kd.R k68 68 w' w.heap.size (fun _ => True) v522 gF) ∧ Aside0 (Kd.R k34 34 w' w.heap.size (fun _ => True) v9 x9_2) ∧ Aside0 (Below w.heap.size w w'))
    case atStart => exact ⟨(([] : List (S34))), (0), z1, H', ⟨Nat.le_refl _⟩, ⟨kR_ HO523.out⟩, ⟨y29⟩, ⟨y6⟩⟩
    case round =>
     clear H'
     try clear c1
     try clear c9
     obtain ⟨x9_2, x30_2, rfl, HA, HK2, aX, b7, HB⟩ := hrel
     cases gk with
     | zero => exact absurd HA.out (by simp [impl_MoveMarks.l0])
     | succ k2 =>
      have H := HA.out
      clear HA
      simp only [impl_MoveMarks.l0] at H
      by_cases bT : x30_2 < (l1.length : Int)
      ·rw [if_pos bT] at H
       have c12b0 : decide (x30_2 < (l1.length : Int)) = true := dT bT
       clear bT
       by_cases bU : 0 ≤ x30_2
       ·rw [if_pos bU] at H
        have c13b0 : decide (0 ≤ x30_2) = true := dT bU
        clear bU
        by_cases cO : x30_2 < (l1.length : Int)
        ·rw [if_pos cO] at H
         have c14b0 : decide (x30_2 < (l1.length : Int)) = true := dT cO
         clear cO
         obtain ⟨eM, rl, H⟩ := oA_ H
         try dsimp only at H
         obtain ⟨eW, nP, H⟩ := oA_ H
         try dsimp only at H
         by_cases cA : eM < eW
         ·rw [if_pos cA] at H
          have c17b0 : decide (eM < eW) = true := dT cA
          clear cA
          by_cases cJ : x9_2.length < 4398046511104
          ·rw [if_pos cJ] at H
           have LMc18 := aM cJ
           clear cJ
           obtain ⟨y535, hy535⟩ : ∃ y_ : List (S34), y_ = (x9_2 ++ [(⟨eM, eW, (so l1 x30_2).f2⟩ : S34)]) := ⟨_, rfl⟩
           replace H : (impl_MoveMarks.l0 k2 gF nq y535 l1 (l1.length : Int) (wrap64 (x30_2 + 1))) = some (r1, r2) := zh_ hy535
           have Ny535 := aM hy535
           clear hy535
           have H' := aM H
           clear H
           have p531 : 0 ≤ (x30_2 : Int) := oD z2
           have q531 : x30_2 < (l1.length : Int) := oD z2
           obtain ⟨ad531, e531, hx531_0, hx531_1, hx531_2⟩ := at_T34 lp.out x30_2 p531 q531
           cases e531
           replace hx531_0 := hC_ HB.out hx531_0
           replace hx531_1 := hC_ HB.out hx531_1
           replace hx531_2 := hC_ HB.out hx531_2
           replace p531 := eq_true p531
           replace q531 := eq_true q531
           try go_wp2_with (first | ((with_reducible refine ay (N := 11) rfl ?_); refine bE_ (N := 11) (cs := #[.int .i64 0, .int .i64 0, .string ⟨#[]⟩]) (t := 34) (h := ?_); intro a7 hg w19 hbox hb; replace aX := aM (af z5 hb); replace b7 := aM (af (Kd.R_elderB (kR_ b7.out) a7 (Nat.le_of_eq hg.symm)) hb); have bg := aM (hbox); have GW532 := aM ((zg_ : w.heap.size ≤ a7)); have f4 := aM ((zg_ : w.heap.size ≤ a7)); replace HB := aM (ap z9 hb); clear hb hbox hg; obtain ⟨eg, ef, ee, d7, d6, d5⟩ := cc3 bg.out))
           have aI : Aside0 (Kd.R k68 68 (((w19.setCell ⟨a7, 0, none⟩ (.int .i64 ((so l1 x30_2).f0))).setCell ⟨a7, 1, none⟩ (.int .i64 ((so l1 x30_2).f1))).setCell ⟨a7, 2, none⟩ (.string ((so l1 x30_2).f2))) w.heap.size (fun _ => True) v522 gF) := ⟨by (with_reducible repeat (first | apply ac | apply ab | apply aa)); exact ag (ai (p := ⟨a7, 2, none⟩) (ai (p := ⟨a7, 1, none⟩) (ai (p := ⟨a7, 0, none⟩) (Kd.R_types aX.out bg.out (by decide)) (fun _ hk => hk.2) (.int .i64 ((so l1 x30_2).f0))) (fun _ hk => hk.2) (.int .i64 ((so l1 x30_2).f1))) (fun _ hk => hk.2) (.string ((so l1 x30_2).f2))) (fun _ hk => trivial)⟩
           have aJ : Aside0 (Kd.R k34 34 (((w19.setCell ⟨a7, 0, none⟩ (.int .i64 ((so l1 x30_2).f0))).setCell ⟨a7, 1, none⟩ (.int .i64 ((so l1 x30_2).f1))).setCell ⟨a7, 2, none⟩ (.string ((so l1 x30_2).f2))) w.heap.size (fun k_ => k_ ≠ a7) u9 x9_2) := ⟨by (with_reducible repeat (first | apply ac | apply ab | apply aa)); exact ag (ai (p := ⟨a7, 2, none⟩) (ai (p := ⟨a7, 1, none⟩) (ai (p := ⟨a7, 0, none⟩) (ag b7.out (fun k_ hk => (⟨hk, hk.2⟩ : _ ∧ k_ ≠ a7))) (fun _ hk => hk.2) (.int .i64 ((so l1 x30_2).f0))) (fun _ hk => hk.2) (.int .i64 ((so l1 x30_2).f1))) (fun _ hk => hk.2) (.string ((so l1 x30_2).f2))) (fun _ hk => hk.1.2)⟩
           have aK : Aside0 ((((w19.setCell ⟨a7, 0, none⟩ (.int .i64 ((so l1 x30_2).f0))).setCell ⟨a7, 1, none⟩ (.int .i64 ((so l1 x30_2).f1))).setCell ⟨a7, 2, none⟩ (.string ((so l1 x30_2).f2))).heap[a7]? = some (.cells #[.int .i64 ((so l1 x30_2).f0), .int .i64 ((so l1 x30_2).f1), .string ((so l1 x30_2).f2)] 34 (0, 0))) := ⟨by (with_reducible repeat (first | refine ak ?_ _ | refine aj ?_ | refine al ?_ _)); refine am (cs := #[.int .i64 ((so l1 x30_2).f0), .int .i64 ((so l1 x30_2).f1), .string ⟨#[]⟩]) ?_ 2 _ rfl; (with_reducible repeat (first | refine ak ?_ _ | refine aj ?_ | refine al ?_ _)); refine am (cs := #[.int .i64 ((so l1 x30_2).f0), .int .i64 0, .string ⟨#[]⟩]) ?_ 1 _ rfl; (with_reducible repeat (first | refine ak ?_ _ | refine aj ?_ | refine al ?_ _)); refine am (cs := #[.int .i64 0, .int .i64 0, .string ⟨#[]⟩]) ?_ 0 _ rfl; (with_reducible repeat (first | refine ak ?_ _ | refine aj ?_ | refine al ?_ _)); exact bg.out⟩
           have aN : Aside0 (Below w.heap.size w (((w19.setCell ⟨a7, 0, none⟩ (.int .i64 ((so l1 x30_2).f0))).setCell ⟨a7, 1, none⟩ (.int .i64 ((so l1 x30_2).f1))).setCell ⟨a7, 2, none⟩ (.string ((so l1 x30_2).f2)))) := ⟨zb_⟩
           (try clear aX)
           (try clear b7)
           (try clear bg)
           (try clear HB)
           generalize (((w19.setCell ⟨a7, 0, none⟩ (.int .i64 ((so l1 x30_2).f0))).setCell ⟨a7, 1, none⟩ (.int .i64 ((so l1 x30_2).f1))).setCell ⟨a7, 2, none⟩ (.string ((so l1 x30_2).f2))) = w21 at aI aJ aK aN ⊢
           have aX := aI
           have b7 := aJ
           have bg := aK
           have HB := aN
           clear aI aJ aK aN
           replace aX := aM (aa aX.out)
           replace b7 := aM (aa b7.out)
           replace bg := aM (aj bg.out)
           replace HB := aM (bD HB.out)
           obtain ⟨rf, qJ, eo23⟩ := Kd.R_slice aX.out
           (first | subst eo23 | (injection eo23 with f1_ f2_ f3_; have f4_ := f1_.symm; have f5_ := f3_.symm; clear f1_ f2_ f3_; subst f4_; subst f5_))
           refine start_ (n := 12) (S := fun w' => w'.cell? ⟨a7, 0, none⟩ = some (.int .i64 ((so l1 x30_2).f0)) ∧ w'.cell? ⟨a7, 1, none⟩ = some (.int .i64 ((so l1 x30_2).f1)) ∧ w'.cell? ⟨a7, 2, none⟩ = some (.string ((so l1 x30_2).f2))) (ds := [9, 11]) #[false, false, false, false, false, false, false, false, false, false, false, false] z0 rfl rfl ⟨(bC bg.out 0).trans rfl, (bC bg.out 1).trans rfl, (bC bg.out 2).trans rfl⟩ (fun hHeld => ?_); refine with_tabW impl_MoveMarks.tab9 impl_MoveMarks.bits9 (fun HT_ HW_ => ?_)
           generalize w21.drew = w22 at aX b7 bg HB hHeld ⊢
           refine pA 0 34 ?_
           refine pA 1 35 ?_
           refine pA 4 38 ?_
           refine pA 5 39 ?_
           refine t3_ 2 36 ?_
           refine t3_ 6 40 ?_
           refine one_ (i := 3) (N := some 37) #[true, true, true, true, true, true, true, false, false, false, false, false] rfl rfl (one_of HT_.out z0) (by decide) (fun K hK => ?_)
           refine goes_ Try.func21 z0 rfl #[.slice rf gF.length qJ, .int .i64 ((so l1 x30_2).f0), .bool true] (by rfl) rfl rfl z10 ?_
           with_reducible refine (impl_movePlace.calls k2 _ _ gF ((so l1 x30_2).f0) true eM _ ?side1 ?side2 rl.out).mono ?_
           (case side1 => exact y56)
           (case side2 => exact (ah aX.out).2.1)
           rintro e w24 ⟨rfl, hb⟩
           refine ⟨_, rfl, ?_⟩
           replace aX := aM (af z5 hb)
           replace b7 := aM (af (kR_ b7.out) hb)
           replace bg := aM (ae (g := a7) (o := .cells #[.int .i64 ((so l1 x30_2).f0), .int .i64 ((so l1 x30_2).f1), .string ((so l1 x30_2).f2)] 34 (0, 0)) (kB_ bg.out) hb)
           replace HB := aM (ap zb_ hb)
           (try clear hb)
           skip
           skip
           skip
           refine hK.out _ _ ⟨(bC bg.out 0).trans rfl, (bC bg.out 1).trans rfl, (bC bg.out 2).trans rfl⟩ (fun hHeld => ?_)
           clear hK K
           refine norm_ (a' := ?_) ?_ ?_
           rotate_left
           ·show Act.put _ (some 37) _ = _
            simp only [Act.put, sA, sB, sC, i64_w, i32_w]
            rfl
           refine pA 8 42 ?_
           refine one_ (i := 7) (N := some 41) #[true, true, true, true, true, true, true, true, true, false, false, false] rfl rfl (one_of HT_.out z0) (by decide) (fun K hK => ?_)
           refine goes_ Try.func21 z0 rfl #[.slice rf gF.length qJ, .int .i64 ((so l1 x30_2).f1), .bool false] (by rfl) rfl rfl z10 ?_
           with_reducible refine (impl_movePlace.calls k2 _ _ gF ((so l1 x30_2).f1) false eW _ ?side1 ?side2 nP.out).mono ?_
           (case side1 => exact y56)
           (case side2 => exact (ah aX.out).2.1)
           rintro e w25 ⟨rfl, hb⟩
           refine ⟨_, rfl, ?_⟩
           replace aX := aM (af z5 hb)
           replace b7 := aM (af (kR_ b7.out) hb)
           replace bg := aM (ae (g := a7) (o := .cells #[.int .i64 ((so l1 x30_2).f0), .int .i64 ((so l1 x30_2).f1), .string ((so l1 x30_2).f2)] 34 (0, 0)) (kB_ bg.out) hb)
           replace HB := aM (ap zb_ hb)
           (try clear hb)
           skip
           skip
           skip
           refine hK.out _ _ ⟨(bC bg.out 0).trans rfl, (bC bg.out 1).trans rfl, (bC bg.out 2).trans rfl⟩ (fun hHeld => ?_)
           clear hK K
           refine norm_ (a' := ?_) ?_ ?_
           rotate_left
           ·show Act.put _ (some 41) _ = _
            simp only [Act.put, sA, sB, sC, i64_w, i32_w]
            rfl
           refine last_ (i := 9) (N := none) #[true, true, true, true, true, true, true, true, true, true, false, false] rfl rfl (one_of HT_.out z0) (by decide) (fun K hK => ?_)
           have hs26 := (bC bg.out 0).trans rfl
           have hfs26 := bF bg.out 0
           refine skip_ (w1 := ?_) (by rfl) rfl ?_ ?_
           rotate_left
           ·go_simp
            rfl
           refine hK.out _ _ ?_
           clear hK K
           refine pA 10 43 ?_
           refine last_ (i := 11) (N := none) #[true, true, true, true, true, true, true, true, true, true, true, true] rfl rfl (one_of HT_.out z0) (by decide) (fun K hK => ?_)
           have hs27 : w25.cell? ⟨a7, 1, none⟩ = some (.int .i64 ((so l1 x30_2).f1)) := (bC bg.out 1).trans rfl
           have hfs27 := bF bg.out 1
           refine skip_ (w1 := ?_) (by rfl) rfl ?_ ?_
           rotate_left
           ·go_simp
            rfl
           refine hK.out _ _ ?_
           clear hK K
           refine done_ (done_of HT_.out z0) ?_
           obtain ⟨eH, eG, eF, ey, ex, ew⟩ := cc3 bg.out
           try go_wp2_with (first | ((with_reducible refine gate_builtin (b := .append) (xs := #[.tmp 49, .tmp 51]) rfl ?_); at_builtin; refine aE k34 (w0 := w) w.heap.size rfl (.tmp 49) (.tmp 51) 24 34 (.agg #[(.int .i64 0), (.int .i64 0), (.string ⟨#[]⟩)]) 32 rfl Try.underlying24 info34 rfl (by decide) (by omega) u9 x9_2 (⟨eM, eW, (so l1 x30_2).f2⟩ : S34) [.int .i64 eM, .int .i64 eW, .string ((so l1 x30_2).f2)] (fun k_ => k_ ≠ a7) (fun _ => False) rfl (by first | (go_simp; done) | (go_simp; rfl)) ?aP (fun _ hk => hk.elim) ?aF ?aO ?aB ?aS ?aL ?_; (case aP => exact k34_mkM _ _ _ (⟨eM, eW, (so l1 x30_2).f2⟩ : S34)); (case aB => exact zb_); (case aF => exact (fun k_ hk => Kd.freshB (g := a7) (o := .cells #[.int .i64 eM, .int .i64 eW, .string ((so l1 x30_2).f2)] 34 (0, 0)) (by (with_reducible repeat (first | refine ak ?_ _ | refine aj ?_ | refine al ?_ _)); refine am (cs := #[.int .i64 eM, .int .i64 ((so l1 x30_2).f1), .string ((so l1 x30_2).f2)]) ?_ 1 _ rfl; (with_reducible repeat (first | refine ak ?_ _ | refine aj ?_ | refine al ?_ _)); refine am (cs := #[.int .i64 ((so l1 x30_2).f0), .int .i64 ((so l1 x30_2).f1), .string ((so l1 x30_2).f2)]) ?_ 0 _ rfl; (with_reducible repeat (first | refine ak ?_ _ | refine aj ?_ | refine al ?_ _)); exact bg.out) k_ hk)); (case aO => exact (by (with_reducible repeat (first | apply ac | apply ab | apply aa)); exact ag (ai (p := ⟨a7, 1, none⟩) (ai (p := ⟨a7, 0, none⟩) (ag b7.out (fun k_ hk => (⟨hk, hk⟩ : _ ∧ k_ ≠ a7))) (fun _ hk => hk.2) (.int .i64 eM)) (fun _ hk => hk.2) (.int .i64 eW)) (fun _ hk => hk.1))); (case aS => exact (aq zb_)); (case aL => have := LMc18.out; omega); intro v536 w29 ho hb hg hat; rw [← Ny535.out] at ho; replace aX := aM (Kd.R_over' (by (with_reducible repeat (first | apply ac | apply ab | apply aa)); exact (ag (ai (p := ⟨a7, 1, none⟩) (ai (p := ⟨a7, 0, none⟩) (Kd.R_types aX.out bg.out (by decide)) (fun _ hk => hk.2) (.int .i64 eM)) (fun _ hk => hk.2) (.int .i64 eW)) (fun _ h_ => h_.1))) (Kd.R_typed (by (with_reducible repeat (first | apply ac | apply ab | apply aa)); exact (ag (ai (p := ⟨a7, 1, none⟩) (ai (p := ⟨a7, 0, none⟩) (ag b7.out (fun k_ hk => (⟨hk, hk⟩ : _ ∧ k_ ≠ a7))) (fun _ hk => hk.2) (.int .i64 eM)) (fun _ hk => hk.2) (.int .i64 eW)) (fun _ h_ => h_.1)))) (by decide) hg); replace bg := aM (blk_grown (g := a7) (o := .cells #[.int .i64 eM, .int .i64 eW, .string ((so l1 x30_2).f2)] 34 (0, 0)) (by (with_reducible repeat (first | refine ak ?_ _ | refine aj ?_ | refine al ?_ _)); refine am (cs := #[.int .i64 eM, .int .i64 ((so l1 x30_2).f1), .string ((so l1 x30_2).f2)]) ?_ 1 _ rfl; (with_reducible repeat (first | refine ak ?_ _ | refine aj ?_ | refine al ?_ _)); refine am (cs := #[.int .i64 ((so l1 x30_2).f0), .int .i64 ((so l1 x30_2).f1), .string ((so l1 x30_2).f2)]) ?_ 0 _ rfl; (with_reducible repeat (first | refine ak ?_ _ | refine aj ?_ | refine al ?_ _)); exact bg.out) hg (Kd.R_away b7.out (fun _ hk => hk))); replace HB := aM hb; have HO537 := aM (ho); clear b7; clear ho hb hg hat))
           go_roundg k2
           case measure => have := jh.out; have := HK2.out; omega
           case rel => exact ⟨(y535), (wrap64 (x30_2 + 1)), z1, H', ⟨by have := jh.out; have := HK2.out; omega⟩, ⟨y8⟩, ⟨kM_ HO537.out (fun _ hk => trivial)⟩, ⟨zb_⟩⟩
          ·rw [if_neg cJ] at H
           exact absurd H (by simp)
         ·rw [if_neg cA] at H
          have c17b0 : decide (eM < eW) = false := dF cA
          clear cA
          have H' := aM H
          clear H
          have p531 : 0 ≤ (x30_2 : Int) := oD z2
          have q531 : x30_2 < (l1.length : Int) := oD z2
          obtain ⟨ad531, e531, hx531_0, hx531_1, hx531_2⟩ := at_T34 lp.out x30_2 p531 q531
          cases e531
          replace hx531_0 := hC_ HB.out hx531_0
          replace hx531_1 := hC_ HB.out hx531_1
          replace hx531_2 := hC_ HB.out hx531_2
          replace p531 := eq_true p531
          replace q531 := eq_true q531
          try go_wp2_with (first | ((with_reducible refine ay (N := 11) rfl ?_); refine bE_ (N := 11) (cs := #[.int .i64 0, .int .i64 0, .string ⟨#[]⟩]) (t := 34) (h := ?_); intro a7 hg w30 hbox hb; replace aX := aM (af z5 hb); replace b7 := aM (af (Kd.R_elderB (kR_ b7.out) a7 (Nat.le_of_eq hg.symm)) hb); have bg := aM (hbox); have GW532 := aM ((zg_ : w.heap.size ≤ a7)); have f4 := aM ((zg_ : w.heap.size ≤ a7)); replace HB := aM (ap z9 hb); clear hb hbox hg; obtain ⟨gz, gy, gx, gl, gj, gi⟩ := cc3 bg.out))
          have aI : Aside0 (Kd.R k68 68 (((w30.setCell ⟨a7, 0, none⟩ (.int .i64 ((so l1 x30_2).f0))).setCell ⟨a7, 1, none⟩ (.int .i64 ((so l1 x30_2).f1))).setCell ⟨a7, 2, none⟩ (.string ((so l1 x30_2).f2))) w.heap.size (fun _ => True) v522 gF) := ⟨by (with_reducible repeat (first | apply ac | apply ab | apply aa)); exact ag (ai (p := ⟨a7, 2, none⟩) (ai (p := ⟨a7, 1, none⟩) (ai (p := ⟨a7, 0, none⟩) (Kd.R_types aX.out bg.out (by decide)) (fun _ hk => hk.2) (.int .i64 ((so l1 x30_2).f0))) (fun _ hk => hk.2) (.int .i64 ((so l1 x30_2).f1))) (fun _ hk => hk.2) (.string ((so l1 x30_2).f2))) (fun _ hk => trivial)⟩
          have aJ : Aside0 (Kd.R k34 34 (((w30.setCell ⟨a7, 0, none⟩ (.int .i64 ((so l1 x30_2).f0))).setCell ⟨a7, 1, none⟩ (.int .i64 ((so l1 x30_2).f1))).setCell ⟨a7, 2, none⟩ (.string ((so l1 x30_2).f2))) w.heap.size (fun k_ => k_ ≠ a7) u9 x9_2) := ⟨by (with_reducible repeat (first | apply ac | apply ab | apply aa)); exact ag (ai (p := ⟨a7, 2, none⟩) (ai (p := ⟨a7, 1, none⟩) (ai (p := ⟨a7, 0, none⟩) (ag b7.out (fun k_ hk => (⟨hk, hk.2⟩ : _ ∧ k_ ≠ a7))) (fun _ hk => hk.2) (.int .i64 ((so l1 x30_2).f0))) (fun _ hk => hk.2) (.int .i64 ((so l1 x30_2).f1))) (fun _ hk => hk.2) (.string ((so l1 x30_2).f2))) (fun _ hk => hk.1.2)⟩
          have aK : Aside0 ((((w30.setCell ⟨a7, 0, none⟩ (.int .i64 ((so l1 x30_2).f0))).setCell ⟨a7, 1, none⟩ (.int .i64 ((so l1 x30_2).f1))).setCell ⟨a7, 2, none⟩ (.string ((so l1 x30_2).f2))).heap[a7]? = some (.cells #[.int .i64 ((so l1 x30_2).f0), .int .i64 ((so l1 x30_2).f1), .string ((so l1 x30_2).f2)] 34 (0, 0))) := ⟨by (with_reducible repeat (first | refine ak ?_ _ | refine aj ?_ | refine al ?_ _)); refine am (cs := #[.int .i64 ((so l1 x30_2).f0), .int .i64 ((so l1 x30_2).f1), .string ⟨#[]⟩]) ?_ 2 _ rfl; (with_reducible repeat (first | refine ak ?_ _ | refine aj ?_ | refine al ?_ _)); refine am (cs := #[.int .i64 ((so l1 x30_2).f0), .int .i64 0, .string ⟨#[]⟩]) ?_ 1 _ rfl; (with_reducible repeat (first | refine ak ?_ _ | refine aj ?_ | refine al ?_ _)); refine am (cs := #[.int .i64 0, .int .i64 0, .string ⟨#[]⟩]) ?_ 0 _ rfl; (with_reducible repeat (first | refine ak ?_ _ | refine aj ?_ | refine al ?_ _)); exact bg.out⟩
          have aN : Aside0 (Below w.heap.size w (((w30.setCell ⟨a7, 0, none⟩ (.int .i64 ((so l1 x30_2).f0))).setCell ⟨a7, 1, none⟩ (.int .i64 ((so l1 x30_2).f1))).setCell ⟨a7, 2, none⟩ (.string ((so l1 x30_2).f2)))) := ⟨zb_⟩
          (try clear aX)
          (try clear b7)
          (try clear bg)
          (try clear HB)
          generalize (((w30.setCell ⟨a7, 0, none⟩ (.int .i64 ((so l1 x30_2).f0))).setCell ⟨a7, 1, none⟩ (.int .i64 ((so l1 x30_2).f1))).setCell ⟨a7, 2, none⟩ (.string ((so l1 x30_2).f2))) = w32 at aI aJ aK aN ⊢
          have aX := aI
          have b7 := aJ
          have bg := aK
          have HB := aN
          clear aI aJ aK aN
          replace aX := aM (aa aX.out)
          replace b7 := aM (aa b7.out)
          replace bg := aM (aj bg.out)
          replace HB := aM (bD HB.out)
          obtain ⟨pI, oI, eo34⟩ := Kd.R_slice aX.out
          (first | subst eo34 | (injection eo34 with f1_ f2_ f3_; have f4_ := f1_.symm; have f5_ := f3_.symm; clear f1_ f2_ f3_; subst f4_; subst f5_))
          refine start_ (n := 12) (S := fun w' => w'.cell? ⟨a7, 0, none⟩ = some (.int .i64 ((so l1 x30_2).f0)) ∧ w'.cell? ⟨a7, 1, none⟩ = some (.int .i64 ((so l1 x30_2).f1)) ∧ w'.cell? ⟨a7, 2, none⟩ = some (.string ((so l1 x30_2).f2))) (ds := [9, 11]) #[false, false, false, false, false, false, false, false, false, false, false, false] z0 rfl rfl ⟨(bC bg.out 0).trans rfl, (bC bg.out 1).trans rfl, (bC bg.out 2).trans rfl⟩ (fun hHeld => ?_); refine with_tabW impl_MoveMarks.tab9 impl_MoveMarks.bits9 (fun HT_ HW_ => ?_)
          generalize w32.drew = w33 at aX b7 bg HB hHeld ⊢
          refine pA 0 34 ?_
          refine pA 1 35 ?_
          refine pA 4 38 ?_
          refine pA 5 39 ?_
          refine t3_ 2 36 ?_
          refine t3_ 6 40 ?_
          refine one_ (i := 3) (N := some 37) #[true, true, true, true, true, true, true, false, false, false, false, false] rfl rfl (one_of HT_.out z0) (by decide) (fun K hK => ?_)
          refine goes_ Try.func21 z0 rfl #[.slice pI gF.length oI, .int .i64 ((so l1 x30_2).f0), .bool true] (by rfl) rfl rfl z10 ?_
          with_reducible refine (impl_movePlace.calls k2 _ _ gF ((so l1 x30_2).f0) true eM _ ?side1 ?side2 rl.out).mono ?_
          (case side1 => exact y56)
          (case side2 => exact (ah aX.out).2.1)
          rintro e w35 ⟨rfl, hb⟩
          refine ⟨_, rfl, ?_⟩
          replace aX := aM (af z5 hb)
          replace b7 := aM (af (kR_ b7.out) hb)
          replace bg := aM (ae (g := a7) (o := .cells #[.int .i64 ((so l1 x30_2).f0), .int .i64 ((so l1 x30_2).f1), .string ((so l1 x30_2).f2)] 34 (0, 0)) (kB_ bg.out) hb)
          replace HB := aM (ap zb_ hb)
          (try clear hb)
          skip
          skip
          skip
          refine hK.out _ _ ⟨(bC bg.out 0).trans rfl, (bC bg.out 1).trans rfl, (bC bg.out 2).trans rfl⟩ (fun hHeld => ?_)
          clear hK K
          refine norm_ (a' := ?_) ?_ ?_
          rotate_left
          ·show Act.put _ (some 37) _ = _
           simp only [Act.put, sA, sB, sC, i64_w, i32_w]
           rfl
          refine pA 8 42 ?_
          refine one_ (i := 7) (N := some 41) #[true, true, true, true, true, true, true, true, true, false, false, false] rfl rfl (one_of HT_.out z0) (by decide) (fun K hK => ?_)
          refine goes_ Try.func21 z0 rfl #[.slice pI gF.length oI, .int .i64 ((so l1 x30_2).f1), .bool false] (by rfl) rfl rfl z10 ?_
          with_reducible refine (impl_movePlace.calls k2 _ _ gF ((so l1 x30_2).f1) false eW _ ?side1 ?side2 nP.out).mono ?_
          (case side1 => exact y56)
          (case side2 => exact (ah aX.out).2.1)
          rintro e w36 ⟨rfl, hb⟩
          refine ⟨_, rfl, ?_⟩
          replace aX := aM (af z5 hb)
          replace b7 := aM (af (kR_ b7.out) hb)
          replace bg := aM (ae (g := a7) (o := .cells #[.int .i64 ((so l1 x30_2).f0), .int .i64 ((so l1 x30_2).f1), .string ((so l1 x30_2).f2)] 34 (0, 0)) (kB_ bg.out) hb)
          replace HB := aM (ap zb_ hb)
          (try clear hb)
          skip
          skip
          skip
          refine hK.out _ _ ⟨(bC bg.out 0).trans rfl, (bC bg.out 1).trans rfl, (bC bg.out 2).trans rfl⟩ (fun hHeld => ?_)
          clear hK K
          refine norm_ (a' := ?_) ?_ ?_
          rotate_left
          ·show Act.put _ (some 41) _ = _
           simp only [Act.put, sA, sB, sC, i64_w, i32_w]
           rfl
          refine last_ (i := 9) (N := none) #[true, true, true, true, true, true, true, true, true, true, false, false] rfl rfl (one_of HT_.out z0) (by decide) (fun K hK => ?_)
          have hs37 := (bC bg.out 0).trans rfl
          have hfs37 := bF bg.out 0
          refine skip_ (w1 := ?_) (by rfl) rfl ?_ ?_
          rotate_left
          ·go_simp
           rfl
          refine hK.out _ _ ?_
          clear hK K
          refine pA 10 43 ?_
          refine last_ (i := 11) (N := none) #[true, true, true, true, true, true, true, true, true, true, true, true] rfl rfl (one_of HT_.out z0) (by decide) (fun K hK => ?_)
          have hs38 : w36.cell? ⟨a7, 1, none⟩ = some (.int .i64 ((so l1 x30_2).f1)) := (bC bg.out 1).trans rfl
          have hfs38 := bF bg.out 1
          refine skip_ (w1 := ?_) (by rfl) rfl ?_ ?_
          rotate_left
          ·go_simp
           rfl
          refine hK.out _ _ ?_
          clear hK K
          refine done_ (done_of HT_.out z0) ?_
          obtain ⟨cU, cT, cS, cR, cQ, cP⟩ := cc3 bg.out
          try go_wp2
          go_roundg k2
          case measure => have := jh.out; have := HK2.out; omega
          case rel => exact ⟨(x9_2), (wrap64 (x30_2 + 1)), z1, H', ⟨by have := jh.out; have := HK2.out; omega⟩, ⟨by (with_reducible repeat (first | apply ac | apply ab | apply aa)); exact ag (ai (p := ⟨a7, 1, none⟩) (ai (p := ⟨a7, 0, none⟩) (Kd.R_types aX.out bg.out (by decide)) (fun _ hk => hk.2) (.int .i64 eM)) (fun _ hk => hk.2) (.int .i64 eW)) (fun _ hk => trivial)⟩, ⟨by (with_reducible repeat (first | apply ac | apply ab | apply aa)); exact ag (ai (p := ⟨a7, 1, none⟩) (ai (p := ⟨a7, 0, none⟩) (ag b7.out (fun k_ hk => (⟨hk, hk⟩ : _ ∧ k_ ≠ a7))) (fun _ hk => hk.2) (.int .i64 eM)) (fun _ hk => hk.2) (.int .i64 eW)) (fun _ hk => trivial)⟩, ⟨zb_⟩⟩
        ·rw [if_neg cO] at H
         exact absurd H (by simp)
       ·rw [if_neg bU] at H
        exact absurd H (by simp)
      ·rw [if_neg bT] at H
       have c12b0 : decide (x30_2 < (l1.length : Int)) = false := dF bT
       clear bT
       obtain ⟨l5, gJ, H⟩ := oA_ H
       try dsimp only at H
       obtain ⟨⟨t527, t530⟩, A41, H⟩ := oA_ H
       try dsimp only at H
       simp only [Option.some.injEq, Prod.mk.injEq] at H
       obtain ⟨rfl, rfl⟩ := H
       obtain ⟨rb, oH, eo42⟩ := Kd.R_slice b7.out
       subst eo42
       go_wp2_with (first | ((with_reducible refine ax (f := 23) rfl ?_); refine aC (some 55) rfl rfl Try.func23 z0 rfl #[.slice rb x9_2.length oH] rfl z10 ?_; (with_reducible refine (impl_joined.calls k2 _ _ x9_2 l5 _ ?side1 ?side2 gJ.out).mono ?_); (case side1 => repeat (first | exact (ah b7.out).2.2 | (with_reducible refine au ?_ _) | (with_reducible refine av ?_ _) | (with_reducible refine aw ?_))); (case side2 => exact (ah b7.out).2.1); rintro e w43 ⟨v525, rfl, ho0, hb⟩; refine ⟨_, rfl, ?_⟩; replace aX := aM (af z5 hb); have nf := aM (aD (Kd.R_new' ho0 (Kd.R_lt (kR_ b7.out))) (aq z9)); replace b7 := aM (Kd.R_elder' (kR_ b7.out) (Kd.R_base ho0) hb); replace HB := aM (ap z9 hb); (try clear hb); (try clear ho0); obtain ⟨mi, l9, eo44⟩ := Kd.R_slice nf.out; subst eo44) | ((with_reducible refine ax (f := 22) rfl ?_); refine aC (some 57) rfl rfl Try.func22 z0 rfl #[.slice mi l5.length l9, .int .i64 nq] rfl z10 ?_; (with_reducible refine (impl_goodMarks.calls k2 (fun k_ => some k_ = (.slice mi l5.length l9 : Value).ownBlock) (.slice mi l5.length l9) l5 nq t527 t530 w _ ?side1 ?side2 A41.out).mono ?_); (case side1 => exact y52); (case side2 => exact Kd.R_tight rfl nf.out); rintro e w45 ⟨v528, rfl, ho0, hb, hkp⟩; refine ⟨_, rfl, ?_⟩; replace aX := aM (ag (ok' := fun k_ => True) (Kd.R_keptB ((Kd.R_apart' aX.out (Kd.R_typed nf.out) (by decide))) hkp (fun k_ hk_ hs_ => (hk_.2) hs_)) (fun k_ hk_ => trivial)); have HO529 := aM (ag (ok' := fun k_ => some k_ ≠ (.slice rb x9_2.length oH : Value).ownBlock) ho0 (fun k_ hk_ => Or.elim hk_ (fun hs_ => fun e_ => (((b7.out).1 k_ e_.symm).2) hs_) (fun hn_ => (Kd.fresh' (Kd.R_lt (kR_ b7.out)) k_ hn_)))); replace b7 := aM (ag (ok' := fun k_ => some k_ ≠ (v528 : Value).ownBlock) (Kd.R_keptB (b7.out) hkp (fun k_ hk_ hs_ => (hk_.2) hs_)) (fun k_ hk_ => fun e_ => Or.elim (ho0.1 k_ e_.symm) (fun hs_ => hk_.2.1 hs_) (fun hn_ => Nat.not_le.2 hk_.2.2 hn_))); replace HB := aM hb; clear nf; (try clear hb); (try clear hkp); (try clear ho0)))
       go_ret2
       exact ⟨_, y5, by (with_reducible repeat (first | apply ac | apply ab | apply aa)); exact ag HO529.out (fun _ hk => trivial), y6⟩

/-! ### spec_l3Part: function 45 -/
def spec_l3Part.f (k : Nat) (a0_0 : Int) (a0_1 : ByteArray) (a0_2 : ByteArray) : Option (Bool) := if a0_0 = 0 then (if a0_1.toList = ([] : List UInt8) then (if a0_2.toList = ([] : List UInt8) then (some false) else ((spec_GoodText.f k a0_2).bind fun n9 => (some n9))) else (if a0_2.toList = ([] : List UInt8) then ((spec_GoodText.f k a0_1).bind fun n8 => (some n8)) else (some false))) else ((spec_l1In.f a0_0 1 300).bind fun n7 => (if n7 = true then (if a0_1.toList = ([] : List UInt8) then (some (a0_2.toList == ([] : List UInt8))) else (some false)) else (some false)))
theorem spec_l3Part.mono : ∀ a0 a1 a2 k, LeO (spec_l3Part.f k a0 a1 a2) (spec_l3Part.f (k + 1) a0 a1 a2) := by
 intro a0 a1 a2 k
 unfold spec_l3Part.f
 with_reducible repeat' first | exact spec_GoodText.mono _ _ | exact lR_ _ | exact lN_ _ | refine lI_ ?_ ?_ | refine lB_ ?_ fun _ => ?_
theorem spec_l3Part.calls (k : Nat) (a0_0 : Int) (a0_1 : ByteArray) (a0_2 : ByteArray) (r : Bool) (w : World) (h : spec_l3Part.f k a0_0 a0_1 a0_2 = some r) :
  Calls Try.prog 45 #[.agg #[.int .i64 a0_0, .string a0_1, .string a0_2]] w fun e w' => e = .returned (.bool r) ∧ Below w.heap.size w w' := by
 have hu68 := Try.underlying68
 have HB := aM (Below.refl w.heap.size w)
 have H : (if a0_0 = 0 then (if a0_1.toList = ([] : List UInt8) then (if a0_2.toList = ([] : List UInt8) then (some false) else ((spec_GoodText.f k a0_2).bind fun n9 => (some n9))) else (if a0_2.toList = ([] : List UInt8) then ((spec_GoodText.f k a0_1).bind fun n8 => (some n8)) else (some false))) else ((spec_l1In.f a0_0 1 300).bind fun n7 => (if n7 = true then (if a0_1.toList = ([] : List UInt8) then (some (a0_2.toList == ([] : List UInt8))) else (some false)) else (some false)))) = some r := h
 clear h
 by_cases c2 : a0_0 = 0
 ·rw [if_pos c2] at H
  have c2b0 : (a0_0 == 0) = true := qT c2
  have c2b1 : (a0_0 != 0) = false := nF c2
  clear c2
  by_cases c3 : a0_1.toList = ([] : List UInt8)
  ·rw [if_pos c3] at H
   have c3b0 : (a0_1.toList == ([] : List UInt8)) = true := qT c3
   have c3b1 : (a0_1.toList != ([] : List UInt8)) = false := nF c3
   have c3b8 : (!a0_1.toList.isEmpty) = false := by have h_ := c3b1; revert h_; cases a0_1.toList <;> simp
   clear c3
   by_cases c4 : a0_2.toList = ([] : List UInt8)
   ·rw [if_pos c4] at H
    have c4b0 : (a0_2.toList == ([] : List UInt8)) = true := qT c4
    have c4b1 : (a0_2.toList != ([] : List UInt8)) = false := nF c4
    have c4b8 : (!a0_2.toList.isEmpty) = false := by have h_ := c4b1; revert h_; cases a0_2.toList <;> simp
    clear c4
    obtain rfl := sI H
    go_enter Try.func45, Try.ntmps45
    go_wp2_with (first | ((with_reducible refine ay (N := 1) rfl ?_); refine bE_ (N := 1) (cs := #[.int .i64 a0_0, .string a0_1, .string a0_2]) (t := 68) (h := ?_); intro bS hg w5 hbox hb; have bI := aM (hbox); have ko := aM ((zg_ : w.heap.size ≤ bS)); have kp := aM ((zg_ : w.heap.size ≤ bS)); replace HB := aM (ap z9 hb); clear hb hbox hg; obtain ⟨kW, kV, kU, l8, kF, kE⟩ := cc3 bI.out))
    all_goals (try (exfalso; rename_i h_; rw [c3b0] at h_; cases h_; done))
    all_goals (try (exfalso; rename_i h_; rw [c4b0] at h_; cases h_; done))
    go_ret
    exact ⟨y5, y20⟩
   ·rw [if_neg c4] at H
    have c4b0 : (a0_2.toList == ([] : List UInt8)) = false := qF c4
    have c4b1 : (a0_2.toList != ([] : List UInt8)) = true := nT c4
    have c4b8 : (!a0_2.toList.isEmpty) = true := by have h_ := c4b1; revert h_; cases a0_2.toList <;> simp
    obtain ⟨n9, A7, H⟩ := oA_ H
    try dsimp only at H
    obtain rfl := sI H
    go_enter Try.func45, Try.ntmps45
    go_wp2_with (first | ((with_reducible refine ay (N := 1) rfl ?_); refine bE_ (N := 1) (cs := #[.int .i64 a0_0, .string a0_1, .string a0_2]) (t := 68) (h := ?_); intro bS hg w8 hbox hb; have bI := aM (hbox); have ko := aM ((zg_ : w.heap.size ≤ bS)); have kp := aM ((zg_ : w.heap.size ≤ bS)); replace HB := aM (ap z9 hb); clear hb hbox hg; obtain ⟨dc, db, da, dh, cZ, cY⟩ := cc3 bI.out) | (go_at_call 52; (with_reducible refine (spec_GoodText.calls k a0_2 n9 _ A7.out).mono ?_); rintro e w' ⟨rfl, ⟨nd, rfl⟩⟩))
    all_goals (try (exfalso; rename_i h_; rw [c3b0] at h_; cases h_; done))
    all_goals (try (exfalso; rename_i h_; rw [c4b0] at h_; cases h_; done))
    go_ret
    exact ⟨y5, y20⟩
  ·rw [if_neg c3] at H
   have c3b0 : (a0_1.toList == ([] : List UInt8)) = false := qF c3
   have c3b1 : (a0_1.toList != ([] : List UInt8)) = true := nT c3
   have c3b8 : (!a0_1.toList.isEmpty) = true := by have h_ := c3b1; revert h_; cases a0_1.toList <;> simp
   by_cases cq : a0_2.toList = ([] : List UInt8)
   ·rw [if_pos cq] at H
    have c10b0 : (a0_2.toList == ([] : List UInt8)) = true := qT cq
    have c10b1 : (a0_2.toList != ([] : List UInt8)) = false := nF cq
    have c10b8 : (!a0_2.toList.isEmpty) = false := by have h_ := c10b1; revert h_; cases a0_2.toList <;> simp
    clear cq
    obtain ⟨n8, pJ, H⟩ := oA_ H
    try dsimp only at H
    obtain rfl := sI H
    go_enter Try.func45, Try.ntmps45
    go_wp2_with (first | ((with_reducible refine ay (N := 1) rfl ?_); refine bE_ (N := 1) (cs := #[.int .i64 a0_0, .string a0_1, .string a0_2]) (t := 68) (h := ?_); intro bS hg w12 hbox hb; have bI := aM (hbox); have ko := aM ((zg_ : w.heap.size ≤ bS)); have kp := aM ((zg_ : w.heap.size ≤ bS)); replace HB := aM (ap z9 hb); clear hb hbox hg; obtain ⟨il, ik, ij, hV, hU, hP⟩ := cc3 bI.out) | (go_at_call 52; (with_reducible refine (spec_GoodText.calls k a0_1 n8 _ pJ.out).mono ?_); rintro e w' ⟨rfl, ⟨nd, rfl⟩⟩))
    all_goals (try (exfalso; rename_i h_; rw [c3b0] at h_; cases h_; done))
    all_goals (try (exfalso; rename_i h_; rw [c10b0] at h_; cases h_; done))
    go_ret
    exact ⟨y5, y20⟩
   ·rw [if_neg cq] at H
    have c10b0 : (a0_2.toList == ([] : List UInt8)) = false := qF cq
    have c10b1 : (a0_2.toList != ([] : List UInt8)) = true := nT cq
    have c10b8 : (!a0_2.toList.isEmpty) = true := by have h_ := c10b1; revert h_; cases a0_2.toList <;> simp
    obtain rfl := sI H
    go_enter Try.func45, Try.ntmps45
    go_wp2_with (first | ((with_reducible refine ay (N := 1) rfl ?_); refine bE_ (N := 1) (cs := #[.int .i64 a0_0, .string a0_1, .string a0_2]) (t := 68) (h := ?_); intro bS hg w14 hbox hb; have bI := aM (hbox); have ko := aM ((zg_ : w.heap.size ≤ bS)); have kp := aM ((zg_ : w.heap.size ≤ bS)); replace HB := aM (ap z9 hb); clear hb hbox hg; obtain ⟨ii, ig, ie, hO, hL, hJ⟩ := cc3 bI.out))
    all_goals (try (exfalso; rename_i h_; rw [c3b0] at h_; cases h_; done))
    all_goals (try (exfalso; rename_i h_; rw [c10b0] at h_; cases h_; done))
    go_ret
    exact ⟨y5, y20⟩
 ·rw [if_neg c2] at H
  have c2b0 : (a0_0 == 0) = false := qF c2
  have c2b1 : (a0_0 != 0) = true := nT c2
  obtain ⟨n7, nP, H⟩ := oA_ H
  try dsimp only at H
  by_cases cA : n7 = true
  ·subst cA
   rw [if_pos rfl] at H
   by_cases cJ : a0_1.toList = ([] : List UInt8)
   ·rw [if_pos cJ] at H
    have c18b0 : (a0_1.toList == ([] : List UInt8)) = true := qT cJ
    have c18b1 : (a0_1.toList != ([] : List UInt8)) = false := nF cJ
    have c18b8 : (!a0_1.toList.isEmpty) = false := by have h_ := c18b1; revert h_; cases a0_1.toList <;> simp
    clear cJ
    obtain rfl := sI H
    go_enter Try.func45, Try.ntmps45
    go_wp2_with (first | ((with_reducible refine ay (N := 1) rfl ?_); refine bE_ (N := 1) (cs := #[.int .i64 a0_0, .string a0_1, .string a0_2]) (t := 68) (h := ?_); intro bS hg w19 hbox hb; have bI := aM (hbox); have ko := aM ((zg_ : w.heap.size ≤ bS)); have kp := aM ((zg_ : w.heap.size ≤ bS)); replace HB := aM (ap z9 hb); clear hb hbox hg; obtain ⟨eg, ef, ee, d7, d6, d5⟩ := cc3 bI.out) | ((with_reducible refine ax (f := 46) rfl ?_); refine aC (some 9) rfl rfl Try.func46 z0 rfl #[.int .i64 a0_0, .int .i64 1, .int .i64 300] rfl z10 ?_; (with_reducible refine (spec_l1In.calls a0_0 1 300 true _ nP.out).mono ?_); rintro e w' ⟨rfl, ⟨nd, rfl⟩⟩; refine ⟨_, rfl, ?_⟩))
    all_goals (try (exfalso; rename_i h_; rw [c18b0] at h_; cases h_; done))
    go_ret
    exact ⟨y5, y20⟩
   ·rw [if_neg cJ] at H
    have c18b0 : (a0_1.toList == ([] : List UInt8)) = false := qF cJ
    have c18b1 : (a0_1.toList != ([] : List UInt8)) = true := nT cJ
    have c18b8 : (!a0_1.toList.isEmpty) = true := by have h_ := c18b1; revert h_; cases a0_1.toList <;> simp
    obtain rfl := sI H
    go_enter Try.func45, Try.ntmps45
    go_wp2_with (first | ((with_reducible refine ay (N := 1) rfl ?_); refine bE_ (N := 1) (cs := #[.int .i64 a0_0, .string a0_1, .string a0_2]) (t := 68) (h := ?_); intro bS hg w21 hbox hb; have bI := aM (hbox); have ko := aM ((zg_ : w.heap.size ≤ bS)); have kp := aM ((zg_ : w.heap.size ≤ bS)); replace HB := aM (ap z9 hb); clear hb hbox hg; obtain ⟨dN, dM, dL, dK, dJ, dI⟩ := cc3 bI.out) | ((with_reducible refine ax (f := 46) rfl ?_); refine aC (some 9) rfl rfl Try.func46 z0 rfl #[.int .i64 a0_0, .int .i64 1, .int .i64 300] rfl z10 ?_; (with_reducible refine (spec_l1In.calls a0_0 1 300 true _ nP.out).mono ?_); rintro e w' ⟨rfl, ⟨nd, rfl⟩⟩; refine ⟨_, rfl, ?_⟩))
    all_goals (try (exfalso; rename_i h_; rw [c18b0] at h_; cases h_; done))
    go_ret
    exact ⟨y5, y20⟩
  ·replace cA := Bool.eq_false_iff.mpr cA
   subst cA
   rw [if_neg nF_] at H
   obtain rfl := sI H
   go_enter Try.func45, Try.ntmps45
   go_wp2_with (first | ((with_reducible refine ay (N := 1) rfl ?_); refine bE_ (N := 1) (cs := #[.int .i64 a0_0, .string a0_1, .string a0_2]) (t := 68) (h := ?_); intro bS hg w23 hbox hb; have bI := aM (hbox); have ko := aM ((zg_ : w.heap.size ≤ bS)); have kp := aM ((zg_ : w.heap.size ≤ bS)); replace HB := aM (ap z9 hb); clear hb hbox hg; obtain ⟨fp, fo, fm, e9, e8, e7⟩ := cc3 bI.out) | ((with_reducible refine ax (f := 46) rfl ?_); refine aC (some 9) rfl rfl Try.func46 z0 rfl #[.int .i64 a0_0, .int .i64 1, .int .i64 300] rfl z10 ?_; (with_reducible refine (spec_l1In.calls a0_0 1 300 false _ nP.out).mono ?_); rintro e w' ⟨rfl, ⟨nd, rfl⟩⟩; refine ⟨_, rfl, ?_⟩))
   go_ret
   exact ⟨y5, y20⟩

/-! ### spec_GoodOp: function 24 -/
def spec_GoodOp.l0 : Nat → List (S68) → List (S68) → Int → Int → Option (Bool)
 | 0, _, _, _, _ => none
 | k + 1, x0, x10, x11, x12 => if x12 < x11 then (if 0 ≤ x12 then (if x12 < (x10.length : Int) then ((spec_l3Part.f k ((sp x10 x12).f0) ((sp x10 x12).f1) ((sp x10 x12).f2)).bind fun qh => (if qh = true then (spec_GoodOp.l0 k x0 x10 x11 (wrap64 (x12 + 1))) else (some false))) else (none)) else (none)) else ((spec_l3Sizes.f k x0).bind fun pP => (if pP.1 ≤ 300 then (some (decide (pP.2 ≤ 300))) else (some false)))
def spec_GoodOp.f (k : Nat) (l0 : List (S68)) : Option (Bool) := if (l0.length : Int) > 60 then (some false) else (spec_GoodOp.l0 k l0 l0 (l0.length : Int) 0)
theorem spec_GoodOp.mono_l : ∀ k, (∀ y0 y1 y2 y3, LeO (spec_GoodOp.l0 k y0 y1 y2 y3) (spec_GoodOp.l0 (k + 1) y0 y1 y2 y3))
 | 0 => fun _ _ _ _ r h => by simp [spec_GoodOp.l0] at h
 | k + 1 => by
  have ih0 := spec_GoodOp.mono_l k
  ·intro y0 y1 y2 y3
   unfold spec_GoodOp.l0
   with_reducible repeat' first | exact ih0 _ _ _ _ | exact spec_l3Part.mono _ _ _ _ | exact spec_l3Sizes.mono _ _ | exact lR_ _ | exact lN_ _ | refine lI_ ?_ ?_ | refine lB_ ?_ fun _ => ?_
theorem spec_GoodOp.mono : ∀ a0 k, LeO (spec_GoodOp.f k a0) (spec_GoodOp.f (k + 1) a0) := by
 intro a0 k
 have ih0 := spec_GoodOp.mono_l k
 unfold spec_GoodOp.f
 with_reducible repeat' first | exact ih0 _ _ _ _ | exact spec_l3Part.mono _ _ _ _ | exact spec_l3Sizes.mono _ _ | exact lR_ _ | exact lN_ _ | refine lI_ ?_ ?_ | refine lB_ ?_ fun _ => ?_
theorem spec_GoodOp.calls (k : Nat) (A0 : Option Addr) (c0 : Nat) (l0 : List (S68)) (r : Bool) (w : World) (hr0 : Kd.C k68 w A0 l0.length l0) (hc0 : l0.length ≤ c0) (h : spec_GoodOp.f k l0 = some r) :
  Calls Try.prog 24 #[.slice A0 l0.length c0] w fun e w' => e = .returned (.bool r) ∧ Below w.heap.size w w' := by
 have hu68 := Try.underlying68
 have bH := aM hr0
 have cH := aM hc0
 clear hr0 hc0
 have HB := aM (Below.refl w.heap.size w)
 have H : (if (l0.length : Int) > 60 then (some false) else (spec_GoodOp.l0 k l0 l0 (l0.length : Int) 0)) = some r := h
 clear h
 by_cases c2 : (l0.length : Int) > 60
 ·rw [if_pos c2] at H
  have c2b0 : decide (60 < (l0.length : Int)) = true := dT c2
  have c2b1 : decide (60 < l0.length) = true := dT (by omega)
  clear c2
  obtain rfl := sI H
  go_enter Try.func24, Try.ntmps24
  go_wp2
  go_ret
  exact ⟨y5, y6⟩
 ·rw [if_neg c2] at H
  have c2b0 : decide (60 < (l0.length : Int)) = false := dF c2
  have c2b1 : decide (60 < l0.length) = false := dF (by omega)
  clear c2
  have H' := aM H
  clear H
  go_enter Try.func24, Try.ntmps24
  go_wp2
  go_loopg [12] k (fun kq v12 w' => ∃ (x12_1 : Int), v12 = .int .i64 x12_1 ∧ Aside0 (spec_GoodOp.l0 kq l0 l0 (l0.length : Int) x12_1 = some r) ∧ Aside0 (kq ≤ k) ∧ Aside0 (Below w.heap.size w w'))
  case atStart => exact ⟨(0), z1, H', ⟨Nat.le_refl _⟩, ⟨y6⟩⟩
  case round =>
   clear H'
   try clear c2
   try clear c2b0
   try clear c2b1
   obtain ⟨x12_1, rfl, HA, HK1, HB⟩ := hrel
   cases gk with
   | zero => exact absurd HA.out (by simp [spec_GoodOp.l0])
   | succ k1 =>
    have H := HA.out
    clear HA
    simp only [spec_GoodOp.l0] at H
    by_cases c3 : x12_1 < (l0.length : Int)
    ·rw [if_pos c3] at H
     have c3b0 : decide (x12_1 < (l0.length : Int)) = true := dT c3
     clear c3
     by_cases c4 : 0 ≤ x12_1
     ·rw [if_pos c4] at H
      have c4b0 : decide (0 ≤ x12_1) = true := dT c4
      clear c4
      by_cases c5 : x12_1 < (l0.length : Int)
      ·rw [if_pos c5] at H
       have c5b0 : decide (x12_1 < (l0.length : Int)) = true := dT c5
       clear c5
       obtain ⟨qh, A6, H⟩ := oA_ H
       try dsimp only at H
       by_cases c7 : qh = true
       ·subst c7
        rw [if_pos rfl] at H
        have H' := aM H
        clear H
        have p542 : 0 ≤ (x12_1 : Int) := oD z2
        have q542 : x12_1 < (l0.length : Int) := oD z2
        obtain ⟨ad542, e542, hx542_0, hx542_1, hx542_2⟩ := at_T68 bH.out x12_1 p542 q542
        cases e542
        replace hx542_0 := hC_ HB.out hx542_0
        replace hx542_1 := hC_ HB.out hx542_1
        replace hx542_2 := hC_ HB.out hx542_2
        replace p542 := eq_true p542
        replace q542 := eq_true q542
        go_wp2_with (first | ((with_reducible refine ay (N := 4) rfl ?_); refine bE_ (N := 4) (cs := #[.int .i64 0, .string ⟨#[]⟩, .string ⟨#[]⟩]) (t := 68) (h := ?_); intro eO hg w8 hbox hb; have dB := aM (hbox); have GW543 := aM ((zg_ : w.heap.size ≤ eO)); have lP := aM ((zg_ : w.heap.size ≤ eO)); replace HB := aM (ap z9 hb); clear hb hbox hg; obtain ⟨dc, db, da, dh, cZ, cY⟩ := cc3 dB.out) | ((with_reducible refine ax (f := 45) rfl ?_); refine aC (some 17) rfl rfl Try.func45 z0 rfl #[.agg #[.int .i64 ((sp l0 x12_1).f0), .string ((sp l0 x12_1).f1), .string ((sp l0 x12_1).f2)]] rfl z10 ?_; (with_reducible refine (spec_l3Part.calls k1 ((sp l0 x12_1).f0) ((sp l0 x12_1).f1) ((sp l0 x12_1).f2) true _ A6.out).mono ?_); rintro e w10 ⟨rfl, hb⟩; refine ⟨_, rfl, ?_⟩; replace dB := aM (ae (g := eO) (o := .cells #[.int .i64 ((sp l0 x12_1).f0), .string ((sp l0 x12_1).f1), .string ((sp l0 x12_1).f2)] 68 (0, 0)) (by (with_reducible repeat (first | refine ak ?_ _ | refine aj ?_ | refine al ?_ _)); refine am (cs := #[.int .i64 ((sp l0 x12_1).f0), .string ((sp l0 x12_1).f1), .string ⟨#[]⟩]) ?_ 2 _ rfl; (with_reducible repeat (first | refine ak ?_ _ | refine aj ?_ | refine al ?_ _)); refine am (cs := #[.int .i64 ((sp l0 x12_1).f0), .string ⟨#[]⟩, .string ⟨#[]⟩]) ?_ 1 _ rfl; (with_reducible repeat (first | refine ak ?_ _ | refine aj ?_ | refine al ?_ _)); refine am (cs := #[.int .i64 0, .string ⟨#[]⟩, .string ⟨#[]⟩]) ?_ 0 _ rfl; (with_reducible repeat (first | refine ak ?_ _ | refine aj ?_ | refine al ?_ _)); exact dB.out) hb); replace HB := aM (ap zb_ hb); (try clear hb)))
        go_roundg k1
        case measure => have := HK1.out; omega
        case rel => exact ⟨(wrap64 (x12_1 + 1)), z1, H', ⟨y0⟩, ⟨zb_⟩⟩
       ·replace c7 := Bool.eq_false_iff.mpr c7
        subst c7
        rw [if_neg nF_] at H
        obtain rfl := sI H
        have p542 : 0 ≤ (x12_1 : Int) := oD z2
        have q542 : x12_1 < (l0.length : Int) := oD z2
        obtain ⟨ad542, e542, hx542_0, hx542_1, hx542_2⟩ := at_T68 bH.out x12_1 p542 q542
        cases e542
        replace hx542_0 := hC_ HB.out hx542_0
        replace hx542_1 := hC_ HB.out hx542_1
        replace hx542_2 := hC_ HB.out hx542_2
        replace p542 := eq_true p542
        replace q542 := eq_true q542
        go_wp2_with (first | ((with_reducible refine ay (N := 4) rfl ?_); refine bE_ (N := 4) (cs := #[.int .i64 0, .string ⟨#[]⟩, .string ⟨#[]⟩]) (t := 68) (h := ?_); intro eO hg w11 hbox hb; have dB := aM (hbox); have GW543 := aM ((zg_ : w.heap.size ≤ eO)); have lP := aM ((zg_ : w.heap.size ≤ eO)); replace HB := aM (ap z9 hb); clear hb hbox hg; obtain ⟨gC, gB, gA, gp, gn, gm⟩ := cc3 dB.out) | ((with_reducible refine ax (f := 45) rfl ?_); refine aC (some 17) rfl rfl Try.func45 z0 rfl #[.agg #[.int .i64 ((sp l0 x12_1).f0), .string ((sp l0 x12_1).f1), .string ((sp l0 x12_1).f2)]] rfl z10 ?_; (with_reducible refine (spec_l3Part.calls k1 ((sp l0 x12_1).f0) ((sp l0 x12_1).f1) ((sp l0 x12_1).f2) false _ A6.out).mono ?_); rintro e w13 ⟨rfl, hb⟩; refine ⟨_, rfl, ?_⟩; replace dB := aM (ae (g := eO) (o := .cells #[.int .i64 ((sp l0 x12_1).f0), .string ((sp l0 x12_1).f1), .string ((sp l0 x12_1).f2)] 68 (0, 0)) (by (with_reducible repeat (first | refine ak ?_ _ | refine aj ?_ | refine al ?_ _)); refine am (cs := #[.int .i64 ((sp l0 x12_1).f0), .string ((sp l0 x12_1).f1), .string ⟨#[]⟩]) ?_ 2 _ rfl; (with_reducible repeat (first | refine ak ?_ _ | refine aj ?_ | refine al ?_ _)); refine am (cs := #[.int .i64 ((sp l0 x12_1).f0), .string ⟨#[]⟩, .string ⟨#[]⟩]) ?_ 1 _ rfl; (with_reducible repeat (first | refine ak ?_ _ | refine aj ?_ | refine al ?_ _)); refine am (cs := #[.int .i64 0, .string ⟨#[]⟩, .string ⟨#[]⟩]) ?_ 0 _ rfl; (with_reducible repeat (first | refine ak ?_ _ | refine aj ?_ | refine al ?_ _)); exact dB.out) hb); replace HB := aM (ap zb_ hb); (try clear hb)))
        go_ret
        exact ⟨y5, zb_⟩
      ·rw [if_neg c5] at H
       exact absurd H (by simp)
     ·rw [if_neg c4] at H
      exact absurd H (by simp)
    ·rw [if_neg c3] at H
     have c3b0 : decide (x12_1 < (l0.length : Int)) = false := dF c3
     clear c3
     obtain ⟨⟨n6, rB⟩, j5, H⟩ := oA_ H
     try dsimp only at H
     by_cases ce : n6 ≤ 300
     ·rw [if_pos ce] at H
      have c15b0 : decide (n6 ≤ 300) = true := dT ce
      clear ce
      obtain rfl := sI H
      go_wp2_with (first | ((with_reducible refine ax (f := 17) rfl ?_); refine aC (some 22) rfl rfl Try.func17 z0 rfl #[.slice A0 l0.length c0] rfl z10 ?_; (with_reducible refine (spec_l3Sizes.calls k1 _ _ l0 n6 rB _ ?side1 ?side2 j5.out).mono ?_); (case side1 => exact y64); (case side2 => exact y51); rintro e w16 ⟨rfl, hb⟩; refine ⟨_, rfl, ?_⟩; replace HB := aM (ap z9 hb); (try clear hb)))
      go_ret
      exact ⟨y5, y6⟩
     ·rw [if_neg ce] at H
      have c15b0 : decide (n6 ≤ 300) = false := dF ce
      clear ce
      obtain rfl := sI H
      go_wp2_with (first | ((with_reducible refine ax (f := 17) rfl ?_); refine aC (some 22) rfl rfl Try.func17 z0 rfl #[.slice A0 l0.length c0] rfl z10 ?_; (with_reducible refine (spec_l3Sizes.calls k1 _ _ l0 n6 rB _ ?side1 ?side2 j5.out).mono ?_); (case side1 => exact y64); (case side2 => exact y51); rintro e w17 ⟨rfl, hb⟩; refine ⟨_, rfl, ?_⟩; replace HB := aM (ap z9 hb); (try clear hb)))
      go_ret
      exact ⟨y5, y6⟩

end Go.Proofs.Ytjbllgdehpomiaa.AFnMarks
