-- this session's own text: written by wip/tools/ownprint.py over the kit's print
import Derived.Test.YtmkenlejdaphnaaAFnExactRopeOfx0
import Derived.Test.YtmkenlejdaphnaaAFnExactRopeOfx2
namespace Go.Proofs.Ytmkenlejdaphnaa.AFnExactRopeOf
open Go.RowKit Go.Proofs.YtmkenlejdaphnaaW.PrintWords Go.Proofs.YtmkenlejdaphnaaW.PrintLast Go.Proofs.YtmkenlejdaphnaaW.PrintMore
attribute [local go_sem] max2_int min2_int max_two min_two max_three min_three max_four min_four   -- for this text's walks alone
set_option linter.unusedVariables false
set_option linter.unusedSimpArgs false

/-! ### spec_l12Cut: function 58 -/
def spec_l12Cut.l0 : Nat → ByteArray → List ByteArray → Option (List ByteArray)
 | 0, _, _ => none
 | k + 1, x0, x3 => if (x0.size : Int) > 8 then (if 0 ≤ 8 then (if 8 ≤ (x0.size : Int) then (if x3.length < 8796093022208 then (spec_l12Cut.l0 k (x0.extract 8 x0.size) (x3 ++ [x0.extract 0 8])) else (none)) else (none)) else (none)) else (if x0.toList = ([] : List UInt8) then (some x3) else (if x3.length < 8796093022208 then (some (x3 ++ [x0])) else (none)))
def spec_l12Cut.f (k : Nat) (a0 : ByteArray) : Option (List ByteArray) := spec_l12Cut.l0 k a0 ([] : List ByteArray)
theorem spec_l12Cut.mono_l : ∀ k, (∀ y0 y1, LeO (spec_l12Cut.l0 k y0 y1) (spec_l12Cut.l0 (k + 1) y0 y1))
 | 0 => fun _ _ r h => by simp [spec_l12Cut.l0] at h
 | k + 1 => by
  have ih0 := spec_l12Cut.mono_l k
  ·intro y0 y1
   unfold spec_l12Cut.l0
   repeat' first
   | (with_reducible exact ih0 _ _)
   | (with_reducible exact LeO.refl _)
   | (with_reducible exact LeO.none _)
   | (with_reducible refine LeO.ite ?_ ?_)
   | (with_reducible refine LeO.bind ?_ (fun _ => ?_))
   | exact ih0 _ _
   | exact LeO.none _
   | refine LeO.ite ?_ ?_
   | refine LeO.bind ?_ (fun _ => ?_)
theorem spec_l12Cut.mono : ∀ a0 k, LeO (spec_l12Cut.f k a0) (spec_l12Cut.f (k + 1) a0) := by
 intro a0 k
 have ih0 := spec_l12Cut.mono_l k
 unfold spec_l12Cut.f
 repeat' first
   | (with_reducible exact ih0 _ _)
   | (with_reducible exact LeO.refl _)
   | (with_reducible exact LeO.none _)
   | (with_reducible refine LeO.ite ?_ ?_)
   | (with_reducible refine LeO.bind ?_ (fun _ => ?_))
   | exact ih0 _ _
   | exact LeO.none _
   | refine LeO.ite ?_ ?_
   | refine LeO.bind ?_ (fun _ => ?_)
set_option maxHeartbeats 8000000 in
set_option maxRecDepth 100000 in
theorem spec_l12Cut.calls (k : Nat) (a0 : ByteArray) (r : List ByteArray) (w : World) (h : spec_l12Cut.f k a0 = some r) :
  Calls Try.prog 58 #[.string a0] w fun e w' => ∃ v0_ : Value, e = .returned (v0_) ∧ Kd.R Kd.string 9 w' w.heap.size (fun _ => True) v0_ r ∧ Below w.heap.size w w' := by
 have HB := Aside0.mk (Below.refl w.heap.size w)
 have H : (spec_l12Cut.l0 k a0 ([] : List ByteArray)) = some r := h
 clear h
 have H' := Aside0.mk H
 clear H
 go_enter Try.func58, Try.ntmps58
 go_wp2
 go_loopg [0, 3] k (fun kq v0 v3 w' => ∃ (x0_1 : ByteArray) (x3_1 : List ByteArray), v0 = .string x0_1 ∧ Aside0 (spec_l12Cut.l0 kq x0_1 x3_1 = some r) ∧ Aside0 (kq ≤ k) ∧ Aside0 (Kd.R Kd.string 9 w' w.heap.size (fun _ => True) v3 x3_1) ∧ Aside0 (Below w.heap.size w w'))
 case atStart => exact ⟨(a0), (([] : List ByteArray)), (by first | rfl | (simp; done) | (simp [*]; done)), H', ⟨Nat.le_refl _⟩, ⟨by first | exact Kd.R_nil _ _ _ _ _ | exact Kd.N_nil _ _ _ _ _ | exact Kd.V_nil _ _ _ _ _ | exact Kd.Q_nil _ _ _ _ _ | exact Kd.S_nil _ _ _ _ _⟩, ⟨by repeat (first | (with_reducible first | exact HB.out | apply below_alloc | apply pw_below_drewN | apply below_drew1) | exact HB.out)⟩⟩
 case round =>
  clear H'
  obtain ⟨x0_1, x3_1, rfl, HA, HK1, HO_3, HB⟩ := hrel
  cases gk with
  | zero => exact absurd HA.out (by simp [spec_l12Cut.l0])
  | succ k1 =>
   have H := HA.out
   clear HA
   simp only [spec_l12Cut.l0] at H
   by_cases c2 : (x0_1.size : Int) > 8
   ·rw [if_pos c2] at H
    have c2b0 : decide (8 < (x0_1.size : Int)) = true := decide_eq_true c2
    have c2b1 : decide (8 < x0_1.size) = true := decide_eq_true (by omega)
    clear c2
    by_cases c3 : 0 ≤ 8
    ·rw [if_pos c3] at H
     have c3b0 := eq_true c3
     have c3b1 : decide (0 ≤ 8) = true := decide_eq_true c3
     clear c3
     by_cases c4 : 8 ≤ (x0_1.size : Int)
     ·rw [if_pos c4] at H
      have c4b0 := eq_true c4
      have c4b1 : decide (8 ≤ (x0_1.size : Int)) = true := decide_eq_true c4
      clear c4
      by_cases c5 : x3_1.length < 8796093022208
      ·rw [if_pos c5] at H
       have LMc5 := Aside0.mk c5
       clear c5
       obtain ⟨y154, hy154⟩ : ∃ y_ : List ByteArray, y_ = (x3_1 ++ [x0_1.extract 0 8]) := ⟨_, rfl⟩
       replace H : (spec_l12Cut.l0 k1 (x0_1.extract 8 x0_1.size) y154) = some r := by first | (rw [hy154]; with_reducible exact H) | (have H2_ := (Option.bind_some _ _).symm.trans H; rw [hy154]; with_reducible exact H2_) | (have H2_ := (Option.bind_some _ _).symm.trans H; with_reducible exact H2_) | with_reducible exact H | (rw [hy154]; exact H) | exact H
       have Ny154 := Aside0.mk hy154
       clear hy154
       have c6b0 := eq_true (of_decide_eq_true z1 : 8 ≤ (x0_1.size : Int))
       have H' := Aside0.mk H
       clear H
       go_wp2_with (first | ((with_reducible refine gate_builtin (b := .append) (xs := #[.tmp 7, .tmp 10]) rfl ?_); at_builtin; refine Kd.R_append Kd.string (w0 := w) w.heap.size rfl (.tmp 7) (.tmp 10) 44 9 (.string ⟨#[]⟩) 16 rfl Try.underlying44 info9 rfl (by decide) (by omega) u3 x3_1 (x0_1.extract 0 8) [.string (x0_1.extract 0 8)] (fun _ => True) (fun _ => False) rfl rfl ?aP (fun _ hk => hk.elim) ?aF ?aO ?aB ?aS ?aL ?_; (case aP => exact rfl); (case aB => exact z6); (case aF => exact (fun _ _ => trivial)); (case aO => exact (by (with_reducible repeat (first | apply Kd.R_alloc | apply Kd.R_drewN | apply Kd.R_drew)); exact HO_3.out)); (case aS => exact (below_size z6)); (case aL => have := LMc5.out; omega); intro v155 w7 ho hb hg hat; rw [← Ny154.out] at ho; have n0_ := Aside0.mk (hb); have n1_ := Aside0.mk (ho); clear HB; clear HO_3; have HB := n0_; have HO156 := n1_; clear n0_ n1_; clear ho hb hg hat))
       go_roundg k1
       case measure => have := HK1.out; omega
       case rel => exact ⟨(x0_1.extract 8 x0_1.size), (y154), (by first | rfl | (simp; done) | (simp [*]; done)), H', ⟨by have := HK1.out; omega⟩, ⟨by (with_reducible repeat (first | apply Kd.R_alloc | apply Kd.R_drewN | apply Kd.R_drew)); exact HO156.out⟩, ⟨by repeat (first | (with_reducible first | exact HB.out | apply below_alloc | apply pw_below_drewN | apply below_drew1) | exact HB.out)⟩⟩
      ·rw [if_neg c5] at H
       exact absurd H (by simp)
     ·rw [if_neg c4] at H
      exact absurd H (by simp)
    ·exact absurd (by decide) c3
   ·rw [if_neg c2] at H
    have c2b0 : decide (8 < (x0_1.size : Int)) = false := decide_eq_false c2
    have c2b1 : decide (8 < x0_1.size) = false := decide_eq_false (by omega)
    clear c2
    by_cases c8 : x0_1.toList = ([] : List UInt8)
    ·rw [if_pos c8] at H
     have c8b0 : (x0_1.toList == ([] : List UInt8)) = true := beq_iff_eq.mpr c8
     have c8b1 : (x0_1.toList != ([] : List UInt8)) = false := bne_eq_false_iff_eq.mpr c8
     clear c8
     obtain rfl := Option.some.inj H
     go_wp2
     all_goals (try (exfalso; rename_i h_; rw [c8b0] at h_; cases h_; done))
     go_ret
     exact ⟨_, by first | rfl | (simp [errW_none, errW_some] <;> rfl) | (simp [*, errW_none, errW_some] <;> rfl), by (with_reducible repeat (first | apply Kd.R_alloc | apply Kd.R_drewN | apply Kd.R_drew)); exact HO_3.out, by repeat (first | (with_reducible first | exact HB.out | apply below_alloc | apply pw_below_drewN | apply below_drew1) | exact HB.out)⟩
    ·rw [if_neg c8] at H
     have c8b0 : (x0_1.toList == ([] : List UInt8)) = false := beq_eq_false_iff_ne.mpr c8
     have c8b1 : (x0_1.toList != ([] : List UInt8)) = true := bne_iff_ne.mpr c8
     by_cases c9 : x3_1.length < 8796093022208
     ·rw [if_pos c9] at H
      have LMc9 := Aside0.mk c9
      clear c9
      obtain ⟨y157, hy157⟩ : ∃ y_ : List ByteArray, y_ = (x3_1 ++ [x0_1]) := ⟨_, rfl⟩
      replace H : (some y157) = some r := by first | (rw [hy157]; with_reducible exact H) | (have H2_ := (Option.bind_some _ _).symm.trans H; rw [hy157]; with_reducible exact H2_) | (have H2_ := (Option.bind_some _ _).symm.trans H; with_reducible exact H2_) | with_reducible exact H | (rw [hy157]; exact H) | exact H
      have Ny157 := Aside0.mk hy157
      clear hy157
      obtain rfl := Option.some.inj H
      go_wp2_with (first | ((with_reducible refine gate_builtin (b := .append) (xs := #[.tmp 16, .tmp 18]) rfl ?_); at_builtin; refine Kd.R_append Kd.string (w0 := w) w.heap.size rfl (.tmp 16) (.tmp 18) 44 9 (.string ⟨#[]⟩) 16 rfl Try.underlying44 info9 rfl (by decide) (by omega) u3 x3_1 x0_1 [.string x0_1] (fun _ => True) (fun _ => False) rfl rfl ?aP (fun _ hk => hk.elim) ?aF ?aO ?aB ?aS ?aL ?_; (case aP => exact rfl); (case aB => exact z6); (case aF => exact (fun _ _ => trivial)); (case aO => exact (by (with_reducible repeat (first | apply Kd.R_alloc | apply Kd.R_drewN | apply Kd.R_drew)); exact HO_3.out)); (case aS => exact (below_size z6)); (case aL => have := LMc9.out; omega); intro v158 w10 ho hb hg hat; rw [← Ny157.out] at ho; have n0_ := Aside0.mk (hb); have n1_ := Aside0.mk (ho); clear HB; clear HO_3; have HB := n0_; have HO159 := n1_; clear n0_ n1_; clear ho hb hg hat))
      all_goals (try (exfalso; rename_i h_; rw [c8b0] at h_; cases h_; done))
      go_ret
      exact ⟨_, by first | rfl | (simp [errW_none, errW_some] <;> rfl) | (simp [*, errW_none, errW_some] <;> rfl), by (with_reducible repeat (first | apply Kd.R_alloc | apply Kd.R_drewN | apply Kd.R_drew)); exact HO159.out, by repeat (first | (with_reducible first | exact HB.out | apply below_alloc | apply pw_below_drewN | apply below_drew1) | exact HB.out)⟩
     ·rw [if_neg c9] at H
      exact absurd H (by simp)

/-! ### spec_RopeOf: function 25 -/
def spec_RopeOf.f (k : Nat) (a0 : ByteArray) : Option ((List (S58)) × Bool) := (spec_GoodText.f k a0).bind fun t161 => (if t161 = true then ((spec_l12Cut.f k a0).bind fun t162 => ((spec_l12Build.f k t162).bind fun t165 => (some (t165, true)))) else (some (([] : List (S58)), false)))
theorem spec_RopeOf.mono : ∀ a0 k, LeO (spec_RopeOf.f k a0) (spec_RopeOf.f (k + 1) a0) := by
 intro a0 k
 unfold spec_RopeOf.f
 repeat' first
   | (with_reducible exact spec_GoodText.mono _ _)
   | (with_reducible exact spec_l12Build.mono _ _)
   | (with_reducible exact spec_l12Cut.mono _ _)
   | (with_reducible exact LeO.refl _)
   | (with_reducible exact LeO.none _)
   | (with_reducible refine LeO.ite ?_ ?_)
   | (with_reducible refine LeO.bind ?_ (fun _ => ?_))
   | exact spec_GoodText.mono _ _
   | exact spec_l12Build.mono _ _
   | exact spec_l12Cut.mono _ _
   | exact LeO.none _
   | refine LeO.ite ?_ ?_
   | refine LeO.bind ?_ (fun _ => ?_)
set_option maxHeartbeats 8000000 in
set_option maxRecDepth 100000 in
theorem spec_RopeOf.calls (k : Nat) (a0 : ByteArray) (r1 : List (S58)) (r2 : Bool) (w : World) (h : spec_RopeOf.f k a0 = some (r1, r2)) :
  Calls Try.prog 25 #[.string a0] w fun e w' => ∃ v0_ : Value, e = .returned (.tuple #[.agg #[v0_], .bool r2]) ∧ Kd.R k58 58 w' w.heap.size (fun _ => True) v0_ r1 ∧ Below w.heap.size w w' := by
 have hu29 := Try.underlying29
 have HB := Aside0.mk (Below.refl w.heap.size w)
 have H : ((spec_GoodText.f k a0).bind fun t161 => (if t161 = true then ((spec_l12Cut.f k a0).bind fun t162 => ((spec_l12Build.f k t162).bind fun t165 => (some (t165, true)))) else (some (([] : List (S58)), false)))) = some (r1, r2) := h
 clear h
 replace H := Option.bind_eq_some_iff.mp H
 obtain ⟨t161, A20, H⟩ := H
 try dsimp only at H
 have A2 := Aside0.mk A20
 clear A20
 by_cases c3 : t161 = true
 ·subst c3
  rw [if_pos rfl] at H
  replace H := Option.bind_eq_some_iff.mp H
  obtain ⟨t162, A40, H⟩ := H
  try dsimp only at H
  have A4 := Aside0.mk A40
  clear A40
  replace H := Option.bind_eq_some_iff.mp H
  obtain ⟨t165, A50, H⟩ := H
  try dsimp only at H
  have A5 := Aside0.mk A50
  clear A50
  simp only [Option.some.injEq, Prod.mk.injEq] at H
  obtain ⟨rfl, rfl⟩ := H
  go_enter Try.func25, Try.ntmps25
  go_wp2_with (first | ((with_reducible refine gate_dst (N := 2) rfl ?_); refine box_event ?hg (N := 2) ?hd (cs := #[.slice none 0 0]) (t := 29) ?hr ?_; (case hd => rfl); (case hg => rfl); (case hr => first | (go_simp; done) | (go_simp; rfl)); intro gb160 hg w6 hbox hb; have n0_ := Aside0.mk (below_step z6 hb); have n1_ := Aside0.mk (hbox); have n2_ := Aside0.mk ((by rw [hg]; exact (below_size z6) : w.heap.size ≤ gb160)); have n3_ := Aside0.mk ((by rw [hg]; exact (below_size z6) : w.heap.size ≤ gb160)); clear HB; have HB := n0_; have BK160 := n1_; have GW160 := n2_; have GE160 := n3_; clear n0_ n1_ n2_ n3_; clear hb hbox hg) | ((with_reducible refine gate_callee (f := 56) rfl ?_); refine goesL_ (some 5) rfl rfl Try.func56 z0 rfl #[.string a0] rfl z7 ?_; (with_reducible refine (spec_GoodText.calls k a0 true _ A2.out).mono ?_); rintro e w' ⟨rfl, ⟨nd, rfl⟩⟩; refine ⟨_, rfl, ?_⟩; (try (rw [drewN_self w6]; generalize hq_ : World.drewN w6 _ = w6; have n0_ : Aside0 (w6.heap[gb160]? = some (.cells #[.slice none 0 0] 29 (0, 0))) := ⟨by rw [← hq_]; exact (by (with_reducible repeat (first | refine blk_drewN ?_ _ | refine blk_drew ?_ | refine blk_alloc ?_ _)); exact BK160.out)⟩; have n1_ : Aside0 (Below w.heap.size w w6) := ⟨by rw [← hq_]; exact (by repeat (first | (with_reducible first | exact HB.out | apply below_alloc | apply pw_below_drewN | apply below_drew1 | refine below_set ?_ GE160.out) | exact HB.out))⟩; clear BK160 HB hq_; have BK160 := n0_; have HB := n1_; clear n0_ n1_))) | ((with_reducible refine gate_callee (f := 58) rfl ?_); refine goesL_ (some 9) rfl rfl Try.func58 z0 rfl #[.string a0] rfl z7 ?_; (with_reducible refine (spec_l12Cut.calls k a0 t162 _ A4.out).mono ?_); rintro e w7 ⟨v163, rfl, ho0, hb⟩; refine ⟨_, rfl, ?_⟩; have n0_ := Aside0.mk (Kd.R_lower ho0 (below_size (by repeat (first | (with_reducible first | exact HB.out | apply below_alloc | apply pw_below_drewN | apply below_drew1 | refine below_set ?_ GE160.out) | exact HB.out)))); have n1_ := Aside0.mk (blk_below (g := gb160) (o := .cells #[.slice none 0 0] 29 (0, 0)) (by (with_reducible repeat (first | refine blk_drewN ?_ _ | refine blk_drew ?_ | refine blk_alloc ?_ _)); exact BK160.out) hb); have n2_ := Aside0.mk (below_step (by repeat (first | (with_reducible first | exact HB.out | apply below_alloc | apply pw_below_drewN | apply below_drew1 | refine below_set ?_ GE160.out) | exact HB.out)) hb); clear BK160; clear HB; have HO164 := n0_; have BK160 := n1_; have HB := n2_; clear n0_ n1_ n2_; (try clear hb); (try clear hb2); (try clear hk); (try clear hi); (try clear ho0); obtain ⟨Ao8, co8, eo8⟩ := Kd.R_slice HO164.out; subst eo8) | ((with_reducible refine gate_callee (f := 57) rfl ?_); refine goesL_ (some 10) rfl rfl Try.func57 z0 rfl #[.slice Ao8 t162.length co8] rfl z7 ?_; (with_reducible refine (spec_l12Build.calls k _ _ t162 t165 _ ?side1 ?side2 A5.out).mono ?_); (case side1 => repeat (first | exact (Kd.R_reads' HO164.out).2.2 | (with_reducible refine Kd.C_alloc ?_ _) | (with_reducible refine Kd.C_drewN ?_ _) | (with_reducible refine Kd.C_drew ?_))); (case side2 => exact (Kd.R_reads' HO164.out).2.1); rintro e w9 ⟨v166, rfl, ho0, hb⟩; refine ⟨_, rfl, ?_⟩; have n0_ := Aside0.mk (Kd.R_below (by (with_reducible repeat (first | apply Kd.R_alloc | apply Kd.R_drewN | apply Kd.R_drew)); exact HO164.out) hb); have n1_ := Aside0.mk (Kd.R_lower ho0 (below_size (by repeat (first | (with_reducible first | exact HB.out | apply below_alloc | apply pw_below_drewN | apply below_drew1 | refine below_set ?_ GE160.out) | exact HB.out)))); have n2_ := Aside0.mk (blk_below (g := gb160) (o := .cells #[.slice none 0 0] 29 (0, 0)) (by (with_reducible repeat (first | refine blk_drewN ?_ _ | refine blk_drew ?_ | refine blk_alloc ?_ _)); exact BK160.out) hb); have n3_ := Aside0.mk (below_step (by repeat (first | (with_reducible first | exact HB.out | apply below_alloc | apply pw_below_drewN | apply below_drew1 | refine below_set ?_ GE160.out) | exact HB.out)) hb); clear HO164; clear BK160; clear HB; have HO164 := n0_; have HO167 := n1_; have BK160 := n2_; have HB := n3_; clear n0_ n1_ n2_ n3_; (try clear hb); (try clear hb2); (try clear hk); (try clear hi); (try clear ho0); obtain ⟨Ao10, co10, eo10⟩ := Kd.R_slice HO167.out; subst eo10; have hcz11_0 : w9.cell? ⟨gb160, 0, none⟩ = some (.slice none 0 0) := (blk_cell BK160.out 0).trans rfl; have hfz11_0 := blk_frozen BK160.out 0))
  refine bodyPost_ret (results_ct rfl _ _ gb160 29 #[.slice Ao10 t165.length co10] (0, 0) _ rfl (by (with_reducible repeat (first | refine blk_drewN ?_ _ | refine blk_drew ?_ | refine blk_alloc ?_ _)); refine blk_put (cs := #[.slice none 0 0]) ?_ 0 _ rfl; (with_reducible repeat (first | refine blk_drewN ?_ _ | refine blk_drew ?_ | refine blk_alloc ?_ _)); exact BK160.out) Try.underlying29 rfl z0) rfl ?_
  exact ⟨_, by first | rfl | (simp [errW_none, errW_some] <;> rfl) | (simp [*, errW_none, errW_some] <;> rfl), by (with_reducible repeat (first | apply Kd.R_alloc | apply Kd.R_drewN | apply Kd.R_drew)); exact Kd.R_mono (Kd.R_far (p := ⟨gb160, 0, none⟩) (Kd.R_types HO167.out BK160.out (by decide)) (fun _ hk => hk.2) (.slice Ao10 t165.length co10)) (fun _ hk => trivial), by repeat (first | (with_reducible first | exact HB.out | apply below_alloc | apply pw_below_drewN | apply below_drew1 | refine below_set ?_ GE160.out) | exact HB.out)⟩
 ·replace c3 := Bool.eq_false_iff.mpr c3
  subst c3
  rw [if_neg (show ¬ (false = true) by decide)] at H
  simp only [Option.some.injEq, Prod.mk.injEq] at H
  obtain ⟨rfl, rfl⟩ := H
  go_enter Try.func25, Try.ntmps25
  go_wp2_with (first | ((with_reducible refine gate_dst (N := 2) rfl ?_); refine box_event ?hg (N := 2) ?hd (cs := #[.slice none 0 0]) (t := 29) ?hr ?_; (case hd => rfl); (case hg => rfl); (case hr => first | (go_simp; done) | (go_simp; rfl)); intro gb160 hg w12 hbox hb; have n0_ := Aside0.mk (below_step z6 hb); have n1_ := Aside0.mk (hbox); have n2_ := Aside0.mk ((by rw [hg]; exact (below_size z6) : w.heap.size ≤ gb160)); have n3_ := Aside0.mk ((by rw [hg]; exact (below_size z6) : w.heap.size ≤ gb160)); clear HB; have HB := n0_; have BK160 := n1_; have GW160 := n2_; have GE160 := n3_; clear n0_ n1_ n2_ n3_; clear hb hbox hg) | ((with_reducible refine gate_callee (f := 56) rfl ?_); refine goesL_ (some 5) rfl rfl Try.func56 z0 rfl #[.string a0] rfl z7 ?_; (with_reducible refine (spec_GoodText.calls k a0 false _ A2.out).mono ?_); rintro e w' ⟨rfl, ⟨nd, rfl⟩⟩; refine ⟨_, rfl, ?_⟩; (try (rw [drewN_self w12]; generalize hq_ : World.drewN w12 _ = w12; have n0_ : Aside0 (w12.heap[gb160]? = some (.cells #[.slice none 0 0] 29 (0, 0))) := ⟨by rw [← hq_]; exact (by (with_reducible repeat (first | refine blk_drewN ?_ _ | refine blk_drew ?_ | refine blk_alloc ?_ _)); exact BK160.out)⟩; have n1_ : Aside0 (Below w.heap.size w w12) := ⟨by rw [← hq_]; exact (by repeat (first | (with_reducible first | exact HB.out | apply below_alloc | apply pw_below_drewN | apply below_drew1 | refine below_set ?_ GE160.out) | exact HB.out))⟩; clear BK160 HB hq_; have BK160 := n0_; have HB := n1_; clear n0_ n1_)); have hcz13_0 : w12.cell? ⟨gb160, 0, none⟩ = some (.slice none 0 0) := (blk_cell BK160.out 0).trans rfl; have hfz13_0 := blk_frozen BK160.out 0))
  refine bodyPost_ret (results_ct rfl _ _ gb160 29 #[.slice none 0 0] (0, 0) _ rfl (by (with_reducible repeat (first | refine blk_drewN ?_ _ | refine blk_drew ?_ | refine blk_alloc ?_ _)); refine blk_put (cs := #[.slice none 0 0]) ?_ 0 _ rfl; (with_reducible repeat (first | refine blk_drewN ?_ _ | refine blk_drew ?_ | refine blk_alloc ?_ _)); exact BK160.out) Try.underlying29 rfl z0) rfl ?_
  exact ⟨_, by first | rfl | (simp [errW_none, errW_some] <;> rfl) | (simp [*, errW_none, errW_some] <;> rfl), by first | exact Kd.R_nil _ _ _ _ _ | exact Kd.N_nil _ _ _ _ _ | exact Kd.V_nil _ _ _ _ _ | exact Kd.Q_nil _ _ _ _ _ | exact Kd.S_nil _ _ _ _ _, by repeat (first | (with_reducible first | exact HB.out | apply below_alloc | apply pw_below_drewN | apply below_drew1 | refine below_set ?_ GE160.out) | exact HB.out)⟩

/-! ### impl_isName: function 81 -/
def impl_isName.f (a0 : Int) : Option (Bool) := if a0 ≥ 65 then (some (decide (a0 ≤ 70))) else (some false)
set_option maxHeartbeats 8000000 in
set_option maxRecDepth 100000 in
theorem impl_isName.calls (a0 : Int) (r : Bool) (w : World) (h : impl_isName.f a0 = some r) :
  Calls Try.prog 81 #[.int .u8 a0] w fun e w' => e = .returned (.bool r) ∧ Drawn0 w w' := by
 have H : (if a0 ≥ 65 then (some (decide (a0 ≤ 70))) else (some false)) = some r := h
 clear h
 by_cases c2 : a0 ≥ 65
 ·rw [if_pos c2] at H
  have c2b0 : decide (65 ≤ a0) = true := decide_eq_true c2
  clear c2
  obtain rfl := Option.some.inj H
  go_enter Try.func81, Try.ntmps81
  go_wp2
  go_ret
  exact ⟨by first | rfl | (simp; done) | (simp [*]; done), by repeat (first | exact Drawn0.refl _ | apply Drawn0.step)⟩
 ·rw [if_neg c2] at H
  have c2b0 : decide (65 ≤ a0) = false := decide_eq_false c2
  clear c2
  obtain rfl := Option.some.inj H
  go_enter Try.func81, Try.ntmps81
  go_wp2
  go_ret
  exact ⟨by first | rfl | (simp; done) | (simp [*]; done), by repeat (first | exact Drawn0.refl _ | apply Drawn0.step)⟩

/-! ### impl_isPlain: function 82 -/
def impl_isPlain.f (a0 : Int) : Option (Bool) := if a0 ≥ 97 then (if a0 ≤ 122 then (some true) else (if a0 ≥ 48 then (if a0 ≤ 57 then (some true) else (if a0 = 32 then (some true) else (if a0 = 46 then (some true) else (some (a0 == 44))))) else (if a0 = 32 then (some true) else (if a0 = 46 then (some true) else (some (a0 == 44)))))) else (if a0 ≥ 48 then (if a0 ≤ 57 then (some true) else (if a0 = 32 then (some true) else (if a0 = 46 then (some true) else (some (a0 == 44))))) else (if a0 = 32 then (some true) else (if a0 = 46 then (some true) else (some (a0 == 44)))))
set_option maxHeartbeats 8000000 in
set_option maxRecDepth 100000 in
theorem impl_isPlain.calls (a0 : Int) (r : Bool) (w : World) (h : impl_isPlain.f a0 = some r) :
  Calls Try.prog 82 #[.int .u8 a0] w fun e w' => e = .returned (.bool r) ∧ Drawn0 w w' := by
 have H : (if a0 ≥ 97 then (if a0 ≤ 122 then (some true) else (if a0 ≥ 48 then (if a0 ≤ 57 then (some true) else (if a0 = 32 then (some true) else (if a0 = 46 then (some true) else (some (a0 == 44))))) else (if a0 = 32 then (some true) else (if a0 = 46 then (some true) else (some (a0 == 44)))))) else (if a0 ≥ 48 then (if a0 ≤ 57 then (some true) else (if a0 = 32 then (some true) else (if a0 = 46 then (some true) else (some (a0 == 44))))) else (if a0 = 32 then (some true) else (if a0 = 46 then (some true) else (some (a0 == 44)))))) = some r := h
 clear h
 by_cases c2 : a0 ≥ 97
 ·rw [if_pos c2] at H
  have c2b0 : decide (97 ≤ a0) = true := decide_eq_true c2
  clear c2
  by_cases c3 : a0 ≤ 122
  ·rw [if_pos c3] at H
   have c3b0 : decide (a0 ≤ 122) = true := decide_eq_true c3
   clear c3
   obtain rfl := Option.some.inj H
   go_enter Try.func82, Try.ntmps82
   go_wp2
   go_ret
   exact ⟨by first | rfl | (simp; done) | (simp [*]; done), by repeat (first | exact Drawn0.refl _ | apply Drawn0.step)⟩
  ·rw [if_neg c3] at H
   have c3b0 : decide (a0 ≤ 122) = false := decide_eq_false c3
   clear c3
   by_cases c4 : a0 ≥ 48
   ·rw [if_pos c4] at H
    have c4b0 : decide (48 ≤ a0) = true := decide_eq_true c4
    clear c4
    by_cases c5 : a0 ≤ 57
    ·rw [if_pos c5] at H
     have c5b0 : decide (a0 ≤ 57) = true := decide_eq_true c5
     clear c5
     obtain rfl := Option.some.inj H
     go_enter Try.func82, Try.ntmps82
     go_wp2
     go_ret
     exact ⟨by first | rfl | (simp; done) | (simp [*]; done), by repeat (first | exact Drawn0.refl _ | apply Drawn0.step)⟩
    ·rw [if_neg c5] at H
     have c5b0 : decide (a0 ≤ 57) = false := decide_eq_false c5
     clear c5
     by_cases c6 : a0 = 32
     ·rw [if_pos c6] at H
      have c6b0 : (a0 == 32) = true := beq_iff_eq.mpr c6
      have c6b1 : (a0 != 32) = false := bne_eq_false_iff_eq.mpr c6
      clear c6
      obtain rfl := Option.some.inj H
      go_enter Try.func82, Try.ntmps82
      go_wp2
      go_ret
      exact ⟨by first | rfl | (simp; done) | (simp [*]; done), by repeat (first | exact Drawn0.refl _ | apply Drawn0.step)⟩
     ·rw [if_neg c6] at H
      have c6b0 : (a0 == 32) = false := beq_eq_false_iff_ne.mpr c6
      have c6b1 : (a0 != 32) = true := bne_iff_ne.mpr c6
      by_cases c7 : a0 = 46
      ·rw [if_pos c7] at H
       have c7b0 : (a0 == 46) = true := beq_iff_eq.mpr c7
       have c7b1 : (a0 != 46) = false := bne_eq_false_iff_eq.mpr c7
       clear c7
       obtain rfl := Option.some.inj H
       go_enter Try.func82, Try.ntmps82
       go_wp2
       go_ret
       exact ⟨by first | rfl | (simp; done) | (simp [*]; done), by repeat (first | exact Drawn0.refl _ | apply Drawn0.step)⟩
      ·rw [if_neg c7] at H
       have c7b0 : (a0 == 46) = false := beq_eq_false_iff_ne.mpr c7
       have c7b1 : (a0 != 46) = true := bne_iff_ne.mpr c7
       obtain rfl := Option.some.inj H
       go_enter Try.func82, Try.ntmps82
       go_wp2
       go_ret
       exact ⟨by first | rfl | (simp; done) | (simp [*]; done), by repeat (first | exact Drawn0.refl _ | apply Drawn0.step)⟩
   ·rw [if_neg c4] at H
    have c4b0 : decide (48 ≤ a0) = false := decide_eq_false c4
    clear c4
    by_cases c8 : a0 = 32
    ·rw [if_pos c8] at H
     have c8b0 : (a0 == 32) = true := beq_iff_eq.mpr c8
     have c8b1 : (a0 != 32) = false := bne_eq_false_iff_eq.mpr c8
     clear c8
     obtain rfl := Option.some.inj H
     go_enter Try.func82, Try.ntmps82
     go_wp2
     go_ret
     exact ⟨by first | rfl | (simp; done) | (simp [*]; done), by repeat (first | exact Drawn0.refl _ | apply Drawn0.step)⟩
    ·rw [if_neg c8] at H
     have c8b0 : (a0 == 32) = false := beq_eq_false_iff_ne.mpr c8
     have c8b1 : (a0 != 32) = true := bne_iff_ne.mpr c8
     by_cases c9 : a0 = 46
     ·rw [if_pos c9] at H
      have c9b0 : (a0 == 46) = true := beq_iff_eq.mpr c9
      have c9b1 : (a0 != 46) = false := bne_eq_false_iff_eq.mpr c9
      clear c9
      obtain rfl := Option.some.inj H
      go_enter Try.func82, Try.ntmps82
      go_wp2
      go_ret
      exact ⟨by first | rfl | (simp; done) | (simp [*]; done), by repeat (first | exact Drawn0.refl _ | apply Drawn0.step)⟩
     ·rw [if_neg c9] at H
      have c9b0 : (a0 == 46) = false := beq_eq_false_iff_ne.mpr c9
      have c9b1 : (a0 != 46) = true := bne_iff_ne.mpr c9
      obtain rfl := Option.some.inj H
      go_enter Try.func82, Try.ntmps82
      go_wp2
      go_ret
      exact ⟨by first | rfl | (simp; done) | (simp [*]; done), by repeat (first | exact Drawn0.refl _ | apply Drawn0.step)⟩
 ·rw [if_neg c2] at H
  have c2b0 : decide (97 ≤ a0) = false := decide_eq_false c2
  clear c2
  by_cases c10 : a0 ≥ 48
  ·rw [if_pos c10] at H
   have c10b0 : decide (48 ≤ a0) = true := decide_eq_true c10
   clear c10
   by_cases c11 : a0 ≤ 57
   ·rw [if_pos c11] at H
    have c11b0 : decide (a0 ≤ 57) = true := decide_eq_true c11
    clear c11
    obtain rfl := Option.some.inj H
    go_enter Try.func82, Try.ntmps82
    go_wp2
    go_ret
    exact ⟨by first | rfl | (simp; done) | (simp [*]; done), by repeat (first | exact Drawn0.refl _ | apply Drawn0.step)⟩
   ·rw [if_neg c11] at H
    have c11b0 : decide (a0 ≤ 57) = false := decide_eq_false c11
    clear c11
    by_cases c12 : a0 = 32
    ·rw [if_pos c12] at H
     have c12b0 : (a0 == 32) = true := beq_iff_eq.mpr c12
     have c12b1 : (a0 != 32) = false := bne_eq_false_iff_eq.mpr c12
     clear c12
     obtain rfl := Option.some.inj H
     go_enter Try.func82, Try.ntmps82
     go_wp2
     go_ret
     exact ⟨by first | rfl | (simp; done) | (simp [*]; done), by repeat (first | exact Drawn0.refl _ | apply Drawn0.step)⟩
    ·rw [if_neg c12] at H
     have c12b0 : (a0 == 32) = false := beq_eq_false_iff_ne.mpr c12
     have c12b1 : (a0 != 32) = true := bne_iff_ne.mpr c12
     by_cases c13 : a0 = 46
     ·rw [if_pos c13] at H
      have c13b0 : (a0 == 46) = true := beq_iff_eq.mpr c13
      have c13b1 : (a0 != 46) = false := bne_eq_false_iff_eq.mpr c13
      clear c13
      obtain rfl := Option.some.inj H
      go_enter Try.func82, Try.ntmps82
      go_wp2
      go_ret
      exact ⟨by first | rfl | (simp; done) | (simp [*]; done), by repeat (first | exact Drawn0.refl _ | apply Drawn0.step)⟩
     ·rw [if_neg c13] at H
      have c13b0 : (a0 == 46) = false := beq_eq_false_iff_ne.mpr c13
      have c13b1 : (a0 != 46) = true := bne_iff_ne.mpr c13
      obtain rfl := Option.some.inj H
      go_enter Try.func82, Try.ntmps82
      go_wp2
      go_ret
      exact ⟨by first | rfl | (simp; done) | (simp [*]; done), by repeat (first | exact Drawn0.refl _ | apply Drawn0.step)⟩
  ·rw [if_neg c10] at H
   have c10b0 : decide (48 ≤ a0) = false := decide_eq_false c10
   clear c10
   by_cases c14 : a0 = 32
   ·rw [if_pos c14] at H
    have c14b0 : (a0 == 32) = true := beq_iff_eq.mpr c14
    have c14b1 : (a0 != 32) = false := bne_eq_false_iff_eq.mpr c14
    clear c14
    obtain rfl := Option.some.inj H
    go_enter Try.func82, Try.ntmps82
    go_wp2
    go_ret
    exact ⟨by first | rfl | (simp; done) | (simp [*]; done), by repeat (first | exact Drawn0.refl _ | apply Drawn0.step)⟩
   ·rw [if_neg c14] at H
    have c14b0 : (a0 == 32) = false := beq_eq_false_iff_ne.mpr c14
    have c14b1 : (a0 != 32) = true := bne_iff_ne.mpr c14
    by_cases c15 : a0 = 46
    ·rw [if_pos c15] at H
     have c15b0 : (a0 == 46) = true := beq_iff_eq.mpr c15
     have c15b1 : (a0 != 46) = false := bne_eq_false_iff_eq.mpr c15
     clear c15
     obtain rfl := Option.some.inj H
     go_enter Try.func82, Try.ntmps82
     go_wp2
     go_ret
     exact ⟨by first | rfl | (simp; done) | (simp [*]; done), by repeat (first | exact Drawn0.refl _ | apply Drawn0.step)⟩
    ·rw [if_neg c15] at H
     have c15b0 : (a0 == 46) = false := beq_eq_false_iff_ne.mpr c15
     have c15b1 : (a0 != 46) = true := bne_iff_ne.mpr c15
     obtain rfl := Option.some.inj H
     go_enter Try.func82, Try.ntmps82
     go_wp2
     go_ret
     exact ⟨by first | rfl | (simp; done) | (simp [*]; done), by repeat (first | exact Drawn0.refl _ | apply Drawn0.step)⟩

/-! ### impl_GoodText: function 59 -/
def impl_GoodText.l0 : Nat → ByteArray → Int → Int → Option (Bool)
 | 0, _, _, _ => none
 | k + 1, x0, x5, x6 => if x6 < x5 then (if 0 ≤ x6 then (if x6 < (x0.size : Int) then ((impl_isName.f (bt x0 x6)).bind fun t168 => (if t168 = true then (impl_GoodText.l0 k x0 x5 (wrap64 (x6 + 1))) else ((impl_isPlain.f (bt x0 x6)).bind fun t169 => (if t169 = true then (impl_GoodText.l0 k x0 x5 (wrap64 (x6 + 1))) else (if (bt x0 x6) = 47 then (impl_GoodText.l0 k x0 x5 (wrap64 (x6 + 1))) else (some false)))))) else (none)) else (none)) else (some (decide ((x0.size : Int) ≤ 300)))
def impl_GoodText.f (k : Nat) (a0 : ByteArray) : Option (Bool) := impl_GoodText.l0 k a0 (a0.size : Int) 0
theorem impl_GoodText.mono_l : ∀ k, (∀ y0 y1 y2, LeO (impl_GoodText.l0 k y0 y1 y2) (impl_GoodText.l0 (k + 1) y0 y1 y2))
 | 0 => fun _ _ _ r h => by simp [impl_GoodText.l0] at h
 | k + 1 => by
  have ih0 := impl_GoodText.mono_l k
  ·intro y0 y1 y2
   unfold impl_GoodText.l0
   repeat' first
   | (with_reducible exact ih0 _ _ _)
   | (with_reducible exact LeO.refl _)
   | (with_reducible exact LeO.none _)
   | (with_reducible refine LeO.ite ?_ ?_)
   | (with_reducible refine LeO.bind ?_ (fun _ => ?_))
   | exact ih0 _ _ _
   | exact LeO.none _
   | refine LeO.ite ?_ ?_
   | refine LeO.bind ?_ (fun _ => ?_)
theorem impl_GoodText.mono : ∀ a0 k, LeO (impl_GoodText.f k a0) (impl_GoodText.f (k + 1) a0) := by
 intro a0 k
 have ih0 := impl_GoodText.mono_l k
 unfold impl_GoodText.f
 repeat' first
   | (with_reducible exact ih0 _ _ _)
   | (with_reducible exact LeO.refl _)
   | (with_reducible exact LeO.none _)
   | (with_reducible refine LeO.ite ?_ ?_)
   | (with_reducible refine LeO.bind ?_ (fun _ => ?_))
   | exact ih0 _ _ _
   | exact LeO.none _
   | refine LeO.ite ?_ ?_
   | refine LeO.bind ?_ (fun _ => ?_)
set_option maxHeartbeats 8000000 in
set_option maxRecDepth 100000 in
theorem impl_GoodText.calls (k : Nat) (a0 : ByteArray) (r : Bool) (w : World) (h : impl_GoodText.f k a0 = some r) :
  Calls Try.prog 59 #[.string a0] w fun e w' => e = .returned (.bool r) ∧ Drawn0 w w' := by
 have H : (impl_GoodText.l0 k a0 (a0.size : Int) 0) = some r := h
 clear h
 have H' := Aside0.mk H
 clear H
 go_enter Try.func59, Try.ntmps59
 go_wp2
 go_loopg [6] k (fun kq v6 w' => ∃ (x6_1 : Int), v6 = .int .i64 x6_1 ∧ Aside0 (impl_GoodText.l0 kq a0 (a0.size : Int) x6_1 = some r) ∧ Aside0 (kq ≤ k) ∧ Drawn0 w w')
 case atStart => exact ⟨(0), (by first | rfl | (simp; done) | (simp [*]; done)), H', ⟨Nat.le_refl _⟩, by repeat (first | exact Drawn0.refl _ | apply Drawn0.step)⟩
 case round =>
  clear H'
  obtain ⟨x6_1, rfl, HA, HK1, ⟨m1, rfl⟩⟩ := hrel
  cases gk with
  | zero => exact absurd HA.out (by simp [impl_GoodText.l0])
  | succ k1 =>
   have H := HA.out
   clear HA
   simp only [impl_GoodText.l0] at H
   by_cases c2 : x6_1 < (a0.size : Int)
   ·rw [if_pos c2] at H
    have c2b0 : decide (x6_1 < (a0.size : Int)) = true := decide_eq_true c2
    clear c2
    by_cases c3 : 0 ≤ x6_1
    ·rw [if_pos c3] at H
     have c3b0 : decide (0 ≤ x6_1) = true := decide_eq_true c3
     clear c3
     by_cases c4 : x6_1 < (a0.size : Int)
     ·rw [if_pos c4] at H
      have c4b0 : decide (x6_1 < (a0.size : Int)) = true := decide_eq_true c4
      clear c4
      replace H := Option.bind_eq_some_iff.mp H
      obtain ⟨t168, A60, H⟩ := H
      try dsimp only at H
      have A6 := Aside0.mk A60
      clear A60
      by_cases c7 : t168 = true
      ·subst c7
       rw [if_pos rfl] at H
       have H' := Aside0.mk H
       clear H
       have p5 : 0 ≤ (x6_1 : Int) := of_decide_eq_true z1
       have q5 : x6_1 < (a0.size : Int) := of_decide_eq_true z1
       have hx5 := bt_at a0 x6_1
       replace p5 := eq_true p5
       replace q5 := eq_true q5
       go_wp2_with (first | ((with_reducible refine gate_callee (f := 81) rfl ?_); refine goesL_ (some 12) rfl rfl Try.func81 z0 rfl #[.int .u8 (bt a0 x6_1)] rfl z7 ?_; (with_reducible refine (impl_isName.calls (bt a0 x6_1) true _ A6.out).mono ?_); rintro e w' ⟨rfl, ⟨nd, rfl⟩⟩; refine ⟨_, rfl, ?_⟩))
       go_roundg k1
       case measure => have := HK1.out; omega
       case rel => exact ⟨(wrap64 (x6_1 + 1)), (by first | rfl | (simp; done) | (simp [*]; done)), H', ⟨by have := HK1.out; omega⟩, by repeat (first | exact Drawn0.refl _ | apply Drawn0.step)⟩
      ·replace c7 := Bool.eq_false_iff.mpr c7
       subst c7
       rw [if_neg (show ¬ (false = true) by decide)] at H
       replace H := Option.bind_eq_some_iff.mp H
       obtain ⟨t169, A90, H⟩ := H
       try dsimp only at H
       have A9 := Aside0.mk A90
       clear A90
       by_cases c10 : t169 = true
       ·subst c10
        rw [if_pos rfl] at H
        have H' := Aside0.mk H
        clear H
        have p5 : 0 ≤ (x6_1 : Int) := of_decide_eq_true z1
        have q5 : x6_1 < (a0.size : Int) := of_decide_eq_true z1
        have hx5 := bt_at a0 x6_1
        replace p5 := eq_true p5
        replace q5 := eq_true q5
        go_wp2_with (first | ((with_reducible refine gate_callee (f := 81) rfl ?_); refine goesL_ (some 12) rfl rfl Try.func81 z0 rfl #[.int .u8 (bt a0 x6_1)] rfl z7 ?_; (with_reducible refine (impl_isName.calls (bt a0 x6_1) false _ A6.out).mono ?_); rintro e w' ⟨rfl, ⟨nd, rfl⟩⟩; refine ⟨_, rfl, ?_⟩; have p8 : 0 ≤ (x6_1 : Int) := of_decide_eq_true z1; have q8 : x6_1 < (a0.size : Int) := of_decide_eq_true z1; have hx8 := bt_at a0 x6_1; replace p8 := eq_true p8; replace q8 := eq_true q8) | (go_at_call 82; (with_reducible refine (impl_isPlain.calls (bt a0 x6_1) true _ A9.out).mono ?_); rintro e w' ⟨rfl, ⟨nd, rfl⟩⟩))
        go_roundg k1
        case measure => have := HK1.out; omega
        case rel => exact ⟨(wrap64 (x6_1 + 1)), (by first | rfl | (simp; done) | (simp [*]; done)), H', ⟨by have := HK1.out; omega⟩, by repeat (first | exact Drawn0.refl _ | apply Drawn0.step)⟩
       ·replace c10 := Bool.eq_false_iff.mpr c10
        subst c10
        rw [if_neg (show ¬ (false = true) by decide)] at H
        by_cases c12 : (bt a0 x6_1) = 47
        ·rw [if_pos c12] at H
         have c12b0 : ((bt a0 x6_1) == 47) = true := beq_iff_eq.mpr c12
         have c12b1 : ((bt a0 x6_1) != 47) = false := bne_eq_false_iff_eq.mpr c12
         clear c12
         have H' := Aside0.mk H
         clear H
         have p5 : 0 ≤ (x6_1 : Int) := of_decide_eq_true z1
         have q5 : x6_1 < (a0.size : Int) := of_decide_eq_true z1
         have hx5 := bt_at a0 x6_1
         replace p5 := eq_true p5
         replace q5 := eq_true q5
         go_wp2_with (first | ((with_reducible refine gate_callee (f := 81) rfl ?_); refine goesL_ (some 12) rfl rfl Try.func81 z0 rfl #[.int .u8 (bt a0 x6_1)] rfl z7 ?_; (with_reducible refine (impl_isName.calls (bt a0 x6_1) false _ A6.out).mono ?_); rintro e w' ⟨rfl, ⟨nd, rfl⟩⟩; refine ⟨_, rfl, ?_⟩; have p8 : 0 ≤ (x6_1 : Int) := of_decide_eq_true z1; have q8 : x6_1 < (a0.size : Int) := of_decide_eq_true z1; have hx8 := bt_at a0 x6_1; replace p8 := eq_true p8; replace q8 := eq_true q8) | (go_at_call 82; (with_reducible refine (impl_isPlain.calls (bt a0 x6_1) false _ A9.out).mono ?_); rintro e w' ⟨rfl, ⟨nd, rfl⟩⟩; have p11 : 0 ≤ (x6_1 : Int) := of_decide_eq_true z1; have q11 : x6_1 < (a0.size : Int) := of_decide_eq_true z1; have hx11 := bt_at a0 x6_1; replace p11 := eq_true p11; replace q11 := eq_true q11))
         go_roundg k1
         case measure => have := HK1.out; omega
         case rel => exact ⟨(wrap64 (x6_1 + 1)), (by first | rfl | (simp; done) | (simp [*]; done)), H', ⟨by have := HK1.out; omega⟩, by repeat (first | exact Drawn0.refl _ | apply Drawn0.step)⟩
        ·rw [if_neg c12] at H
         have c12b0 : ((bt a0 x6_1) == 47) = false := beq_eq_false_iff_ne.mpr c12
         have c12b1 : ((bt a0 x6_1) != 47) = true := bne_iff_ne.mpr c12
         obtain rfl := Option.some.inj H
         have p5 : 0 ≤ (x6_1 : Int) := of_decide_eq_true z1
         have q5 : x6_1 < (a0.size : Int) := of_decide_eq_true z1
         have hx5 := bt_at a0 x6_1
         replace p5 := eq_true p5
         replace q5 := eq_true q5
         go_wp2_with (first | ((with_reducible refine gate_callee (f := 81) rfl ?_); refine goesL_ (some 12) rfl rfl Try.func81 z0 rfl #[.int .u8 (bt a0 x6_1)] rfl z7 ?_; (with_reducible refine (impl_isName.calls (bt a0 x6_1) false _ A6.out).mono ?_); rintro e w' ⟨rfl, ⟨nd, rfl⟩⟩; refine ⟨_, rfl, ?_⟩; have p8 : 0 ≤ (x6_1 : Int) := of_decide_eq_true z1; have q8 : x6_1 < (a0.size : Int) := of_decide_eq_true z1; have hx8 := bt_at a0 x6_1; replace p8 := eq_true p8; replace q8 := eq_true q8) | (go_at_call 82; (with_reducible refine (impl_isPlain.calls (bt a0 x6_1) false _ A9.out).mono ?_); rintro e w' ⟨rfl, ⟨nd, rfl⟩⟩; have p11 : 0 ≤ (x6_1 : Int) := of_decide_eq_true z1; have q11 : x6_1 < (a0.size : Int) := of_decide_eq_true z1; have hx11 := bt_at a0 x6_1; replace p11 := eq_true p11; replace q11 := eq_true q11))
         go_ret
         exact ⟨by first | rfl | (simp; done) | (simp [*]; done), by repeat (first | exact Drawn0.refl _ | apply Drawn0.step)⟩
     ·rw [if_neg c4] at H
      exact absurd H (by simp)
    ·rw [if_neg c3] at H
     exact absurd H (by simp)
   ·rw [if_neg c2] at H
    have c2b0 : decide (x6_1 < (a0.size : Int)) = false := decide_eq_false c2
    clear c2
    obtain rfl := Option.some.inj H
    go_wp2
    go_ret
    exact ⟨by first | rfl | (simp; done) | (simp [*]; done), by repeat (first | exact Drawn0.refl _ | apply Drawn0.step)⟩

/-! ### rope_Limb.txt, by hand -/
/-- A rope as a tree. -/
inductive Limb where
 | nil : Limb
 | node (l r : Limb) (s : ByteArray) (n d : Int) : Limb
def Limb.size : Limb → Int
 | .nil => 0
 | .node _ _ _ n _ => n
def Limb.deep : Limb → Int
 | .nil => 0
 | .node _ _ _ _ d => d
/-- The tree lies in w at A; every block of it is ok. -/
def LmAt (w : World) (ok : Nat → Prop) : Limb → Option Addr → Prop
 | .nil, A => A = none
 | .node l r s n d, A => ∃ b L R, A = some ⟨b, 0, none⟩ ∧ ok b ∧ w.heap[b]? = some (.cells #[.pointer L, .pointer R, .string s, .int .i64 n, .int .i64 d] 74 (0, 0)) ∧ LmAt w ok l L ∧ LmAt w ok r R
theorem LmAt.mono {w : World} {ok ok' : Nat → Prop} (hok : ∀ k, ok k → ok' k) : ∀ {t : Limb} {A : Option Addr}, LmAt w ok t A → LmAt w ok' t A
 | .nil, _, h => h
 | .node _ _ _ _ _, _, ⟨b, L, R, e, ho, hb, hl, hr⟩ => ⟨b, L, R, e, hok b ho, hb, hl.mono hok, hr.mono hok⟩
theorem LmAt.move {w w1 : World} {ok : Nat → Prop} (hm : ∀ k, ok k → w1.heap[k]? = w.heap[k]?) : ∀ {t : Limb} {A : Option Addr}, LmAt w ok t A → LmAt w1 ok t A
 | .nil, _, h => h
 | .node _ _ _ _ _, _, ⟨b, L, R, e, ho, hb, hl, hr⟩ => ⟨b, L, R, e, ho, (hm b ho).trans hb, hl.move hm, hr.move hm⟩
theorem LmAt.bound {w : World} {ok : Nat → Prop} : ∀ {t : Limb} {A : Option Addr}, LmAt w ok t A → LmAt w (fun k => ok k ∧ k < w.heap.size ∧ ∃ cells, w.heap[k]? = some (.cells cells 74 (0, 0))) t A
 | .nil, _, h => h
 | .node _ _ _ _ _, _, ⟨b, L, R, e, ho, hb, hl, hr⟩ => ⟨b, L, R, e, ⟨ho, blk_lt hb, _, hb⟩, hb, hl.bound, hr.bound⟩
theorem LmAt.below {w w1 : World} {ok : Nat → Prop} {t : Limb} {A : Option Addr} (h : LmAt w ok t A) (hb : Below w.heap.size w w1) : LmAt w1 ok t A :=
 (h.bound.move (fun k hk => hb.block k hk.2.1)).mono (fun _ hk => hk.1)
theorem LmAt.kept {w w1 : World} {ok S : Nat → Prop} {t : Limb} {A : Option Addr} (h : LmAt w ok t A) (hk : Kept w w1 S) (hS : ∀ k, S k → ∀ cells, w.heap[k]? ≠ some (.cells cells 74 (0, 0))) : LmAt w1 ok t A :=
 (h.bound.move (fun k hk' => hk.2 k hk'.2.1 (fun hs => by obtain ⟨_, _, c, hc⟩ := hk'; exact hS k hs c hc))).mono (fun _ hk => hk.1)
theorem LmAt.alloc {w : World} {ok : Nat → Prop} {t : Limb} {A : Option Addr} (h : LmAt w ok t A) (o : Obj) : LmAt (w.alloc o) ok t A := h.below (below_alloc (Below.refl _ _) o)
theorem LmAt.drew {w : World} {ok : Nat → Prop} {t : Limb} {A : Option Addr} (h : LmAt w ok t A) : LmAt w.drew ok t A := h.below (below_drew (Below.refl _ _))
theorem LmAt.drewN {w : World} {ok : Nat → Prop} {t : Limb} {A : Option Addr} (h : LmAt w ok t A) (n : Nat) : LmAt (w.drewN n) ok t A := h.below (pw_below_drewN (Below.refl _ _) n)
/-- A store into a block of another type. -/
theorem LmAt.set {w : World} {ok : Nat → Prop} {t : Limb} {A : Option Addr} (h : LmAt w ok t A) {g e : Nat} {cells : Array Value} (hb : w.heap[g]? = some (.cells cells e (0, 0))) (he : 74 ≠ e) (j : Nat) (u : Value) : LmAt (w.setCell ⟨g, j, none⟩ u) ok t A :=
 (h.bound.move (w1 := w.setCell ⟨g, j, none⟩ u) (fun k hk => Below.heap_setCell w ⟨g, j, none⟩ u k (fun e1 => by
  obtain ⟨_, _, c, hc⟩ := hk
  subst e1
  rw [hc] at hb
  injection hb with hb
  injection hb with _ hb
  exact he hb))).mono (fun _ hk => hk.1)
/-- A row of another type has been written. -/
theorem LmAt.grown {w w1 : World} {ok : Nat → Prop} {t : Limb} {A : Option Addr} (h : LmAt w ok t A) {v : Value} (hg : w.grownBy w1 v.ownBlock) {e : Nat} (hty : ∀ k, v.ownBlock = some k → ∃ cells, w.heap[k]? = some (.cells cells e (0, 0))) (he : 74 ≠ e) : LmAt w1 ok t A :=
 (h.bound.move (fun k hk => hg.block k hk.2.1 (fun e1 => by
  obtain ⟨_, _, c, hc⟩ := hk
  obtain ⟨c', hc'⟩ := hty k e1.symm
  rw [hc] at hc'
  injection hc' with hc'
  injection hc' with _ hc'
  exact he hc'))).mono (fun _ hk => hk.1)
theorem LmAt.nil_iff {w : World} {ok : Nat → Prop} {t : Limb} (h : LmAt w ok t none) : t = .nil := by
 cases t with
 | nil => rfl
 | node l r s n d => obtain ⟨b, L, R, e, _⟩ := h; cases e
/-- Pointers to trees, as elements of a row. -/
def kLm : Kd Limb where
 sz := 1
 E := [74]
 K := fun w x cs => ∃ A, cs = [.pointer A] ∧ LmAt w (fun _ => True) x A
 M := fun w base ok x cs => ∃ A, cs = [.pointer A] ∧ LmAt w (fun k => ok k ∧ base ≤ k) x A
 K_len := by rintro w x cs ⟨A, rfl, _⟩; rfl
 K_one := by rintro w x cs ⟨A, rfl, _⟩ u hu; rw [List.mem_singleton.1 hu]; rfl
 K_below := by rintro w w1 x cs hb ⟨A, rfl, h⟩; exact ⟨A, rfl, h.below hb⟩
 K_of_M := by rintro w base ok x cs ⟨A, rfl, h⟩; exact ⟨A, rfl, h.mono (fun _ _ => trivial)⟩
 M_mono := by rintro w base ok ok' x cs hok ⟨A, rfl, h⟩; exact ⟨A, rfl, h.mono (fun k hk => ⟨hok k hk.1, hk.2⟩)⟩
 M_bound := by rintro w base ok x cs ⟨A, rfl, h⟩; exact ⟨A, rfl, h.bound.mono (fun k hk => ⟨⟨hk.1.1, hk.1.2, hk.2.1, _, List.mem_singleton.2 rfl, hk.2.2⟩, hk.1.2⟩)⟩
 M_move := by rintro w w1 base ok x cs hm ⟨A, rfl, h⟩; exact ⟨A, rfl, h.move (fun k hk => hm k hk.1)⟩
 M_lower := by rintro w base base' ok x cs hb ⟨A, rfl, h⟩; exact ⟨A, rfl, h.mono (fun k hk => ⟨hk.1, Nat.le_trans hb hk.2⟩)⟩
def Limb.isNil : Limb → Bool
 | .nil => true
 | .node _ _ _ _ _ => false
def cnt : Limb → Nat
 | .nil => 0
 | .node l r _ _ _ => if l.isNil = true then 1 else cnt l + cnt r + 1
/-- How a row that is appended to goes on. -/
def RowTo (w w' : World) (v v' : Value) : Prop := Kept w w' (fun k => some k = v.ownBlock) ∧ (v'.ownBlock = v.ownBlock ∨ ∃ b, v'.ownBlock = some b ∧ w.heap.size ≤ b)
theorem RowTo.refl (w : World) (v : Value) : RowTo w w v v := ⟨Kept.refl _ _, .inl rfl⟩
theorem RowTo.trans {w w1 w2 : World} {v v1 v2 : Value} (h : RowTo w w1 v v1) (k : RowTo w1 w2 v1 v2) : RowTo w w2 v v2 := by
 obtain ⟨h1, h2⟩ := h
 obtain ⟨k1, k2⟩ := k
 refine ⟨h1.then_ k1 (fun b hb => ?_), ?_⟩
 ·rcases h2 with h2 | ⟨b', h2, hle⟩
  ·exact .inl (hb.trans h2)
  ·rw [h2] at hb; injection hb with hb; exact .inr (by omega)
 ·rcases k2 with k2 | ⟨b', k2, hle⟩
  ·rw [k2]; exact h2
  ·exact .inr ⟨b', k2, Nat.le_trans h1.1 hle⟩
theorem RowTo.drewN {w w' : World} {v v' : Value} (h : RowTo w w' v v') (n : Nat) : RowTo w (w'.drewN n) v v' := ⟨h.1.drewN n, h.2⟩
theorem RowTo.drew {w w' : World} {v v' : Value} (h : RowTo w w' v v') : RowTo w w'.drew v v' := ⟨h.1.drew, h.2⟩
theorem LmAt.rowTo {α : Type} {d : Kd α} {e base : Nat} {ok ok' : Nat → Prop} {w w' : World} {v v' : Value} {xs : List α} {t : Limb} {A : Option Addr} (h : LmAt w ok t A) (hr : d.R e w base ok' v xs) (he : 74 ≠ e) (hk : RowTo w w' v v') : LmAt w' ok t A :=
 h.kept hk.1 (fun k hs cells hc => by
  obtain ⟨inner, ho⟩ := Kd.R_own hr
  obtain ⟨c', hc'⟩ := own_typed ho k hs.symm
  rw [hc] at hc'
  injection hc' with hc'
  injection hc' with _ hc'
  exact he hc')
theorem RowTo.below {w0 w w' : World} {α : Type} {d : Kd α} {e : Nat} {ok : Nat → Prop} {v v' : Value} {xs : List α} (hb : Below w0.heap.size w0 w) (hr : d.R e w w0.heap.size ok v xs) (hw' : Below w0.heap.size w0 w') : Below w0.heap.size w0 w' := hw'

/-! ### impl_fork: function 69, by hand -/
def fk : Limb → Limb → Limb
 | .nil, b => b
 | .node l r s n d, .nil => .node l r s n d
 | .node l r s n d, .node l' r' s' n' d' => .node (.node l r s n d) (.node l' r' s' n' d') ⟨#[]⟩ (wrap64 (n + n')) (wrap64 (1 + max d d'))
theorem lm_cells {w : World} {ok : Nat → Prop} {l r : Limb} {s : ByteArray} {n d : Int} {A : Option Addr} (h : LmAt w ok (.node l r s n d) A) : ∃ b L R, A = some ⟨b, 0, none⟩ ∧ ok b ∧ w.heap[b]? = some (.cells #[.pointer L, .pointer R, .string s, .int .i64 n, .int .i64 d] 74 (0, 0)) ∧ LmAt w ok l L ∧ LmAt w ok r R := h
set_option maxHeartbeats 2000000 in
theorem fork_any (a b : Limb) (A B : Option Addr) (ok : Nat → Prop) (w : World) (ha : LmAt w ok a A) (hb : LmAt w ok b B) (hok : ∀ k, w.heap.size ≤ k → ok k) :
  Calls Try.prog 69 #[.pointer A, .pointer B] w fun e w' => ∃ C, e = .returned (.pointer C) ∧ LmAt w' ok (fk a b) C ∧ Below w.heap.size w w' := by
 cases a with
 | nil =>
  obtain rfl : A = none := ha
  have HB := Aside0.mk hb
  clear hb
  go_enter Try.func69, Try.ntmps69
  go_wp2
  go_ret
  exact ⟨B, rfl, by show LmAt _ ok b B; exact HB.out, Below.refl _ _⟩
 | node l r s n d =>
  have HA := Aside0.mk ha
  obtain ⟨p, L, R, rfl, hp, hc, hl, hr⟩ := ha
  cases b with
  | nil =>
   obtain rfl : B = none := hb
   clear hl hr hp hc
   go_enter Try.func69, Try.ntmps69
   go_wp2
   go_ret
   exact ⟨_, rfl, HA.out, Below.refl _ _⟩
  | node l' r' s' n' d' =>
   have HB := Aside0.mk hb
   obtain ⟨p', L', R', rfl, hp', hc', hl', hr'⟩ := hb
   have c3 : w.cell? ⟨p, 3, none⟩ = some (.int .i64 n) := (blk_cell hc 3).trans rfl
   have c4 : w.cell? ⟨p, 4, none⟩ = some (.int .i64 d) := (blk_cell hc 4).trans rfl
   have c3' : w.cell? ⟨p', 3, none⟩ = some (.int .i64 n') := (blk_cell hc' 3).trans rfl
   have c4' : w.cell? ⟨p', 4, none⟩ = some (.int .i64 d') := (blk_cell hc' 4).trans rfl
   clear hl hr hp hc hl' hr' hp' hc'
   go_enter Try.func69, Try.ntmps69
   go_wp2
   go_region
   go_wp2
   all_goals
    go_ret
    refine ⟨_, rfl, ⟨w.heap.size, some ⟨p, 0, none⟩, some ⟨p', 0, none⟩, rfl, hok _ (Nat.le_refl _), ?_, ?_, ?_⟩, ?_⟩
    rotate_left
    ·exact (HA.out.alloc _).drew
    ·exact (HB.out.alloc _).drew
    ·exact below_drew (below_alloc (Below.refl _ _) _)
    first | rw [Int.max_eq_left (by omega)] | rw [Int.max_eq_right (by omega)]
    exact blk_new _ _

/-! ### impl_leaf: function 78, by hand -/
def lf (s : ByteArray) : Limb := if s.toList = [] then .nil else .node .nil .nil s (s.size : Int) 0
set_option maxHeartbeats 1000000 in
theorem leaf_any (s : ByteArray) (w : World) :
  Calls Try.prog 78 #[.string s] w fun e w' => ∃ A, e = .returned (.pointer A) ∧ LmAt w' (fun k => w.heap.size ≤ k) (lf s) A ∧ Below w.heap.size w w' := by
 by_cases h : s.toList = []
 ·have e1 : s.toList.isEmpty = true := by simp [h]
  have e2 : (!s.toList.isEmpty) = false := by simp [h]
  have HL : Aside0 (lf s = .nil) := ⟨if_pos h⟩
  clear h
  go_enter Try.func78, Try.ntmps78
  go_wp2
  go_ret
  exact ⟨none, rfl, by rw [HL.out]; rfl, Below.refl _ _⟩
 ·have e1 : s.toList.isEmpty = false := by simp [h]
  have e2 : (!s.toList.isEmpty) = true := by simp [h]
  have HL : Aside0 (lf s = .node .nil .nil s (s.size : Int) 0) := ⟨if_neg h⟩
  clear h
  go_enter Try.func78, Try.ntmps78
  go_wp2
  go_ret
  exact ⟨_, rfl, by rw [HL.out]; exact ⟨_, none, none, rfl, Nat.le_refl _, blk_new _ _, rfl, rfl⟩, (Below.refl _ _).alloc (Nat.le_refl _) _⟩

/-! ### impl_balanced: function 60, by hand -/
/-- Pieces joined evenly. -/
def bal : Nat → List ByteArray → Limb
 | 0, _ => .nil
 | d + 1, ps => if ps.length = 0 then .nil else (if ps.length = 1 then lf (rdOf ByteArray.empty ps 0) else fk (bal d (ps.take ((ps.length + 1) / 2))) (bal d (ps.drop ((ps.length + 1) / 2))))
def BalAt (w : World) (ok : Nat → Prop) (t : Limb) (e : Ending) (w' : World) : Prop := ∃ P, e = .returned (.pointer P) ∧ LmAt w' ok t P ∧ Below w.heap.size w w'
set_option maxHeartbeats 4000000 in
set_option maxRecDepth 100000 in
theorem balanced_any : ∀ (d : Nat) (ps : List ByteArray) (A : Option Addr) (c : Nat) (ok : Nat → Prop) (w : World), ps.length ≤ d → Kd.string.C w A ps.length ps → ps.length ≤ c → ps.length ≤ 100000000 → (∀ k, w.heap.size ≤ k → ok k) →
  Calls Try.prog 60 #[.slice A ps.length c] w (BalAt w ok (bal d ps)) := by
 intro d
 induction d with
 | zero =>
  intro ps A c ok w hd hC hc hn hok
  obtain rfl : ps = [] := List.eq_nil_of_length_eq_zero (by omega)
  clear hC hn hd hok
  go_enter Try.func60, Try.ntmps60
  go_wp2
  go_ret
  exact ⟨none, rfl, rfl, Below.refl _ _⟩
 | succ d ih =>
  intro ps A c ok w hd hC hc hn hok
  by_cases h0 : ps.length = 0
  ·have hX : Aside0 (bal (d + 1) ps = .nil) := ⟨by unfold bal; rw [if_pos h0]⟩
   rw [hX.out, h0]
   clear hC hn hd hok hX h0 ih hc
   go_enter Try.func60, Try.ntmps60
   go_wp2
   go_ret
   exact ⟨none, rfl, rfl, Below.refl _ _⟩
  ·by_cases h1 : ps.length = 1
   ·have hX : Aside0 (bal (d + 1) ps = lf (rdOf ByteArray.empty ps 0)) := ⟨by unfold bal; rw [if_neg h0, if_pos h1]⟩
    obtain ⟨ad, rfl, hc0⟩ := Kd.at_string hC 0 (by omega) (by omega)
    have hc1 : w.cell? ad = some (.string (rdOf ByteArray.empty ps 0)) := by rw [show ad.add (Int.toNat 0) = ad by cases ad; rfl] at hc0; exact hc0
    clear hc0
    have HK := Aside0.mk hok
    rw [hX.out, h1]
    clear hC hn hd hok hX h0 ih hc h1
    go_enter Try.func60, Try.ntmps60
    go_wp2_with (first | (go_at_call 78; refine (leaf_any _ _).mono ?_; rintro e w1 ⟨P, rfl, hl, hb⟩; have HL := Aside0.mk hl; have HB := Aside0.mk hb; clear hl hb))
    go_ret
    exact ⟨P, rfl, HL.out.mono HK.out, HB.out⟩
   ·obtain ⟨m, hm⟩ : ∃ m, (ps.length + 1) / 2 = m := ⟨_, rfl⟩
    have hm1 : m ≤ ps.length := by omega
    have hm2 : m ≤ d := by omega
    have hm3 : ps.length - m ≤ d := by omega
    have hX : Aside0 (bal (d + 1) ps = fk (bal d (ps.take m)) (bal d (ps.drop m))) := ⟨by rw [← hm]; conv => lhs; unfold bal; rw [if_neg h0, if_neg h1]⟩
    rw [hX.out]
    have L1 : (ps.take m).length = m := by rw [List.length_take]; omega
    have L2 : (ps.drop m).length = ps.length - m := by rw [List.length_drop]
    have C1 := Kd.C_take hC hm1
    have C2 : Kd.string.C w (if c = m then A else A.map (·.add (m * 1))) (ps.drop m).length (ps.drop m) := Kd.C_drop hC hm1 hc
    rw [L1] at C1
    rw [L2] at C2
    have HC1 := Aside0.mk C1
    have HI1 : Aside0 (∀ w', Kd.string.C w' A m (ps.take m) → (∀ k, w'.heap.size ≤ k → ok k) → Calls Try.prog 60 #[.slice A m c] w' (BalAt w' ok (bal d (ps.take m)))) := ⟨fun w' h1 h2 => by
     have := ih (ps.take m) A c ok w' (by omega) (by rw [L1]; exact h1) (by omega) (by omega) h2
     rw [L1] at this
     exact this⟩
    have HC2 := Aside0.mk C2
    have HI2 : Aside0 (∀ w', Kd.string.C w' (if c = m then A else A.map (·.add (m * 1))) (ps.length - m) (ps.drop m) → (∀ k, w'.heap.size ≤ k → ok k) → Calls Try.prog 60 #[.slice (if c = m then A else A.map (·.add (m * 1))) (ps.length - m) (c - m)] w' (BalAt w' ok (bal d (ps.drop m)))) := ⟨fun w' h1 h2 => by
     have := ih (ps.drop m) (if c = m then A else A.map (·.add (m * 1))) (c - m) ok w' (by omega) (by rw [L2]; exact h1) (by omega) (by omega) h2
     rw [L2] at this
     exact this⟩
    have HK := Aside0.mk hok
    obtain ⟨i9, hi9, _, hz9, _⟩ := info_parts info9
    have hcut1 := cut_to (P := Try.prog) 44 9 .i64 Try.underlying44 hi9 A ps.length c (m : Int) (by omega) (by omega) hc
    have hcut2 := cut_from (P := Try.prog) 44 9 .i64 Try.underlying44 hi9 1 hz9 A ps.length c (m : Int) (by omega) (by omega)
    simp only [Int.toNat_natCast] at hcut1 hcut2
    obtain ⟨A2, hA2⟩ : ∃ A2, (if c = m then A else A.map (·.add (m * 1))) = A2 := ⟨_, rfl⟩
    rw [hA2] at HI2 HC2 hcut2
    clear hA2 hi9 hz9
    have hw1 : wrap64 ((ps.length : Int) + 1) = (ps.length : Int) + 1 := by unfold wrap64; omega
    have hw2 : ((ps.length : Int) + 1) / 2 = (m : Int) := by omega
    have b0 : ((ps.length : Int) == 0) = false := beq_eq_false_iff_ne.mpr (by omega)
    have b1 : ((ps.length : Int) == 1) = false := beq_eq_false_iff_ne.mpr (by omega)
    have HW := Aside0.mk hw2
    clear hC hd hok hX ih C1 C2 L1 L2 hm1 hm2 hm3 hm h0 h1 hw1 hw2
    go_enter Try.func60, Try.ntmps60
    go_wp2
    rw [HW.out]
    go_region_held3 (fun _ => True) (first | trivial) (first | (go_at_call 69; refine (fork_any _ _ P1 P2 ok _ HL1.out HL2.out ?g1).mono ?_; (case g1 => exact fun k hk => HK.out k (by have h1 := HB1.out.size; have h2 := HB2.out.size; simp at h1 h2 hk; omega)); rintro e w3 ⟨P3, rfl, hl, hb⟩; have HL3 := Aside0.mk hl; have HB3 := Aside0.mk hb; clear hl hb) | (go_at_call_of 60 (Value.slice A m c); refine (HI1.out _ ?g1 ?g2).mono ?_; (case g1 => (first | exact HC1.out | exact Kd.C_drew HC1.out | exact Kd.C_drewN HC1.out _)); (case g2 => exact HK.out); rintro e w1 ⟨P1, rfl, hl, hb⟩; have HL1' := Aside0.mk hl; have HB1 := Aside0.mk hb; clear hl hb) | (go_at_call 60; refine (HI2.out _ ?g1 ?g2).mono ?_; (case g1 => exact Kd.C_below (by (first | exact HC2.out | exact Kd.C_drew HC2.out | exact Kd.C_drewN HC2.out _)) HB1.out); (case g2 => exact fun k hk => HK.out k (by have h1 := HB1.out.size; simp at h1 hk; omega)); rintro e w2 ⟨P2, rfl, hl, hb⟩; have HL2 := Aside0.mk hl; have HB2 := Aside0.mk hb; have HL1 := Aside0.mk (HL1'.out.below hb); clear hl hb))
    go_wp2
    go_ret
    exact ⟨P3, rfl, HL3.out, below_step (below_step (by (first | exact HB1.out | exact below_step (below_drew (Below.refl _ _)) HB1.out)) HB2.out) HB3.out⟩
/-- balanced, at a row of the call's own. -/
theorem balanced_row {w1 : World} {v : Value} {ps : List ByteArray} {base : Nat} {ok' : Nat → Prop} (h : Kd.R Kd.string 9 w1 base ok' v ps) (hn : ps.length ≤ 100000000) : ∃ A c, v = .slice A ps.length c ∧ Calls Try.prog 60 #[.slice A ps.length c] w1 (BalAt w1 (fun _ => True) (bal ps.length ps)) := by
 obtain ⟨A, c, e, hc, hr⟩ := Kd.R_reads h
 exact ⟨A, c, e, balanced_any ps.length ps A c (fun _ => True) w1 (Nat.le_refl _) hr hc hn (fun _ _ => trivial)⟩

end Go.Proofs.Ytmkenlejdaphnaa.AFnExactRopeOf
