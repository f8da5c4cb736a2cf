-- this session's own text: written by wip/tools/ownprint.py over the kit's print
import Derived.Test.YtmkenlejdaphnaaAFnBalancedx0
import Derived.Test.YtmkenlejdaphnaaAFnBalancedx2
import Derived.Test.YtmkenlejdaphnaaAFnBalancedx4
import Derived.Test.YtmkenlejdaphnaaAFnBalancedx5
import Derived.Test.YtmkenlejdaphnaaAFnBalancedx6
namespace Go.Proofs.Ytmkenlejdaphnaa.AFnBalanced
open Go.RowKit Go.Proofs.YtmkenlejdaphnaaW.PrintWords Go.Proofs.YtmkenlejdaphnaaW.PrintLast Go.Proofs.YtmkenlejdaphnaaW.PrintMore
attribute [local go_sem] max2_int min2_int max_two min_two max_three min_three max_four min_four   -- for this text's walks alone
set_option linter.unusedVariables false
set_option linter.unusedSimpArgs false

/-! ### spec_l12Cut: function 58 -/
def spec_l12Cut.l0 : Nat → ByteArray → List ByteArray → Option (List ByteArray)
 | 0, _, _ => none
 | k + 1, x0, x3 => if (x0.size : Int) > 8 then (if 0 ≤ 8 then (if 8 ≤ (x0.size : Int) then (if x3.length < 8796093022208 then (spec_l12Cut.l0 k (x0.extract 8 x0.size) (x3 ++ [x0.extract 0 8])) else (none)) else (none)) else (none)) else (if x0.toList = ([] : List UInt8) then (some x3) else (if x3.length < 8796093022208 then (some (x3 ++ [x0])) else (none)))
def spec_l12Cut.f (k : Nat) (a0 : ByteArray) : Option (List ByteArray) := spec_l12Cut.l0 k a0 ([] : List ByteArray)
theorem spec_l12Cut.mono_l : ∀ k, (∀ y0 y1, LeO (spec_l12Cut.l0 k y0 y1) (spec_l12Cut.l0 (k + 1) y0 y1))
 | 0 => fun _ _ r h => by simp [spec_l12Cut.l0] at h
 | k + 1 => by
  have ih0 := spec_l12Cut.mono_l k
  ·intro y0 y1
   unfold spec_l12Cut.l0
   repeat' first
   | (with_reducible exact ih0 _ _)
   | (with_reducible exact LeO.refl _)
   | (with_reducible exact LeO.none _)
   | (with_reducible refine LeO.ite ?_ ?_)
   | (with_reducible refine LeO.bind ?_ (fun _ => ?_))
theorem spec_l12Cut.mono : ∀ a0 k, LeO (spec_l12Cut.f k a0) (spec_l12Cut.f (k + 1) a0) := by
 intro a0 k
 have ih0 := spec_l12Cut.mono_l k
 unfold spec_l12Cut.f
 repeat' first
   | (with_reducible exact ih0 _ _)
   | (with_reducible exact LeO.refl _)
   | (with_reducible exact LeO.none _)
   | (with_reducible refine LeO.ite ?_ ?_)
   | (with_reducible refine LeO.bind ?_ (fun _ => ?_))
set_option maxHeartbeats 8000000 in
set_option maxRecDepth 100000 in
theorem spec_l12Cut.calls (k : Nat) (a0 : ByteArray) (r : List ByteArray) (w : World) (h : spec_l12Cut.f k a0 = some r) :
  Calls Try.prog 58 #[.string a0] w fun e w' => ∃ v0_ : Value, e = .returned (v0_) ∧ Kd.R Kd.string 9 w' w.heap.size (fun _ => True) v0_ r ∧ Below w.heap.size w w' := by
 have HB := aM (Below.refl w.heap.size w)
 have H : (spec_l12Cut.l0 k a0 ([] : List ByteArray)) = some r := h
 clear h
 have H' := aM H
 clear H
 go_enter Try.func58, Try.ntmps58
 go_wp2
 go_loopg [0, 3] k (fun kq v0 v3 w' => ∃ (x0_1 : ByteArray) (x3_1 : List ByteArray), v0 = .string x0_1 ∧ Aside0 (spec_l12Cut.l0 kq x0_1 x3_1 = some r) ∧ Aside0 (kq ≤ k) ∧ Aside0 (Kd.R Kd.string 9 w' w.heap.size (fun _ => True) v3 x3_1) ∧ Aside0 (Below w.heap.size w w'))
 case atStart => exact ⟨(a0), (([] : List ByteArray)), z1, H', ⟨Nat.le_refl _⟩, ⟨y10⟩, ⟨y5⟩⟩
 case round =>
  clear H'
  obtain ⟨x0_1, x3_1, rfl, HA, HK1, eF, HB⟩ := hrel
  cases gk with
  | zero => exact absurd HA.out (by simp [spec_l12Cut.l0])
  | succ k1 =>
   have H := HA.out
   clear HA
   simp only [spec_l12Cut.l0] at H
   by_cases c2 : (x0_1.size : Int) > 8
   ·rw [if_pos c2] at H
    have c2b0 : decide (8 < (x0_1.size : Int)) = true := dT c2
    have c2b1 : decide (8 < x0_1.size) = true := dT (by omega)
    clear c2
    by_cases c3 : 0 ≤ 8
    ·rw [if_pos c3] at H
     have c3b0 := eq_true c3
     have c3b1 : decide (0 ≤ 8) = true := dT c3
     clear c3
     by_cases c4 : 8 ≤ (x0_1.size : Int)
     ·rw [if_pos c4] at H
      have c4b0 := eq_true c4
      have c4b1 : decide (8 ≤ (x0_1.size : Int)) = true := dT c4
      clear c4
      by_cases c5 : x3_1.length < 8796093022208
      ·rw [if_pos c5] at H
       have LMc5 := aM c5
       clear c5
       obtain ⟨y145, hy145⟩ : ∃ y_ : List ByteArray, y_ = (x3_1 ++ [x0_1.extract 0 8]) := ⟨_, rfl⟩
       replace H : (spec_l12Cut.l0 k1 (x0_1.extract 8 x0_1.size) y145) = some r := by first | (rw [hy145]; with_reducible exact H) | (have H2_ := (Option.bind_some _ _).symm.trans H; rw [hy145]; with_reducible exact H2_) | (have H2_ := (Option.bind_some _ _).symm.trans H; with_reducible exact H2_) | with_reducible exact H | (rw [hy145]; exact H) | exact H
       have Ny145 := aM hy145
       clear hy145
       have c6b0 := eq_true (oD z2 : 8 ≤ (x0_1.size : Int))
       have H' := aM H
       clear H
       go_wp2_with (first | ((with_reducible refine gate_builtin (b := .append) (xs := #[.tmp 7, .tmp 10]) rfl ?_); at_builtin; refine Kd.R_append Kd.string (w0 := w) w.heap.size rfl (.tmp 7) (.tmp 10) 44 9 (.string ⟨#[]⟩) 16 rfl Try.underlying44 info9 rfl (by decide) (by omega) u3 x3_1 (x0_1.extract 0 8) [.string (x0_1.extract 0 8)] (fun _ => True) (fun _ => False) rfl rfl ?aP (fun _ hk => hk.elim) ?aF ?aO ?aB ?aS ?aL ?_; (case aP => exact rfl); (case aB => exact z16); (case aF => exact (fun _ _ => trivial)); (case aO => exact (kR_ eF.out)); (case aS => exact (aA z16)); (case aL => have := LMc5.out; omega); intro v146 w7 ho hb hg hat; rw [← Ny145.out] at ho; replace HB := aM (hb); have HO147 := aM (ho); clear eF; clear ho hb hg hat))
       go_roundg k1
       case measure => have := HK1.out; omega
       case rel => exact ⟨(x0_1.extract 8 x0_1.size), (y145), z1, H', ⟨y0⟩, ⟨kR_ HO147.out⟩, ⟨y5⟩⟩
      ·rw [if_neg c5] at H
       exact absurd H (by simp)
     ·rw [if_neg c4] at H
      exact absurd H (by simp)
    ·exact absurd (by decide) c3
   ·rw [if_neg c2] at H
    have c2b0 : decide (8 < (x0_1.size : Int)) = false := dF c2
    have c2b1 : decide (8 < x0_1.size) = false := dF (by omega)
    clear c2
    by_cases c8 : x0_1.toList = ([] : List UInt8)
    ·rw [if_pos c8] at H
     have c8b0 : (x0_1.toList == ([] : List UInt8)) = true := qT c8
     have c8b1 : (x0_1.toList != ([] : List UInt8)) = false := nF c8
     clear c8
     obtain rfl := sI H
     go_wp2
     all_goals (try (exfalso; rename_i h_; rw [c8b0] at h_; cases h_; done))
     go_ret
     exact ⟨_, y4, by (with_reducible repeat (first | apply ae | apply ac | apply aa)); exact eF.out, y5⟩
    ·rw [if_neg c8] at H
     have c8b0 : (x0_1.toList == ([] : List UInt8)) = false := qF c8
     have c8b1 : (x0_1.toList != ([] : List UInt8)) = true := nT c8
     by_cases c9 : x3_1.length < 8796093022208
     ·rw [if_pos c9] at H
      have LMc9 := aM c9
      clear c9
      obtain ⟨y148, hy148⟩ : ∃ y_ : List ByteArray, y_ = (x3_1 ++ [x0_1]) := ⟨_, rfl⟩
      replace H : (some y148) = some r := by first | (rw [hy148]; with_reducible exact H) | (have H2_ := (Option.bind_some _ _).symm.trans H; rw [hy148]; with_reducible exact H2_) | (have H2_ := (Option.bind_some _ _).symm.trans H; with_reducible exact H2_) | with_reducible exact H | (rw [hy148]; exact H) | exact H
      have Ny148 := aM hy148
      clear hy148
      obtain rfl := sI H
      go_wp2_with (first | ((with_reducible refine gate_builtin (b := .append) (xs := #[.tmp 16, .tmp 18]) rfl ?_); at_builtin; refine Kd.R_append Kd.string (w0 := w) w.heap.size rfl (.tmp 16) (.tmp 18) 44 9 (.string ⟨#[]⟩) 16 rfl Try.underlying44 info9 rfl (by decide) (by omega) u3 x3_1 x0_1 [.string x0_1] (fun _ => True) (fun _ => False) rfl rfl ?aP (fun _ hk => hk.elim) ?aF ?aO ?aB ?aS ?aL ?_; (case aP => exact rfl); (case aB => exact z16); (case aF => exact (fun _ _ => trivial)); (case aO => exact (kR_ eF.out)); (case aS => exact (aA z16)); (case aL => have := LMc9.out; omega); intro v149 w10 ho hb hg hat; rw [← Ny148.out] at ho; replace HB := aM (hb); have ie := aM (ho); clear eF; clear ho hb hg hat))
      all_goals (try (exfalso; rename_i h_; rw [c8b0] at h_; cases h_; done))
      go_ret
      exact ⟨_, y4, by (with_reducible repeat (first | apply ae | apply ac | apply aa)); exact ie.out, y5⟩
     ·rw [if_neg c9] at H
      exact absurd H (by simp)

/-! ### spec_RopeOf: function 25, by hand -/
def spec_RopeOf.f (k : Nat) (a0 : ByteArray) : Option ((List (S58)) × Bool) := (spec_GoodText.f k a0).bind fun t161 => (if t161 = true then ((spec_l12Cut.f k a0).bind fun t162 => ((spec_l12Build.f k t162).bind fun dD => (some (dD, true)))) else (some (([] : List (S58)), false)))
theorem spec_RopeOf.mono : ∀ a0 k, LeO (spec_RopeOf.f k a0) (spec_RopeOf.f (k + 1) a0) := by
 intro a0 k
 unfold spec_RopeOf.f
 repeat' first
   | (with_reducible exact spec_GoodText.mono _ _)
   | (with_reducible exact spec_l12Build.mono _ _)
   | (with_reducible exact spec_l12Cut.mono _ _)
   | (with_reducible exact LeO.refl _)
   | (with_reducible exact LeO.none _)
   | (with_reducible refine LeO.ite ?_ ?_)
   | (with_reducible refine LeO.bind ?_ (fun _ => ?_))
set_option maxHeartbeats 8000000 in
set_option maxRecDepth 100000 in
theorem spec_RopeOf.calls (k : Nat) (a0 : ByteArray) (r1 : List (S58)) (r2 : Bool) (w : World) (h : spec_RopeOf.f k a0 = some (r1, r2)) :
  Calls Try.prog 25 #[.string a0] w fun e w' => ∃ v0_ : Value, e = .returned (.tuple #[.agg #[v0_], .bool r2]) ∧ Kd.R k58 58 w' w.heap.size (fun _ => True) v0_ r1 ∧ Below w.heap.size w w' := by
 obtain ⟨W2, hW2⟩ : ∃ W2, w.alloc (.cells #[.slice none 0 0] 29) = W2 := ⟨_, rfl⟩
 have HB0 := aM (show Below w.heap.size w W2 by rw [← hW2]; exact bA (Below.refl _ _) _)
 have BX : Aside0 (W2.heap[w.heap.size]? = some (.cells #[.slice none 0 0] 29 (0, 0))) := ⟨by rw [← hW2]; exact blk_new _ _⟩
 have HWE := aM hW2
 obtain ⟨gg, hg, h⟩ := oB h
 have HG := aM hg
 clear hg hW2
 cases gg with
 | false =>
  rw [if_neg (by simp)] at h
  obtain ⟨rfl, rfl⟩ := Prod.mk.inj (sI h)
  clear h
  go_enter Try.func25, Try.ntmps25
  go_wp2_with (first | (go_at_call 56; (try rw [HWE.out]); refine (spec_GoodText.calls k a0 _ _ HG.out).mono ?_; rintro e w1 ⟨rfl, hb⟩; (try replace hb := hb.below); have nb_ := aM (az HB0.out hb); have nx_ := aM (af BX.out hb); clear HB0 BX; have HB0 := nb_; have BX := nx_; clear nb_ nx_; (try clear cB fB); have cB : w1.cell? ⟨w.heap.size, 0, none⟩ = some (.slice none 0 0) := (bC BX.out 0).trans rfl; have fB := bF BX.out 0; clear hb))
  refine aT (aU rfl _ _ w.heap.size 29 #[.slice none 0 0] (0, 0) _ rfl (by exact aw (cs := #[.slice none 0 0]) BX.out 0 _ rfl) Try.underlying29 rfl z0) rfl ?_
  exact ⟨_, rfl, Kd.R_nil _ _ _ _ _, ay HB0.out (by omega)⟩
 | true =>
 rw [if_pos rfl] at h
 obtain ⟨cu, hcu, h⟩ := oB h
 obtain ⟨bu, hbu, h⟩ := oB h
 have HCU := aM hcu
 have HBU := aM hbu
 obtain ⟨rfl, rfl⟩ := Prod.mk.inj (sI h)
 clear h hcu hbu
 go_enter Try.func25, Try.ntmps25
 go_wp2_with (first | (go_at_call 56; (try rw [HWE.out]); refine (spec_GoodText.calls k a0 _ _ HG.out).mono ?_; rintro e w1 ⟨rfl, hb⟩; (try replace hb := hb.below); have nb_ := aM (az HB0.out hb); have nx_ := aM (af BX.out hb); clear HB0 BX; have HB0 := nb_; have BX := nx_; clear nb_ nx_; (try clear cB fB); have cB : w1.cell? ⟨w.heap.size, 0, none⟩ = some (.slice none 0 0) := (bC BX.out 0).trans rfl; have fB := bF BX.out 0; clear hb) | (go_at_call 58; refine (spec_l12Cut.calls k a0 cu _ HCU.out).mono ?_; rintro e w2 ⟨v2, rfl, ho, hb⟩; obtain ⟨A4, c4, eo⟩ := Kd.R_slice ho; subst eo; have qa := aM (ai ho).2.2; have HL4 := aM (ai ho).2.1; have nb_ := aM (az HB0.out hb); have nx_ := aM (af BX.out hb); clear HB0 BX; have HB0 := nb_; have BX := nx_; clear nb_ nx_; (try clear cB fB); have cB : w2.cell? ⟨w.heap.size, 0, none⟩ = some (.slice none 0 0) := (bC BX.out 0).trans rfl; have fB := bF BX.out 0; clear ho hb) | (go_at_call 57; refine (spec_l12Build.calls k A4 c4 cu bu _ (by repeat (first | exact qa.out | (with_reducible refine aG ?_ _) | (with_reducible refine aH ?_ _) | (with_reducible refine aI ?_))) HL4.out HBU.out).mono ?_; rintro e w3 ⟨v3, rfl, ho, hb⟩; obtain ⟨A5, c5, eo⟩ := Kd.R_slice ho; subst eo; have HV := aM ho; have HSZ := aM HB0.out.size; have nb_ := aM (az HB0.out hb); have nx_ := aM (af BX.out hb); clear HB0 BX; have HB0 := nb_; have BX := nx_; clear nb_ nx_; (try clear cB fB); have cB : w3.cell? ⟨w.heap.size, 0, none⟩ = some (.slice none 0 0) := (bC BX.out 0).trans rfl; have fB := bF BX.out 0; clear ho hb))
 refine aT (aU rfl _ _ w.heap.size 29 #[.slice A5 bu.length c5] (0, 0) _ rfl (by exact aw (cs := #[.slice none 0 0]) BX.out 0 _ rfl) Try.underlying29 rfl z0) rfl ?_
 exact ⟨_, rfl, Kd.R_set (aV HV.out HSZ.out) BX.out (by decide) 0 _, ay HB0.out (by omega)⟩

/-! ### spec_JoinRopes: function 34, by hand -/
def spec_JoinRopes.j0 : Nat → Bool → List (S58) → List (S58) → Option ((List (S58)) × Bool)
 | 0, _, _, _ => none
 | k + 1, x14, x197000, x198000 => if x14 = true then (some (([] : List (S58)), false)) else ((some (([] : List (S58)) : List (S58))).bind fun y201 => ((spec_l12Join.f k x197000 x198000).bind fun fa => (if y201.length + fa.length < 2932031007402 then ((some (y201 ++ fa : List (S58))).bind fun y207 => ((spec_GoodRope.f k y207).bind fun jE => (if jE = true then (some (y207, true)) else (some (([] : List (S58)), false))))) else (none))))
def spec_JoinRopes.f (k : Nat) (l0_0 : List (S58)) (l1_0 : List (S58)) : Option ((List (S58)) × Bool) := (spec_GoodRope.f k l0_0).bind fun kS => (if kS = true then ((spec_GoodRope.f k l1_0).bind fun kA => (spec_JoinRopes.j0 k (!kA) l0_0 l1_0)) else (spec_JoinRopes.j0 k true l0_0 l1_0))
theorem spec_JoinRopes.mono_l : ∀ k, (∀ y0 y1 y2, LeO (spec_JoinRopes.j0 k y0 y1 y2) (spec_JoinRopes.j0 (k + 1) y0 y1 y2))
 | 0 => fun _ _ _ r h => by simp [spec_JoinRopes.j0] at h
 | k + 1 => by
  have ih0 := spec_JoinRopes.mono_l k
  ·intro y0 y1 y2
   unfold spec_JoinRopes.j0
   repeat' first
   | (with_reducible exact ih0 _ _ _)
   | (with_reducible exact spec_GoodRope.mono _ _)
   | (with_reducible exact spec_l12Join.mono _ _ _)
   | (with_reducible exact LeO.refl _)
   | (with_reducible exact LeO.none _)
   | (with_reducible refine LeO.ite ?_ ?_)
   | (with_reducible refine LeO.bind ?_ (fun _ => ?_))
theorem spec_JoinRopes.mono : ∀ a0 a1 k, LeO (spec_JoinRopes.f k a0 a1) (spec_JoinRopes.f (k + 1) a0 a1) := by
 intro a0 a1 k
 have ih0 := spec_JoinRopes.mono_l k
 unfold spec_JoinRopes.f
 repeat' first
   | (with_reducible exact ih0 _ _ _)
   | (with_reducible exact spec_GoodRope.mono _ _)
   | (with_reducible exact spec_l12Join.mono _ _ _)
   | (with_reducible exact LeO.refl _)
   | (with_reducible exact LeO.none _)
   | (with_reducible refine LeO.ite ?_ ?_)
   | (with_reducible refine LeO.bind ?_ (fun _ => ?_))
/-- What stands through the whole call. -/
def JrF (A0 : Option Addr) (c0 : Nat) (l0 : List S58) (A1 : Option Addr) (c1 : Nat) (l1 : List S58) (w W : World) : Prop := Below w.heap.size w W ∧ W.heap[w.heap.size]? = some (.cells #[.slice A0 l0.length c0] 29 (0, 0)) ∧ W.heap[w.heap.size + 1]? = some (.cells #[.slice A1 l1.length c1] 29 (0, 0)) ∧ W.heap[w.heap.size + 1 + 1]? = some (.cells #[.slice none 0 0] 29 (0, 0)) ∧ Kd.C k58 W A0 l0.length l0 ∧ Kd.C k58 W A1 l1.length l1
section
variable {A0 : Option Addr} {c0 : Nat} {l0 : List S58} {A1 : Option Addr} {c1 : Nat} {l1 : List S58} {w W W' : World}
theorem JrF.below (h : JrF A0 c0 l0 A1 c1 l1 w W) (hb : Below W.heap.size W W') : JrF A0 c0 l0 A1 c1 l1 w W' := ⟨az h.1 hb, af h.2.1 hb, af h.2.2.1 hb, af h.2.2.2.1 hb, aE h.2.2.2.2.1 hb, aE h.2.2.2.2.2 hb⟩
theorem JrF.alloc (h : JrF A0 c0 l0 A1 c1 l1 w W) (o : Obj) : JrF A0 c0 l0 A1 c1 l1 w (W.alloc o) := h.below (bA (Below.refl _ _) _)
theorem JrF.drewN (h : JrF A0 c0 l0 A1 c1 l1 w W) (n : Nat) : JrF A0 c0 l0 A1 c1 l1 w (W.drewN n) := h.below (pD (Below.refl _ _) _)
theorem JrF.drew (h : JrF A0 c0 l0 A1 c1 l1 w W) : JrF A0 c0 l0 A1 c1 l1 w W.drew := h.below (below_drew (Below.refl _ _))
end
set_option maxHeartbeats 8000000 in
set_option maxRecDepth 100000 in
theorem spec_JoinRopes.calls (k : Nat) (bB : Option Addr) (bo : Nat) (l0_0 : List S58) (dU : Option Addr) (dR : Nat) (l1_0 : List S58) (r1 : List S58) (r2 : Bool) (w : World) (hr0_0 : Kd.C k58 w bB l0_0.length l0_0) (hc0_0 : l0_0.length ≤ bo) (hr1_0 : Kd.C k58 w dU l1_0.length l1_0) (hc1_0 : l1_0.length ≤ dR) (h : spec_JoinRopes.f k l0_0 l1_0 = some (r1, r2)) :
  Calls Try.prog 34 #[.agg #[.slice bB l0_0.length bo], .agg #[.slice dU l1_0.length dR]] w fun e w' => ∃ v0_ : Value, e = .returned (.tuple #[.agg #[v0_], .bool r2]) ∧ Kd.R k58 58 w' w.heap.size (fun _ => True) v0_ r1 ∧ Below w.heap.size w w' := by
 obtain ⟨W2, hW2⟩ : ∃ W2, ((w.alloc (.cells #[.slice bB l0_0.length bo] 29)).alloc (.cells #[.slice dU l1_0.length dR] 29)).alloc (.cells #[.slice none 0 0] 29) = W2 := ⟨_, rfl⟩
 have HWB : Below w.heap.size w W2 := by rw [← hW2]; exact bA (bA (bA (Below.refl _ _) _) _) _
 have HF : Aside0 (JrF bB bo l0_0 dU dR l1_0 w W2) := ⟨HWB, by rw [← hW2]; have := au (au (blk_new w (.cells #[.slice bB l0_0.length bo] 29)) (.cells #[.slice dU l1_0.length dR] 29)) (.cells #[.slice none 0 0] 29); simpa using this, by rw [← hW2]; have := au (blk_new (w.alloc (.cells #[.slice bB l0_0.length bo] 29)) (.cells #[.slice dU l1_0.length dR] 29)) (.cells #[.slice none 0 0] 29); simpa using this, by rw [← hW2]; have := blk_new ((w.alloc (.cells #[.slice bB l0_0.length bo] 29)).alloc (.cells #[.slice dU l1_0.length dR] 29)) (.cells #[.slice none 0 0] 29); simpa using this, aE hr0_0 HWB, aE hr1_0 HWB⟩
 have HWE := aM hW2
 have dy := aM hc0_0
 have dN := aM hc1_0
 obtain ⟨gg, hg, h⟩ := oB h
 have HG := aM hg
 clear HWB hr0_0 hc0_0 hr1_0 hc1_0 hg hW2
 cases gg with
 | false =>
  rw [if_neg (by simp)] at h
  cases k with
  | zero => exact absurd h (by simp [spec_JoinRopes.j0])
  | succ k2 =>
  simp only [spec_JoinRopes.j0, if_true] at h
  obtain ⟨rfl, rfl⟩ := Prod.mk.inj (sI h)
  clear h
  go_enter Try.func34, Try.ntmps34
  go_wp2_with (first | (go_at_call_of 15 (Value.agg #[.slice bB l0_0.length bo]); (try rw [HWE.out]); refine (spec_GoodRope.calls (k2 + 1) _ _ l0_0 _ _ (by repeat (first | exact HF.out.2.2.2.2.1 | (with_reducible refine aG ?_ _) | (with_reducible refine aH ?_ _) | (with_reducible refine aI ?_))) dy.out HG.out).mono ?_; rintro e w1 ⟨rfl, hb⟩; replace HF := aM (JrF.below (by repeat (first | exact HF.out | (with_reducible refine JrF.alloc ?_ _) | (with_reducible refine JrF.drewN ?_ _) | (with_reducible refine JrF.drew ?_))) hb); (try clear cA cB cR fR); have cA : w1.cell? ⟨w.heap.size, 0, none⟩ = some (.slice bB l0_0.length bo) := (bC HF.out.2.1 0).trans rfl; have cB : w1.cell? ⟨w.heap.size + 1, 0, none⟩ = some (.slice dU l1_0.length dR) := (bC HF.out.2.2.1 0).trans rfl; have cR : w1.cell? ⟨w.heap.size + 1 + 1, 0, none⟩ = some (.slice none 0 0) := (bC HF.out.2.2.2.1 0).trans rfl; have fR := bF HF.out.2.2.2.1 0; clear hb))
  refine aT (aU rfl _ _ (w.heap.size + 1 + 1) 29 #[.slice none 0 0] (0, 0) _ rfl (by exact aw (cs := #[.slice none 0 0]) HF.out.2.2.2.1 0 _ rfl) Try.underlying29 rfl z0) rfl ?_
  exact ⟨_, rfl, Kd.R_nil _ _ _ _ _, ay HF.out.1 (by omega)⟩
 | true =>
 rw [if_pos rfl] at h
 obtain ⟨g2, hg2, h⟩ := oB h
 have HG2 := aM hg2
 clear hg2
 cases k with
 | zero => exact absurd h (by simp [spec_JoinRopes.j0])
 | succ k2 =>
 cases g2 with
 | false =>
  simp only [spec_JoinRopes.j0, Bool.not_false, if_true] at h
  obtain ⟨rfl, rfl⟩ := Prod.mk.inj (sI h)
  clear h
  go_enter Try.func34, Try.ntmps34
  go_wp2_with (first | (go_at_call_of 15 (Value.agg #[.slice bB l0_0.length bo]); (try rw [HWE.out]); refine (spec_GoodRope.calls (k2 + 1) _ _ l0_0 _ _ (by repeat (first | exact HF.out.2.2.2.2.1 | (with_reducible refine aG ?_ _) | (with_reducible refine aH ?_ _) | (with_reducible refine aI ?_))) dy.out HG.out).mono ?_; rintro e w1 ⟨rfl, hb⟩; replace HF := aM (JrF.below (by repeat (first | exact HF.out | (with_reducible refine JrF.alloc ?_ _) | (with_reducible refine JrF.drewN ?_ _) | (with_reducible refine JrF.drew ?_))) hb); (try clear cA cB cR fR); have cA : w1.cell? ⟨w.heap.size, 0, none⟩ = some (.slice bB l0_0.length bo) := (bC HF.out.2.1 0).trans rfl; have cB : w1.cell? ⟨w.heap.size + 1, 0, none⟩ = some (.slice dU l1_0.length dR) := (bC HF.out.2.2.1 0).trans rfl; have cR : w1.cell? ⟨w.heap.size + 1 + 1, 0, none⟩ = some (.slice none 0 0) := (bC HF.out.2.2.2.1 0).trans rfl; have fR := bF HF.out.2.2.2.1 0; clear hb) | (go_at_call_of 15 (Value.agg #[.slice dU l1_0.length dR]); refine (spec_GoodRope.calls (k2 + 1) _ _ l1_0 _ _ (by repeat (first | exact HF.out.2.2.2.2.2 | (with_reducible refine aG ?_ _) | (with_reducible refine aH ?_ _) | (with_reducible refine aI ?_))) dN.out HG2.out).mono ?_; rintro e w2 ⟨rfl, hb⟩; replace HF := aM (JrF.below (by repeat (first | exact HF.out | (with_reducible refine JrF.alloc ?_ _) | (with_reducible refine JrF.drewN ?_ _) | (with_reducible refine JrF.drew ?_))) hb); (try clear cA cB cR fR); have cA : w2.cell? ⟨w.heap.size, 0, none⟩ = some (.slice bB l0_0.length bo) := (bC HF.out.2.1 0).trans rfl; have cB : w2.cell? ⟨w.heap.size + 1, 0, none⟩ = some (.slice dU l1_0.length dR) := (bC HF.out.2.2.1 0).trans rfl; have cR : w2.cell? ⟨w.heap.size + 1 + 1, 0, none⟩ = some (.slice none 0 0) := (bC HF.out.2.2.2.1 0).trans rfl; have fR := bF HF.out.2.2.2.1 0; clear hb))
  refine aT (aU rfl _ _ (w.heap.size + 1 + 1) 29 #[.slice none 0 0] (0, 0) _ rfl (by exact aw (cs := #[.slice none 0 0]) HF.out.2.2.2.1 0 _ rfl) Try.underlying29 rfl z0) rfl ?_
  exact ⟨_, rfl, Kd.R_nil _ _ _ _ _, ay HF.out.1 (by omega)⟩
 | true =>
 simp only [spec_JoinRopes.j0, Bool.not_true] at h
 rw [if_neg (by simp), Option.bind_some] at h
 obtain ⟨fa, hj, h⟩ := oB h
 split at h
 case isFalse => cases h
 case isTrue hlen =>
 rw [Option.bind_some, List.nil_append] at h
 obtain ⟨g3, hg3, h⟩ := oB h
 have HJ := aM hj
 have HG3 := aM hg3
 have HH := aM h
 have LM : Aside0 (([] : List S58).length + fa.length < 2932031007402) := ⟨hlen⟩
 clear hj hg3 h hlen
 go_enter Try.func34, Try.ntmps34
 go_upto_region 3 with (first | (go_at_call_of 15 (Value.agg #[.slice bB l0_0.length bo]); (try rw [HWE.out]); refine (spec_GoodRope.calls (k2 + 1) _ _ l0_0 _ _ (by repeat (first | exact HF.out.2.2.2.2.1 | (with_reducible refine aG ?_ _) | (with_reducible refine aH ?_ _) | (with_reducible refine aI ?_))) dy.out HG.out).mono ?_; rintro e w1 ⟨rfl, hb⟩; replace HF := aM (JrF.below (by repeat (first | exact HF.out | (with_reducible refine JrF.alloc ?_ _) | (with_reducible refine JrF.drewN ?_ _) | (with_reducible refine JrF.drew ?_))) hb); (try clear cA cB cR fR); have cA : w1.cell? ⟨w.heap.size, 0, none⟩ = some (.slice bB l0_0.length bo) := (bC HF.out.2.1 0).trans rfl; have cB : w1.cell? ⟨w.heap.size + 1, 0, none⟩ = some (.slice dU l1_0.length dR) := (bC HF.out.2.2.1 0).trans rfl; have cR : w1.cell? ⟨w.heap.size + 1 + 1, 0, none⟩ = some (.slice none 0 0) := (bC HF.out.2.2.2.1 0).trans rfl; have fR := bF HF.out.2.2.2.1 0; clear hb) | (go_at_call_of 15 (Value.agg #[.slice dU l1_0.length dR]); refine (spec_GoodRope.calls (k2 + 1) _ _ l1_0 _ _ (by repeat (first | exact HF.out.2.2.2.2.2 | (with_reducible refine aG ?_ _) | (with_reducible refine aH ?_ _) | (with_reducible refine aI ?_))) dN.out HG2.out).mono ?_; rintro e w2 ⟨rfl, hb⟩; replace HF := aM (JrF.below (by repeat (first | exact HF.out | (with_reducible refine JrF.alloc ?_ _) | (with_reducible refine JrF.drewN ?_ _) | (with_reducible refine JrF.drew ?_))) hb); (try clear cA cB cR fR); have cA : w2.cell? ⟨w.heap.size, 0, none⟩ = some (.slice bB l0_0.length bo) := (bC HF.out.2.1 0).trans rfl; have cB : w2.cell? ⟨w.heap.size + 1, 0, none⟩ = some (.slice dU l1_0.length dR) := (bC HF.out.2.2.1 0).trans rfl; have cR : w2.cell? ⟨w.heap.size + 1 + 1, 0, none⟩ = some (.slice none 0 0) := (bC HF.out.2.2.2.1 0).trans rfl; have fR := bF HF.out.2.2.2.1 0; clear hb))
 have HG0 := HF
 go_upto_region 4 with (first | ((with_reducible refine aK (N := 16) rfl ?_); refine Kd.R_lit k58 (w0 := w2) w2.heap.size 58 ?hg (N := 16) ?hd (xs := ([] : List (S58))) (inner := []) (ok := fun _ => True) (okp := fun _ => True) ?hr ?hp (fun _ hk => hk) trivial (Below.refl _ _) (Nat.le_refl _) (by simp) ?_; (case hd => rfl); (case hg => rfl); (case hr => first | (go_simp; done) | (go_simp; rfl)); (case hp => exact (Reps.none _ _)); intro v1 w3 ho1 hb hg_ hnew_; obtain ⟨A3, c3, eo⟩ := Kd.R_slice ho1; subst eo; have HV1 := aM ho1; have HB1 : Aside0 (Below w2.heap.size w2 w3) := ⟨hb⟩; replace HF := aM (JrF.below (by repeat (first | exact HF.out | (with_reducible refine JrF.alloc ?_ _) | (with_reducible refine JrF.drewN ?_ _) | (with_reducible refine JrF.drew ?_))) hb); (try clear cA cB cR fR); have cA : w3.cell? ⟨w.heap.size, 0, none⟩ = some (.slice bB l0_0.length bo) := (bC HF.out.2.1 0).trans rfl; have cB : w3.cell? ⟨w.heap.size + 1, 0, none⟩ = some (.slice dU l1_0.length dR) := (bC HF.out.2.2.1 0).trans rfl; have cR : w3.cell? ⟨w.heap.size + 1 + 1, 0, none⟩ = some (.slice none 0 0) := (bC HF.out.2.2.2.1 0).trans rfl; have fR := bF HF.out.2.2.2.1 0; clear ho1 hb hg_ hnew_) | (go_at_call 68; refine (join_rd k2 l0_0 bB bo l1_0 dU dR fa _ (by repeat (first | exact HF.out.2.2.2.2.1 | (with_reducible refine aG ?_ _) | (with_reducible refine aH ?_ _) | (with_reducible refine aI ?_))) dy.out (by repeat (first | exact HF.out.2.2.2.2.2 | (with_reducible refine aG ?_ _) | (with_reducible refine aH ?_ _) | (with_reducible refine aI ?_))) dN.out HJ.out).mono ?_; rintro e w4 ⟨A5, c5, rfl, hc5, hl5, hb⟩; have fH := aM hc5; have nv_ := aM (ag (by repeat (first | exact HV1.out | (with_reducible refine ae ?_ _) | (with_reducible refine ac ?_ _) | (with_reducible refine aa ?_))) hb); clear HV1; have HV1 := nv_; have nb_ := aM (az (by repeat (first | (with_reducible first | exact HB1.out | apply bA | apply pD | apply bD) | exact HB1.out)) hb); clear HB1; have HB1 := nb_; clear nv_ nb_; replace HF := aM (JrF.below (by repeat (first | exact HF.out | (with_reducible refine JrF.alloc ?_ _) | (with_reducible refine JrF.drewN ?_ _) | (with_reducible refine JrF.drew ?_))) hb); (try clear cA cB cR fR); have cA : w4.cell? ⟨w.heap.size, 0, none⟩ = some (.slice bB l0_0.length bo) := (bC HF.out.2.1 0).trans rfl; have cB : w4.cell? ⟨w.heap.size + 1, 0, none⟩ = some (.slice dU l1_0.length dR) := (bC HF.out.2.2.1 0).trans rfl; have cR : w4.cell? ⟨w.heap.size + 1 + 1, 0, none⟩ = some (.slice none 0 0) := (bC HF.out.2.2.2.1 0).trans rfl; have fR := bF HF.out.2.2.2.1 0; clear hc5 hl5 hb) | ((with_reducible refine gate_builtin (b := .append) (xs := #[.tmp 16, .tmp 21]) rfl ?_); at_builtin; refine Kd.R_append_rows k58 (w0 := w2) w2.heap.size rfl (.tmp 16) (.tmp 21) 27 58 (.agg #[(.int .i64 0), (.int .i64 0), (.string ⟨#[]⟩), (.int .i64 0), (.int .i64 0)]) 48 rfl Try.underlying27 info58 rfl (by decide) (by omega) (.slice A3 0 c3) [] fa _ _ _ (fun _ => True) (fun _ => False) rfl rfl ?aO ?aR (fun _ _ h => h) (fun _ h => h.elim) (fun _ _ => trivial) ?aB ?aS ?aL ?_; (case aR => repeat (first | exact fH.out | (with_reducible refine aG ?_ _) | (with_reducible refine aH ?_ _) | (with_reducible refine aI ?_))); (case aB => exact (by repeat (first | (with_reducible first | exact HB1.out | apply bA | apply pD | apply bD) | exact HB1.out))); (case aO => exact (kR_ HV1.out)); (case aS => exact (aA (by repeat (first | (with_reducible first | exact HB1.out | apply bA | apply pD | apply bD) | exact HB1.out)))); (case aL => have := LM.out; simp only [List.length_nil] at *; omega); intro v5 w5 ho hb5 hg hat; rw [List.nil_append] at ho; obtain ⟨A6, c6, eo⟩ := Kd.R_slice ho; subst eo; have HV2 := aM ho; replace HF := aM (JrF.below HG0.out hb5); (try clear cA cB cR fR); have cA : w5.cell? ⟨w.heap.size, 0, none⟩ = some (.slice bB l0_0.length bo) := (bC HF.out.2.1 0).trans rfl; have cB : w5.cell? ⟨w.heap.size + 1, 0, none⟩ = some (.slice dU l1_0.length dR) := (bC HF.out.2.2.1 0).trans rfl; have cR : w5.cell? ⟨w.heap.size + 1 + 1, 0, none⟩ = some (.slice none 0 0) := (bC HF.out.2.2.2.1 0).trans rfl; have fR := bF HF.out.2.2.2.1 0; clear ho hb5 hg hat))
 obtain ⟨wc, hwc⟩ : ∃ x, w5.alloc (.cells #[.slice A6 fa.length c6] 29) = x := ⟨_, rfl⟩
 rw [hwc]
 have hb : Below w5.heap.size w5 wc := by rw [← hwc]; exact bA (Below.refl _ _) _
 have BX : Aside0 (wc.heap[w5.heap.size]? = some (.cells #[.slice A6 fa.length c6] 29 (0, 0))) := ⟨by rw [← hwc]; exact blk_new _ _⟩
 have nf_ := aM (JrF.below (by repeat (first | exact HF.out | (with_reducible refine JrF.alloc ?_ _) | (with_reducible refine JrF.drewN ?_ _) | (with_reducible refine JrF.drew ?_))) hb); clear HF; have HF := nf_; clear nf_; (try clear cA cB cR fR); have cA : wc.cell? ⟨w.heap.size, 0, none⟩ = some (.slice bB l0_0.length bo) := (bC HF.out.2.1 0).trans rfl; have cB : wc.cell? ⟨w.heap.size + 1, 0, none⟩ = some (.slice dU l1_0.length dR) := (bC HF.out.2.2.1 0).trans rfl; have cR : wc.cell? ⟨w.heap.size + 1 + 1, 0, none⟩ = some (.slice none 0 0) := (bC HF.out.2.2.2.1 0).trans rfl; have fR := bF HF.out.2.2.2.1 0
 have HV3 := aM (ag HV2.out hb)
 have iH := aM (ai HV3.out).2.2
 have HL6 := aM (ai HV3.out).2.1
 have HSZ := aM HG0.out.1.size
 obtain ⟨gx, hgx⟩ : ∃ g, w5.heap.size = g := ⟨_, rfl⟩
 rw [hgx] at BX ⊢
 clear hb hwc hgx HV2 HV1 HB1 fH HJ HG HG2 HG0 HWE
 have hcx_0 : wc.cell? ⟨gx, 0, none⟩ = some (.slice A6 fa.length c6) := (bC BX.out 0).trans rfl
 have hh := HH.out
 clear HH
 cases g3 with
 | false =>
  rw [if_neg (by simp)] at hh
  obtain ⟨rfl, rfl⟩ := Prod.mk.inj (sI hh)
  clear hh
  go_wp2_with (first | (go_at_call 15; refine (spec_GoodRope.calls k2 _ _ fa _ _ (by repeat (first | exact iH.out | (with_reducible refine aG ?_ _) | (with_reducible refine aH ?_ _) | (with_reducible refine aI ?_))) HL6.out HG3.out).mono ?_; rintro e w6 ⟨rfl, hb⟩; replace HF := aM (JrF.below (by repeat (first | exact HF.out | (with_reducible refine JrF.alloc ?_ _) | (with_reducible refine JrF.drewN ?_ _) | (with_reducible refine JrF.drew ?_))) hb); (try clear cA cB cR fR); have cA : w6.cell? ⟨w.heap.size, 0, none⟩ = some (.slice bB l0_0.length bo) := (bC HF.out.2.1 0).trans rfl; have cB : w6.cell? ⟨w.heap.size + 1, 0, none⟩ = some (.slice dU l1_0.length dR) := (bC HF.out.2.2.1 0).trans rfl; have cR : w6.cell? ⟨w.heap.size + 1 + 1, 0, none⟩ = some (.slice none 0 0) := (bC HF.out.2.2.2.1 0).trans rfl; have fR := bF HF.out.2.2.2.1 0; have nx_ := aM (af BX.out hb); clear BX hcx_0; have BX := nx_; have nv_ := aM (ag HV3.out hb); clear HV3 nx_; have HV3 := nv_; have hcx_0 : w6.cell? ⟨gx, 0, none⟩ = some (.slice A6 fa.length c6) := (bC BX.out 0).trans rfl; clear hb nv_))
  refine aT (aU rfl _ _ (w.heap.size + 1 + 1) 29 #[.slice none 0 0] (0, 0) _ rfl (by exact aw (cs := #[.slice none 0 0]) HF.out.2.2.2.1 0 _ rfl) Try.underlying29 rfl z0) rfl ?_
  exact ⟨_, rfl, Kd.R_nil _ _ _ _ _, ay HF.out.1 (by omega)⟩
 | true =>
  rw [if_pos rfl] at hh
  obtain ⟨rfl, rfl⟩ := Prod.mk.inj (sI hh)
  clear hh
  go_wp2_with (first | (go_at_call 15; refine (spec_GoodRope.calls k2 _ _ fa _ _ (by repeat (first | exact iH.out | (with_reducible refine aG ?_ _) | (with_reducible refine aH ?_ _) | (with_reducible refine aI ?_))) HL6.out HG3.out).mono ?_; rintro e w6 ⟨rfl, hb⟩; replace HF := aM (JrF.below (by repeat (first | exact HF.out | (with_reducible refine JrF.alloc ?_ _) | (with_reducible refine JrF.drewN ?_ _) | (with_reducible refine JrF.drew ?_))) hb); (try clear cA cB cR fR); have cA : w6.cell? ⟨w.heap.size, 0, none⟩ = some (.slice bB l0_0.length bo) := (bC HF.out.2.1 0).trans rfl; have cB : w6.cell? ⟨w.heap.size + 1, 0, none⟩ = some (.slice dU l1_0.length dR) := (bC HF.out.2.2.1 0).trans rfl; have cR : w6.cell? ⟨w.heap.size + 1 + 1, 0, none⟩ = some (.slice none 0 0) := (bC HF.out.2.2.2.1 0).trans rfl; have fR := bF HF.out.2.2.2.1 0; have nx_ := aM (af BX.out hb); clear BX hcx_0; have BX := nx_; have nv_ := aM (ag HV3.out hb); clear HV3 nx_; have HV3 := nv_; have hcx_0 : w6.cell? ⟨gx, 0, none⟩ = some (.slice A6 fa.length c6) := (bC BX.out 0).trans rfl; clear hb nv_))
  refine aT (aU rfl _ _ (w.heap.size + 1 + 1) 29 #[.slice A6 fa.length c6] (0, 0) _ rfl (by exact aw (cs := #[.slice none 0 0]) HF.out.2.2.2.1 0 _ rfl) Try.underlying29 rfl z0) rfl ?_
  exact ⟨_, rfl, Kd.R_set (aV HV3.out HSZ.out) HF.out.2.2.2.1 (by decide) 0 _, ay HF.out.1 (by omega)⟩

/-! ### spec_l12Size: function 51 -/
def spec_l12Size.f (l0 : List (S58)) : Option (Int) := if (l0.length : Int) = 0 then (some 0) else (if 0 ≤ (wrap64 ((l0.length : Int) - 1)) then (if (wrap64 ((l0.length : Int) - 1)) < (l0.length : Int) then (some ((rd_T58 l0 (wrap64 ((l0.length : Int) - 1))).f3)) else (none)) else (none))
set_option maxHeartbeats 8000000 in
set_option maxRecDepth 100000 in
theorem spec_l12Size.calls (A0 : Option Addr) (c0 : Nat) (l0 : List (S58)) (r : Int) (w : World) (hr0 : Kd.C k58 w A0 l0.length l0) (hc0 : l0.length ≤ c0) (h : spec_l12Size.f l0 = some r) :
  Calls Try.prog 51 #[.slice A0 l0.length c0] w fun e w' => e = .returned (.int .i64 r) ∧ Drawn0 w w' := by
 have cN := aM hr0
 have dy := aM hc0
 clear hr0 hc0
 have H : (if (l0.length : Int) = 0 then (some 0) else (if 0 ≤ (wrap64 ((l0.length : Int) - 1)) then (if (wrap64 ((l0.length : Int) - 1)) < (l0.length : Int) then (some ((rd_T58 l0 (wrap64 ((l0.length : Int) - 1))).f3)) else (none)) else (none))) = some r := h
 clear h
 by_cases c2 : (l0.length : Int) = 0
 ·rw [if_pos c2] at H
  have c2b0 : ((l0.length : Int) == 0) = true := qT c2
  have c2b1 : ((l0.length : Int) != 0) = false := nF c2
  clear c2
  obtain rfl := sI H
  go_enter Try.func51, Try.ntmps51
  go_wp2
  go_ret
  exact ⟨y1, y3⟩
 ·rw [if_neg c2] at H
  have c2b0 : ((l0.length : Int) == 0) = false := qF c2
  have c2b1 : ((l0.length : Int) != 0) = true := nT c2
  have c2b2 : ¬ (l0 = []) := fun h_ => c2 (by rw [h_]; rfl)
  obtain ⟨mi, nh⟩ : ∃ j_ : Int, (wrap64 ((l0.length : Int) - 1)) = j_ := ⟨_, rfl⟩
  replace H : (if 0 ≤ (mi) then (if (mi) < (l0.length : Int) then (some ((rd_T58 l0 (mi)).f3)) else (none)) else (none)) = some r := by first | (rw [nh] at H; exact H) | (simp only [nh] at H ⊢; exact H)
  have hji3w : (IntKind.i64.wrap ((l0.length : Int) - 1)) = mi := (i64_w _).trans nh
  by_cases c4 : 0 ≤ (mi)
  ·rw [if_pos c4] at H
   have c4b0 : decide (0 ≤ (mi)) = true := dT c4
   clear c4
   by_cases c5 : (mi) < (l0.length : Int)
   ·rw [if_pos c5] at H
    have c5b0 : decide ((mi) < (l0.length : Int)) = true := dT c5
    clear c5
    obtain rfl := sI H
    have p151 : 0 ≤ ((mi) : Int) := oD z2
    have q151 : (mi) < (l0.length : Int) := oD z2
    obtain ⟨ad151, e151, hx151_0, hx151_1, hx151_2, hx151_3, hx151_4⟩ := at_T58 cN.out (mi) p151 q151
    cases e151
    replace p151 := eq_true p151
    replace q151 := eq_true q151
    go_enter Try.func51, Try.ntmps51
    go_wp2
    go_ret
    exact ⟨by first | rfl | (simp; done) | (simp only [← nh] <;> (first | rfl | (simp; done) | (simp; generalize ByteArray.toList _ = u_; cases u_ <;> (first | rfl | (simp; done))))) | (simp [*]; done), y3⟩
   ·rw [if_neg c5] at H
    exact absurd H (by simp)
  ·rw [if_neg c4] at H
   exact absurd H (by simp)

/-! ### spec_l12Part: function 84 -/
def spec_l12Part.l0 : Nat → Int → List (S58) → List (S58) → Int → Int → Option ((List (S58)))
 | 0, _, _, _, _, _ => none
 | k + 1, x5, x6, x16, x17, x18 => if x18 < x17 then (if 0 ≤ x18 then (if x18 < (x16.length : Int) then (if ((rd_T58 x16 x18).f0) ≥ 0 then (if x6.length < 2932031007402 then (spec_l12Part.l0 k x5 (x6 ++ [(⟨wrap64 (((rd_T58 x16 x18).f0) - x5), wrap64 (((rd_T58 x16 x18).f1) - x5), (rd_T58 x16 x18).f2, (rd_T58 x16 x18).f3, (rd_T58 x16 x18).f4⟩ : S58)]) x16 x17 (wrap64 (x18 + 1))) else (none)) else (if x6.length < 2932031007402 then (spec_l12Part.l0 k x5 (x6 ++ [(⟨(rd_T58 x16 x18).f0, (rd_T58 x16 x18).f1, (rd_T58 x16 x18).f2, (rd_T58 x16 x18).f3, (rd_T58 x16 x18).f4⟩ : S58)]) x16 x17 (wrap64 (x18 + 1))) else (none))) else (none)) else (none)) else (some x6)
def spec_l12Part.f (k : Nat) (l0 : List (S58)) (a1 : Int) : Option ((List (S58))) := (spec_l12First.f k l0 a1).bind fun cC => (if 0 ≤ cC then (if cC ≤ (wrap64 (a1 + 1)) then (if (wrap64 (a1 + 1)) ≤ (l0.length : Int) then ((some ((l0.take ((wrap64 (a1 + 1)) : Int).toNat).drop (cC : Int).toNat : List (S58))).bind fun y153 => (spec_l12Part.l0 k cC ([] : List (S58)) y153 (y153.length : Int) 0)) else (none)) else (none)) else (none))
theorem spec_l12Part.mono_l : ∀ k, (∀ y0 y1 y2 y3 y4, LeO (spec_l12Part.l0 k y0 y1 y2 y3 y4) (spec_l12Part.l0 (k + 1) y0 y1 y2 y3 y4))
 | 0 => fun _ _ _ _ _ r h => by simp [spec_l12Part.l0] at h
 | k + 1 => by
  have ih0 := spec_l12Part.mono_l k
  ·intro y0 y1 y2 y3 y4
   unfold spec_l12Part.l0
   repeat' first
   | (with_reducible exact ih0 _ _ _ _ _)
   | (with_reducible exact spec_l12First.mono _ _ _)
   | (with_reducible exact LeO.refl _)
   | (with_reducible exact LeO.none _)
   | (with_reducible refine LeO.ite ?_ ?_)
   | (with_reducible refine LeO.bind ?_ (fun _ => ?_))
theorem spec_l12Part.mono : ∀ a0 a1 k, LeO (spec_l12Part.f k a0 a1) (spec_l12Part.f (k + 1) a0 a1) := by
 intro a0 a1 k
 have ih0 := spec_l12Part.mono_l k
 unfold spec_l12Part.f
 repeat' first
   | (with_reducible exact ih0 _ _ _ _ _)
   | (with_reducible exact spec_l12First.mono _ _ _)
   | (with_reducible exact LeO.refl _)
   | (with_reducible exact LeO.none _)
   | (with_reducible refine LeO.ite ?_ ?_)
   | (with_reducible refine LeO.bind ?_ (fun _ => ?_))
set_option maxHeartbeats 8000000 in
set_option maxRecDepth 100000 in
theorem spec_l12Part.calls (k : Nat) (A0 : Option Addr) (c0 : Nat) (l0 : List (S58)) (a1 : Int) (r : List (S58)) (w : World) (hr0 : Kd.C k58 w A0 l0.length l0) (hc0 : l0.length ≤ c0) (h : spec_l12Part.f k l0 a1 = some r) :
  Calls Try.prog 84 #[.slice A0 l0.length c0, .int .i64 a1] w fun e w' => ∃ v0_ : Value, e = .returned (v0_) ∧ Kd.R k58 58 w' w.heap.size (fun _ => True) v0_ r ∧ Below w.heap.size w w' := by
 have hu58 := Try.underlying58
 have cN := aM hr0
 have dy := aM hc0
 clear hr0 hc0
 have HB := aM (Below.refl w.heap.size w)
 have H : ((spec_l12First.f k l0 a1).bind fun cC => (if 0 ≤ cC then (if cC ≤ (wrap64 (a1 + 1)) then (if (wrap64 (a1 + 1)) ≤ (l0.length : Int) then ((some ((l0.take ((wrap64 (a1 + 1)) : Int).toNat).drop (cC : Int).toNat : List (S58))).bind fun y153 => (spec_l12Part.l0 k cC ([] : List (S58)) y153 (y153.length : Int) 0)) else (none)) else (none)) else (none))) = some r := h
 clear h
 obtain ⟨cC, A3, H⟩ := oA_ H
 try dsimp only at H
 by_cases c4 : 0 ≤ cC
 ·rw [if_pos c4] at H
  have c4b0 := eq_true c4
  have c4b1 : decide (0 ≤ cC) = true := dT c4
  clear c4
  by_cases c5 : cC ≤ (wrap64 (a1 + 1))
  ·rw [if_pos c5] at H
   have c5b0 := eq_true c5
   have c5b1 : decide (cC ≤ (wrap64 (a1 + 1))) = true := dT c5
   by_cases c6 : (wrap64 (a1 + 1)) ≤ (l0.length : Int)
   ·rw [if_pos c6] at H
    have c6b0 := eq_true c6
    have c6b1 : decide ((wrap64 (a1 + 1)) ≤ (l0.length : Int)) = true := dT c6
    obtain ⟨y153, hy153⟩ : ∃ y_ : List (S58), y_ = ((l0.take ((wrap64 (a1 + 1)) : Int).toNat).drop (cC : Int).toNat) := ⟨_, rfl⟩
    replace H : (spec_l12Part.l0 k cC ([] : List (S58)) y153 (y153.length : Int) 0) = some r := by first | (rw [hy153]; with_reducible exact H) | (have H2_ := (Option.bind_some _ _).symm.trans H; rw [hy153]; with_reducible exact H2_) | (have H2_ := (Option.bind_some _ _).symm.trans H; with_reducible exact H2_) | with_reducible exact H | (rw [hy153]; exact H) | exact H
    have Ny153 := aM hy153
    clear hy153
    have H' := aM H
    clear H
    go_enter Try.func84, Try.ntmps84
    go_wp2_with (first | ((with_reducible refine aJ (f := 46) rfl ?_); refine aQ (some 11) rfl rfl Try.func46 z0 rfl #[.slice A0 l0.length c0, .int .i64 a1] rfl z17 ?_; (with_reducible refine (spec_l12First.calls k _ _ l0 a1 cC _ ?side1 ?side2 A3.out).mono ?_); (case side1 => exact y29); (case side2 => exact dy.out); rintro e w7 ⟨rfl, hb⟩; refine ⟨_, rfl, ?_⟩; replace HB := aM (az z16 hb); (try clear hb); have q8 : ((wrap64 (a1 + 1)) : Int) ≤ ((l0.length : Int) : Int) := oD z2; obtain ⟨i08, hi08, _, hsz8, _⟩ := info_parts info58; have hroom8 : l0.length ≤ c0 := dy.out; have hC8 : Kd.C k58 _ A0 l0.length l0 := cN.out; have ql8 : (cC : Int) ≤ ((wrap64 (a1 + 1)) : Int) := oD z2; have q08 : (0 : Int) ≤ (cC : Int) := oD z2; have hcut8 := cut_mid (P := Try.prog) 27 58 .i64 .i64 Try.underlying27 hi08 5 hsz8 A0 l0.length c0 cC (wrap64 (a1 + 1)) q08 ql8 q8 hroom8; have hr8 := Kd.C_mid (lo := (cC : Int).toNat) (hi := ((wrap64 (a1 + 1)) : Int).toNat) (c := c0) hC8 (by omega) (by omega) hroom8; obtain ⟨A8, hA8⟩ : ∃ A1, A1 = (if c0 = (cC : Int).toNat then A0 else (A0 : Option Addr).map (·.add ((cC : Int).toNat * 5))) := ⟨_, rfl⟩; obtain ⟨c8, hc8⟩ : ∃ c1, c1 = c0 - (cC : Int).toNat := ⟨_, rfl⟩; have hy8 : y153.length = ((wrap64 (a1 + 1)) : Int).toNat - (cC : Int).toNat := (by rw [Ny153.out, List.length_drop, List.length_take] <;> omega); rw [show ((l0).take ((wrap64 (a1 + 1)) : Int).toNat).drop (cC : Int).toNat = y153 from Ny153.out.symm] at hr8; replace hr8 : Kd.C k58 _ A8 y153.length y153 := (by rw [hA8]; exact hr8); rw [← hy8, ← hA8, ← hc8] at hcut8; have nU := aM hr8; have HC156 := aM (show y153.length ≤ c8 from by rw [hy8, hc8]; exact Nat.sub_le_sub_right (Nat.le_trans (by omega) hroom8) _); clear hr8 hC8 hroom8 hi08 hsz8 hc8; have KY8 := aM hy8; have KA8 := aM hA8; clear hy8 hA8; replace q8 := eq_true q8))
    go_loopg [6, 18] k (fun kq v6 v18 w' => ∃ (x6_1 : List (S58)) (x18_1 : Int), v18 = .int .i64 x18_1 ∧ Aside0 (spec_l12Part.l0 kq cC x6_1 y153 (y153.length : Int) x18_1 = some r) ∧ Aside0 (kq ≤ k) ∧ Aside0 (Kd.R k58 58 w' w.heap.size (fun _ => True) v6 x6_1) ∧ Aside0 (Below w.heap.size w w'))
    case atStart => exact ⟨(([] : List (S58))), (0), z1, H', ⟨Nat.le_refl _⟩, ⟨y10⟩, ⟨y5⟩⟩
    case round =>
     clear H'
     try clear c1
     try clear c4
     try clear c4b0
     try clear c4b1
     try clear c5
     try clear c5b0
     try clear c5b1
     try clear c6
     try clear c6b0
     try clear c6b1
     try clear c8
     try clear q8
     try clear q08
     try clear q8
     obtain ⟨x6_1, x18_1, rfl, HA, HK1, f8, HB⟩ := hrel
     cases gk with
     | zero => exact absurd HA.out (by simp [spec_l12Part.l0])
     | succ k1 =>
      have H := HA.out
      clear HA
      simp only [spec_l12Part.l0] at H
      by_cases c9 : x18_1 < (y153.length : Int)
      ·rw [if_pos c9] at H
       have c9b0 : decide (x18_1 < (y153.length : Int)) = true := dT c9
       clear c9
       by_cases cS : 0 ≤ x18_1
       ·rw [if_pos cS] at H
        have c10b0 : decide (0 ≤ x18_1) = true := dT cS
        clear cS
        by_cases dk : x18_1 < (y153.length : Int)
        ·rw [if_pos dk] at H
         have c11b0 : decide (x18_1 < (y153.length : Int)) = true := dT dk
         clear dk
         by_cases dA : ((rd_T58 y153 x18_1).f0) ≥ 0
         ·rw [if_pos dA] at H
          have c12b0 : decide (0 ≤ ((rd_T58 y153 x18_1).f0)) = true := dT dA
          clear dA
          by_cases dH : x6_1.length < 2932031007402
          ·rw [if_pos dH] at H
           have LMc13 := aM dH
           clear dH
           obtain ⟨y159, hy159⟩ : ∃ y_ : List (S58), y_ = (x6_1 ++ [(⟨wrap64 (((rd_T58 y153 x18_1).f0) - cC), wrap64 (((rd_T58 y153 x18_1).f1) - cC), (rd_T58 y153 x18_1).f2, (rd_T58 y153 x18_1).f3, (rd_T58 y153 x18_1).f4⟩ : S58)]) := ⟨_, rfl⟩
           replace H : (spec_l12Part.l0 k1 cC y159 y153 (y153.length : Int) (wrap64 (x18_1 + 1))) = some r := by first | (rw [hy159]; with_reducible exact H) | (have H2_ := (Option.bind_some _ _).symm.trans H; rw [hy159]; with_reducible exact H2_) | (have H2_ := (Option.bind_some _ _).symm.trans H; with_reducible exact H2_) | with_reducible exact H | (rw [hy159]; exact H) | exact H
           have Ny159 := aM hy159
           clear hy159
           have H' := aM H
           clear H
           have p157 : 0 ≤ (x18_1 : Int) := oD z2
           have q157 : x18_1 < (y153.length : Int) := oD z2
           obtain ⟨ad157, e157, hx157_0, hx157_1, hx157_2, hx157_3, hx157_4⟩ := at_T58 nU.out x18_1 p157 q157
           cases e157
           replace hx157_0 := (HB.out.cell (World.block_lt_of_cell? w _ hx157_0)).trans hx157_0
           replace hx157_1 := (HB.out.cell (World.block_lt_of_cell? w _ hx157_1)).trans hx157_1
           replace hx157_2 := (HB.out.cell (World.block_lt_of_cell? w _ hx157_2)).trans hx157_2
           replace hx157_3 := (HB.out.cell (World.block_lt_of_cell? w _ hx157_3)).trans hx157_3
           replace hx157_4 := (HB.out.cell (World.block_lt_of_cell? w _ hx157_4)).trans hx157_4
           replace p157 := eq_true p157
           replace q157 := eq_true q157
           go_upto_region 8 with (((with_reducible refine aK (N := 8) rfl ?_); refine aN ?hg (N := 8) ?hd (cs := #[.int .i64 0, .int .i64 0, .string ⟨#[]⟩, .int .i64 0, .int .i64 0]) (t := 58) ?hr ?_; (case hd => rfl); (case hg => rfl); (case hr => first | (go_simp; done) | (go_simp; rfl)); intro ch hg w14 hbox hb; replace f8 := aM (ag (Kd.R_elderB (kR_ f8.out) ch (Nat.le_of_eq hg.symm)) hb); have cG := aM (hbox); have GW158 := aM ((by rw [hg]; exact (aA z16) : w.heap.size ≤ ch)); have ij := aM ((by rw [hg]; exact (aA z16) : w.heap.size ≤ ch)); replace HB := aM (az z16 hb); clear hb hbox hg; obtain ⟨jg, jf, je, hcz15_3, hcz15_4, i1, iZ, iY, hfz15_3, hfz15_4⟩ := cc5 cG.out))
           go_cut [] (fun wc_ => Aside0 (wc_.heap[ch]? = some (.cells #[.int .i64 (wrap64 (((rd_T58 y153 x18_1).f0) - cC)), .int .i64 (wrap64 (((rd_T58 y153 x18_1).f1) - cC)), .string ((rd_T58 y153 x18_1).f2), .int .i64 ((rd_T58 y153 x18_1).f3), .int .i64 ((rd_T58 y153 x18_1).f4)] 58 (0, 0))) ∧ Aside0 (∀ (ok_ : Nat → Prop) (v_ : Value) (xs_ : List S58), (∀ k_, ok_ k_ → k_ ≠ ch) → Kd.R k58 58 w14 w.heap.size ok_ v_ xs_ → Kd.R k58 58 wc_ w.heap.size ok_ v_ xs_) ∧ Aside0 (Below w.heap.size w wc_))
           case first =>
            go_wp2_with (fail)
            go_meet
            exact ⟨⟨(by (with_reducible repeat (first | refine ar ?_ _ | refine aq ?_ | refine au ?_ _)); refine aw (cs := #[.int .i64 (wrap64 (((rd_T58 y153 x18_1).f0) - cC)), .int .i64 ((rd_T58 y153 x18_1).f1), .string ((rd_T58 y153 x18_1).f2), .int .i64 ((rd_T58 y153 x18_1).f3), .int .i64 ((rd_T58 y153 x18_1).f4)]) ?_ 1 _ rfl; (with_reducible repeat (first | refine ar ?_ _ | refine aq ?_ | refine au ?_ _)); refine aw (cs := #[.int .i64 ((rd_T58 y153 x18_1).f0), .int .i64 ((rd_T58 y153 x18_1).f1), .string ((rd_T58 y153 x18_1).f2), .int .i64 ((rd_T58 y153 x18_1).f3), .int .i64 ((rd_T58 y153 x18_1).f4)]) ?_ 0 _ rfl; (with_reducible repeat (first | refine ar ?_ _ | refine aq ?_ | refine au ?_ _)); refine aw (cs := #[.int .i64 ((rd_T58 y153 x18_1).f0), .int .i64 ((rd_T58 y153 x18_1).f1), .string ((rd_T58 y153 x18_1).f2), .int .i64 ((rd_T58 y153 x18_1).f3), .int .i64 0]) ?_ 4 _ rfl; (with_reducible repeat (first | refine ar ?_ _ | refine aq ?_ | refine au ?_ _)); refine aw (cs := #[.int .i64 ((rd_T58 y153 x18_1).f0), .int .i64 ((rd_T58 y153 x18_1).f1), .string ((rd_T58 y153 x18_1).f2), .int .i64 0, .int .i64 0]) ?_ 3 _ rfl; (with_reducible repeat (first | refine ar ?_ _ | refine aq ?_ | refine au ?_ _)); refine aw (cs := #[.int .i64 ((rd_T58 y153 x18_1).f0), .int .i64 ((rd_T58 y153 x18_1).f1), .string ⟨#[]⟩, .int .i64 0, .int .i64 0]) ?_ 2 _ rfl; (with_reducible repeat (first | refine ar ?_ _ | refine aq ?_ | refine au ?_ _)); refine aw (cs := #[.int .i64 ((rd_T58 y153 x18_1).f0), .int .i64 0, .string ⟨#[]⟩, .int .i64 0, .int .i64 0]) ?_ 1 _ rfl; (with_reducible repeat (first | refine ar ?_ _ | refine aq ?_ | refine au ?_ _)); refine aw (cs := #[.int .i64 0, .int .i64 0, .string ⟨#[]⟩, .int .i64 0, .int .i64 0]) ?_ 0 _ rfl; (with_reducible repeat (first | refine ar ?_ _ | refine aq ?_ | refine au ?_ _)); exact cG.out)⟩, ⟨fun ok_ v_ xs_ hne_ h_ => by (with_reducible repeat (first | apply ae | apply ac | apply aa)); exact ah (am (p := ⟨ch, 1, none⟩) (am (p := ⟨ch, 0, none⟩) (am (p := ⟨ch, 4, none⟩) (am (p := ⟨ch, 3, none⟩) (am (p := ⟨ch, 2, none⟩) (am (p := ⟨ch, 1, none⟩) (am (p := ⟨ch, 0, none⟩) (ah h_ (fun k_ hk => (⟨hk, hne_ k_ hk⟩ : _ ∧ k_ ≠ ch))) (fun _ hk => hk.2) (.int .i64 ((rd_T58 y153 x18_1).f0))) (fun _ hk => hk.2) (.int .i64 ((rd_T58 y153 x18_1).f1))) (fun _ hk => hk.2) (.string ((rd_T58 y153 x18_1).f2))) (fun _ hk => hk.2) (.int .i64 ((rd_T58 y153 x18_1).f3))) (fun _ hk => hk.2) (.int .i64 ((rd_T58 y153 x18_1).f4))) (fun _ hk => hk.2) (.int .i64 (wrap64 (((rd_T58 y153 x18_1).f0) - cC)))) (fun _ hk => hk.2) (.int .i64 (wrap64 (((rd_T58 y153 x18_1).f1) - cC)))) (fun _ hk => hk.1)⟩, ⟨(by repeat (first | (with_reducible first | exact HB.out | apply bA | apply pD | apply bD | refine ay ?_ ij.out) | exact HB.out))⟩⟩
           case rest =>
            obtain ⟨CB_, CM_, CL_⟩ := hcut
            have m0_ := aM (CM_.out _ _ _ (fun k_ hk => hk.2) f8.out)
            clear f8 HB cG CM_; clear jg jf je hcz15_3 hcz15_4 hfz15_3 hfz15_4
            have f8 := m0_; have HB := CL_; have cG := CB_; clear CL_ CB_ m0_
            have jg : wc.cell? ⟨ch, 0, none⟩ = some (.int .i64 (wrap64 (((rd_T58 y153 x18_1).f0) - cC))) := (bC cG.out 0).trans rfl; have hfz15_0 := bF cG.out 0
            have jf : wc.cell? ⟨ch, 1, none⟩ = some (.int .i64 (wrap64 (((rd_T58 y153 x18_1).f1) - cC))) := (bC cG.out 1).trans rfl; have hfz15_1 := bF cG.out 1
            have je : wc.cell? ⟨ch, 2, none⟩ = some (.string ((rd_T58 y153 x18_1).f2)) := (bC cG.out 2).trans rfl; have hfz15_2 := bF cG.out 2
            have hcz15_3 : wc.cell? ⟨ch, 3, none⟩ = some (.int .i64 ((rd_T58 y153 x18_1).f3)) := (bC cG.out 3).trans rfl; have hfz15_3 := bF cG.out 3
            have hcz15_4 : wc.cell? ⟨ch, 4, none⟩ = some (.int .i64 ((rd_T58 y153 x18_1).f4)) := (bC cG.out 4).trans rfl; have hfz15_4 := bF cG.out 4
            go_wp2_with (((with_reducible refine gate_builtin (b := .append) (xs := #[.tmp 35, .tmp 37]) rfl ?_); at_builtin; refine Kd.R_append k58 (w0 := w) w.heap.size rfl (.tmp 35) (.tmp 37) 27 58 (.agg #[(.int .i64 0), (.int .i64 0), (.string ⟨#[]⟩), (.int .i64 0), (.int .i64 0)]) 48 rfl Try.underlying27 info58 rfl (by decide) (by omega) u6 x6_1 (⟨wrap64 (((rd_T58 y153 x18_1).f0) - cC), wrap64 (((rd_T58 y153 x18_1).f1) - cC), (rd_T58 y153 x18_1).f2, (rd_T58 y153 x18_1).f3, (rd_T58 y153 x18_1).f4⟩ : S58) [.int .i64 (wrap64 (((rd_T58 y153 x18_1).f0) - cC)), .int .i64 (wrap64 (((rd_T58 y153 x18_1).f1) - cC)), .string ((rd_T58 y153 x18_1).f2), .int .i64 ((rd_T58 y153 x18_1).f3), .int .i64 ((rd_T58 y153 x18_1).f4)] (fun k_ => k_ ≠ ch) (fun _ => False) rfl (by first | (go_simp; done) | (go_simp; rfl)) ?aP (fun _ hk => hk.elim) ?aF ?aO ?aB ?aS ?aL ?_; (case aP => exact k58_mkM _ _ _ (⟨wrap64 (((rd_T58 y153 x18_1).f0) - cC), wrap64 (((rd_T58 y153 x18_1).f1) - cC), (rd_T58 y153 x18_1).f2, (rd_T58 y153 x18_1).f3, (rd_T58 y153 x18_1).f4⟩ : S58)); (case aB => exact (by repeat (first | (with_reducible first | exact HB.out | apply bA | apply pD | apply bD | refine ay ?_ ij.out) | exact HB.out))); (case aF => exact (fun k_ hk => Kd.freshB (g := ch) (o := .cells #[.int .i64 (wrap64 (((rd_T58 y153 x18_1).f0) - cC)), .int .i64 (wrap64 (((rd_T58 y153 x18_1).f1) - cC)), .string ((rd_T58 y153 x18_1).f2), .int .i64 ((rd_T58 y153 x18_1).f3), .int .i64 ((rd_T58 y153 x18_1).f4)] 58 (0, 0)) cG.out k_ hk)); (case aO => exact (by (with_reducible repeat (first | apply ae | apply ac | apply aa)); exact ah (ah f8.out (fun k_ hk => (⟨hk, hk.2⟩ : _ ∧ k_ ≠ ch))) (fun _ hk => hk.1.2))); (case aS => exact (aA (by repeat (first | (with_reducible first | exact HB.out | apply bA | apply pD | apply bD | refine ay ?_ ij.out) | exact HB.out)))); (case aL => have := LMc13.out; omega); intro v160 w16 ho hb hg hat; rw [← Ny159.out] at ho; replace cG := aM (blk_grown (g := ch) (o := .cells #[.int .i64 (wrap64 (((rd_T58 y153 x18_1).f0) - cC)), .int .i64 (wrap64 (((rd_T58 y153 x18_1).f1) - cC)), .string ((rd_T58 y153 x18_1).f2), .int .i64 ((rd_T58 y153 x18_1).f3), .int .i64 ((rd_T58 y153 x18_1).f4)] 58 (0, 0)) cG.out hg (Kd.R_away f8.out (fun _ hk => hk.2))); replace HB := aM (hb); have HO161 := aM (ho); clear f8; clear ho hb hg hat))
            go_roundg k1
            case measure => have := HK1.out; omega
            case rel => exact ⟨(y159), (wrap64 (x18_1 + 1)), z1, H', ⟨y0⟩, ⟨kM_ HO161.out (fun _ hk => trivial)⟩, ⟨by repeat (first | (with_reducible first | exact HB.out | apply bA | apply pD | apply bD | refine ay ?_ ij.out) | exact HB.out)⟩⟩
          ·rw [if_neg dH] at H
           exact absurd H (by simp)
         ·rw [if_neg dA] at H
          have c12b0 : decide (0 ≤ ((rd_T58 y153 x18_1).f0)) = false := dF dA
          clear dA
          by_cases e6 : x6_1.length < 2932031007402
          ·rw [if_pos e6] at H
           have LMc17 := aM e6
           clear e6
           obtain ⟨y162, hy162⟩ : ∃ y_ : List (S58), y_ = (x6_1 ++ [(⟨(rd_T58 y153 x18_1).f0, (rd_T58 y153 x18_1).f1, (rd_T58 y153 x18_1).f2, (rd_T58 y153 x18_1).f3, (rd_T58 y153 x18_1).f4⟩ : S58)]) := ⟨_, rfl⟩
           replace H : (spec_l12Part.l0 k1 cC y162 y153 (y153.length : Int) (wrap64 (x18_1 + 1))) = some r := by first | (rw [hy162]; with_reducible exact H) | (have H2_ := (Option.bind_some _ _).symm.trans H; rw [hy162]; with_reducible exact H2_) | (have H2_ := (Option.bind_some _ _).symm.trans H; with_reducible exact H2_) | with_reducible exact H | (rw [hy162]; exact H) | exact H
           have Ny162 := aM hy162
           clear hy162
           have H' := aM H
           clear H
           have p157 : 0 ≤ (x18_1 : Int) := oD z2
           have q157 : x18_1 < (y153.length : Int) := oD z2
           obtain ⟨ad157, e157, hx157_0, hx157_1, hx157_2, hx157_3, hx157_4⟩ := at_T58 nU.out x18_1 p157 q157
           cases e157
           replace hx157_0 := (HB.out.cell (World.block_lt_of_cell? w _ hx157_0)).trans hx157_0
           replace hx157_1 := (HB.out.cell (World.block_lt_of_cell? w _ hx157_1)).trans hx157_1
           replace hx157_2 := (HB.out.cell (World.block_lt_of_cell? w _ hx157_2)).trans hx157_2
           replace hx157_3 := (HB.out.cell (World.block_lt_of_cell? w _ hx157_3)).trans hx157_3
           replace hx157_4 := (HB.out.cell (World.block_lt_of_cell? w _ hx157_4)).trans hx157_4
           replace p157 := eq_true p157
           replace q157 := eq_true q157
           go_wp2_with (first | ((with_reducible refine aK (N := 8) rfl ?_); refine aN ?hg (N := 8) ?hd (cs := #[.int .i64 0, .int .i64 0, .string ⟨#[]⟩, .int .i64 0, .int .i64 0]) (t := 58) ?hr ?_; (case hd => rfl); (case hg => rfl); (case hr => first | (go_simp; done) | (go_simp; rfl)); intro ch hg w18 hbox hb; replace f8 := aM (ag (Kd.R_elderB (kR_ f8.out) ch (Nat.le_of_eq hg.symm)) hb); have cG := aM (hbox); have GW158 := aM ((by rw [hg]; exact (aA z16) : w.heap.size ≤ ch)); have ij := aM ((by rw [hg]; exact (aA z16) : w.heap.size ≤ ch)); replace HB := aM (az z16 hb); clear hb hbox hg; obtain ⟨em, eX, eW, eV, eU, ei, eR, eQ, eP, eO⟩ := cc5 cG.out) | ((with_reducible refine gate_builtin (b := .append) (xs := #[.tmp 35, .tmp 37]) rfl ?_); at_builtin; refine Kd.R_append k58 (w0 := w) w.heap.size rfl (.tmp 35) (.tmp 37) 27 58 (.agg #[(.int .i64 0), (.int .i64 0), (.string ⟨#[]⟩), (.int .i64 0), (.int .i64 0)]) 48 rfl Try.underlying27 info58 rfl (by decide) (by omega) u6 x6_1 (⟨(rd_T58 y153 x18_1).f0, (rd_T58 y153 x18_1).f1, (rd_T58 y153 x18_1).f2, (rd_T58 y153 x18_1).f3, (rd_T58 y153 x18_1).f4⟩ : S58) [.int .i64 ((rd_T58 y153 x18_1).f0), .int .i64 ((rd_T58 y153 x18_1).f1), .string ((rd_T58 y153 x18_1).f2), .int .i64 ((rd_T58 y153 x18_1).f3), .int .i64 ((rd_T58 y153 x18_1).f4)] (fun k_ => k_ ≠ ch) (fun _ => False) rfl (by first | (go_simp; done) | (go_simp; rfl)) ?aP (fun _ hk => hk.elim) ?aF ?aO ?aB ?aS ?aL ?_; (case aP => exact k58_mkM _ _ _ (⟨(rd_T58 y153 x18_1).f0, (rd_T58 y153 x18_1).f1, (rd_T58 y153 x18_1).f2, (rd_T58 y153 x18_1).f3, (rd_T58 y153 x18_1).f4⟩ : S58)); (case aB => exact (by repeat (first | (with_reducible first | exact HB.out | apply bA | apply pD | apply bD | refine ay ?_ ij.out) | exact HB.out))); (case aF => exact (fun k_ hk => Kd.freshB (g := ch) (o := .cells #[.int .i64 ((rd_T58 y153 x18_1).f0), .int .i64 ((rd_T58 y153 x18_1).f1), .string ((rd_T58 y153 x18_1).f2), .int .i64 ((rd_T58 y153 x18_1).f3), .int .i64 ((rd_T58 y153 x18_1).f4)] 58 (0, 0)) (by (with_reducible repeat (first | refine ar ?_ _ | refine aq ?_ | refine au ?_ _)); refine aw (cs := #[.int .i64 ((rd_T58 y153 x18_1).f0), .int .i64 ((rd_T58 y153 x18_1).f1), .string ((rd_T58 y153 x18_1).f2), .int .i64 ((rd_T58 y153 x18_1).f3), .int .i64 0]) ?_ 4 _ rfl; (with_reducible repeat (first | refine ar ?_ _ | refine aq ?_ | refine au ?_ _)); refine aw (cs := #[.int .i64 ((rd_T58 y153 x18_1).f0), .int .i64 ((rd_T58 y153 x18_1).f1), .string ((rd_T58 y153 x18_1).f2), .int .i64 0, .int .i64 0]) ?_ 3 _ rfl; (with_reducible repeat (first | refine ar ?_ _ | refine aq ?_ | refine au ?_ _)); refine aw (cs := #[.int .i64 ((rd_T58 y153 x18_1).f0), .int .i64 ((rd_T58 y153 x18_1).f1), .string ⟨#[]⟩, .int .i64 0, .int .i64 0]) ?_ 2 _ rfl; (with_reducible repeat (first | refine ar ?_ _ | refine aq ?_ | refine au ?_ _)); refine aw (cs := #[.int .i64 ((rd_T58 y153 x18_1).f0), .int .i64 0, .string ⟨#[]⟩, .int .i64 0, .int .i64 0]) ?_ 1 _ rfl; (with_reducible repeat (first | refine ar ?_ _ | refine aq ?_ | refine au ?_ _)); refine aw (cs := #[.int .i64 0, .int .i64 0, .string ⟨#[]⟩, .int .i64 0, .int .i64 0]) ?_ 0 _ rfl; (with_reducible repeat (first | refine ar ?_ _ | refine aq ?_ | refine au ?_ _)); exact cG.out) k_ hk)); (case aO => exact (by (with_reducible repeat (first | apply ae | apply ac | apply aa)); exact ah (am (p := ⟨ch, 4, none⟩) (am (p := ⟨ch, 3, none⟩) (am (p := ⟨ch, 2, none⟩) (am (p := ⟨ch, 1, none⟩) (am (p := ⟨ch, 0, none⟩) (ah f8.out (fun k_ hk => (⟨hk, hk.2⟩ : _ ∧ k_ ≠ ch))) (fun _ hk => hk.2) (.int .i64 ((rd_T58 y153 x18_1).f0))) (fun _ hk => hk.2) (.int .i64 ((rd_T58 y153 x18_1).f1))) (fun _ hk => hk.2) (.string ((rd_T58 y153 x18_1).f2))) (fun _ hk => hk.2) (.int .i64 ((rd_T58 y153 x18_1).f3))) (fun _ hk => hk.2) (.int .i64 ((rd_T58 y153 x18_1).f4))) (fun _ hk => hk.1.2))); (case aS => exact (aA (by repeat (first | (with_reducible first | exact HB.out | apply bA | apply pD | apply bD | refine ay ?_ ij.out) | exact HB.out)))); (case aL => have := LMc17.out; omega); intro v163 w20 ho hb hg hat; rw [← Ny162.out] at ho; replace cG := aM (blk_grown (g := ch) (o := .cells #[.int .i64 ((rd_T58 y153 x18_1).f0), .int .i64 ((rd_T58 y153 x18_1).f1), .string ((rd_T58 y153 x18_1).f2), .int .i64 ((rd_T58 y153 x18_1).f3), .int .i64 ((rd_T58 y153 x18_1).f4)] 58 (0, 0)) (by (with_reducible repeat (first | refine ar ?_ _ | refine aq ?_ | refine au ?_ _)); refine aw (cs := #[.int .i64 ((rd_T58 y153 x18_1).f0), .int .i64 ((rd_T58 y153 x18_1).f1), .string ((rd_T58 y153 x18_1).f2), .int .i64 ((rd_T58 y153 x18_1).f3), .int .i64 0]) ?_ 4 _ rfl; (with_reducible repeat (first | refine ar ?_ _ | refine aq ?_ | refine au ?_ _)); refine aw (cs := #[.int .i64 ((rd_T58 y153 x18_1).f0), .int .i64 ((rd_T58 y153 x18_1).f1), .string ((rd_T58 y153 x18_1).f2), .int .i64 0, .int .i64 0]) ?_ 3 _ rfl; (with_reducible repeat (first | refine ar ?_ _ | refine aq ?_ | refine au ?_ _)); refine aw (cs := #[.int .i64 ((rd_T58 y153 x18_1).f0), .int .i64 ((rd_T58 y153 x18_1).f1), .string ⟨#[]⟩, .int .i64 0, .int .i64 0]) ?_ 2 _ rfl; (with_reducible repeat (first | refine ar ?_ _ | refine aq ?_ | refine au ?_ _)); refine aw (cs := #[.int .i64 ((rd_T58 y153 x18_1).f0), .int .i64 0, .string ⟨#[]⟩, .int .i64 0, .int .i64 0]) ?_ 1 _ rfl; (with_reducible repeat (first | refine ar ?_ _ | refine aq ?_ | refine au ?_ _)); refine aw (cs := #[.int .i64 0, .int .i64 0, .string ⟨#[]⟩, .int .i64 0, .int .i64 0]) ?_ 0 _ rfl; (with_reducible repeat (first | refine ar ?_ _ | refine aq ?_ | refine au ?_ _)); exact cG.out) hg (Kd.R_away f8.out (fun _ hk => hk.2))); replace HB := aM (hb); have HO164 := aM (ho); clear f8; clear ho hb hg hat))
           go_roundg k1
           case measure => have := HK1.out; omega
           case rel => exact ⟨(y162), (wrap64 (x18_1 + 1)), z1, H', ⟨y0⟩, ⟨kM_ HO164.out (fun _ hk => trivial)⟩, ⟨by repeat (first | (with_reducible first | exact HB.out | apply bA | apply pD | apply bD | refine ay ?_ ij.out) | exact HB.out)⟩⟩
          ·rw [if_neg e6] at H
           exact absurd H (by simp)
        ·rw [if_neg dk] at H
         exact absurd H (by simp)
       ·rw [if_neg cS] at H
        exact absurd H (by simp)
      ·rw [if_neg c9] at H
       have c9b0 : decide (x18_1 < (y153.length : Int)) = false := dF c9
       clear c9
       obtain rfl := sI H
       go_wp2
       go_ret
       exact ⟨_, y4, by (with_reducible repeat (first | apply ae | apply ac | apply aa)); exact f8.out, y5⟩
   ·rw [if_neg c6] at H
    exact absurd H (by simp)
  ·rw [if_neg c5] at H
   exact absurd H (by simp)
 ·rw [if_neg c4] at H
  exact absurd H (by simp)

/-! ### spec_l12Split: function 70, by hand -/
def spec_l12Split.f : Nat → List (S58) → Int → Option ((List (S58)) × (List (S58)))
 | 0, _, _ => none
 | k + 1, l0, a1 => if a1 = 0 then (some (([] : List (S58)), l0)) else ((spec_l12Size.f l0).bind fun t198 => (if a1 = t198 then (some (l0, ([] : List (S58)))) else (if 0 ≤ (wrap64 ((l0.length : Int) - 1)) then (if (wrap64 ((l0.length : Int) - 1)) < (l0.length : Int) then (if ((rd_T58 l0 (wrap64 ((l0.length : Int) - 1))).f0) < 0 then (if 0 ≤ a1 then (if a1 ≤ (((rd_T58 l0 (wrap64 ((l0.length : Int) - 1))).f2).size : Int) then ((spec_l12Piece.f (((rd_T58 l0 (wrap64 ((l0.length : Int) - 1))).f2).extract 0 (a1 : Int).toNat)).bind fun jU => ((spec_l12Piece.f (((rd_T58 l0 (wrap64 ((l0.length : Int) - 1))).f2).extract (a1 : Int).toNat ((rd_T58 l0 (wrap64 ((l0.length : Int) - 1))).f2).size)).bind fun lJ => (some (jU, lJ)))) else (none)) else (none)) else ((spec_l12Part.f k l0 ((rd_T58 l0 (wrap64 ((l0.length : Int) - 1))).f0)).bind fun bO => ((spec_l12Part.f k l0 ((rd_T58 l0 (wrap64 ((l0.length : Int) - 1))).f1)).bind fun bS => ((spec_l12Size.f bO).bind fun pM => (if a1 < pM then ((spec_l12Split.f k bO a1).bind fun nS => ((spec_l12Join.f k nS.2 bS).bind fun nc => (some (nS.1, nc)))) else ((spec_l12Split.f k bS (wrap64 (a1 - pM))).bind fun nR => ((spec_l12Join.f k bO nR.1).bind fun nb => (some (nb, nR.2))))))))) else (none)) else (none))))
theorem spec_l12Split.mono_l : ∀ k, (∀ y0 y1, LeO (spec_l12Split.f k y0 y1) (spec_l12Split.f (k + 1) y0 y1))
 | 0 => fun _ _ r h => by simp [spec_l12Split.f] at h
 | k + 1 => by
  have ih0 := spec_l12Split.mono_l k
  ·intro y0 y1
   unfold spec_l12Split.f
   repeat' first
   | (with_reducible exact ih0 _ _)
   | (with_reducible exact spec_l12Join.mono _ _ _)
   | (with_reducible exact spec_l12Part.mono _ _ _)
   | (with_reducible exact LeO.refl _)
   | (with_reducible exact LeO.none _)
   | (with_reducible refine LeO.ite ?_ ?_)
   | (with_reducible refine LeO.bind ?_ (fun _ => ?_))
theorem spec_l12Split.mono : ∀ a0 a1 k, LeO (spec_l12Split.f k a0 a1) (spec_l12Split.f (k + 1) a0 a1) := by
 intro a0 a1 k
 have ih0 := spec_l12Split.mono_l k
 exact ih0 a0 a1
def RdAt2 (w : World) (r1 r2 : List S58) (e : Ending) (w' : World) : Prop := ∃ A1 c1 A2 c2, e = .returned (.tuple #[.slice A1 r1.length c1, .slice A2 r2.length c2]) ∧ Kd.C k58 w' A1 r1.length r1 ∧ r1.length ≤ c1 ∧ Kd.C k58 w' A2 r2.length r2 ∧ r2.length ≤ c2 ∧ Below w.heap.size w w'
set_option maxHeartbeats 8000000 in
set_option maxRecDepth 100000 in
theorem split_rd (k : Nat) : ∀ (l : List S58) (A : Option Addr) (c : Nat) (a : Int) (r1 r2 : List S58) (w : World) (hr : Kd.C k58 w A l.length l) (hc : l.length ≤ c) (h : spec_l12Split.f k l a = some (r1, r2)),
  Calls Try.prog 70 #[.slice A l.length c, .int .i64 a] w (RdAt2 w r1 r2) := by
 induction k with
 | zero => intro l A c a r1 r2 w hr hc h; exact absurd h (by simp [spec_l12Split.f])
 | succ k ih =>
  intro l A c a r1 r2 w hr hc h
  simp only [spec_l12Split.f] at h
  have hu101 := Try.underlying58
  have HR := aM hr
  have HC := aM hc
  have IH := aM ih
  clear ih hr hc
  by_cases e0 : a = 0
  ·rw [if_pos e0] at h
   obtain ⟨rfl, rfl⟩ := Prod.mk.inj (sI h)
   have q0 : (a == 0) = true := qT e0
   clear h e0
   go_enter Try.func70, Try.ntmps70
   go_wp2
   go_ret2
   exact ⟨none, 0, A, c, rfl, Kd.C_nil _ _, Nat.le_refl _, HR.out, HC.out, Below.refl _ _⟩
  rw [if_neg e0] at h
  have q0 : (a == 0) = false := qF e0
  obtain ⟨z, hz, h⟩ := oB h
  have HZ := aM hz
  clear hz e0
  by_cases e1 : a = z
  ·rw [if_pos e1] at h
   obtain ⟨rfl, rfl⟩ := Prod.mk.inj (sI h)
   have q1 : (a == z) = true := qT e1
   clear h e1
   go_enter Try.func70, Try.ntmps70
   go_wp2_with (first | (go_at_call 51; refine (spec_l12Size.calls _ _ l z _ ?s1 ?s2 HZ.out).mono ?_; (case s1 => repeat (first | exact HR.out | (with_reducible refine aG ?_ _) | (with_reducible refine aH ?_ _) | (with_reducible refine aI ?_))); (case s2 => exact HC.out); rintro e w' ⟨rfl, ⟨nd, rfl⟩⟩; generalize hq_ : World.drewN w _ = wq; have HRq : Aside0 (Kd.C k58 wq A l.length l) := ⟨by rw [← hq_]; exact aH HR.out _⟩; have HBq : Aside0 (Below w.heap.size w wq) := ⟨by rw [← hq_]; exact pD (Below.refl _ _) _⟩; clear hq_))
   go_ret2
   exact ⟨A, c, none, 0, rfl, HRq.out, HC.out, Kd.C_nil _ _, Nat.le_refl _, HBq.out⟩
  rw [if_neg e1] at h
  have q1 : (a == z) = false := qF e1
  clear e1
  obtain ⟨j, hj⟩ : ∃ j : Int, wrap64 ((l.length : Int) - 1) = j := ⟨_, rfl⟩
  have hjw : IntKind.i64.wrap ((l.length : Int) - 1) = j := (i64_w _).trans hj
  rw [hj] at h
  clear hj
  by_cases t1 : 0 ≤ j
  case neg => rw [if_neg t1] at h; cases h
  rw [if_pos t1] at h
  by_cases t2 : j < (l.length : Int)
  case neg => rw [if_neg t2] at h; cases h
  rw [if_pos t2] at h
  replace t1 := eq_true t1
  replace t2 := eq_true t2
  by_cases t3 : (rd_T58 l j).f0 < 0
  ·rw [if_pos t3] at h
   have d3 : decide ((rd_T58 l j).f0 < 0) = true := dT t3
   clear t3
   by_cases t4 : 0 ≤ a
   case neg => rw [if_neg t4] at h; cases h
   rw [if_pos t4] at h
   by_cases t5 : a ≤ ((rd_T58 l j).f2.size : Int)
   case neg => rw [if_neg t5] at h; cases h
   rw [if_pos t5] at h
   replace t4 := eq_true t4
   replace t5 := eq_true t5
   obtain ⟨p1, hp1, h⟩ := oB h
   obtain ⟨p2, hp2, h⟩ := oB h
   obtain ⟨rfl, rfl⟩ := Prod.mk.inj (sI h)
   have H1 := aM hp1
   have H2 := aM hp2
   clear h hp1 hp2
   go_enter Try.func70, Try.ntmps70
   go_upto_region 5 with (first | (go_at_call 51; refine (spec_l12Size.calls _ _ l z _ ?s1 ?s2 HZ.out).mono ?_; (case s1 => repeat (first | exact HR.out | (with_reducible refine aG ?_ _) | (with_reducible refine aH ?_ _) | (with_reducible refine aI ?_))); (case s2 => exact HC.out); rintro e w' ⟨rfl, ⟨nd, rfl⟩⟩; generalize hq_ : World.drewN w _ = wq; have HRq : Aside0 (Kd.C k58 wq A l.length l) := ⟨by rw [← hq_]; exact aH HR.out _⟩; have HBq : Aside0 (Below w.heap.size w wq) := ⟨by rw [← hq_]; exact pD (Below.refl _ _) _⟩; clear hq_; obtain ⟨ad, e_, hx0, hx1, hx2, hx3, hx4⟩ := at_T58 HRq.out j (of_eq_true t1) (of_eq_true t2); cases e_))
   go_cut [6] (fun v_ wc_ => ∃ g_, v_ = .pointer (some ⟨g_, 0, none⟩) ∧ Aside0 (w.heap.size ≤ g_) ∧ Aside0 (wc_.heap[g_]? = some (.cells #[.int .i64 ((rd_T58 l j).f0), .int .i64 ((rd_T58 l j).f1), .string ((rd_T58 l j).f2), .int .i64 ((rd_T58 l j).f3), .int .i64 ((rd_T58 l j).f4)] 58 (0, 0))) ∧ Aside0 (Below w.heap.size w wc_))
   case first =>
    go_wp2_with (fail)
    go_meet
    exact ⟨_, rfl, ⟨HBq.out.size⟩, ⟨blk_new _ _⟩, ⟨bA HBq.out _⟩⟩
   case rest =>
    obtain ⟨gb, rfl, GE_gb, BK_gb, HB⟩ := hcut
    clear hx0 hx1 hx2 hx3 hx4 HRq HBq
    have HX := aM (aE HR.out HB.out)
    have hcgb_0 : wc.cell? ⟨gb, 0, none⟩ = some (.int .i64 ((rd_T58 l j).f0)) := (bC BK_gb.out 0).trans rfl; have hfgb_0 := bF BK_gb.out 0; have hcgb_1 : wc.cell? ⟨gb, 1, none⟩ = some (.int .i64 ((rd_T58 l j).f1)) := (bC BK_gb.out 1).trans rfl; have hfgb_1 := bF BK_gb.out 1; have hcgb_2 : wc.cell? ⟨gb, 2, none⟩ = some (.string ((rd_T58 l j).f2)) := (bC BK_gb.out 2).trans rfl; have hfgb_2 := bF BK_gb.out 2; have hcgb_3 : wc.cell? ⟨gb, 3, none⟩ = some (.int .i64 ((rd_T58 l j).f3)) := (bC BK_gb.out 3).trans rfl; have hfgb_3 := bF BK_gb.out 3; have hcgb_4 : wc.cell? ⟨gb, 4, none⟩ = some (.int .i64 ((rd_T58 l j).f4)) := (bC BK_gb.out 4).trans rfl; have hfgb_4 := bF BK_gb.out 4
    go_wp2
    go_region_held3 (fun w' => w'.cell? ⟨gb, 2, none⟩ = some (.string (rd_T58 l j).f2)) (first | go_keep | exact HS1.out | exact HS2.out) (first | (go_at_call_of 80 (Value.string ((rd_T58 l j).f2.extract 0 a.toNat)); refine (spec_l12Piece.calls _ _ _ H1.out).mono ?_; rintro e w1 ⟨v1, rfl, ho, hb⟩; obtain ⟨A1, c1, eo⟩ := Kd.R_slice ho; subst eo; have qO := aM ho; have HB1 := aM hb; have HS1 : Aside0 (w1.cell? ⟨gb, 2, none⟩ = some (.string (rd_T58 l j).f2)) := ⟨(bC (af (kB_ BK_gb.out) hb) 2).trans rfl⟩; clear ho hb) | (go_at_call 80; refine (spec_l12Piece.calls _ _ _ H2.out).mono ?_; rintro e w2 ⟨v2, rfl, ho, hb⟩; obtain ⟨A2, c2, eo⟩ := Kd.R_slice ho; subst eo; have nx := aM ho; have HB2 := aM hb; have HS2 : Aside0 (w2.cell? ⟨gb, 2, none⟩ = some (.string (rd_T58 l j).f2)) := ⟨(hb.cell (World.block_lt_of_cell? _ _ HS1.out)).trans HS1.out⟩; clear ho hb))
    go_wp2
    go_ret2
    exact ⟨A1, c1, A2, c2, rfl, aE (ai qO.out).2.2 HB2.out, (ai qO.out).2.1, (ai nx.out).2.2, (ai nx.out).2.1, az (az HB.out (by first | exact HB1.out | exact az (below_drew (Below.refl _ _)) HB1.out)) HB2.out⟩
  ·rw [if_neg t3] at h
   have d3 : decide ((rd_T58 l j).f0 < 0) = false := dF t3
   clear t3
   obtain ⟨L, hL, h⟩ := oB h
   obtain ⟨R, hR, h⟩ := oB h
   obtain ⟨n, hn, h⟩ := oB h
   have HL := aM hL
   have HRr := aM hR
   have HN := aM hn
   clear hL hR hn
   by_cases t4 : a < n
   ·rw [if_pos t4] at h
    have d4 : decide (a < n) = true := dT t4
    clear t4
    obtain ⟨⟨x, y⟩, hs, h⟩ := oB h
    obtain ⟨q, hq, h⟩ := oB h
    obtain ⟨rfl, rfl⟩ := Prod.mk.inj (sI h)
    have HS := aM hs
    have HQ := aM hq
    clear h hs hq
    go_enter Try.func70, Try.ntmps70
    go_upto_region 5 with (first | (go_at_call 51; refine (spec_l12Size.calls _ _ l z _ ?s1 ?s2 HZ.out).mono ?_; (case s1 => repeat (first | exact HR.out | (with_reducible refine aG ?_ _) | (with_reducible refine aH ?_ _) | (with_reducible refine aI ?_))); (case s2 => exact HC.out); rintro e w' ⟨rfl, ⟨nd, rfl⟩⟩; generalize hq_ : World.drewN w _ = wq; have HRq : Aside0 (Kd.C k58 wq A l.length l) := ⟨by rw [← hq_]; exact aH HR.out _⟩; have HBq : Aside0 (Below w.heap.size w wq) := ⟨by rw [← hq_]; exact pD (Below.refl _ _) _⟩; clear hq_; obtain ⟨ad, e_, hx0, hx1, hx2, hx3, hx4⟩ := at_T58 HRq.out j (of_eq_true t1) (of_eq_true t2); cases e_))
    go_cut [6] (fun v_ wc_ => ∃ g_, v_ = .pointer (some ⟨g_, 0, none⟩) ∧ Aside0 (w.heap.size ≤ g_) ∧ Aside0 (wc_.heap[g_]? = some (.cells #[.int .i64 ((rd_T58 l j).f0), .int .i64 ((rd_T58 l j).f1), .string ((rd_T58 l j).f2), .int .i64 ((rd_T58 l j).f3), .int .i64 ((rd_T58 l j).f4)] 58 (0, 0))) ∧ Aside0 (Below w.heap.size w wc_))
    case first =>
     go_wp2_with (fail)
     go_meet
     exact ⟨_, rfl, ⟨HBq.out.size⟩, ⟨blk_new _ _⟩, ⟨bA HBq.out _⟩⟩
    case rest =>
     obtain ⟨gb, rfl, GE_gb, BK_gb, HB⟩ := hcut
     clear hx0 hx1 hx2 hx3 hx4 HRq HBq
     have HX := aM (aE HR.out HB.out)
     have hcgb_0 : wc.cell? ⟨gb, 0, none⟩ = some (.int .i64 ((rd_T58 l j).f0)) := (bC BK_gb.out 0).trans rfl; have hfgb_0 := bF BK_gb.out 0; have hcgb_1 : wc.cell? ⟨gb, 1, none⟩ = some (.int .i64 ((rd_T58 l j).f1)) := (bC BK_gb.out 1).trans rfl; have hfgb_1 := bF BK_gb.out 1; have hcgb_2 : wc.cell? ⟨gb, 2, none⟩ = some (.string ((rd_T58 l j).f2)) := (bC BK_gb.out 2).trans rfl; have hfgb_2 := bF BK_gb.out 2; have hcgb_3 : wc.cell? ⟨gb, 3, none⟩ = some (.int .i64 ((rd_T58 l j).f3)) := (bC BK_gb.out 3).trans rfl; have hfgb_3 := bF BK_gb.out 3; have hcgb_4 : wc.cell? ⟨gb, 4, none⟩ = some (.int .i64 ((rd_T58 l j).f4)) := (bC BK_gb.out 4).trans rfl; have hfgb_4 := bF BK_gb.out 4
     go_upto_region 9 with (first | (go_at_call 84; refine (spec_l12Part.calls k _ _ l (rd_T58 l j).f0 L _ (by repeat (first | exact HX.out | (with_reducible refine aG ?_ _) | (with_reducible refine aH ?_ _) | (with_reducible refine aI ?_))) HC.out HL.out).mono ?_; rintro e w1 ⟨v1, rfl, ho, hb⟩; obtain ⟨A1, c1, eo⟩ := Kd.R_slice ho; subst eo; have dN := aM (ai ho).2.1; have HX1 := aM (ai ho).2.2; have a8 := aM (az z16 hb); have a9 := aM (aE (by repeat (first | exact HX.out | (with_reducible refine aG ?_ _) | (with_reducible refine aH ?_ _) | (with_reducible refine aI ?_))) hb); have bb := aM (af (kB_ BK_gb.out) hb); clear BK_gb hcgb_0 hcgb_1 hcgb_2 hcgb_3 hcgb_4 hfgb_0 hfgb_1 hfgb_2 hfgb_3 hfgb_4; clear HB HX; have HB := a8; have HX := a9; have BK_gb := bb; clear a8 a9 bb ho hb; obtain ⟨hcgb_0, hcgb_1, hcgb_2, hcgb_3, hcgb_4, hfgb_0, hfgb_1, hfgb_2, hfgb_3, hfgb_4⟩ := cc5 BK_gb.out))
     go_upto_region 10 with (first | (go_at_call 84; refine (spec_l12Part.calls k _ _ l (rd_T58 l j).f1 R _ (by repeat (first | exact HX.out | (with_reducible refine aG ?_ _) | (with_reducible refine aH ?_ _) | (with_reducible refine aI ?_))) HC.out HRr.out).mono ?_; rintro e w2 ⟨v2, rfl, ho, hb⟩; obtain ⟨A2, c2, eo⟩ := Kd.R_slice ho; subst eo; have ly := aM (ai ho).2.1; have HX2 := aM (ai ho).2.2; have a8 := aM (az z16 hb); have a9 := aM (aE (by repeat (first | exact HX.out | (with_reducible refine aG ?_ _) | (with_reducible refine aH ?_ _) | (with_reducible refine aI ?_))) hb); have bb := aM (af (kB_ BK_gb.out) hb); clear BK_gb hcgb_0 hcgb_1 hcgb_2 hcgb_3 hcgb_4 hfgb_0 hfgb_1 hfgb_2 hfgb_3 hfgb_4; replace HX1 := aM (aE (by repeat (first | exact HX1.out | (with_reducible refine aG ?_ _) | (with_reducible refine aH ?_ _) | (with_reducible refine aI ?_))) hb); clear HB HX; have HB := a8; have HX := a9; have BK_gb := bb; clear a8 a9 bb ho hb; obtain ⟨hcgb_0, hcgb_1, hcgb_2, hcgb_3, hcgb_4, hfgb_0, hfgb_1, hfgb_2, hfgb_3, hfgb_4⟩ := cc5 BK_gb.out))
     go_upto_region 11 with (first | (go_at_call 51; refine (spec_l12Size.calls A1 c1 L n _ ?s1 ?s2 HN.out).mono ?_; (case s1 => repeat (first | exact HX1.out | (with_reducible refine aG ?_ _) | (with_reducible refine aH ?_ _) | (with_reducible refine aI ?_))); (case s2 => exact dN.out); rintro e w' ⟨rfl, ⟨nd2, rfl⟩⟩))
     go_upto_region 13 with (first | (go_at_call 70; refine (IH.out L A1 c1 a x y _ (by repeat (first | exact HX1.out | (with_reducible refine aG ?_ _) | (with_reducible refine aH ?_ _) | (with_reducible refine aI ?_))) dN.out HS.out).mono ?_; rintro e w3 ⟨A3, c3, A4, c4, rfl, hc3, hl3, hc4, hl4, hb⟩; have qI := aM hc3; have HL3 := aM hl3; have qa := aM hc4; have HL4 := aM hl4; have a8 := aM (az z16 hb); have a9 := aM (aE (by repeat (first | exact HX2.out | (with_reducible refine aG ?_ _) | (with_reducible refine aH ?_ _) | (with_reducible refine aI ?_))) hb); clear HB HX2; have HB := a8; have HX2 := a9; clear a8 a9 hc3 hl3 hc4 hl4 hb))
     go_wp2_with (first | (go_at_call 68; refine (join_rd k y A4 c4 R A2 c2 q _ (by repeat (first | exact qa.out | (with_reducible refine aG ?_ _) | (with_reducible refine aH ?_ _) | (with_reducible refine aI ?_))) HL4.out (by repeat (first | exact HX2.out | (with_reducible refine aG ?_ _) | (with_reducible refine aH ?_ _) | (with_reducible refine aI ?_))) ly.out HQ.out).mono ?_; rintro e w4 ⟨A5, c5, rfl, hc5, hl5, hb⟩; have fH := aM hc5; have HL5 := aM hl5; have HF3 := aM (aE (by repeat (first | exact qI.out | (with_reducible refine aG ?_ _) | (with_reducible refine aH ?_ _) | (with_reducible refine aI ?_))) hb); have a8 := aM (az z16 hb); clear HB; have HB := a8; clear a8 hc5 hl5 hb))
     go_ret2
     exact ⟨A3, c3, A5, c5, rfl, HF3.out, HL3.out, fH.out, HL5.out, HB.out⟩
   ·rw [if_neg t4] at h
    have d4 : decide (a < n) = false := dF t4
    clear t4
    obtain ⟨⟨x, y⟩, hs, h⟩ := oB h
    obtain ⟨q, hq, h⟩ := oB h
    obtain ⟨rfl, rfl⟩ := Prod.mk.inj (sI h)
    obtain ⟨m, hm⟩ : ∃ m : Int, wrap64 (a - n) = m := ⟨_, rfl⟩
    have hmw : IntKind.i64.wrap (a - n) = m := (i64_w _).trans hm
    rw [hm] at hs
    have HS := aM hs
    have HQ := aM hq
    clear h hs hq hm
    go_enter Try.func70, Try.ntmps70
    go_upto_region 5 with (first | (go_at_call 51; refine (spec_l12Size.calls _ _ l z _ ?s1 ?s2 HZ.out).mono ?_; (case s1 => repeat (first | exact HR.out | (with_reducible refine aG ?_ _) | (with_reducible refine aH ?_ _) | (with_reducible refine aI ?_))); (case s2 => exact HC.out); rintro e w' ⟨rfl, ⟨nd, rfl⟩⟩; generalize hq_ : World.drewN w _ = wq; have HRq : Aside0 (Kd.C k58 wq A l.length l) := ⟨by rw [← hq_]; exact aH HR.out _⟩; have HBq : Aside0 (Below w.heap.size w wq) := ⟨by rw [← hq_]; exact pD (Below.refl _ _) _⟩; clear hq_; obtain ⟨ad, e_, hx0, hx1, hx2, hx3, hx4⟩ := at_T58 HRq.out j (of_eq_true t1) (of_eq_true t2); cases e_))
    go_cut [6] (fun v_ wc_ => ∃ g_, v_ = .pointer (some ⟨g_, 0, none⟩) ∧ Aside0 (w.heap.size ≤ g_) ∧ Aside0 (wc_.heap[g_]? = some (.cells #[.int .i64 ((rd_T58 l j).f0), .int .i64 ((rd_T58 l j).f1), .string ((rd_T58 l j).f2), .int .i64 ((rd_T58 l j).f3), .int .i64 ((rd_T58 l j).f4)] 58 (0, 0))) ∧ Aside0 (Below w.heap.size w wc_))
    case first =>
     go_wp2_with (fail)
     go_meet
     exact ⟨_, rfl, ⟨HBq.out.size⟩, ⟨blk_new _ _⟩, ⟨bA HBq.out _⟩⟩
    case rest =>
     obtain ⟨gb, rfl, GE_gb, BK_gb, HB⟩ := hcut
     clear hx0 hx1 hx2 hx3 hx4 HRq HBq
     have HX := aM (aE HR.out HB.out)
     have hcgb_0 : wc.cell? ⟨gb, 0, none⟩ = some (.int .i64 ((rd_T58 l j).f0)) := (bC BK_gb.out 0).trans rfl; have hfgb_0 := bF BK_gb.out 0; have hcgb_1 : wc.cell? ⟨gb, 1, none⟩ = some (.int .i64 ((rd_T58 l j).f1)) := (bC BK_gb.out 1).trans rfl; have hfgb_1 := bF BK_gb.out 1; have hcgb_2 : wc.cell? ⟨gb, 2, none⟩ = some (.string ((rd_T58 l j).f2)) := (bC BK_gb.out 2).trans rfl; have hfgb_2 := bF BK_gb.out 2; have hcgb_3 : wc.cell? ⟨gb, 3, none⟩ = some (.int .i64 ((rd_T58 l j).f3)) := (bC BK_gb.out 3).trans rfl; have hfgb_3 := bF BK_gb.out 3; have hcgb_4 : wc.cell? ⟨gb, 4, none⟩ = some (.int .i64 ((rd_T58 l j).f4)) := (bC BK_gb.out 4).trans rfl; have hfgb_4 := bF BK_gb.out 4
     go_upto_region 9 with (first | (go_at_call 84; refine (spec_l12Part.calls k _ _ l (rd_T58 l j).f0 L _ (by repeat (first | exact HX.out | (with_reducible refine aG ?_ _) | (with_reducible refine aH ?_ _) | (with_reducible refine aI ?_))) HC.out HL.out).mono ?_; rintro e w1 ⟨v1, rfl, ho, hb⟩; obtain ⟨A1, c1, eo⟩ := Kd.R_slice ho; subst eo; have dN := aM (ai ho).2.1; have HX1 := aM (ai ho).2.2; have a8 := aM (az z16 hb); have a9 := aM (aE (by repeat (first | exact HX.out | (with_reducible refine aG ?_ _) | (with_reducible refine aH ?_ _) | (with_reducible refine aI ?_))) hb); have bb := aM (af (kB_ BK_gb.out) hb); clear BK_gb hcgb_0 hcgb_1 hcgb_2 hcgb_3 hcgb_4 hfgb_0 hfgb_1 hfgb_2 hfgb_3 hfgb_4; clear HB HX; have HB := a8; have HX := a9; have BK_gb := bb; clear a8 a9 bb ho hb; obtain ⟨hcgb_0, hcgb_1, hcgb_2, hcgb_3, hcgb_4, hfgb_0, hfgb_1, hfgb_2, hfgb_3, hfgb_4⟩ := cc5 BK_gb.out))
     go_upto_region 10 with (first | (go_at_call 84; refine (spec_l12Part.calls k _ _ l (rd_T58 l j).f1 R _ (by repeat (first | exact HX.out | (with_reducible refine aG ?_ _) | (with_reducible refine aH ?_ _) | (with_reducible refine aI ?_))) HC.out HRr.out).mono ?_; rintro e w2 ⟨v2, rfl, ho, hb⟩; obtain ⟨A2, c2, eo⟩ := Kd.R_slice ho; subst eo; have ly := aM (ai ho).2.1; have HX2 := aM (ai ho).2.2; have a8 := aM (az z16 hb); have a9 := aM (aE (by repeat (first | exact HX.out | (with_reducible refine aG ?_ _) | (with_reducible refine aH ?_ _) | (with_reducible refine aI ?_))) hb); have bb := aM (af (kB_ BK_gb.out) hb); clear BK_gb hcgb_0 hcgb_1 hcgb_2 hcgb_3 hcgb_4 hfgb_0 hfgb_1 hfgb_2 hfgb_3 hfgb_4; replace HX1 := aM (aE (by repeat (first | exact HX1.out | (with_reducible refine aG ?_ _) | (with_reducible refine aH ?_ _) | (with_reducible refine aI ?_))) hb); clear HB HX; have HB := a8; have HX := a9; have BK_gb := bb; clear a8 a9 bb ho hb; obtain ⟨hcgb_0, hcgb_1, hcgb_2, hcgb_3, hcgb_4, hfgb_0, hfgb_1, hfgb_2, hfgb_3, hfgb_4⟩ := cc5 BK_gb.out))
     go_upto_region 11 with (first | (go_at_call 51; refine (spec_l12Size.calls A1 c1 L n _ ?s1 ?s2 HN.out).mono ?_; (case s1 => repeat (first | exact HX1.out | (with_reducible refine aG ?_ _) | (with_reducible refine aH ?_ _) | (with_reducible refine aI ?_))); (case s2 => exact dN.out); rintro e w' ⟨rfl, ⟨nd2, rfl⟩⟩))
     go_upto_region 15 with (first | (go_at_call 70; refine (IH.out R A2 c2 m x y _ (by repeat (first | exact HX2.out | (with_reducible refine aG ?_ _) | (with_reducible refine aH ?_ _) | (with_reducible refine aI ?_))) ly.out HS.out).mono ?_; rintro e w3 ⟨A3, c3, A4, c4, rfl, hc3, hl3, hc4, hl4, hb⟩; have qI := aM hc3; have HL3 := aM hl3; have qa := aM hc4; have HL4 := aM hl4; have a8 := aM (az z16 hb); have a9 := aM (aE (by repeat (first | exact HX1.out | (with_reducible refine aG ?_ _) | (with_reducible refine aH ?_ _) | (with_reducible refine aI ?_))) hb); clear HB HX1; have HB := a8; have HX1 := a9; clear a8 a9 hc3 hl3 hc4 hl4 hb))
     go_wp2_with (first | (go_at_call 68; refine (join_rd k L A1 c1 x A3 c3 q _ (by repeat (first | exact HX1.out | (with_reducible refine aG ?_ _) | (with_reducible refine aH ?_ _) | (with_reducible refine aI ?_))) dN.out (by repeat (first | exact qI.out | (with_reducible refine aG ?_ _) | (with_reducible refine aH ?_ _) | (with_reducible refine aI ?_))) HL3.out HQ.out).mono ?_; rintro e w4 ⟨A5, c5, rfl, hc5, hl5, hb⟩; have fH := aM hc5; have HL5 := aM hl5; have HF4 := aM (aE (by repeat (first | exact qa.out | (with_reducible refine aG ?_ _) | (with_reducible refine aH ?_ _) | (with_reducible refine aI ?_))) hb); have a8 := aM (az z16 hb); clear HB; have HB := a8; clear a8 hc5 hl5 hb))
     go_ret2
     exact ⟨A5, c5, A4, c4, rfl, fH.out, HL5.out, HF4.out, HL4.out, HB.out⟩

/-! ### spec_SplitRope: function 38, by hand -/
def spec_SplitRope.f (k : Nat) (l0_0 : List (S58)) (a1 : Int) : Option ((List (S58)) × (List (S58)) × Bool) := (spec_GoodRope.f k l0_0).bind fun m0 => (if m0 = true then ((spec_l12Size.f l0_0).bind fun kK => ((spec_l1In.f a1 0 kK).bind fun mZ => (if mZ = true then ((spec_l12Split.f k l0_0 a1).bind fun gx => ((some (([] : List (S58)) : List (S58))).bind fun y259 => (if y259.length + gx.1.length < 2932031007402 then ((some (([] : List (S58)) : List (S58))).bind fun y266 => (if y266.length + gx.2.length < 2932031007402 then (some ((y259 ++ gx.1), (y266 ++ gx.2), true)) else (none))) else (none)))) else (some (([] : List (S58)), ([] : List (S58)), false))))) else (some (([] : List (S58)), ([] : List (S58)), false)))
theorem spec_SplitRope.mono : ∀ a0 a1 k, LeO (spec_SplitRope.f k a0 a1) (spec_SplitRope.f (k + 1) a0 a1) := by
 intro a0 a1 k
 unfold spec_SplitRope.f
 repeat' first
   | (with_reducible exact spec_GoodRope.mono _ _)
   | (with_reducible exact spec_l12Split.mono _ _ _)
   | (with_reducible exact LeO.refl _)
   | (with_reducible exact LeO.none _)
   | (with_reducible refine LeO.ite ?_ ?_)
   | (with_reducible refine LeO.bind ?_ (fun _ => ?_))
/-- What stands through the whole call. -/
def SrF (A0 : Option Addr) (c0 : Nat) (l0 : List S58) (w W : World) : Prop := Below w.heap.size w W ∧ W.heap[w.heap.size]? = some (.cells #[.slice A0 l0.length c0] 29 (0, 0)) ∧ W.heap[w.heap.size + 1]? = some (.cells #[.slice none 0 0] 29 (0, 0)) ∧ W.heap[w.heap.size + 1 + 1]? = some (.cells #[.slice none 0 0] 29 (0, 0)) ∧ Kd.C k58 W A0 l0.length l0
section
variable {A0 : Option Addr} {c0 : Nat} {l0 : List S58} {w W W' : World}
theorem SrF.below (h : SrF A0 c0 l0 w W) (hb : Below W.heap.size W W') : SrF A0 c0 l0 w W' := ⟨az h.1 hb, af h.2.1 hb, af h.2.2.1 hb, af h.2.2.2.1 hb, aE h.2.2.2.2 hb⟩
theorem SrF.alloc (h : SrF A0 c0 l0 w W) (o : Obj) : SrF A0 c0 l0 w (W.alloc o) := h.below (bA (Below.refl _ _) _)
theorem SrF.drewN (h : SrF A0 c0 l0 w W) (n : Nat) : SrF A0 c0 l0 w (W.drewN n) := h.below (pD (Below.refl _ _) _)
theorem SrF.drew (h : SrF A0 c0 l0 w W) : SrF A0 c0 l0 w W.drew := h.below (below_drew (Below.refl _ _))
end
set_option maxHeartbeats 8000000 in
set_option maxRecDepth 100000 in
theorem spec_SplitRope.calls (k : Nat) (bB : Option Addr) (bo : Nat) (l0_0 : List S58) (a1 : Int) (r1 : List S58) (r2 : List S58) (r3 : Bool) (w : World) (hr0_0 : Kd.C k58 w bB l0_0.length l0_0) (hc0_0 : l0_0.length ≤ bo) (h : spec_SplitRope.f k l0_0 a1 = some (r1, r2, r3)) :
  Calls Try.prog 38 #[.agg #[.slice bB l0_0.length bo], .int .i64 a1] w fun e w' => ∃ v0_ v1_ : Value, e = .returned (.tuple #[.agg #[v0_], .agg #[v1_], .bool r3]) ∧ Kd.R k58 58 w' w.heap.size (fun k_ => some k_ ≠ (v1_ : Value).ownBlock) v0_ r1 ∧ Kd.R k58 58 w' w.heap.size (fun k_ => some k_ ≠ (v0_ : Value).ownBlock) v1_ r2 ∧ Below w.heap.size w w' := by
 obtain ⟨W2, hW2⟩ : ∃ W2, ((w.alloc (.cells #[.slice bB l0_0.length bo] 29)).alloc (.cells #[.slice none 0 0] 29)).alloc (.cells #[.slice none 0 0] 29) = W2 := ⟨_, rfl⟩
 have HWB : Below w.heap.size w W2 := by rw [← hW2]; exact bA (bA (bA (Below.refl _ _) _) _) _
 have HF : Aside0 (SrF bB bo l0_0 w W2) := ⟨HWB, by rw [← hW2]; have := au (au (blk_new w (.cells #[.slice bB l0_0.length bo] 29)) (.cells #[.slice none 0 0] 29)) (.cells #[.slice none 0 0] 29); simpa using this, by rw [← hW2]; have := au (blk_new (w.alloc (.cells #[.slice bB l0_0.length bo] 29)) (.cells #[.slice none 0 0] 29)) (.cells #[.slice none 0 0] 29); simpa using this, by rw [← hW2]; have := blk_new ((w.alloc (.cells #[.slice bB l0_0.length bo] 29)).alloc (.cells #[.slice none 0 0] 29)) (.cells #[.slice none 0 0] 29); simpa using this, aE hr0_0 HWB⟩
 have HWE := aM hW2
 have dy := aM hc0_0
 obtain ⟨gg, hg, h⟩ := oB h
 have HG := aM hg
 clear HWB hr0_0 hc0_0 hg hW2
 cases gg with
 | false =>
  rw [if_neg (by simp)] at h
  obtain ⟨rfl, h3⟩ := Prod.mk.inj (sI h)
  obtain ⟨rfl, rfl⟩ := Prod.mk.inj h3
  clear h h3
  go_enter Try.func38, Try.ntmps38
  go_wp2_with (first | (go_at_call 15; (try rw [HWE.out]); refine (spec_GoodRope.calls k _ _ l0_0 _ _ z21 dy.out HG.out).mono ?_; rintro e w1 ⟨rfl, hb⟩; replace HF := aM (SrF.below z19 hb); (try clear cA fX fW f1_ f2_); have cA : w1.cell? ⟨w.heap.size, 0, none⟩ = some (.slice bB l0_0.length bo) := (bC HF.out.2.1 0).trans rfl; have fX : w1.cell? ⟨w.heap.size + 1, 0, none⟩ = some (.slice none 0 0) := (bC HF.out.2.2.1 0).trans rfl; have fW : w1.cell? ⟨w.heap.size + 1 + 1, 0, none⟩ = some (.slice none 0 0) := (bC HF.out.2.2.2.1 0).trans rfl; have f1_ := bF HF.out.2.2.1 0; have f2_ := bF HF.out.2.2.2.1 0; clear hb))
  refine aT (results_list (rs := [.cell 4 29, .cell 5 29, .tmp 6]) rfl (by simp) (.cell (w.heap.size + 1) 29 #[.slice none 0 0] (0, 0) _ rfl (by exact av (aw (cs := #[.slice none 0 0]) HF.out.2.2.1 0 _ rfl) (by simp) _) Try.underlying29 rfl z0 (.cell (w.heap.size + 1 + 1) 29 #[.slice none 0 0] (0, 0) _ rfl (by exact aw (cs := #[.slice none 0 0]) (av HF.out.2.2.2.1 (by simp) _) 0 _ rfl) Try.underlying29 rfl z0 (.tmp .nil)))) rfl ?_
  exact ⟨_, _, rfl, Kd.R_nil _ _ _ _ _, Kd.R_nil _ _ _ _ _, ay (ay HF.out.1 (by omega)) (by omega)⟩
 | true =>
 rw [if_pos rfl] at h
 obtain ⟨sz, hz, h⟩ := oB h
 obtain ⟨inn, hn, h⟩ := oB h
 have HZ := aM hz
 have HN := aM hn
 clear hz hn
 cases inn with
 | false =>
  rw [if_neg (by simp)] at h
  obtain ⟨rfl, h3⟩ := Prod.mk.inj (sI h)
  obtain ⟨rfl, rfl⟩ := Prod.mk.inj h3
  clear h h3
  go_enter Try.func38, Try.ntmps38
  go_wp2_with (first | (go_at_call 15; (try rw [HWE.out]); refine (spec_GoodRope.calls k _ _ l0_0 _ _ z21 dy.out HG.out).mono ?_; rintro e w1 ⟨rfl, hb⟩; replace HF := aM (SrF.below z19 hb); (try clear cA fX fW f1_ f2_); have cA : w1.cell? ⟨w.heap.size, 0, none⟩ = some (.slice bB l0_0.length bo) := (bC HF.out.2.1 0).trans rfl; have fX : w1.cell? ⟨w.heap.size + 1, 0, none⟩ = some (.slice none 0 0) := (bC HF.out.2.2.1 0).trans rfl; have fW : w1.cell? ⟨w.heap.size + 1 + 1, 0, none⟩ = some (.slice none 0 0) := (bC HF.out.2.2.2.1 0).trans rfl; have f1_ := bF HF.out.2.2.1 0; have f2_ := bF HF.out.2.2.2.1 0; clear hb) | (go_at_call 51; refine (spec_l12Size.calls _ _ l0_0 _ _ z21 dy.out HZ.out).mono ?_; rintro e w2 ⟨rfl, hb⟩; replace hb := hb.below; replace HF := aM (SrF.below z19 hb); (try clear cA fX fW f1_ f2_); have cA : w2.cell? ⟨w.heap.size, 0, none⟩ = some (.slice bB l0_0.length bo) := (bC HF.out.2.1 0).trans rfl; have fX : w2.cell? ⟨w.heap.size + 1, 0, none⟩ = some (.slice none 0 0) := (bC HF.out.2.2.1 0).trans rfl; have fW : w2.cell? ⟨w.heap.size + 1 + 1, 0, none⟩ = some (.slice none 0 0) := (bC HF.out.2.2.2.1 0).trans rfl; have f1_ := bF HF.out.2.2.1 0; have f2_ := bF HF.out.2.2.2.1 0; clear hb) | (go_at_call 50; refine (spec_l1In.calls _ _ _ _ _ HN.out).mono ?_; rintro e w3 ⟨rfl, hb⟩; replace hb := hb.below; replace HF := aM (SrF.below z19 hb); (try clear cA fX fW f1_ f2_); have cA : w3.cell? ⟨w.heap.size, 0, none⟩ = some (.slice bB l0_0.length bo) := (bC HF.out.2.1 0).trans rfl; have fX : w3.cell? ⟨w.heap.size + 1, 0, none⟩ = some (.slice none 0 0) := (bC HF.out.2.2.1 0).trans rfl; have fW : w3.cell? ⟨w.heap.size + 1 + 1, 0, none⟩ = some (.slice none 0 0) := (bC HF.out.2.2.2.1 0).trans rfl; have f1_ := bF HF.out.2.2.1 0; have f2_ := bF HF.out.2.2.2.1 0; clear hb))
  refine aT (results_list (rs := [.cell 4 29, .cell 5 29, .tmp 6]) rfl (by simp) (.cell (w.heap.size + 1) 29 #[.slice none 0 0] (0, 0) _ rfl (by exact av (aw (cs := #[.slice none 0 0]) HF.out.2.2.1 0 _ rfl) (by simp) _) Try.underlying29 rfl z0 (.cell (w.heap.size + 1 + 1) 29 #[.slice none 0 0] (0, 0) _ rfl (by exact aw (cs := #[.slice none 0 0]) (av HF.out.2.2.2.1 (by simp) _) 0 _ rfl) Try.underlying29 rfl z0 (.tmp .nil)))) rfl ?_
  exact ⟨_, _, rfl, Kd.R_nil _ _ _ _ _, Kd.R_nil _ _ _ _ _, ay (ay HF.out.1 (by omega)) (by omega)⟩
 | true =>
 rw [if_pos rfl] at h
 obtain ⟨⟨x, y⟩, hs, h⟩ := oB h
 rw [Option.bind_some] at h
 have HS := aM hs
 clear hs
 split at h
 case isFalse => cases h
 case isTrue hx =>
 rw [Option.bind_some] at h
 split at h
 case isFalse => cases h
 case isTrue hy =>
 have LX : Aside0 (([] : List S58).length + x.length < 2932031007402) := ⟨hx⟩
 have LY : Aside0 (([] : List S58).length + y.length < 2932031007402) := ⟨hy⟩
 rw [List.nil_append, List.nil_append] at h
 obtain ⟨rfl, h3⟩ := Prod.mk.inj (sI h)
 obtain ⟨rfl, rfl⟩ := Prod.mk.inj h3
 clear h h3 hx hy
 go_enter Try.func38, Try.ntmps38
 go_upto_region 4 with (first | (go_at_call 15; (try rw [HWE.out]); refine (spec_GoodRope.calls k _ _ l0_0 _ _ z21 dy.out HG.out).mono ?_; rintro e w1 ⟨rfl, hb⟩; replace HF := aM (SrF.below z19 hb); (try clear cA fX fW f1_ f2_); have cA : w1.cell? ⟨w.heap.size, 0, none⟩ = some (.slice bB l0_0.length bo) := (bC HF.out.2.1 0).trans rfl; have fX : w1.cell? ⟨w.heap.size + 1, 0, none⟩ = some (.slice none 0 0) := (bC HF.out.2.2.1 0).trans rfl; have fW : w1.cell? ⟨w.heap.size + 1 + 1, 0, none⟩ = some (.slice none 0 0) := (bC HF.out.2.2.2.1 0).trans rfl; have f1_ := bF HF.out.2.2.1 0; have f2_ := bF HF.out.2.2.2.1 0; clear hb) | (go_at_call 51; refine (spec_l12Size.calls _ _ l0_0 _ _ z21 dy.out HZ.out).mono ?_; rintro e w2 ⟨rfl, hb⟩; replace hb := hb.below; replace HF := aM (SrF.below z19 hb); (try clear cA fX fW f1_ f2_); have cA : w2.cell? ⟨w.heap.size, 0, none⟩ = some (.slice bB l0_0.length bo) := (bC HF.out.2.1 0).trans rfl; have fX : w2.cell? ⟨w.heap.size + 1, 0, none⟩ = some (.slice none 0 0) := (bC HF.out.2.2.1 0).trans rfl; have fW : w2.cell? ⟨w.heap.size + 1 + 1, 0, none⟩ = some (.slice none 0 0) := (bC HF.out.2.2.2.1 0).trans rfl; have f1_ := bF HF.out.2.2.1 0; have f2_ := bF HF.out.2.2.2.1 0; clear hb) | (go_at_call 50; refine (spec_l1In.calls _ _ _ _ _ HN.out).mono ?_; rintro e w3 ⟨rfl, hb⟩; replace hb := hb.below; replace HF := aM (SrF.below z19 hb); (try clear cA fX fW f1_ f2_); have cA : w3.cell? ⟨w.heap.size, 0, none⟩ = some (.slice bB l0_0.length bo) := (bC HF.out.2.1 0).trans rfl; have fX : w3.cell? ⟨w.heap.size + 1, 0, none⟩ = some (.slice none 0 0) := (bC HF.out.2.2.1 0).trans rfl; have fW : w3.cell? ⟨w.heap.size + 1 + 1, 0, none⟩ = some (.slice none 0 0) := (bC HF.out.2.2.2.1 0).trans rfl; have f1_ := bF HF.out.2.2.1 0; have f2_ := bF HF.out.2.2.2.1 0; clear hb) | (go_at_call 70; refine (split_rd k l0_0 bB bo a1 x y _ z21 dy.out HS.out).mono ?_; rintro e w4 ⟨A5, c5, A6, c6, rfl, hc5, hl5, hc6, hl6, hb⟩; have fH := aM hc5; have iH := aM hc6; replace HF := aM (SrF.below z19 hb); (try clear cA fX fW f1_ f2_); have cA : w4.cell? ⟨w.heap.size, 0, none⟩ = some (.slice bB l0_0.length bo) := (bC HF.out.2.1 0).trans rfl; have fX : w4.cell? ⟨w.heap.size + 1, 0, none⟩ = some (.slice none 0 0) := (bC HF.out.2.2.1 0).trans rfl; have fW : w4.cell? ⟨w.heap.size + 1 + 1, 0, none⟩ = some (.slice none 0 0) := (bC HF.out.2.2.2.1 0).trans rfl; have f1_ := bF HF.out.2.2.1 0; have f2_ := bF HF.out.2.2.2.1 0; clear hc5 hl5 hc6 hl6 hb))
 have HG0 := HF
 go_upto_region 5 with (first | ((with_reducible refine aK (N := 31) rfl ?_); refine Kd.R_lit k58 (w0 := w4) w4.heap.size 58 ?hg (N := 31) ?hd (xs := ([] : List (S58))) (inner := []) (ok := fun _ => True) (okp := fun _ => True) ?hr ?hp (fun _ hk => hk) trivial (Below.refl _ _) (Nat.le_refl _) (by simp) ?_; (case hd => rfl); (case hg => rfl); (case hr => first | (go_simp; done) | (go_simp; rfl)); (case hp => exact (Reps.none _ _)); intro v1 w5 ho1 hb hg_ hnew_; obtain ⟨A3, c3, eo⟩ := Kd.R_slice ho1; subst eo; have HV1 := aM ho1; have HB1 : Aside0 (Below w4.heap.size w4 w5) := ⟨hb⟩; have HC5n := aM (aE fH.out hb); replace HF := aM (SrF.below z19 hb); (try clear cA fX fW f1_ f2_); have cA : w5.cell? ⟨w.heap.size, 0, none⟩ = some (.slice bB l0_0.length bo) := (bC HF.out.2.1 0).trans rfl; have fX : w5.cell? ⟨w.heap.size + 1, 0, none⟩ = some (.slice none 0 0) := (bC HF.out.2.2.1 0).trans rfl; have fW : w5.cell? ⟨w.heap.size + 1 + 1, 0, none⟩ = some (.slice none 0 0) := (bC HF.out.2.2.2.1 0).trans rfl; have f1_ := bF HF.out.2.2.1 0; have f2_ := bF HF.out.2.2.2.1 0; clear ho1 hb hg_ hnew_) | ((with_reducible refine gate_builtin (b := .append) (xs := #[.tmp 31, .tmp 32]) rfl ?_); at_builtin; refine Kd.R_append_rows k58 (w0 := w4) w4.heap.size rfl (.tmp 31) (.tmp 32) 27 58 (.agg #[(.int .i64 0), (.int .i64 0), (.string ⟨#[]⟩), (.int .i64 0), (.int .i64 0)]) 48 rfl Try.underlying27 info58 rfl (by decide) (by omega) (.slice A3 0 c3) [] x _ _ _ (fun _ => True) (fun _ => False) rfl rfl ?aO ?aR (fun _ _ h => h) (fun _ h => h.elim) (fun _ _ => trivial) ?aB ?aS ?aL ?_; (case aR => repeat (first | exact HC5n.out | (with_reducible refine aG ?_ _) | (with_reducible refine aH ?_ _) | (with_reducible refine aI ?_))); (case aB => exact (by repeat (first | (with_reducible first | exact HB1.out | apply bA | apply pD | apply bD) | exact HB1.out))); (case aO => exact (kR_ HV1.out)); (case aS => exact (aA (by repeat (first | (with_reducible first | exact HB1.out | apply bA | apply pD | apply bD) | exact HB1.out)))); (case aL => have := LX.out; simp only [List.length_nil] at *; omega); intro v5 w6 ho hb5 hg hat; rw [List.nil_append] at ho; obtain ⟨A7, c7, eo⟩ := Kd.R_slice ho; subst eo; have HV2 := aM ho; have HBA := aM hb5; replace HF := aM (SrF.below HG0.out hb5); (try clear cA fX fW f1_ f2_); have cA : w6.cell? ⟨w.heap.size, 0, none⟩ = some (.slice bB l0_0.length bo) := (bC HF.out.2.1 0).trans rfl; have fX : w6.cell? ⟨w.heap.size + 1, 0, none⟩ = some (.slice none 0 0) := (bC HF.out.2.2.1 0).trans rfl; have fW : w6.cell? ⟨w.heap.size + 1 + 1, 0, none⟩ = some (.slice none 0 0) := (bC HF.out.2.2.2.1 0).trans rfl; have f1_ := bF HF.out.2.2.1 0; have f2_ := bF HF.out.2.2.2.1 0; clear ho hb5 hg hat))
 obtain ⟨wc, hwc⟩ : ∃ x_, w6.alloc (.cells #[.slice A7 x.length c7] 29) = x_ := ⟨_, rfl⟩
 rw [hwc]
 have hb : Below w6.heap.size w6 wc := by rw [← hwc]; exact bA (Below.refl _ _) _
 have BX : Aside0 (wc.heap[w6.heap.size]? = some (.cells #[.slice A7 x.length c7] 29 (0, 0))) := ⟨by rw [← hwc]; exact blk_new _ _⟩
 have nf_ := aM (SrF.below z19 hb); clear HF; have HF := nf_; clear nf_; (try clear cA fX fW f1_ f2_); have cA : wc.cell? ⟨w.heap.size, 0, none⟩ = some (.slice bB l0_0.length bo) := (bC HF.out.2.1 0).trans rfl; have fX : wc.cell? ⟨w.heap.size + 1, 0, none⟩ = some (.slice none 0 0) := (bC HF.out.2.2.1 0).trans rfl; have fW : wc.cell? ⟨w.heap.size + 1 + 1, 0, none⟩ = some (.slice none 0 0) := (bC HF.out.2.2.2.1 0).trans rfl; have f1_ := bF HF.out.2.2.1 0; have f2_ := bF HF.out.2.2.2.1 0
 have HV3 := aM (ag HV2.out hb)
 have mX := aM (aE (aE iH.out HBA.out) hb)
 have HSZ := aM HG0.out.1.size
 have HGX := aM (ax HG0.out.2.2.2.1)
 have HGY : Aside0 (w4.heap.size ≤ w6.heap.size) := ⟨HBA.out.size⟩
 clear hb hwc HV2 HV1 HB1 fH iH HBA HG HZ HN HS HWE
 have HG1 := HF
 go_upto_region 6 with (first | ((with_reducible refine aK (N := 35) rfl ?_); refine Kd.R_lit k58 (w0 := wc) wc.heap.size 58 ?hg (N := 35) ?hd (xs := ([] : List (S58))) (inner := []) (ok := fun _ => True) (okp := fun _ => True) ?hr ?hp (fun _ hk => hk) trivial (Below.refl _ _) (Nat.le_refl _) (by simp) ?_; (case hd => rfl); (case hg => rfl); (case hr => first | (go_simp; done) | (go_simp; rfl)); (case hp => exact (Reps.none _ _)); intro v1 w7 ho1 hb hg_ hnew_; obtain ⟨A9, c9, eo⟩ := Kd.R_slice ho1; subst eo; have HY1 := aM ho1; have HB2 : Aside0 (Below wc.heap.size wc w7) := ⟨hb⟩; have HC7n := aM (aE mX.out hb); replace HF := aM (SrF.below z19 hb); (try clear cA fX fW f1_ f2_); have cA : w7.cell? ⟨w.heap.size, 0, none⟩ = some (.slice bB l0_0.length bo) := (bC HF.out.2.1 0).trans rfl; have fX : w7.cell? ⟨w.heap.size + 1, 0, none⟩ = some (.slice none 0 0) := (bC HF.out.2.2.1 0).trans rfl; have fW : w7.cell? ⟨w.heap.size + 1 + 1, 0, none⟩ = some (.slice none 0 0) := (bC HF.out.2.2.2.1 0).trans rfl; have f1_ := bF HF.out.2.2.1 0; have f2_ := bF HF.out.2.2.2.1 0; clear ho1 hb hg_ hnew_) | ((with_reducible refine gate_builtin (b := .append) (xs := #[.tmp 35, .tmp 36]) rfl ?_); at_builtin; refine Kd.R_append_rows k58 (w0 := wc) wc.heap.size rfl (.tmp 35) (.tmp 36) 27 58 (.agg #[(.int .i64 0), (.int .i64 0), (.string ⟨#[]⟩), (.int .i64 0), (.int .i64 0)]) 48 rfl Try.underlying27 info58 rfl (by decide) (by omega) (.slice A9 0 c9) [] y _ _ _ (fun _ => True) (fun _ => False) rfl rfl ?aO ?aR (fun _ _ h => h) (fun _ h => h.elim) (fun _ _ => trivial) ?aB ?aS ?aL ?_; (case aR => repeat (first | exact HC7n.out | (with_reducible refine aG ?_ _) | (with_reducible refine aH ?_ _) | (with_reducible refine aI ?_))); (case aB => exact (by repeat (first | (with_reducible first | exact HB2.out | apply bA | apply pD | apply bD) | exact HB2.out))); (case aO => exact (kR_ HY1.out)); (case aS => exact (aA (by repeat (first | (with_reducible first | exact HB2.out | apply bA | apply pD | apply bD) | exact HB2.out)))); (case aL => have := LY.out; simp only [List.length_nil] at *; omega); intro v5 w8 ho hb5 hg hat; rw [List.nil_append] at ho; obtain ⟨A8, c8, eo⟩ := Kd.R_slice ho; subst eo; have HY2 := aM ho; have HBY := aM hb5; replace HF := aM (SrF.below HG1.out hb5); (try clear cA fX fW f1_ f2_); have cA : w8.cell? ⟨w.heap.size, 0, none⟩ = some (.slice bB l0_0.length bo) := (bC HF.out.2.1 0).trans rfl; have fX : w8.cell? ⟨w.heap.size + 1, 0, none⟩ = some (.slice none 0 0) := (bC HF.out.2.2.1 0).trans rfl; have fW : w8.cell? ⟨w.heap.size + 1 + 1, 0, none⟩ = some (.slice none 0 0) := (bC HF.out.2.2.2.1 0).trans rfl; have f1_ := bF HF.out.2.2.1 0; have f2_ := bF HF.out.2.2.2.1 0; clear ho hb5 hg hat))
 obtain ⟨wd, hwc⟩ : ∃ x_, w8.alloc (.cells #[.slice A8 y.length c8] 29) = x_ := ⟨_, rfl⟩
 rw [hwc]
 have hb : Below w8.heap.size w8 wd := by rw [← hwc]; exact bA (Below.refl _ _) _
 have BY : Aside0 (wd.heap[w8.heap.size]? = some (.cells #[.slice A8 y.length c8] 29 (0, 0))) := ⟨by rw [← hwc]; exact blk_new _ _⟩
 have nf_ := aM (SrF.below z19 hb); clear HF; have HF := nf_; clear nf_; (try clear cA fX fW f1_ f2_); have cA : wd.cell? ⟨w.heap.size, 0, none⟩ = some (.slice bB l0_0.length bo) := (bC HF.out.2.1 0).trans rfl; have fX : wd.cell? ⟨w.heap.size + 1, 0, none⟩ = some (.slice none 0 0) := (bC HF.out.2.2.1 0).trans rfl; have fW : wd.cell? ⟨w.heap.size + 1 + 1, 0, none⟩ = some (.slice none 0 0) := (bC HF.out.2.2.2.1 0).trans rfl; have f1_ := bF HF.out.2.2.1 0; have f2_ := bF HF.out.2.2.2.1 0
 have HY3 := aM (ag HY2.out hb)
 have k0 := Kd.R_elder HV3.out HY2.out HBY.out
 have k1 := Kd.R_newR HY2.out HV3.out
 have K0 := aM (ag k0 hb)
 have K1 := aM (ag k1 hb)
 have BX2 := aM (af (af BX.out HBY.out) hb)
 have hgy := ax (af BX.out HBY.out)
 obtain ⟨gx, hgx⟩ : ∃ g, w6.heap.size = g := ⟨_, rfl⟩
 obtain ⟨gy, hgy2⟩ : ∃ g, w8.heap.size = g := ⟨_, rfl⟩
 have hsx : w.heap.size + 1 + 1 < gx := by have := HGX.out; have := HGY.out; omega
 have hsy : gx < gy := by omega
 have hsc : w.heap.size ≤ wc.heap.size := HG1.out.1.size
 rw [hgx] at BX2 ⊢
 rw [hgy2] at BY ⊢
 clear hb hwc hgx hgy2 hgy HY2 HY1 mX HB2 HBY HV3 HY3 k0 k1 BX
 have d1 : wd.cell? ⟨gx, 0, none⟩ = some (.slice A7 x.length c7) := (bC BX2.out 0).trans rfl
 have d2 : wd.cell? ⟨gy, 0, none⟩ = some (.slice A8 y.length c8) := (bC BY.out 0).trans rfl
 have u1 : ¬ w.heap.size + 1 = gx := by omega
 have u2 : ¬ gx = w.heap.size + 1 := by omega
 have u3 : ¬ w.heap.size + 1 + 1 = gx := by omega
 have u4 : ¬ gx = w.heap.size + 1 + 1 := by omega
 have u5 : ¬ w.heap.size + 1 = gy := by omega
 have u6 : ¬ gy = w.heap.size + 1 := by omega
 have u7 : ¬ w.heap.size + 1 + 1 = gy := by omega
 have u8 : ¬ gy = w.heap.size + 1 + 1 := by omega
 have HQ := aM (And.intro hsx (And.intro hsy hsc))
 clear hsx hsy hsc
 go_region
 go_wp2
 refine aT (results_list (rs := [.cell 4 29, .cell 5 29, .tmp 6]) rfl (by simp) (.cell (w.heap.size + 1) 29 #[.slice A7 x.length c7] (0, 0) _ rfl (by exact aq (av (aw (cs := #[.slice none 0 0]) HF.out.2.2.1 0 _ rfl) (by simp) _)) Try.underlying29 rfl z0 (.cell (w.heap.size + 1 + 1) 29 #[.slice A8 y.length c8] (0, 0) _ rfl (by exact aq (aw (cs := #[.slice none 0 0]) (av HF.out.2.2.2.1 (by simp) _) 0 _ rfl)) Try.underlying29 rfl z0 (.tmp .nil)))) rfl ?_
 have s0 := aa (Kd.R_set (Kd.R_set (aV K0.out HSZ.out) HF.out.2.2.1 (by decide) 0 (.slice A7 x.length c7)) (av (p := ⟨w.heap.size + 1, 0, none⟩) HF.out.2.2.2.1 (by simp) (.slice A7 x.length c7)) (by decide) 0 (.slice A8 y.length c8))
 have s1 := aa (Kd.R_set (Kd.R_set (aV K1.out (base' := w.heap.size) HQ.out.2.2) HF.out.2.2.1 (by decide) 0 (.slice A7 x.length c7)) (av (p := ⟨w.heap.size + 1, 0, none⟩) HF.out.2.2.2.1 (by simp) (.slice A7 x.length c7)) (by decide) 0 (.slice A8 y.length c8))
 exact ⟨_, _, rfl, ah s0 (fun _ hk => hk.2), ah s1 (fun _ hk => hk.2), below_drew (ay (ay HF.out.1 (by omega)) (by omega))⟩

end Go.Proofs.Ytmkenlejdaphnaa.AFnBalanced
