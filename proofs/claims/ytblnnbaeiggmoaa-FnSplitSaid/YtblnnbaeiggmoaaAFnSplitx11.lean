-- this session's own text: written by wip/tools/ownprint.py over the kit's print
import Derived.Test.YtblnnbaeiggmoaaAFnSplitx0
import Derived.Test.YtblnnbaeiggmoaaAFnSplitx3
import Derived.Test.YtblnnbaeiggmoaaAFnSplitx4
import Derived.Test.YtblnnbaeiggmoaaAFnSplitx10
namespace Go.Proofs.Ytblnnbaeiggmoaa.AFnSplit
open Go.RowKit Go.Proofs.YtblnnbaeiggmoaaW.PrintWords Go.Proofs.YtblnnbaeiggmoaaW.PrintLast Go.Proofs.YtblnnbaeiggmoaaW.PrintMore
attribute [local go_sem] max2_int min2_int max_two min_two max_three min_three max_four min_four   -- for this text's walks alone
set_option linter.unusedVariables false
set_option linter.unusedSimpArgs false

/-! ### spec_RopeOf: function 67, by hand -/
def spec_RopeOf.f (k : Nat) (a0 : ByteArray) : Option ((List (S101)) × Bool) := (spec_GoodText.f k a0).bind fun t161 => (if t161 = true then ((spec_l12Cut.f k a0).bind fun t162 => ((spec_l12Build.f k t162).bind fun t165 => (some (t165, true)))) else (some (([] : List (S101)), false)))
theorem spec_RopeOf.mono : ∀ a0 k, LeO (spec_RopeOf.f k a0) (spec_RopeOf.f (k + 1) a0) := by
 intro a0 k
 unfold spec_RopeOf.f
 repeat' first
   | (with_reducible exact spec_GoodText.mono _ _)
   | (with_reducible exact spec_l12Build.mono _ _)
   | (with_reducible exact spec_l12Cut.mono _ _)
   | (with_reducible exact LeO.refl _)
   | (with_reducible exact LeO.none _)
   | (with_reducible refine LeO.ite ?_ ?_)
   | (with_reducible refine LeO.bind ?_ (fun _ => ?_))
set_option maxHeartbeats 8000000 in
set_option maxRecDepth 100000 in
theorem spec_RopeOf.calls (k : Nat) (a0 : ByteArray) (r1 : List (S101)) (r2 : Bool) (w : World) (h : spec_RopeOf.f k a0 = some (r1, r2)) :
  Calls Try.prog 67 #[.string a0] w fun e w' => ∃ v0_ : Value, e = .returned (.tuple #[.agg #[v0_], .bool r2]) ∧ Kd.R k101 101 w' w.heap.size (fun _ => True) v0_ r1 ∧ Below w.heap.size w w' := by
 obtain ⟨W2, hW2⟩ : ∃ W2, w.alloc (.cells #[.slice none 0 0] 30) = W2 := ⟨_, rfl⟩
 have HB0 := aM (show Below w.heap.size w W2 by rw [← hW2]; exact bA (Below.refl _ _) _)
 have BX : Aside0 (W2.heap[w.heap.size]? = some (.cells #[.slice none 0 0] 30 (0, 0))) := ⟨by rw [← hW2]; exact blk_new _ _⟩
 have HWE := aM hW2
 obtain ⟨gg, hg, h⟩ := oB h
 have HG := aM hg
 clear hg hW2
 cases gg with
 | false =>
  rw [if_neg (by simp)] at h
  obtain ⟨rfl, rfl⟩ := Prod.mk.inj (sI h)
  clear h
  go_enter Try.func67, Try.ntmps67
  go_wp2_with (first | (go_at_call 78; (try rw [HWE.out]); refine (spec_GoodText.calls k a0 _ _ HG.out).mono ?_; rintro e w1 ⟨rfl, hb⟩; (try replace hb := hb.below); have nb_ := aM (aA HB0.out hb); have nx_ := aM (af BX.out hb); clear HB0 BX; have HB0 := nb_; have BX := nx_; clear nb_ nx_; (try clear cB fB); have cB : w1.cell? ⟨w.heap.size, 0, none⟩ = some (.slice none 0 0) := (bC BX.out 0).trans rfl; have fB := bF BX.out 0; clear hb))
  refine aU (aV rfl _ _ w.heap.size 30 #[.slice none 0 0] (0, 0) _ rfl (by exact ax (cs := #[.slice none 0 0]) BX.out 0 _ rfl) Try.underlying30 rfl z1) rfl ?_
  exact ⟨_, rfl, Kd.R_nil _ _ _ _ _, az HB0.out (by omega)⟩
 | true =>
 rw [if_pos rfl] at h
 obtain ⟨cu, hcu, h⟩ := oB h
 obtain ⟨bu, hbu, h⟩ := oB h
 have HCU := aM hcu
 have HBU := aM hbu
 obtain ⟨rfl, rfl⟩ := Prod.mk.inj (sI h)
 clear h hcu hbu
 go_enter Try.func67, Try.ntmps67
 go_wp2_with (first | (go_at_call 78; (try rw [HWE.out]); refine (spec_GoodText.calls k a0 _ _ HG.out).mono ?_; rintro e w1 ⟨rfl, hb⟩; (try replace hb := hb.below); have nb_ := aM (aA HB0.out hb); have nx_ := aM (af BX.out hb); clear HB0 BX; have HB0 := nb_; have BX := nx_; clear nb_ nx_; (try clear cB fB); have cB : w1.cell? ⟨w.heap.size, 0, none⟩ = some (.slice none 0 0) := (bC BX.out 0).trans rfl; have fB := bF BX.out 0; clear hb) | (go_at_call 28; refine (spec_l12Cut.calls k a0 cu _ HCU.out).mono ?_; rintro e w2 ⟨v2, rfl, ho, hb⟩; obtain ⟨A4, c4, eo⟩ := Kd.R_slice ho; subst eo; have r6 := aM (ai ho).2.2; have HL4 := aM (ai ho).2.1; have nb_ := aM (aA HB0.out hb); have nx_ := aM (af BX.out hb); clear HB0 BX; have HB0 := nb_; have BX := nx_; clear nb_ nx_; (try clear cB fB); have cB : w2.cell? ⟨w.heap.size, 0, none⟩ = some (.slice none 0 0) := (bC BX.out 0).trans rfl; have fB := bF BX.out 0; clear ho hb) | (go_at_call 80; refine (spec_l12Build.calls k A4 c4 cu bu _ (by repeat (first | exact r6.out | (with_reducible refine aH ?_ _) | (with_reducible refine aI ?_ _) | (with_reducible refine aJ ?_))) HL4.out HBU.out).mono ?_; rintro e w3 ⟨v3, rfl, ho, hb⟩; obtain ⟨A5, c5, eo⟩ := Kd.R_slice ho; subst eo; have HV := aM ho; have HSZ := aM HB0.out.size; have nb_ := aM (aA HB0.out hb); have nx_ := aM (af BX.out hb); clear HB0 BX; have HB0 := nb_; have BX := nx_; clear nb_ nx_; (try clear cB fB); have cB : w3.cell? ⟨w.heap.size, 0, none⟩ = some (.slice none 0 0) := (bC BX.out 0).trans rfl; have fB := bF BX.out 0; clear ho hb))
 refine aU (aV rfl _ _ w.heap.size 30 #[.slice A5 bu.length c5] (0, 0) _ rfl (by exact ax (cs := #[.slice none 0 0]) BX.out 0 _ rfl) Try.underlying30 rfl z1) rfl ?_
 exact ⟨_, rfl, Kd.R_set (aW HV.out HSZ.out) BX.out z0 0 _, az HB0.out (by omega)⟩

end Go.Proofs.Ytblnnbaeiggmoaa.AFnSplit
