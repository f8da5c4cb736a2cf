-- this session's own text: written by wip/tools/ownprint.py over the kit's print
import Derived.Test.YtmkenlejdaphnaaAFnExactJoinRopesx0
import Derived.Test.YtmkenlejdaphnaaAFnExactJoinRopesx7
import Derived.Test.YtmkenlejdaphnaaAFnExactJoinRopesx8
namespace Go.Proofs.Ytmkenlejdaphnaa.AFnExactJoinRopes
open Go.RowKit Go.Proofs.YtmkenlejdaphnaaW.PrintWords Go.Proofs.YtmkenlejdaphnaaW.PrintLast Go.Proofs.YtmkenlejdaphnaaW.PrintMore
attribute [local go_sem] max2_int min2_int max_two min_two max_three min_three max_four min_four   -- for this text's walks alone
set_option linter.unusedVariables false
set_option linter.unusedSimpArgs false

/-! ### impl_JoinRopes: function 35, by hand -/
def impl_JoinRopes.f (k : Nat) (l0_0 : List S58) (l1_0 : List S58) : Option (List S58 × Bool) := (opnF k l0_0).bind fun p => (opnF k l1_0).bind fun q => if p.2 = true then (if q.2 = true then ropeF (fk p.1 q.1) else some ([], false)) else some ([], false)
theorem impl_JoinRopes.mono : ∀ a0 a1 k, LeO (impl_JoinRopes.f k a0 a1) (impl_JoinRopes.f (k + 1) a0 a1) := fun a0 a1 k => LeO.bind (opnF_mono k a0) (fun _ => LeO.bind (opnF_mono k a1) (fun _ => LeO.refl _))
set_option maxHeartbeats 1000000 in
theorem impl_JoinRopes.calls (k : Nat) (bm : Option Addr) (bn : Nat) (l0_0 : List S58) (bK : Option Addr) (bL : Nat) (l1_0 : List S58) (r1 : List S58) (r2 : Bool) (w : World) (hr0_0 : Kd.C k58 w bm l0_0.length l0_0) (hc0_0 : l0_0.length ≤ bn) (hr1_0 : Kd.C k58 w bK l1_0.length l1_0) (hc1_0 : l1_0.length ≤ bL) (h : impl_JoinRopes.f k l0_0 l1_0 = some (r1, r2)) :
  Calls Try.prog 35 #[.agg #[.slice bm l0_0.length bn], .agg #[.slice bK l1_0.length bL]] w fun e w' => ∃ v0_ : Value, e = .returned (.tuple #[.agg #[v0_], .bool r2]) ∧ Kd.R k58 58 w' w.heap.size (fun _ => True) v0_ r1 ∧ Below w.heap.size w w' := by
 obtain ⟨⟨t, b⟩, h1, h2⟩ := oB h
 obtain ⟨⟨t', b'⟩, h3, h4⟩ := oB h2
 have HO := aM (fun (w' : World) (hC : Kd.C k58 w' bm l0_0.length l0_0) => open_any k l0_0 bm bn t b w' hC hc0_0 h1)
 have HO' := aM (fun (w' : World) (hC : Kd.C k58 w' bK l1_0.length l1_0) => open_any k l1_0 bK bL t' b' w' hC hc1_0 h3)
 obtain ⟨W3, hW3⟩ : ∃ W3, ((w.alloc (.cells #[.slice bm l0_0.length bn] 29)).alloc (.cells #[.slice bK l1_0.length bL] 29)).alloc (.cells #[.slice none 0 0] 29) = W3 := ⟨_, rfl⟩
 have HWB : Aside0 (Below w.heap.size w W3) := ⟨by rw [← hW3]; exact bA (bA (bA (Below.refl _ _) _) _) _⟩
 have HW : Aside0 (W3.heap[w.heap.size + 1 + 1]? = some (.cells #[.slice none 0 0] 29 (0, 0))) := ⟨by rw [← hW3]; have := blk_new ((w.alloc (.cells #[.slice bm l0_0.length bn] 29)).alloc (.cells #[.slice bK l1_0.length bL] 29)) (.cells #[.slice none 0 0] 29); simpa using this⟩
 have HW1 : Aside0 (W3.heap[w.heap.size + 1]? = some (.cells #[.slice bK l1_0.length bL] 29 (0, 0))) := ⟨by rw [← hW3]; have := ar (blk_new (w.alloc (.cells #[.slice bm l0_0.length bn] 29)) (.cells #[.slice bK l1_0.length bL] 29)) (.cells #[.slice none 0 0] 29); simpa using this⟩
 have HW0 : Aside0 (W3.heap[w.heap.size]? = some (.cells #[.slice bm l0_0.length bn] 29 (0, 0))) := ⟨by rw [← hW3]; have := ar (ar (blk_new w (.cells #[.slice bm l0_0.length bn] 29)) (.cells #[.slice bK l1_0.length bL] 29)) (.cells #[.slice none 0 0] 29); simpa using this⟩
 have jr := aM (aD hr0_0 HWB.out)
 have ga := aM (aD hr1_0 HWB.out)
 have HWE := aM hW3
 have HRR : Aside0 ((if b = true then (if b' = true then ropeF (fk t t') else some ([], false)) else some ([], false)) = some (r1, r2)) := ⟨h4⟩
 clear h h1 h2 h3 h4 hr0_0 hc0_0 hr1_0 hc1_0 hW3
 cases b with
 | false =>
  obtain ⟨rfl, rfl⟩ := Prod.mk.inj (sI HRR.out)
  clear HRR
  go_enter Try.func35, Try.ntmps35
  go_wp2_with (first | (go_at_call_of 48 (Value.agg #[Value.slice bm l0_0.length bn]); (try rw [HWE.out]); refine (HO.out _ jr.out).mono ?_; rintro e w1 ⟨P, rfl, hl, hb⟩; have HL1 := aM hl; have HB1 := aM hb; have HX1 := aM (ae HW.out hb); have HY1 := aM (ae HW1.out hb); have e1 : w1.cell? ⟨w.heap.size + 1, 0, none⟩ = some (.slice bK l1_0.length bL) := (bC HY1.out 0).trans rfl; have lI := aM (aD ga.out hb); clear hl hb) | (go_at_call 48; refine (HO'.out _ lI.out).mono ?_; rintro e w2 ⟨P', rfl, hl, hb⟩; have HL2 := aM hl; have HB2 := aM hb; have HX2 := aM (ae HX1.out hb); have HL1' := aM (HL1.out.below hb); have e2 : w2.cell? ⟨w.heap.size + 1 + 1, 0, none⟩ = some (.slice none 0 0) := (bC HX2.out 0).trans rfl; have e3 := bF HX2.out 0; clear hl hb))
  refine bodyPost_ret (results_ct rfl _ _ (w.heap.size + 1 + 1) 29 #[.slice none 0 0] (0, 0) _ rfl (by exact av (cs := #[.slice none 0 0]) HX2.out 0 _ rfl) Try.underlying29 rfl z0) rfl ?_
  exact ⟨_, rfl, Kd.R_nil _ _ _ _ _, ax (ay (ay HWB.out HB1.out) HB2.out) (by omega)⟩
 | true =>
 cases b' with
 | false =>
  obtain ⟨rfl, rfl⟩ := Prod.mk.inj (sI HRR.out)
  clear HRR
  go_enter Try.func35, Try.ntmps35
  go_wp2_with (first | (go_at_call_of 48 (Value.agg #[Value.slice bm l0_0.length bn]); (try rw [HWE.out]); refine (HO.out _ jr.out).mono ?_; rintro e w1 ⟨P, rfl, hl, hb⟩; have HL1 := aM hl; have HB1 := aM hb; have HX1 := aM (ae HW.out hb); have HY1 := aM (ae HW1.out hb); have e1 : w1.cell? ⟨w.heap.size + 1, 0, none⟩ = some (.slice bK l1_0.length bL) := (bC HY1.out 0).trans rfl; have lI := aM (aD ga.out hb); clear hl hb) | (go_at_call 48; refine (HO'.out _ lI.out).mono ?_; rintro e w2 ⟨P', rfl, hl, hb⟩; have HL2 := aM hl; have HB2 := aM hb; have HX2 := aM (ae HX1.out hb); have HL1' := aM (HL1.out.below hb); have e2 : w2.cell? ⟨w.heap.size + 1 + 1, 0, none⟩ = some (.slice none 0 0) := (bC HX2.out 0).trans rfl; have e3 := bF HX2.out 0; clear hl hb))
  refine bodyPost_ret (results_ct rfl _ _ (w.heap.size + 1 + 1) 29 #[.slice none 0 0] (0, 0) _ rfl (by exact av (cs := #[.slice none 0 0]) HX2.out 0 _ rfl) Try.underlying29 rfl z0) rfl ?_
  exact ⟨_, rfl, Kd.R_nil _ _ _ _ _, ax (ay (ay HWB.out HB1.out) HB2.out) (by omega)⟩
 | true =>
  have HRF : Aside0 (ropeF (fk t t') = some (r1, r2)) := ⟨HRR.out⟩
  clear HRR
  go_enter Try.func35, Try.ntmps35
  go_wp2_with (first | (go_at_call_of 48 (Value.agg #[Value.slice bm l0_0.length bn]); (try rw [HWE.out]); refine (HO.out _ jr.out).mono ?_; rintro e w1 ⟨P, rfl, hl, hb⟩; have HL1 := aM hl; have HB1 := aM hb; have HX1 := aM (ae HW.out hb); have HY1 := aM (ae HW1.out hb); have e1 : w1.cell? ⟨w.heap.size + 1, 0, none⟩ = some (.slice bK l1_0.length bL) := (bC HY1.out 0).trans rfl; have lI := aM (aD ga.out hb); clear hl hb) | (go_at_call 48; refine (HO'.out _ lI.out).mono ?_; rintro e w2 ⟨P', rfl, hl, hb⟩; have HL2 := aM hl; have HB2 := aM hb; have HX2 := aM (ae HX1.out hb); have HL1' := aM (HL1.out.below hb); have e2 : w2.cell? ⟨w.heap.size + 1 + 1, 0, none⟩ = some (.slice none 0 0) := (bC HX2.out 0).trans rfl; have e3 := bF HX2.out 0; clear hl hb) | (go_at_call 69; refine (fork_any t t' P P' (fun _ => True) w2 (HL1'.out.mono (fun _ _ => trivial)) (HL2.out.mono (fun _ _ => trivial)) (fun _ _ => trivial)).mono ?_; rintro e w3 ⟨P3, rfl, hl, hb⟩; have HL3 := aM hl; have HB3 := aM hb; have HX3 := aM (ae HX2.out hb); clear hl hb) | (go_at_call 62; refine (rope_any _ P3 _ _ r1 r2 HL3.out HRF.out).mono ?_; rintro e w4 ⟨v4, rfl, ho, hb⟩; obtain ⟨A4, c4, eo, -, -⟩ := Kd.R_reads ho; subst eo; have eg := aM ho; have HB4 := aM hb; have HX4 := aM (ae HX3.out hb); have e4 : w4.cell? ⟨w.heap.size + 1 + 1, 0, none⟩ = some (.slice none 0 0) := (bC HX4.out 0).trans rfl; have e5 := bF HX4.out 0; clear ho hb))
  refine bodyPost_ret (results_ct rfl _ _ (w.heap.size + 1 + 1) 29 #[.slice A4 r1.length c4] (0, 0) _ rfl (by exact av (cs := #[.slice none 0 0]) HX4.out 0 _ rfl) Try.underlying29 rfl z0) rfl ?_
  have HB23 : Below w.heap.size w w3 := ay (ay (ay HWB.out HB1.out) HB2.out) HB3.out
  exact ⟨_, rfl, Kd.R_set (aT eg.out HB23.size) HX4.out (by decide) 0 _, ax (ay HB23 HB4.out) (by omega)⟩

end Go.Proofs.Ytmkenlejdaphnaa.AFnExactJoinRopes
