-- this session's own text: written by wip/tools/ownprint.py over the kit's print
import Derived.Test.YtblnnbaeiggmoaaAFnExactEditRopex0
import Derived.Test.YtblnnbaeiggmoaaAFnExactEditRopex3
import Derived.Test.YtblnnbaeiggmoaaAFnExactEditRopex4
import Derived.Test.YtblnnbaeiggmoaaAFnExactEditRopex5
namespace Go.Proofs.Ytblnnbaeiggmoaa.AFnExactEditRope
open Go.RowKit Go.Proofs.YtblnnbaeiggmoaaW.PrintWords Go.Proofs.YtblnnbaeiggmoaaW.PrintLast Go.Proofs.YtblnnbaeiggmoaaW.PrintMore
attribute [local go_sem] max2_int min2_int max_two min_two max_three min_three max_four min_four   -- for this text's walks alone
set_option linter.unusedVariables false
set_option linter.unusedSimpArgs false

/-! ### spec_EditRope: function 7, by hand -/
def eJ (k : Nat) : List ByteArray → List S101 → Option (List S101)
 | [], out => some out
 | s :: ss, out => (spec_l12Piece.f s).bind fun p => (spec_l12Join.f k out p).bind fun q => eJ k ss q
def eL (k : Nat) : List S59 → List S101 → List S101 → Option (List S101)
 | [], _, out => some out
 | p :: ps, rest, out =>
  if p.f1.toList ≠ [] then ((spec_l12Cut.f k p.f1).bind fun cs => if cs.length ≤ 100000000 then ((eJ k cs out).bind fun o2 => eL k ps rest o2) else none)
  else ((spec_l12Split.f k rest (wrap64 (p.f0 + (p.f2.size : Int)))).bind fun ab =>
   if p.f0 = 0 then eL k ps ab.2 out else ((spec_l12Pieces.f k ab.1).bind fun pc => if pc.length ≤ 100000000 then ((eJ k pc out).bind fun o2 => eL k ps ab.2 o2) else none))
theorem eJ_mono (k : Nat) : ∀ (ss : List ByteArray) (out : List S101), LeO (eJ k ss out) (eJ (k + 1) ss out)
 | [], _ => LeO.refl _
 | s :: ss, out => LeO.bind (LeO.refl _) (fun _ => LeO.bind (spec_l12Join.mono _ _ _) (fun _ => eJ_mono k ss _))
theorem eL_mono (k : Nat) : ∀ (ps : List S59) (rest out : List S101), LeO (eL k ps rest out) (eL (k + 1) ps rest out)
 | [], _, _ => LeO.refl _
 | p :: ps, rest, out => LeO.ite (LeO.bind (spec_l12Cut.mono _ _) (fun _ => LeO.ite (LeO.bind (eJ_mono k _ _) (fun _ => eL_mono k ps _ _)) (LeO.none _)))
   (LeO.bind (spec_l12Split.mono _ _ _) (fun _ => LeO.ite (eL_mono k ps _ _) (LeO.bind (spec_l12Pieces.mono _ _) (fun _ => LeO.ite (LeO.bind (eJ_mono k _ _) (fun _ => eL_mono k ps _ _)) (LeO.none _)))))
theorem eJ_at (k : Nat) (cs : List ByteArray) (out : List S101) (j : Nat) (h : j < cs.length) : eJ k (cs.drop j) out = (spec_l12Piece.f (rdOf ByteArray.empty cs (j : Int))).bind fun p => (spec_l12Join.f k out p).bind fun q => eJ k (cs.drop (j + 1)) q := by
 rw [List.drop_eq_getElem_cons h]
 unfold rdOf
 rw [aV, List.getD_eq_getElem?_getD, aU h]
 rfl
theorem eL_at (k : Nat) (l1 : List S59) (rest out : List S101) (i : Nat) (h : i < l1.length) : eL k (l1.drop i) rest out = if (rd_T59 l1 (i : Int)).f1.toList ≠ [] then ((spec_l12Cut.f k (rd_T59 l1 (i : Int)).f1).bind fun cs => if cs.length ≤ 100000000 then ((eJ k cs out).bind fun o2 => eL k (l1.drop (i + 1)) rest o2) else none)
  else ((spec_l12Split.f k rest (wrap64 ((rd_T59 l1 (i : Int)).f0 + ((rd_T59 l1 (i : Int)).f2.size : Int)))).bind fun ab =>
   if (rd_T59 l1 (i : Int)).f0 = 0 then eL k (l1.drop (i + 1)) ab.2 out else ((spec_l12Pieces.f k ab.1).bind fun pc => if pc.length ≤ 100000000 then ((eJ k pc out).bind fun o2 => eL k (l1.drop (i + 1)) ab.2 o2) else none)) := by
 rw [List.drop_eq_getElem_cons h]
 unfold rd_T59
 rw [aV, List.getD_eq_getElem?_getD, aU h]
 rfl
def spec_EditRope.f (k : Nat) (l0_0 : List S101) (l1 : List S59) : Option (List S101 × Bool) :=
 (spec_GoodRope.f k l0_0).bind fun g => if g = true then ((spec_GoodOp.f k l1).bind fun g2 => if g2 = true then
  ((spec_l12Text.f k l0_0).bind fun t => (spec_l3Apply.f k l1 t).bind fun ao => if ao.2 = true then
   (if l1.length ≤ 100000000 then ((eL k l1 l0_0 []).bind fun out => if out.length < 2932031007402 then ((spec_GoodRope.f k out).bind fun g3 => if g3 = true then some (out, true) else some ([], false)) else none) else none)
  else some ([], false)) else some ([], false)) else some ([], false)
theorem spec_EditRope.mono : ∀ a0 a1 k, LeO (spec_EditRope.f k a0 a1) (spec_EditRope.f (k + 1) a0 a1) := fun a0 a1 k =>
 LeO.bind (spec_GoodRope.mono _ _) (fun _ => LeO.ite (LeO.bind (spec_GoodOp.mono _ _) (fun _ => LeO.ite (LeO.bind (spec_l12Text.mono _ _) (fun _ => LeO.bind (spec_l3Apply.mono _ _ _) (fun _ => LeO.ite (LeO.ite (LeO.bind (eL_mono k _ _ _) (fun _ => LeO.ite (LeO.bind (spec_GoodRope.mono _ _) (fun _ => LeO.refl _)) (LeO.none _))) (LeO.none _)) (LeO.refl _)))) (LeO.refl _))) (LeO.refl _))
/-- What stands through the whole call. -/
def EdF (A0 : Option Addr) (c0 : Nat) (l0 : List S101) (A1 : Option Addr) (l1 : List S59) (w W : World) : Prop := Below w.heap.size w W ∧ W.heap[w.heap.size]? = some (.cells #[.slice A0 l0.length c0] 30 (0, 0)) ∧ W.heap[w.heap.size + 1]? = some (.cells #[.slice none 0 0] 30 (0, 0)) ∧ Kd.C k101 W A0 l0.length l0 ∧ Kd.C k59 W A1 l1.length l1
section
variable {A0 : Option Addr} {c0 : Nat} {l0 : List S101} {A1 : Option Addr} {l1 : List S59} {w W W' : World}
theorem EdF.below (h : EdF A0 c0 l0 A1 l1 w W) (hb : Below W.heap.size W W') : EdF A0 c0 l0 A1 l1 w W' := ⟨ay h.1 hb, af h.2.1 hb, af h.2.2.1 hb, aD h.2.2.2.1 hb, aD h.2.2.2.2 hb⟩
theorem EdF.alloc (h : EdF A0 c0 l0 A1 l1 w W) (o : Obj) : EdF A0 c0 l0 A1 l1 w (W.alloc o) := h.below (bA (Below.refl _ _) _)
theorem EdF.drewN (h : EdF A0 c0 l0 A1 l1 w W) (n : Nat) : EdF A0 c0 l0 A1 l1 w (W.drewN n) := h.below (pD (Below.refl _ _) _)
theorem EdF.drew (h : EdF A0 c0 l0 A1 l1 w W) : EdF A0 c0 l0 A1 l1 w W.drew := h.below (below_drew (Below.refl _ _))
end
set_option maxHeartbeats 8000000 in
set_option maxRecDepth 100000 in
theorem spec_EditRope.calls (k : Nat) (bj : Option Addr) (bk : Nat) (l0_0 : List S101) (A1 : Option Addr) (c1 : Nat) (l1 : List S59) (r1 : List S101) (r2 : Bool) (w : World) (hr0_0 : Kd.C k101 w bj l0_0.length l0_0) (hc0_0 : l0_0.length ≤ bk) (hr1 : Kd.C k59 w A1 l1.length l1) (hc1 : l1.length ≤ c1) (h : spec_EditRope.f k l0_0 l1 = some (r1, r2)) :
  Calls Try.prog 7 #[.agg #[.slice bj l0_0.length bk], .slice A1 l1.length c1] w fun e w' => ∃ v0_ : Value, e = .returned (.tuple #[.agg #[v0_], .bool r2]) ∧ Kd.R k101 101 w' w.heap.size (fun _ => True) v0_ r1 ∧ Below w.heap.size w w' := by
 obtain ⟨W2, hW2⟩ : ∃ W2, (w.alloc (.cells #[.slice bj l0_0.length bk] 30)).alloc (.cells #[.slice none 0 0] 30) = W2 := ⟨_, rfl⟩
 have HWB : Below w.heap.size w W2 := by rw [← hW2]; exact bA (bA (Below.refl _ _) _) _
 have HF : Aside0 (EdF bj bk l0_0 A1 l1 w W2) := ⟨HWB, by rw [← hW2]; have := au (blk_new w (.cells #[.slice bj l0_0.length bk] 30)) (.cells #[.slice none 0 0] 30); simpa using this, by rw [← hW2]; have := blk_new (w.alloc (.cells #[.slice bj l0_0.length bk] 30)) (.cells #[.slice none 0 0] 30); simpa using this, aD hr0_0 HWB, aD hr1 HWB⟩
 have HWE := aM hW2
 have cQ := aM hc0_0
 have di := aM hc1
 have hu59 := Try.underlying59
 obtain ⟨gg, hg, h⟩ := oB h
 have HG := aM hg
 clear HWB hr0_0 hc0_0 hr1 hc1 hg hW2
 cases gg with
 | false =>
  rw [if_neg (by simp)] at h
  obtain ⟨rfl, rfl⟩ := Prod.mk.inj (sI h)
  clear h
  go_enter Try.func7, Try.ntmps7
  go_wp2_with (first | (go_at_call 24; (try rw [HWE.out]); refine (spec_GoodRope.calls k _ _ l0_0 _ _ (by repeat (first | exact HF.out.2.2.2.1 | (with_reducible refine aE ?_ _) | (with_reducible refine aG ?_ _) | (with_reducible refine aH ?_))) cQ.out HG.out).mono ?_; rintro e w1 ⟨rfl, hb⟩; have nf_ := aM (EdF.below z13 hb); clear HF; have HF := nf_; clear nf_; (try clear cA cB); have cA : w1.cell? ⟨w.heap.size, 0, none⟩ = some (.slice bj l0_0.length bk) := (bC HF.out.2.1 0).trans rfl; have cB : w1.cell? ⟨w.heap.size + 1, 0, none⟩ = some (.slice none 0 0) := (bC HF.out.2.2.1 0).trans rfl; have fB := bF HF.out.2.2.1 0; clear hb))
  refine aQ (results_ct rfl _ _ (w.heap.size + 1) 30 #[.slice none 0 0] (0, 0) _ rfl (by exact av (cs := #[.slice none 0 0]) HF.out.2.2.1 0 _ rfl) Try.underlying30 rfl z0) rfl ?_
  exact ⟨_, rfl, Kd.R_nil _ _ _ _ _, ax HF.out.1 (by omega)⟩
 | true =>
 rw [if_pos rfl] at h
 obtain ⟨g2, hg2, h⟩ := oB h
 have HG2 := aM hg2
 clear hg2
 cases g2 with
 | false =>
  rw [if_neg (by simp)] at h
  obtain ⟨rfl, rfl⟩ := Prod.mk.inj (sI h)
  clear h
  go_enter Try.func7, Try.ntmps7
  go_wp2_with (first | (go_at_call 24; (try rw [HWE.out]); refine (spec_GoodRope.calls k _ _ l0_0 _ _ (by repeat (first | exact HF.out.2.2.2.1 | (with_reducible refine aE ?_ _) | (with_reducible refine aG ?_ _) | (with_reducible refine aH ?_))) cQ.out HG.out).mono ?_; rintro e w1 ⟨rfl, hb⟩; have nf_ := aM (EdF.below z13 hb); clear HF; have HF := nf_; clear nf_; (try clear cA cB); have cA : w1.cell? ⟨w.heap.size, 0, none⟩ = some (.slice bj l0_0.length bk) := (bC HF.out.2.1 0).trans rfl; have cB : w1.cell? ⟨w.heap.size + 1, 0, none⟩ = some (.slice none 0 0) := (bC HF.out.2.2.1 0).trans rfl; have fB := bF HF.out.2.2.1 0; clear hb) | (go_at_call 25; refine (spec_GoodOp.calls k _ _ l1 _ _ (by repeat (first | exact HF.out.2.2.2.2 | (with_reducible refine aE ?_ _) | (with_reducible refine aG ?_ _) | (with_reducible refine aH ?_))) di.out HG2.out).mono ?_; rintro e w2 ⟨rfl, hb⟩; have nf_ := aM (EdF.below z13 hb); clear HF; have HF := nf_; clear nf_; (try clear cA cB); have cA : w2.cell? ⟨w.heap.size, 0, none⟩ = some (.slice bj l0_0.length bk) := (bC HF.out.2.1 0).trans rfl; have cB : w2.cell? ⟨w.heap.size + 1, 0, none⟩ = some (.slice none 0 0) := (bC HF.out.2.2.1 0).trans rfl; have fB := bF HF.out.2.2.1 0; clear hb))
  refine aQ (results_ct rfl _ _ (w.heap.size + 1) 30 #[.slice none 0 0] (0, 0) _ rfl (by exact av (cs := #[.slice none 0 0]) HF.out.2.2.1 0 _ rfl) Try.underlying30 rfl z0) rfl ?_
  exact ⟨_, rfl, Kd.R_nil _ _ _ _ _, ax HF.out.1 (by omega)⟩
 | true =>
 rw [if_pos rfl] at h
 obtain ⟨tt, ht, h⟩ := oB h
 obtain ⟨ao, ha, h⟩ := oB h
 have HT := aM ht
 have HA : Aside0 (spec_l3Apply.f k l1 tt = some (ao.1, ao.2)) := ⟨ha⟩
 clear ht ha
 obtain ⟨ao1, ao2⟩ := ao
 cases ao2 with
 | false =>
  rw [if_neg (by simp)] at h
  obtain ⟨rfl, rfl⟩ := Prod.mk.inj (sI h)
  clear h
  go_enter Try.func7, Try.ntmps7
  go_wp2_with (first | (go_at_call 24; (try rw [HWE.out]); refine (spec_GoodRope.calls k _ _ l0_0 _ _ (by repeat (first | exact HF.out.2.2.2.1 | (with_reducible refine aE ?_ _) | (with_reducible refine aG ?_ _) | (with_reducible refine aH ?_))) cQ.out HG.out).mono ?_; rintro e w1 ⟨rfl, hb⟩; have nf_ := aM (EdF.below z13 hb); clear HF; have HF := nf_; clear nf_; (try clear cA cB); have cA : w1.cell? ⟨w.heap.size, 0, none⟩ = some (.slice bj l0_0.length bk) := (bC HF.out.2.1 0).trans rfl; have cB : w1.cell? ⟨w.heap.size + 1, 0, none⟩ = some (.slice none 0 0) := (bC HF.out.2.2.1 0).trans rfl; have fB := bF HF.out.2.2.1 0; clear hb) | (go_at_call 25; refine (spec_GoodOp.calls k _ _ l1 _ _ (by repeat (first | exact HF.out.2.2.2.2 | (with_reducible refine aE ?_ _) | (with_reducible refine aG ?_ _) | (with_reducible refine aH ?_))) di.out HG2.out).mono ?_; rintro e w2 ⟨rfl, hb⟩; have nf_ := aM (EdF.below z13 hb); clear HF; have HF := nf_; clear nf_; (try clear cA cB); have cA : w2.cell? ⟨w.heap.size, 0, none⟩ = some (.slice bj l0_0.length bk) := (bC HF.out.2.1 0).trans rfl; have cB : w2.cell? ⟨w.heap.size + 1, 0, none⟩ = some (.slice none 0 0) := (bC HF.out.2.2.1 0).trans rfl; have fB := bF HF.out.2.2.1 0; clear hb) | (go_at_call 27; refine (spec_l12Text.calls k _ _ l0_0 tt _ (by repeat (first | exact HF.out.2.2.2.1 | (with_reducible refine aE ?_ _) | (with_reducible refine aG ?_ _) | (with_reducible refine aH ?_))) cQ.out HT.out).mono ?_; rintro e w3 ⟨rfl, hb⟩; have nf_ := aM (EdF.below z13 hb); clear HF; have HF := nf_; clear nf_; (try clear cA cB); have cA : w3.cell? ⟨w.heap.size, 0, none⟩ = some (.slice bj l0_0.length bk) := (bC HF.out.2.1 0).trans rfl; have cB : w3.cell? ⟨w.heap.size + 1, 0, none⟩ = some (.slice none 0 0) := (bC HF.out.2.2.1 0).trans rfl; have fB := bF HF.out.2.2.1 0; clear hb) | (go_at_call 26; refine (spec_l3Apply.calls k _ _ l1 tt ao1 false _ (by repeat (first | exact HF.out.2.2.2.2 | (with_reducible refine aE ?_ _) | (with_reducible refine aG ?_ _) | (with_reducible refine aH ?_))) di.out HA.out).mono ?_; rintro e w4 ⟨rfl, hb⟩; have nf_ := aM (EdF.below z13 hb); clear HF; have HF := nf_; clear nf_; (try clear cA cB); have cA : w4.cell? ⟨w.heap.size, 0, none⟩ = some (.slice bj l0_0.length bk) := (bC HF.out.2.1 0).trans rfl; have cB : w4.cell? ⟨w.heap.size + 1, 0, none⟩ = some (.slice none 0 0) := (bC HF.out.2.2.1 0).trans rfl; have fB := bF HF.out.2.2.1 0; clear hb))
  refine aQ (results_ct rfl _ _ (w.heap.size + 1) 30 #[.slice none 0 0] (0, 0) _ rfl (by exact av (cs := #[.slice none 0 0]) HF.out.2.2.1 0 _ rfl) Try.underlying30 rfl z0) rfl ?_
  exact ⟨_, rfl, Kd.R_nil _ _ _ _ _, ax HF.out.1 (by omega)⟩
 | true =>
 rw [if_pos rfl] at h
 by_cases hl1 : l1.length ≤ 100000000
 case neg => rw [if_neg hl1] at h; cases h
 rw [if_pos hl1] at h
 have HL1 := aM hl1
 clear hl1
 obtain ⟨res, he, h⟩ := oB h
 split at h
 case isFalse => cases h
 case isTrue hlen =>
 obtain ⟨g3, hg3, h⟩ := oB h
 have HE := aM he
 have HG3 := aM hg3
 have HH := aM h
 have LM : Aside0 (([] : List S101).length + res.length < 2932031007402) := ⟨by simpa using hlen⟩
 clear he hg3 h hlen
 go_enter Try.func7, Try.ntmps7
 go_upto_region 8 with (first | (go_at_call 24; (try rw [HWE.out]); refine (spec_GoodRope.calls k _ _ l0_0 _ _ (by repeat (first | exact HF.out.2.2.2.1 | (with_reducible refine aE ?_ _) | (with_reducible refine aG ?_ _) | (with_reducible refine aH ?_))) cQ.out HG.out).mono ?_; rintro e w1 ⟨rfl, hb⟩; have nf_ := aM (EdF.below z13 hb); clear HF; have HF := nf_; clear nf_; (try clear cA cB); have cA : w1.cell? ⟨w.heap.size, 0, none⟩ = some (.slice bj l0_0.length bk) := (bC HF.out.2.1 0).trans rfl; have cB : w1.cell? ⟨w.heap.size + 1, 0, none⟩ = some (.slice none 0 0) := (bC HF.out.2.2.1 0).trans rfl; have fB := bF HF.out.2.2.1 0; clear hb) | (go_at_call 25; refine (spec_GoodOp.calls k _ _ l1 _ _ (by repeat (first | exact HF.out.2.2.2.2 | (with_reducible refine aE ?_ _) | (with_reducible refine aG ?_ _) | (with_reducible refine aH ?_))) di.out HG2.out).mono ?_; rintro e w2 ⟨rfl, hb⟩; have nf_ := aM (EdF.below z13 hb); clear HF; have HF := nf_; clear nf_; (try clear cA cB); have cA : w2.cell? ⟨w.heap.size, 0, none⟩ = some (.slice bj l0_0.length bk) := (bC HF.out.2.1 0).trans rfl; have cB : w2.cell? ⟨w.heap.size + 1, 0, none⟩ = some (.slice none 0 0) := (bC HF.out.2.2.1 0).trans rfl; have fB := bF HF.out.2.2.1 0; clear hb) | (go_at_call 27; refine (spec_l12Text.calls k _ _ l0_0 tt _ (by repeat (first | exact HF.out.2.2.2.1 | (with_reducible refine aE ?_ _) | (with_reducible refine aG ?_ _) | (with_reducible refine aH ?_))) cQ.out HT.out).mono ?_; rintro e w3 ⟨rfl, hb⟩; have nf_ := aM (EdF.below z13 hb); clear HF; have HF := nf_; clear nf_; (try clear cA cB); have cA : w3.cell? ⟨w.heap.size, 0, none⟩ = some (.slice bj l0_0.length bk) := (bC HF.out.2.1 0).trans rfl; have cB : w3.cell? ⟨w.heap.size + 1, 0, none⟩ = some (.slice none 0 0) := (bC HF.out.2.2.1 0).trans rfl; have fB := bF HF.out.2.2.1 0; clear hb) | (go_at_call 26; refine (spec_l3Apply.calls k _ _ l1 tt ao1 true _ (by repeat (first | exact HF.out.2.2.2.2 | (with_reducible refine aE ?_ _) | (with_reducible refine aG ?_ _) | (with_reducible refine aH ?_))) di.out HA.out).mono ?_; rintro e w4 ⟨rfl, hb⟩; have nf_ := aM (EdF.below z13 hb); clear HF; have HF := nf_; clear nf_; (try clear cA cB); have cA : w4.cell? ⟨w.heap.size, 0, none⟩ = some (.slice bj l0_0.length bk) := (bC HF.out.2.1 0).trans rfl; have cB : w4.cell? ⟨w.heap.size + 1, 0, none⟩ = some (.slice none 0 0) := (bC HF.out.2.2.1 0).trans rfl; have fB := bF HF.out.2.2.1 0; clear hb))
 clear cA cB fB HG HG2 HT HA HWE
 go_wp2
 go_loopg [8, 9, 43] l1.length (fun d v8 v9 v43 w' => ∃ (i : Nat) (rest out : List S101) (A8 : Option Addr) (c8 : Nat) (A9 : Option Addr) (c9 : Nat), v43 = .int .i64 (i : Nat) ∧ i + d = l1.length ∧ v8 = .slice A8 rest.length c8 ∧ v9 = .slice A9 out.length c9 ∧ rest.length ≤ c8 ∧ out.length ≤ c9 ∧ Aside0 (Kd.C k101 w' A8 rest.length rest) ∧ Aside0 (Kd.C k101 w' A9 out.length out) ∧ Aside0 (eL k (l1.drop i) rest out = some res) ∧ Aside0 (EdF bj bk l0_0 A1 l1 w w'))
 case atStart => exact ⟨0, l0_0, [], bj, bk, none, 0, rfl, Nat.zero_add _, rfl, rfl, cQ.out, Nat.le_refl _, ⟨by repeat (first | exact HF.out.2.2.2.1 | (with_reducible refine aE ?_ _) | (with_reducible refine aG ?_ _) | (with_reducible refine aH ?_))⟩, ⟨Kd.C_nil _ _⟩, ⟨by rw [List.drop_zero]; exact HE.out⟩, ⟨y17⟩⟩
 case round =>
  clear HF HE
  obtain ⟨i, rest, out, A8, c8, A9, c9, rfl, hid, rfl, rfl, hl8, hlo, CR, CO, HE, HF⟩ := hrel
  have hmx1 := HL1.out
  cases gk with
  | zero =>
   have d0 : decide (i < l1.length) = false := dF (by omega)
   have he := HE.out
   rw [List.drop_of_length_le (by omega)] at he
   obtain rfl := sI he
   clear he HE
   have HLO := aM hlo
   have HSZ := aM HF.out.1.size
   clear hid hmx1 hl8 hlo CR HL1
   go_upto_region 27 with (first | ((with_reducible refine aJ (N := 91) rfl ?_); refine Kd.R_lit k101 (w0 := wr) wr.heap.size 101 ?hg (N := 91) ?hd (xs := ([] : List (S101))) (inner := []) (ok := fun _ => True) (okp := fun _ => True) ?hr ?hp (fun _ hk => hk) trivial (Below.refl _ _) (Nat.le_refl _) (by simp) ?_; (case hd => rfl); (case hg => rfl); (case hr => first | (go_simp; done) | (go_simp; rfl)); (case hp => exact (Reps.none _ _)); intro v1 w1 ho1 hb1 hg_ hnew_; have HV1 := aM ho1; have HB1 : Aside0 (Below wr.heap.size wr w1) := ⟨hb1⟩; have HRA := aM (aD CO.out hb1); clear ho1 hb1 hg_ hnew_) | ((with_reducible refine gate_builtin (b := .append) (xs := #[.tmp 91, .tmp 92]) rfl ?_); at_builtin; refine Kd.R_append_rows k101 (w0 := wr) wr.heap.size rfl (.tmp 91) (.tmp 92) 28 101 (.agg #[(.int .i64 0), (.int .i64 0), (.string ⟨#[]⟩), (.int .i64 0), (.int .i64 0)]) 48 rfl Try.underlying28 info101 rfl (by decide) (by omega) v1 [] out _ _ _ (fun _ => True) (fun _ => False) rfl rfl ?aO ?aR (fun _ _ h => h) (fun _ h => h.elim) (fun _ _ => trivial) ?aB ?aS ?aL ?_; (case aR => repeat (first | exact HRA.out | (with_reducible refine aE ?_ _) | (with_reducible refine aG ?_ _) | (with_reducible refine aH ?_))); (case aB => exact (by repeat (first | (with_reducible first | exact HB1.out | apply bA | apply pD | apply bD) | exact HB1.out))); (case aO => exact (by (with_reducible repeat (first | apply ae | apply ac | apply aa)); exact HV1.out)); (case aS => exact (az (by repeat (first | (with_reducible first | exact HB1.out | apply bA | apply pD | apply bD) | exact HB1.out)))); (case aL => have := LM.out; simp only [List.length_nil] at *; omega); intro v2 w2 ho hb hg hat; rw [List.nil_append] at ho; obtain ⟨A2, c2, eo⟩ := Kd.R_slice ho; subst eo; have HV2 := aM ho; have nf_ := aM (EdF.below HF.out hb); clear HF; have HF := nf_; clear nf_ ho hb hg hat))
   obtain ⟨wc, hwc⟩ : ∃ x, w2.alloc (.cells #[.slice A2 out.length c2] 30) = x := ⟨_, rfl⟩
   rw [hwc]
   have hb : Below w2.heap.size w2 wc := by rw [← hwc]; exact bA (Below.refl _ _) _
   have BX : Aside0 (wc.heap[w2.heap.size]? = some (.cells #[.slice A2 out.length c2] 30 (0, 0))) := ⟨by rw [← hwc]; exact blk_new _ _⟩
   have nf_ := aM (EdF.below HF.out hb); clear HF; have HF := nf_; clear nf_
   have HV3 := aM (ag HV2.out hb)
   have mg := aM (ai HV3.out).2.2
   have HL2 := aM (ai HV3.out).2.1
   obtain ⟨gx, hgx⟩ : ∃ g, w2.heap.size = g := ⟨_, rfl⟩
   rw [hgx] at BX ⊢
   clear hb hwc hgx HV2 HRA HV1 HB1 CO HLO
   have hcx_0 : wc.cell? ⟨gx, 0, none⟩ = some (.slice A2 out.length c2) := (bC BX.out 0).trans rfl
   have hh := HH.out
   clear HH
   cases g3 with
   | false =>
    rw [if_neg (by simp)] at hh
    obtain ⟨rfl, rfl⟩ := Prod.mk.inj (sI hh)
    clear hh
    go_wp2_with (first | (go_at_call 24; refine (spec_GoodRope.calls k _ _ out _ _ (by repeat (first | exact mg.out | (with_reducible refine aE ?_ _) | (with_reducible refine aG ?_ _) | (with_reducible refine aH ?_))) HL2.out HG3.out).mono ?_; rintro e w5 ⟨rfl, hb⟩; have nf_ := aM (EdF.below z13 hb); clear HF; have HF := nf_; clear nf_; have nx_ := aM (af BX.out hb); clear BX hcx_0; have BX := nx_; have nv_ := aM (ag HV3.out hb); clear HV3 nx_; have HV3 := nv_; have hcx_0 : w5.cell? ⟨gx, 0, none⟩ = some (.slice A2 out.length c2) := (bC BX.out 0).trans rfl; have cB : w5.cell? ⟨w.heap.size + 1, 0, none⟩ = some (.slice none 0 0) := (bC HF.out.2.2.1 0).trans rfl; have fB := bF HF.out.2.2.1 0; clear hb nv_))
    refine aQ (results_ct rfl _ _ (w.heap.size + 1) 30 #[.slice none 0 0] (0, 0) _ rfl (by exact av (cs := #[.slice none 0 0]) HF.out.2.2.1 0 _ rfl) Try.underlying30 rfl z0) rfl ?_
    exact ⟨_, rfl, Kd.R_nil _ _ _ _ _, ax HF.out.1 (by omega)⟩
   | true =>
    rw [if_pos rfl] at hh
    obtain ⟨rfl, rfl⟩ := Prod.mk.inj (sI hh)
    clear hh
    go_wp2_with (first | (go_at_call 24; refine (spec_GoodRope.calls k _ _ out _ _ (by repeat (first | exact mg.out | (with_reducible refine aE ?_ _) | (with_reducible refine aG ?_ _) | (with_reducible refine aH ?_))) HL2.out HG3.out).mono ?_; rintro e w5 ⟨rfl, hb⟩; have nf_ := aM (EdF.below z13 hb); clear HF; have HF := nf_; clear nf_; have nx_ := aM (af BX.out hb); clear BX hcx_0; have BX := nx_; have nv_ := aM (ag HV3.out hb); clear HV3 nx_; have HV3 := nv_; have hcx_0 : w5.cell? ⟨gx, 0, none⟩ = some (.slice A2 out.length c2) := (bC BX.out 0).trans rfl; have cB : w5.cell? ⟨w.heap.size + 1, 0, none⟩ = some (.slice none 0 0) := (bC HF.out.2.2.1 0).trans rfl; have fB := bF HF.out.2.2.1 0; clear hb nv_))
    refine aQ (results_ct rfl _ _ (w.heap.size + 1) 30 #[.slice A2 out.length c2] (0, 0) _ rfl (by exact av (cs := #[.slice none 0 0]) HF.out.2.2.1 0 _ rfl) Try.underlying30 rfl z0) rfl ?_
    exact ⟨_, rfl, Kd.R_set (aT HV3.out HSZ.out) HF.out.2.2.1 (by decide) 0 _, ax HF.out.1 (by omega)⟩
  | succ gk0 =>
   have d0 : decide (i < l1.length) = true := dT (by omega)
   have hlt : i < l1.length := by omega
   have hlt' : (i : Int) < (l1.length : Int) := by omega
   have hi2 : (i : Int) + 1 ≤ 100000000 := by omega
   clear hmx1
   have HID := aM hid
   have HI2 := aM hi2
   have he := HE.out
   rw [eL_at k l1 rest out i (by omega)] at he
   obtain ⟨ad, e_, hx0, hx1, hx2⟩ := at_T59 HF.out.2.2.2.2 (i : Int) (by omega) (by omega)
   simp only [aV] at hx0 hx1 hx2
   cases e_
   clear hid hi2
   go_upto_region 11 with (fail)
   clear d0 hlt hlt'
   obtain ⟨wc, hwc⟩ : ∃ x, wr.alloc (.cells #[.int .i64 ((rd_T59 l1 (i : Int)).f0), .string ((rd_T59 l1 (i : Int)).f1), .string ((rd_T59 l1 (i : Int)).f2)] 59) = x := ⟨_, rfl⟩
   rw [hwc]
   have hb : Below wr.heap.size wr wc := by rw [← hwc]; exact bA (Below.refl _ _) _
   have BX : Aside0 (wc.heap[wr.heap.size]? = some (.cells #[.int .i64 ((rd_T59 l1 (i : Int)).f0), .string ((rd_T59 l1 (i : Int)).f1), .string ((rd_T59 l1 (i : Int)).f2)] 59 (0, 0))) := ⟨by rw [← hwc]; exact blk_new _ _⟩
   have nf_ := aM (EdF.below z13 hb); have nc0_ := aM (aD (by repeat (first | exact CR.out | (with_reducible refine aE ?_ _) | (with_reducible refine aG ?_ _) | (with_reducible refine aH ?_))) hb); have nc1_ := aM (aD (by repeat (first | exact CO.out | (with_reducible refine aE ?_ _) | (with_reducible refine aG ?_ _) | (with_reducible refine aH ?_))) hb); clear HF CR CO; have HF := nf_; clear nf_; have CR := nc0_; clear nc0_; have CO := nc1_; clear nc1_
   obtain ⟨gx, hgx⟩ : ∃ g, wr.heap.size = g := ⟨_, rfl⟩
   rw [hgx] at BX ⊢
   clear hb hwc hgx hx0 hx1 hx2
   have hcx_0 : wc.cell? ⟨gx, 0, none⟩ = some (.int .i64 ((rd_T59 l1 (i : Int)).f0)) := (bC BX.out 0).trans rfl; have hfx_0 := bF BX.out 0; have hcx_1 : wc.cell? ⟨gx, 1, none⟩ = some (.string ((rd_T59 l1 (i : Int)).f1)) := (bC BX.out 1).trans rfl; have hfx_1 := bF BX.out 1; have hcx_2 : wc.cell? ⟨gx, 2, none⟩ = some (.string ((rd_T59 l1 (i : Int)).f2)) := (bC BX.out 2).trans rfl; have hfx_2 := bF BX.out 2
   by_cases hput : (rd_T59 l1 (i : Int)).f1.toList = []
   ·have s0 : ((rd_T59 l1 (i : Int)).f1.toList != []) = false := nF hput
    have s00 : ((rd_T59 l1 (i : Int)).f1.toList == []) = true := qT hput
    rw [if_neg (fun h_ => h_ hput)] at he
    obtain ⟨⟨x, y⟩, hs, he⟩ := oB he
    obtain ⟨sm, hsm⟩ : ∃ m : Int, wrap64 ((rd_T59 l1 (i : Int)).f0 + ((rd_T59 l1 (i : Int)).f2.size : Int)) = m := ⟨_, rfl⟩
    have hsmw : IntKind.i64.wrap ((rd_T59 l1 (i : Int)).f0 + ((rd_T59 l1 (i : Int)).f2.size : Int)) = sm := (i64_w _).trans hsm
    rw [hsm] at hs
    have HS := aM hs
    clear hs hsm hput
    by_cases hk0 : (rd_T59 l1 (i : Int)).f0 = 0
    ·have s1 : ((rd_T59 l1 (i : Int)).f0 == 0) = true := qT hk0
     rw [if_pos hk0] at he
     have HE2 := aM he
     clear he hk0 HE
     go_wp2_with (first | (go_at_call 31; refine (split_rd k rest A8 c8 sm x y _ (by repeat (first | exact CR.out | (with_reducible refine aE ?_ _) | (with_reducible refine aG ?_ _) | (with_reducible refine aH ?_))) hl8 HS.out).mono ?_; rintro e w7 ⟨A6, c6, A7, c7, rfl, hc6, hl6, hc7, hl7, hb⟩; have l9 := aM hc6; have HL6 := aM hl6; have nj := aM hc7; have HL7 := aM hl7; have nf_ := aM (EdF.below z13 hb); have nc0_ := aM (aD (by repeat (first | exact CO.out | (with_reducible refine aE ?_ _) | (with_reducible refine aG ?_ _) | (with_reducible refine aH ?_))) hb); have nx_ := aM (af (by (with_reducible repeat (first | refine ar ?_ _ | refine aq ?_ | refine au ?_ _)); exact BX.out) hb); (try clear hcx_0 hcx_1 hcx_2 hfx_0 hfx_1 hfx_2); clear HF CO BX; have HF := nf_; clear nf_; have CO := nc0_; clear nc0_; have BX := nx_; clear nx_; have hcx_0 : w7.cell? ⟨gx, 0, none⟩ = some (.int .i64 ((rd_T59 l1 (i : Int)).f0)) := (bC BX.out 0).trans rfl; have hfx_0 := bF BX.out 0; have hcx_1 : w7.cell? ⟨gx, 1, none⟩ = some (.string ((rd_T59 l1 (i : Int)).f1)) := (bC BX.out 1).trans rfl; have hfx_1 := bF BX.out 1; have hcx_2 : w7.cell? ⟨gx, 2, none⟩ = some (.string ((rd_T59 l1 (i : Int)).f2)) := (bC BX.out 2).trans rfl; have hfx_2 := bF BX.out 2; clear CR hc6 hl6 hc7 hl7 hb))
     have hi2 := HI2.out
     go_roundg gk0
     case measure => have := HID.out; omega
     case rel => exact ⟨i + 1, y, out, _, _, _, _, (by rw [show wrap64 ((i : Int) + 1) = ((i + 1 : Nat) : Int) from by unfold wrap64; omega]), by have := HID.out; omega, rfl, rfl, HL7.out, hlo, ⟨by repeat (first | exact nj.out | (with_reducible refine aE ?_ _) | (with_reducible refine aG ?_ _) | (with_reducible refine aH ?_))⟩, ⟨y18⟩, HE2, ⟨y17⟩⟩
    ·have s1 : ((rd_T59 l1 (i : Int)).f0 == 0) = false := qF hk0
     rw [if_neg hk0] at he
     obtain ⟨pc, hpc, he⟩ := oB he
     by_cases hm_ : pc.length ≤ 100000000
     case neg => rw [if_neg hm_] at he; cases he
     rw [if_pos hm_] at he
     have HMX := aM hm_
     clear hm_
     obtain ⟨o2, ho2, he⟩ := oB he
     have HPC := aM hpc
     have HJ := aM ho2
     have HE2 := aM he
     have HLO := aM hlo
     clear he hk0 HE hpc ho2 hlo
     go_wp2_with (first | (go_at_call 31; refine (split_rd k rest A8 c8 sm x y _ (by repeat (first | exact CR.out | (with_reducible refine aE ?_ _) | (with_reducible refine aG ?_ _) | (with_reducible refine aH ?_))) hl8 HS.out).mono ?_; rintro e w7 ⟨A6, c6, A7, c7, rfl, hc6, hl6, hc7, hl7, hb⟩; have l9 := aM hc6; have HL6 := aM hl6; have nj := aM hc7; have HL7 := aM hl7; have nf_ := aM (EdF.below z13 hb); have nc0_ := aM (aD (by repeat (first | exact CO.out | (with_reducible refine aE ?_ _) | (with_reducible refine aG ?_ _) | (with_reducible refine aH ?_))) hb); have nx_ := aM (af (by (with_reducible repeat (first | refine ar ?_ _ | refine aq ?_ | refine au ?_ _)); exact BX.out) hb); (try clear hcx_0 hcx_1 hcx_2 hfx_0 hfx_1 hfx_2); clear HF CO BX; have HF := nf_; clear nf_; have CO := nc0_; clear nc0_; have BX := nx_; clear nx_; have hcx_0 : w7.cell? ⟨gx, 0, none⟩ = some (.int .i64 ((rd_T59 l1 (i : Int)).f0)) := (bC BX.out 0).trans rfl; have hfx_0 := bF BX.out 0; have hcx_1 : w7.cell? ⟨gx, 1, none⟩ = some (.string ((rd_T59 l1 (i : Int)).f1)) := (bC BX.out 1).trans rfl; have hfx_1 := bF BX.out 1; have hcx_2 : w7.cell? ⟨gx, 2, none⟩ = some (.string ((rd_T59 l1 (i : Int)).f2)) := (bC BX.out 2).trans rfl; have hfx_2 := bF BX.out 2; clear CR hc6 hl6 hc7 hl7 hb) | (go_at_call 32; refine (spec_l12Pieces.calls k _ _ x pc _ (by repeat (first | exact l9.out | (with_reducible refine aE ?_ _) | (with_reducible refine aG ?_ _) | (with_reducible refine aH ?_))) HL6.out HPC.out).mono ?_; rintro e w9 ⟨v9, rfl, ho, hb⟩; obtain ⟨As, cs_, eo⟩ := Kd.R_slice ho; subst eo; have CS := aM (ai ho).2.2; have nf_ := aM (EdF.below z13 hb); have nc0_ := aM (aD (by repeat (first | exact nj.out | (with_reducible refine aE ?_ _) | (with_reducible refine aG ?_ _) | (with_reducible refine aH ?_))) hb); have nc1_ := aM (aD (by repeat (first | exact CO.out | (with_reducible refine aE ?_ _) | (with_reducible refine aG ?_ _) | (with_reducible refine aH ?_))) hb); clear HF nj CO; have HF := nf_; clear nf_; have nj := nc0_; clear nc0_; have CO := nc1_; clear nc1_; clear ho hb))
     have CR := nj
     clear nj
     go_loopg [9, 81] pc.length (fun d v9 v_ w' => ∃ (j : Nat) (out : List S101) (A9 : Option Addr) (c9 : Nat), v_ = .int .i64 (j : Nat) ∧ j + d = pc.length ∧ v9 = .slice A9 out.length c9 ∧ out.length ≤ c9 ∧ Aside0 (Kd.C k101 w' A9 out.length out) ∧ Aside0 (eJ k (pc.drop j) out = some o2) ∧ Aside0 (EdF bj bk l0_0 (some ad) l1 w w') ∧ Aside0 (Kd.C k101 w' _ y.length y) ∧ Aside0 (Kd.C Kd.string w' As pc.length pc))
     case atStart => exact ⟨0, out, A9, c9, rfl, Nat.zero_add _, rfl, HLO.out, ⟨y18⟩, ⟨by rw [List.drop_zero]; exact HJ.out⟩, ⟨y17⟩, ⟨y19⟩, ⟨by repeat (first | exact CS.out | (with_reducible refine aE ?_ _) | (with_reducible refine aG ?_ _) | (with_reducible refine aH ?_))⟩⟩
     case round =>
      clear CO HF CR CS HJ HLO
      obtain ⟨j, out, A9, c9, rfl, hjd, rfl, hlo, CO, HJ, HF, CR, CS⟩ := hrel
      have hmx := HMX.out
      cases gk with
      | zero =>
       have d9 : decide (j < pc.length) = false := dF (by omega)
       have hj := HJ.out
       rw [List.drop_of_length_le (by omega)] at hj
       obtain rfl := sI hj
       clear hj HJ hjd hmx
       go_wp2
       have hi2 := HI2.out
       go_roundg gk0
       case measure => have := HID.out; omega
       case rel => exact ⟨i + 1, y, _, _, _, _, _, (by rw [show wrap64 ((i : Int) + 1) = ((i + 1 : Nat) : Int) from by unfold wrap64; omega]), by have := HID.out; omega, rfl, rfl, HL7.out, (by first | exact hlo | exact HLO.out), ⟨y19⟩, ⟨y18⟩, HE2, ⟨y17⟩⟩
      | succ gk =>
       have d9 : decide (j < pc.length) = true := dT (by omega)
       have hlt : j < pc.length := by omega
       have hlt' : (j : Int) < (pc.length : Int) := by omega
       have hj2 : (j : Int) + 1 ≤ 100000000 := by omega
       clear hmx
       have HJD := aM hjd
       have nh := aM hj2
       have hj := HJ.out
       rw [eJ_at k pc out j (by omega)] at hj
       obtain ⟨p, hp, hj⟩ := oB hj
       obtain ⟨q, hq, hj⟩ := oB hj
       have HP := aM hp
       have HQ := aM hq
       have mu := aM hj
       have HLO := aM hlo
       obtain ⟨ads, es_, hs0⟩ := Kd.at_string CS.out (j : Int) (by omega) (by omega)
       simp only [aV] at hs0
       cases es_
       clear hp hq hj HJ hlo hjd hj2
       go_wp2_with (first | (go_at_call 30; refine (spec_l12Piece.calls _ _ _ HP.out).mono ?_; rintro e w5 ⟨v5, rfl, ho, hb⟩; obtain ⟨A5, c5, eo⟩ := Kd.R_slice ho; subst eo; have lM := aM (ai ho).2.2; have HL5 := aM (ai ho).2.1; have nf_ := aM (EdF.below z13 hb); have nc0_ := aM (aD (by repeat (first | exact CO.out | (with_reducible refine aE ?_ _) | (with_reducible refine aG ?_ _) | (with_reducible refine aH ?_))) hb); have nc1_ := aM (aD (by repeat (first | exact CR.out | (with_reducible refine aE ?_ _) | (with_reducible refine aG ?_ _) | (with_reducible refine aH ?_))) hb); have nc2_ := aM (aD (by repeat (first | exact CS.out | (with_reducible refine aE ?_ _) | (with_reducible refine aG ?_ _) | (with_reducible refine aH ?_))) hb); clear HF CO CR CS; have HF := nf_; clear nf_; have CO := nc0_; clear nc0_; have CR := nc1_; clear nc1_; have CS := nc2_; clear nc2_; clear ho hb) | (go_at_call 29; refine (join_rd k out A9 c9 p A5 c5 q _ (by repeat (first | exact CO.out | (with_reducible refine aE ?_ _) | (with_reducible refine aG ?_ _) | (with_reducible refine aH ?_))) HLO.out (by repeat (first | exact lM.out | (with_reducible refine aE ?_ _) | (with_reducible refine aG ?_ _) | (with_reducible refine aH ?_))) HL5.out HQ.out).mono ?_; rintro e w6 ⟨A6, c6, rfl, hc6, hl6, hb⟩; have l9 := aM hc6; have HL6 := aM hl6; have nf_ := aM (EdF.below z13 hb); have nc0_ := aM (aD (by repeat (first | exact CR.out | (with_reducible refine aE ?_ _) | (with_reducible refine aG ?_ _) | (with_reducible refine aH ?_))) hb); have nc1_ := aM (aD (by repeat (first | exact CS.out | (with_reducible refine aE ?_ _) | (with_reducible refine aG ?_ _) | (with_reducible refine aH ?_))) hb); clear HF CR CS; have HF := nf_; clear nf_; have CR := nc0_; clear nc0_; have CS := nc1_; clear nc1_; clear hc6 hl6 hb))
       have hj2 := nh.out
       go_roundg gk
       case measure => have := HJD.out; omega
       case rel => exact ⟨j + 1, q, A6, c6, (by rw [show wrap64 ((j : Int) + 1) = ((j + 1 : Nat) : Int) from by unfold wrap64; omega]), by have := HJD.out; omega, rfl, HL6.out, ⟨by repeat (first | exact l9.out | (with_reducible refine aE ?_ _) | (with_reducible refine aG ?_ _) | (with_reducible refine aH ?_))⟩, mu, ⟨y17⟩, ⟨y19⟩, ⟨by repeat (first | exact CS.out | (with_reducible refine aE ?_ _) | (with_reducible refine aG ?_ _) | (with_reducible refine aH ?_))⟩⟩
   ·have s0 : ((rd_T59 l1 (i : Int)).f1.toList != []) = true := nT hput
    have s00 : ((rd_T59 l1 (i : Int)).f1.toList == []) = false := qF hput
    rw [if_pos hput] at he
    obtain ⟨cu, hcu, he⟩ := oB he
    by_cases hm_ : cu.length ≤ 100000000
    case neg => rw [if_neg hm_] at he; cases he
    rw [if_pos hm_] at he
    have HMX := aM hm_
    clear hm_
    obtain ⟨o2, ho2, he⟩ := oB he
    have HCU := aM hcu
    have HJ := aM ho2
    have HE2 := aM he
    have HLO := aM hlo
    have HL8 := aM hl8
    clear he hput HE hcu ho2 hlo hl8
    go_wp2_with (first | (go_at_call 28; refine (spec_l12Cut.calls k _ cu _ HCU.out).mono ?_; rintro e w9 ⟨v9, rfl, ho, hb⟩; obtain ⟨As, cs_, eo⟩ := Kd.R_slice ho; subst eo; have CS := aM (ai ho).2.2; have nf_ := aM (EdF.below z13 hb); have nc0_ := aM (aD (by repeat (first | exact CR.out | (with_reducible refine aE ?_ _) | (with_reducible refine aG ?_ _) | (with_reducible refine aH ?_))) hb); have nc1_ := aM (aD (by repeat (first | exact CO.out | (with_reducible refine aE ?_ _) | (with_reducible refine aG ?_ _) | (with_reducible refine aH ?_))) hb); clear HF CR CO; have HF := nf_; clear nf_; have CR := nc0_; clear nc0_; have CO := nc1_; clear nc1_; clear ho hb))
    go_loopg [9, 54] cu.length (fun d v9 v_ w' => ∃ (j : Nat) (out : List S101) (A9 : Option Addr) (c9 : Nat), v_ = .int .i64 (j : Nat) ∧ j + d = cu.length ∧ v9 = .slice A9 out.length c9 ∧ out.length ≤ c9 ∧ Aside0 (Kd.C k101 w' A9 out.length out) ∧ Aside0 (eJ k (cu.drop j) out = some o2) ∧ Aside0 (EdF bj bk l0_0 (some ad) l1 w w') ∧ Aside0 (Kd.C k101 w' _ rest.length rest) ∧ Aside0 (Kd.C Kd.string w' As cu.length cu))
    case atStart => exact ⟨0, out, A9, c9, rfl, Nat.zero_add _, rfl, HLO.out, ⟨y18⟩, ⟨by rw [List.drop_zero]; exact HJ.out⟩, ⟨y17⟩, ⟨y19⟩, ⟨by repeat (first | exact CS.out | (with_reducible refine aE ?_ _) | (with_reducible refine aG ?_ _) | (with_reducible refine aH ?_))⟩⟩
    case round =>
     clear CO HF CR CS HJ HLO
     obtain ⟨j, out, A9, c9, rfl, hjd, rfl, hlo, CO, HJ, HF, CR, CS⟩ := hrel
     have hmx := HMX.out
     cases gk with
     | zero =>
      have d9 : decide (j < cu.length) = false := dF (by omega)
      have hj := HJ.out
      rw [List.drop_of_length_le (by omega)] at hj
      obtain rfl := sI hj
      clear hj HJ hjd hmx
      go_wp2
      have hi2 := HI2.out
      go_roundg gk0
      case measure => have := HID.out; omega
      case rel => exact ⟨i + 1, rest, _, _, _, _, _, (by rw [show wrap64 ((i : Int) + 1) = ((i + 1 : Nat) : Int) from by unfold wrap64; omega]), by have := HID.out; omega, rfl, rfl, HL8.out, (by first | exact hlo | exact HLO.out), ⟨y19⟩, ⟨y18⟩, HE2, ⟨y17⟩⟩
     | succ gk =>
      have d9 : decide (j < cu.length) = true := dT (by omega)
      have hlt : j < cu.length := by omega
      have hlt' : (j : Int) < (cu.length : Int) := by omega
      have hj2 : (j : Int) + 1 ≤ 100000000 := by omega
      clear hmx
      have HJD := aM hjd
      have nh := aM hj2
      have hj := HJ.out
      rw [eJ_at k cu out j (by omega)] at hj
      obtain ⟨p, hp, hj⟩ := oB hj
      obtain ⟨q, hq, hj⟩ := oB hj
      have HP := aM hp
      have HQ := aM hq
      have mu := aM hj
      have HLO := aM hlo
      obtain ⟨ads, es_, hs0⟩ := Kd.at_string CS.out (j : Int) (by omega) (by omega)
      simp only [aV] at hs0
      cases es_
      clear hp hq hj HJ hlo hjd hj2
      go_wp2_with (first | (go_at_call 30; refine (spec_l12Piece.calls _ _ _ HP.out).mono ?_; rintro e w5 ⟨v5, rfl, ho, hb⟩; obtain ⟨A5, c5, eo⟩ := Kd.R_slice ho; subst eo; have lM := aM (ai ho).2.2; have HL5 := aM (ai ho).2.1; have nf_ := aM (EdF.below z13 hb); have nc0_ := aM (aD (by repeat (first | exact CO.out | (with_reducible refine aE ?_ _) | (with_reducible refine aG ?_ _) | (with_reducible refine aH ?_))) hb); have nc1_ := aM (aD (by repeat (first | exact CR.out | (with_reducible refine aE ?_ _) | (with_reducible refine aG ?_ _) | (with_reducible refine aH ?_))) hb); have nc2_ := aM (aD (by repeat (first | exact CS.out | (with_reducible refine aE ?_ _) | (with_reducible refine aG ?_ _) | (with_reducible refine aH ?_))) hb); clear HF CO CR CS; have HF := nf_; clear nf_; have CO := nc0_; clear nc0_; have CR := nc1_; clear nc1_; have CS := nc2_; clear nc2_; clear ho hb) | (go_at_call 29; refine (join_rd k out A9 c9 p A5 c5 q _ (by repeat (first | exact CO.out | (with_reducible refine aE ?_ _) | (with_reducible refine aG ?_ _) | (with_reducible refine aH ?_))) HLO.out (by repeat (first | exact lM.out | (with_reducible refine aE ?_ _) | (with_reducible refine aG ?_ _) | (with_reducible refine aH ?_))) HL5.out HQ.out).mono ?_; rintro e w6 ⟨A6, c6, rfl, hc6, hl6, hb⟩; have l9 := aM hc6; have HL6 := aM hl6; have nf_ := aM (EdF.below z13 hb); have nc0_ := aM (aD (by repeat (first | exact CR.out | (with_reducible refine aE ?_ _) | (with_reducible refine aG ?_ _) | (with_reducible refine aH ?_))) hb); have nc1_ := aM (aD (by repeat (first | exact CS.out | (with_reducible refine aE ?_ _) | (with_reducible refine aG ?_ _) | (with_reducible refine aH ?_))) hb); clear HF CR CS; have HF := nf_; clear nf_; have CR := nc0_; clear nc0_; have CS := nc1_; clear nc1_; clear hc6 hl6 hb))
      have hj2 := nh.out
      go_roundg gk
      case measure => have := HJD.out; omega
      case rel => exact ⟨j + 1, q, A6, c6, (by rw [show wrap64 ((j : Int) + 1) = ((j + 1 : Nat) : Int) from by unfold wrap64; omega]), by have := HJD.out; omega, rfl, HL6.out, ⟨by repeat (first | exact l9.out | (with_reducible refine aE ?_ _) | (with_reducible refine aG ?_ _) | (with_reducible refine aH ?_))⟩, mu, ⟨y17⟩, ⟨y19⟩, ⟨by repeat (first | exact CS.out | (with_reducible refine aE ?_ _) | (with_reducible refine aG ?_ _) | (with_reducible refine aH ?_))⟩⟩

/-! ### laws_toBough: function 63 -/
def laws_toBough.f (a0_0 : Int) (a0_1 : Int) (a0_2 : ByteArray) (a0_3 : Int) (a0_4 : Int) : Option (Int × Int × ByteArray × Int × Int) := some (a0_0, a0_1, a0_2, a0_3, a0_4)
set_option maxHeartbeats 8000000 in
set_option maxRecDepth 100000 in
theorem laws_toBough.calls (a0_0 : Int) (a0_1 : Int) (a0_2 : ByteArray) (a0_3 : Int) (a0_4 : Int) (r1 : Int) (r2 : Int) (r3 : ByteArray) (r4 : Int) (r5 : Int) (w : World) (h : laws_toBough.f a0_0 a0_1 a0_2 a0_3 a0_4 = some (r1, r2, r3, r4, r5)) :
  Calls Try.prog 63 #[.agg #[.int .i64 a0_0, .int .i64 a0_1, .string a0_2, .int .i64 a0_3, .int .i64 a0_4]] w fun e w' => e = .returned (.agg #[.int .i64 r1, .int .i64 r2, .string r3, .int .i64 r4, .int .i64 r5]) ∧ Below w.heap.size w w' := by
 have hu100 := Try.underlying100
 have hu101 := Try.underlying101
 have HB := aM (Below.refl w.heap.size w)
 have H : (some (a0_0, a0_1, a0_2, a0_3, a0_4)) = some (r1, r2, r3, r4, r5) := h
 clear h
 simp only [Option.some.injEq, Prod.mk.injEq] at H
 obtain ⟨rfl, rfl, rfl, rfl, rfl⟩ := H
 go_enter Try.func63, Try.ntmps63
 go_wp2_with (first | ((with_reducible refine aJ (N := 1) rfl ?_); refine aK ?hg (N := 1) ?hd (cs := #[.int .i64 a0_0, .int .i64 a0_1, .string a0_2, .int .i64 a0_3, .int .i64 a0_4]) (t := 100) ?hr ?_; (case hd => rfl); (case hg => rfl); (case hr => first | (go_simp; done) | (go_simp; rfl)); intro dj hg w2 hbox hb; have a6 := aM (ay z11 hb); have ba := aM (hbox); have bb := aM ((by rw [hg]; exact (az z11) : w.heap.size ≤ dj)); have bf := aM ((by rw [hg]; exact (az z11) : w.heap.size ≤ dj)); clear HB; have HB := a6; have cX := ba; have GW174 := bb; have gL := bf; clear a6 ba bb bf; clear hb hbox hg) | ((with_reducible refine aJ (N := 2) rfl ?_); refine aK ?hg (N := 2) ?hd (cs := #[.int .i64 0, .int .i64 0, .string (⟨#[]⟩ : ByteArray), .int .i64 0, .int .i64 0]) (t := 101) ?hr ?_; (case hd => rfl); (case hg => rfl); (case hr => first | (go_simp; done) | (go_simp; rfl)); intro dC hg w3 hbox hb; have a6 := aM (af (g := dj) (o := .cells #[.int .i64 a0_0, .int .i64 a0_1, .string a0_2, .int .i64 a0_3, .int .i64 a0_4] 100 (0, 0)) (by (with_reducible repeat (first | refine ar ?_ _ | refine aq ?_ | refine au ?_ _)); exact cX.out) hb); have ba := aM (ay (by repeat (first | (with_reducible first | exact HB.out | apply bA | apply pD | apply bD | refine ax ?_ gL.out) | exact HB.out)) hb); have bb := aM (hbox); have bf := aM ((by rw [hg]; exact (az (by repeat (first | (with_reducible first | exact HB.out | apply bA | apply pD | apply bD | refine ax ?_ gL.out) | exact HB.out))) : w.heap.size ≤ dC)); have bz := aM ((by rw [hg]; exact (az (by repeat (first | (with_reducible first | exact HB.out | apply bA | apply pD | apply bD | refine ax ?_ gL.out) | exact HB.out))) : w.heap.size ≤ dC)); have bH := aM ((by rw [hg]; exact aA (aw (g := dj) (o := .cells #[.int .i64 a0_0, .int .i64 a0_1, .string a0_2, .int .i64 a0_3, .int .i64 a0_4] 100 (0, 0)) (by (with_reducible repeat (first | refine ar ?_ _ | refine aq ?_ | refine au ?_ _)); exact cX.out)) : dj ≠ dC)); have bI := aM ((by rw [hg]; exact aC (aw (g := dj) (o := .cells #[.int .i64 a0_0, .int .i64 a0_1, .string a0_2, .int .i64 a0_3, .int .i64 a0_4] 100 (0, 0)) (by (with_reducible repeat (first | refine ar ?_ _ | refine aq ?_ | refine au ?_ _)); exact cX.out)) : dC ≠ dj)); clear cX; clear HB; have cX := a6; have HB := ba; have dv := bb; have GW175 := bf; have kM := bz; have NB174_175 := bH; have NB175_174 := bI; clear a6 ba bb bf bz bH bI; clear hb hbox hg) | ((with_reducible refine aJ (N := 3) rfl ?_); refine aK ?hg (N := 3) ?hd (cs := #[.int .i64 0, .int .i64 0, .string (⟨#[]⟩ : ByteArray), .int .i64 0, .int .i64 0]) (t := 101) ?hr ?_; (case hd => rfl); (case hg => rfl); (case hr => first | (go_simp; done) | (go_simp; rfl)); intro ew hg w4 hbox hb; have a6 := aM (af (g := dj) (o := .cells #[.int .i64 a0_0, .int .i64 a0_1, .string a0_2, .int .i64 a0_3, .int .i64 a0_4] 100 (0, 0)) (by (with_reducible repeat (first | refine ar ?_ _ | refine aq ?_ | refine au ?_ _)); exact cX.out) hb); have ba := aM (af (g := dC) (o := .cells #[.int .i64 0, .int .i64 0, .string (⟨#[]⟩ : ByteArray), .int .i64 0, .int .i64 0] 101 (0, 0)) (by (with_reducible repeat (first | refine ar ?_ _ | refine aq ?_ | refine au ?_ _)); exact dv.out) hb); have bb := aM (ay (by repeat (first | (with_reducible first | exact HB.out | apply bA | apply pD | apply bD | refine ax ?_ gL.out | refine ax ?_ kM.out) | exact HB.out)) hb); have bf := aM (hbox); have bz := aM ((by rw [hg]; exact (az (by repeat (first | (with_reducible first | exact HB.out | apply bA | apply pD | apply bD | refine ax ?_ gL.out | refine ax ?_ kM.out) | exact HB.out))) : w.heap.size ≤ ew)); have bH := aM ((by rw [hg]; exact (az (by repeat (first | (with_reducible first | exact HB.out | apply bA | apply pD | apply bD | refine ax ?_ gL.out | refine ax ?_ kM.out) | exact HB.out))) : w.heap.size ≤ ew)); have bI := aM ((by rw [hg]; exact aA (aw (g := dj) (o := .cells #[.int .i64 a0_0, .int .i64 a0_1, .string a0_2, .int .i64 a0_3, .int .i64 a0_4] 100 (0, 0)) (by (with_reducible repeat (first | refine ar ?_ _ | refine aq ?_ | refine au ?_ _)); exact cX.out)) : dj ≠ ew)); have bZ := aM ((by rw [hg]; exact aC (aw (g := dj) (o := .cells #[.int .i64 a0_0, .int .i64 a0_1, .string a0_2, .int .i64 a0_3, .int .i64 a0_4] 100 (0, 0)) (by (with_reducible repeat (first | refine ar ?_ _ | refine aq ?_ | refine au ?_ _)); exact cX.out)) : ew ≠ dj)); have b8 := aM ((by rw [hg]; exact aA (aw (g := dC) (o := .cells #[.int .i64 0, .int .i64 0, .string (⟨#[]⟩ : ByteArray), .int .i64 0, .int .i64 0] 101 (0, 0)) (by (with_reducible repeat (first | refine ar ?_ _ | refine aq ?_ | refine au ?_ _)); exact dv.out)) : dC ≠ ew)); have cn := aM ((by rw [hg]; exact aC (aw (g := dC) (o := .cells #[.int .i64 0, .int .i64 0, .string (⟨#[]⟩ : ByteArray), .int .i64 0, .int .i64 0] 101 (0, 0)) (by (with_reducible repeat (first | refine ar ?_ _ | refine aq ?_ | refine au ?_ _)); exact dv.out)) : ew ≠ dC)); clear cX; clear dv; clear HB; have cX := a6; have dv := ba; have HB := bb; have eW := bf; have GW176 := bz; have GE176 := bH; have NB174_176 := bI; have NB176_174 := bZ; have dA := b8; have NB176_175 := cn; clear a6 ba bb bf bz bH bI bZ b8 cn; clear hb hbox hg; have hnb5 := NB174_175.out; have hnc5 := NB175_174.out; have nM := NB174_176.out; have nK := NB176_174.out; have ev : w4.cell? ⟨dj, 0, none⟩ = some (.int .i64 a0_0) := (bC cX.out 0).trans rfl; have eu : w4.cell? ⟨dj, 1, none⟩ = some (.int .i64 a0_1) := (bC cX.out 1).trans rfl; have es : w4.cell? ⟨dj, 2, none⟩ = some (.string a0_2) := (bC cX.out 2).trans rfl; have e8 : w4.cell? ⟨dj, 3, none⟩ = some (.int .i64 a0_3) := (bC cX.out 3).trans rfl; have e7 : w4.cell? ⟨dj, 4, none⟩ = some (.int .i64 a0_4) := (bC cX.out 4).trans rfl; have er := bF cX.out 0; have ep := bF cX.out 1; have en := bF cX.out 2; have eZ := bF cX.out 3; have eY := bF cX.out 4; have nL := NB176_175.out; have nJ := dA.out; have dp : w4.cell? ⟨ew, 0, none⟩ = some (.int .i64 0) := (bC eW.out 0).trans rfl; have ec : w4.cell? ⟨ew, 1, none⟩ = some (.int .i64 0) := (bC eW.out 1).trans rfl; have eb : w4.cell? ⟨ew, 2, none⟩ = some (.string (⟨#[]⟩ : ByteArray)) := (bC eW.out 2).trans rfl; have iK : w4.cell? ⟨ew, 3, none⟩ = some (.int .i64 0) := (bC eW.out 3).trans rfl; have iJ : w4.cell? ⟨ew, 4, none⟩ = some (.int .i64 0) := (bC eW.out 4).trans rfl; have dn := bF eW.out 0; have d5 := bF eW.out 1; have dZ := bF eW.out 2; have ie := bF eW.out 3; have ic := bF eW.out 4; have eh : w4.cell? ⟨dC, 0, none⟩ = some (.int .i64 0) := (bC dv.out 0).trans rfl; have eg : w4.cell? ⟨dC, 1, none⟩ = some (.int .i64 0) := (bC dv.out 1).trans rfl; have ee : w4.cell? ⟨dC, 2, none⟩ = some (.string (⟨#[]⟩ : ByteArray)) := (bC dv.out 2).trans rfl; have gp : w4.cell? ⟨dC, 3, none⟩ = some (.int .i64 0) := (bC dv.out 3).trans rfl; have gn : w4.cell? ⟨dC, 4, none⟩ = some (.int .i64 0) := (bC dv.out 4).trans rfl; have ea := bF dv.out 0; have d8 := bF dv.out 1; have d7 := bF dv.out 2; have f9 := bF dv.out 3; have f8 := bF dv.out 4))
 refine aQ (results_cell_row rfl _ _ dC 101 #[.int .i64 a0_0, .int .i64 a0_1, .string a0_2, .int .i64 a0_3, .int .i64 a0_4] (0, 0) _ rfl (by (with_reducible repeat (first | refine ar ?_ _ | refine aq ?_ | refine au ?_ _)); refine av (cs := #[.int .i64 a0_0, .int .i64 a0_1, .string a0_2, .int .i64 a0_3, .int .i64 0]) ?_ 4 _ rfl; (with_reducible repeat (first | refine ar ?_ _ | refine aq ?_ | refine au ?_ _)); refine av (cs := #[.int .i64 a0_0, .int .i64 a0_1, .string a0_2, .int .i64 0, .int .i64 0]) ?_ 3 _ rfl; (with_reducible repeat (first | refine ar ?_ _ | refine aq ?_ | refine au ?_ _)); refine av (cs := #[.int .i64 a0_0, .int .i64 a0_1, .string (⟨#[]⟩ : ByteArray), .int .i64 0, .int .i64 0]) ?_ 2 _ rfl; (with_reducible repeat (first | refine ar ?_ _ | refine aq ?_ | refine au ?_ _)); refine av (cs := #[.int .i64 a0_0, .int .i64 0, .string (⟨#[]⟩ : ByteArray), .int .i64 0, .int .i64 0]) ?_ 1 _ rfl; (with_reducible repeat (first | refine ar ?_ _ | refine aq ?_ | refine au ?_ _)); refine av (cs := #[.int .i64 0, .int .i64 0, .string (⟨#[]⟩ : ByteArray), .int .i64 0, .int .i64 0]) ?_ 0 _ rfl; (with_reducible repeat (first | refine ar ?_ _ | refine aq ?_ | refine au ?_ _)); refine blk_far ?_ dA.out _; (with_reducible repeat (first | refine ar ?_ _ | refine aq ?_ | refine au ?_ _)); refine blk_far ?_ dA.out _; (with_reducible repeat (first | refine ar ?_ _ | refine aq ?_ | refine au ?_ _)); refine blk_far ?_ dA.out _; (with_reducible repeat (first | refine ar ?_ _ | refine aq ?_ | refine au ?_ _)); refine blk_far ?_ dA.out _; (with_reducible repeat (first | refine ar ?_ _ | refine aq ?_ | refine au ?_ _)); refine blk_far ?_ dA.out _; (with_reducible repeat (first | refine ar ?_ _ | refine aq ?_ | refine au ?_ _)); exact dv.out) Try.underlying101 rfl z0) rfl ?_
 exact ⟨y3, by repeat (first | (with_reducible first | exact HB.out | apply bA | apply pD | apply bD | refine ax ?_ gL.out | refine ax ?_ kM.out | refine ax ?_ GE176.out) | exact HB.out)⟩

/-! ### laws_toBoughS: function 33 -/
def laws_toBoughS.l0 : Nat → List (S100) → List (S101) → Int → Option ((List (S101)))
 | 0, _, _, _ => none
 | k + 1, x0, x3, x4 => if x4 < (x0.length : Int) then (if 0 ≤ x4 then ((laws_toBough.f ((rd_T100 x0 x4).f0) ((rd_T100 x0 x4).f1) ((rd_T100 x0 x4).f2) ((rd_T100 x0 x4).f3) ((rd_T100 x0 x4).f4)).bind fun ju => (if x4 < (x3.length : Int) then (laws_toBoughS.l0 k x0 (x3.set (x4 : Int).toNat (⟨ju.1, ju.2.1, ju.2.2.1, ju.2.2.2.1, ju.2.2.2.2⟩ : S101)) (wrap64 (x4 + 1))) else (none))) else (none)) else (some x3)
def laws_toBoughS.f (k : Nat) (l0 : List (S100)) : Option ((List (S101))) := if 0 ≤ (l0.length : Int) then (if ((l0.length : Int) : Int).toNat ≤ 5864062014805 then (laws_toBoughS.l0 k l0 (List.replicate ((l0.length : Int) : Int).toNat z101) 0) else (none)) else (none)
theorem laws_toBoughS.mono_l : ∀ k, (∀ y0 y1 y2, LeO (laws_toBoughS.l0 k y0 y1 y2) (laws_toBoughS.l0 (k + 1) y0 y1 y2))
 | 0 => fun _ _ _ r h => by simp [laws_toBoughS.l0] at h
 | k + 1 => by
  have ih0 := laws_toBoughS.mono_l k
  ·intro y0 y1 y2
   unfold laws_toBoughS.l0
   repeat' first
   | (with_reducible exact ih0 _ _ _)
   | (with_reducible exact LeO.refl _)
   | (with_reducible exact LeO.none _)
   | (with_reducible refine LeO.ite ?_ ?_)
   | (with_reducible refine LeO.bind ?_ (fun _ => ?_))
   | exact ih0 _ _ _
   | exact LeO.none _
   | refine LeO.ite ?_ ?_
   | refine LeO.bind ?_ (fun _ => ?_)
theorem laws_toBoughS.mono : ∀ a0 k, LeO (laws_toBoughS.f k a0) (laws_toBoughS.f (k + 1) a0) := by
 intro a0 k
 have ih0 := laws_toBoughS.mono_l k
 unfold laws_toBoughS.f
 repeat' first
   | (with_reducible exact ih0 _ _ _)
   | (with_reducible exact LeO.refl _)
   | (with_reducible exact LeO.none _)
   | (with_reducible refine LeO.ite ?_ ?_)
   | (with_reducible refine LeO.bind ?_ (fun _ => ?_))
   | exact ih0 _ _ _
   | exact LeO.none _
   | refine LeO.ite ?_ ?_
   | refine LeO.bind ?_ (fun _ => ?_)
set_option maxHeartbeats 8000000 in
set_option maxRecDepth 100000 in
theorem laws_toBoughS.calls (k : Nat) (A0 : Option Addr) (c0 : Nat) (l0 : List (S100)) (r : List (S101)) (w : World) (hr0 : Kd.C k100 w A0 l0.length l0) (hc0 : l0.length ≤ c0) (h : laws_toBoughS.f k l0 = some r) :
  Calls Try.prog 33 #[.slice A0 l0.length c0] w fun e w' => ∃ v0_ : Value, e = .returned (v0_) ∧ Kd.R k101 101 w' w.heap.size (fun _ => True) v0_ r ∧ Below w.heap.size w w' := by
 have hu100 := Try.underlying100
 have hu101 := Try.underlying101
 have bY := aM hr0
 have cQ := aM hc0
 clear hr0 hc0
 have HB := aM (Below.refl w.heap.size w)
 have H : (if 0 ≤ (l0.length : Int) then (if ((l0.length : Int) : Int).toNat ≤ 5864062014805 then (laws_toBoughS.l0 k l0 (List.replicate ((l0.length : Int) : Int).toNat z101) 0) else (none)) else (none)) = some r := h
 clear h
 by_cases c2 : 0 ≤ (l0.length : Int)
 ·rw [if_pos c2] at H
  have c2b0 := eq_true c2
  have c2b1 : decide (0 ≤ (l0.length : Int)) = true := dT c2
  clear c2
  by_cases c3 : ((l0.length : Int) : Int).toNat ≤ 5864062014805
  ·rw [if_pos c3] at H
   have c3b0 := eq_true c3
   have c3b1 : decide (((l0.length : Int) : Int).toNat ≤ 5864062014805) = true := dT c3
   (try (have c3b1n := c3b1; simp only [aV] at c3b1n))
   clear c3
   obtain ⟨y177, hy177⟩ : ∃ y_ : List (S101), y_ = (List.replicate ((l0.length : Int) : Int).toNat z101) := ⟨_, rfl⟩
   replace H : (laws_toBoughS.l0 k l0 y177 0) = some r := by first | (rw [hy177]; with_reducible exact H) | (have H2_ := (Option.bind_some _ _).symm.trans H; rw [hy177]; with_reducible exact H2_) | (have H2_ := (Option.bind_some _ _).symm.trans H; with_reducible exact H2_) | with_reducible exact H | (rw [hy177]; exact H) | exact H
   have Ny177 := aM hy177
   clear hy177
   have H' := aM H
   clear H
   go_enter Try.func33, Try.ntmps33
   go_wp2_with (first | ((with_reducible refine aJ (N := 7) rfl ?_); refine Kd.R_make k101 _ 101 rfl (N := 7) rfl 28 _ _ rfl (l0.length : Int) rfl rfl Try.underlying28 (.agg #[(.int .i64 0), (.int .i64 0), (.string ⟨#[]⟩), (.int .i64 0), (.int .i64 0)]) 48 info101 rfl (by decide) (by omega) z101 (ok := fun _ => True) (okp := fun _ => True) (k101_mkM _ _ _ z101 ) (fun _ hk => hk) trivial (oD z2) (Nat.le_trans (Nat.mul_le_mul_right _ (oD z2 : (l0.length : Int).toNat ≤ 5864062014805)) (by omega)) (Below.refl _ _) (Nat.le_refl _) ?_; intro v178 w4 ho5 hb hg_ hnew_; clear hg_ hnew_; (first | rw [← Ny177.out] at ho5 | (simp only [Int.reduceToNat] at ho5; rw [← Ny177.out] at ho5)); have a6 := aM (aT ho5 (az z11)); have ba := aM (ay z11 hb); clear HB; have HO179 := a6; have HB := ba; clear a6 ba; clear hb ho5))
   go_loopg [4] k (fun kq v4 w' => ∃ (x3_1 : List (S101)) (x4_1 : Int), v4 = .int .i64 x4_1 ∧ Aside0 (laws_toBoughS.l0 kq l0 x3_1 x4_1 = some r) ∧ Aside0 (kq ≤ k) ∧ Aside0 (Kd.R k101 101 w' w.heap.size (fun _ => True) v178 x3_1) ∧ Aside0 (Below w.heap.size w w'))
   case atStart => exact ⟨(y177), (0), z1, H', ⟨Nat.le_refl _⟩, ⟨by (with_reducible repeat (first | apply ae | apply ac | apply aa)); exact HO179.out⟩, ⟨y4⟩⟩
   case round =>
    clear H'
    try clear c2
    try clear c2b0
    try clear c2b1
    try clear p2
    try clear c3
    try clear c3b0
    try clear c3b1
    obtain ⟨x3_1, x4_1, rfl, HA, HK1, cw, HB⟩ := hrel
    cases gk with
    | zero => exact absurd HA.out (by simp [laws_toBoughS.l0])
    | succ k1 =>
     have H := HA.out
     clear HA
     simp only [laws_toBoughS.l0] at H
     by_cases c6 : x4_1 < (l0.length : Int)
     ·rw [if_pos c6] at H
      have c6b0 : decide (x4_1 < (l0.length : Int)) = true := dT c6
      clear c6
      by_cases c7 : 0 ≤ x4_1
      ·rw [if_pos c7] at H
       have c7b0 : decide (0 ≤ x4_1) = true := dT c7
       clear c7
       replace H := oB H
       obtain ⟨⟨kX, kW, kV, kU, kT⟩, kN, H⟩ := H
       try dsimp only at H
       have A8 := aM kN
       clear kN
       by_cases c9 : x4_1 < (x3_1.length : Int)
       ·rw [if_pos c9] at H
        have c9b0 : decide (x4_1 < (x3_1.length : Int)) = true := dT c9
        clear c9
        obtain ⟨y186, hy186⟩ : ∃ y_ : List (S101), y_ = (x3_1.set (x4_1 : Int).toNat (⟨kX, kW, kV, kU, kT⟩ : S101)) := ⟨_, rfl⟩
        replace H : (laws_toBoughS.l0 k1 l0 y186 (wrap64 (x4_1 + 1))) = some r := by first | (rw [hy186]; with_reducible exact H) | (have H2_ := (Option.bind_some _ _).symm.trans H; rw [hy186]; with_reducible exact H2_) | (have H2_ := (Option.bind_some _ _).symm.trans H; with_reducible exact H2_) | with_reducible exact H | (rw [hy186]; exact H) | exact H
        have Ny186 := aM hy186
        clear hy186
        have H' := aM H
        clear H
        have p180 : 0 ≤ (x4_1 : Int) := oD z2
        have q180 : x4_1 < (l0.length : Int) := oD z2
        obtain ⟨ad180, e180, hx180_0, hx180_1, hx180_2, hx180_3, hx180_4⟩ := at_T100 bY.out x4_1 p180 q180
        cases e180
        replace hx180_0 := (HB.out.cell (World.block_lt_of_cell? w _ hx180_0)).trans hx180_0
        replace hx180_1 := (HB.out.cell (World.block_lt_of_cell? w _ hx180_1)).trans hx180_1
        replace hx180_2 := (HB.out.cell (World.block_lt_of_cell? w _ hx180_2)).trans hx180_2
        replace hx180_3 := (HB.out.cell (World.block_lt_of_cell? w _ hx180_3)).trans hx180_3
        replace hx180_4 := (HB.out.cell (World.block_lt_of_cell? w _ hx180_4)).trans hx180_4
        replace p180 := eq_true p180
        replace q180 := eq_true q180
        go_wp2_with (first | ((with_reducible refine aI (f := 63) rfl ?_); refine aN (some 20) rfl rfl Try.func63 z0 rfl #[.agg #[.int .i64 ((rd_T100 l0 x4_1).f0), .int .i64 ((rd_T100 l0 x4_1).f1), .string ((rd_T100 l0 x4_1).f2), .int .i64 ((rd_T100 l0 x4_1).f3), .int .i64 ((rd_T100 l0 x4_1).f4)]] rfl z12 ?_; (with_reducible refine (laws_toBough.calls ((rd_T100 l0 x4_1).f0) ((rd_T100 l0 x4_1).f1) ((rd_T100 l0 x4_1).f2) ((rd_T100 l0 x4_1).f3) ((rd_T100 l0 x4_1).f4) kX kW kV kU kT _ A8.out).mono ?_); rintro e w11 ⟨rfl, hb⟩; refine ⟨_, rfl, ?_⟩; have a6 := aM (ag (by (with_reducible repeat (first | apply ae | apply ac | apply aa)); exact cw.out) hb); have ba := aM (ay z11 hb); clear cw; clear HB; have cw := a6; have HB := ba; clear a6 ba; (try clear hb); (try clear hb2); (try clear hk); (try clear hi); have p10 : 0 ≤ (x4_1 : Int) := oD z2; have q10 : (x4_1 : Int) < ((x3_1.length : Int) : Int) := oD z2; obtain ⟨go10, eS, eo10, lB, gl10, cl10, HG10⟩ := Kd.R_form cw.out (by omega); (first | cases eo10 | (injection eo10 with ea_ en_ ec_; (first | subst ea_ | (injection ea_ with ea_; subst ea_)); subst ec_; clear en_)); have GB10 := aM lB; have GG10 := aM HG10; clear lB gl10 HG10; obtain ⟨ce10, hcl10, hM10, hcc10, hfr10⟩ := Kd.R_elem cw.out z101 (x4_1 : Int) p10 q10; obtain rfl := k101_openM hM10; have hx10_0 : w11.cell? ⟨go10, (x4_1 : Int).toNat * 5, none⟩ = some (.int .i64 ((rd_T101 x3_1 x4_1).f0)) := hcc10 0 _ rfl; have hx10_1 : w11.cell? ⟨go10, (x4_1 : Int).toNat * 5 + 1, none⟩ = some (.int .i64 ((rd_T101 x3_1 x4_1).f1)) := hcc10 1 _ rfl; have hx10_2 : w11.cell? ⟨go10, (x4_1 : Int).toNat * 5 + 2, none⟩ = some (.string ((rd_T101 x3_1 x4_1).f2)) := hcc10 2 _ rfl; have hx10_3 : w11.cell? ⟨go10, (x4_1 : Int).toNat * 5 + 3, none⟩ = some (.int .i64 ((rd_T101 x3_1 x4_1).f3)) := hcc10 3 _ rfl; have hx10_4 : w11.cell? ⟨go10, (x4_1 : Int).toNat * 5 + 4, none⟩ = some (.int .i64 ((rd_T101 x3_1 x4_1).f4)) := hcc10 4 _ rfl; have hf10_0 : w11.frozen? ⟨go10, (x4_1 : Int).toNat * 5, none⟩ = false := hfr10 0; have hf10_1 : w11.frozen? ⟨go10, (x4_1 : Int).toNat * 5 + 1, none⟩ = false := hfr10 1; have hf10_2 : w11.frozen? ⟨go10, (x4_1 : Int).toNat * 5 + 2, none⟩ = false := hfr10 2; have hf10_3 : w11.frozen? ⟨go10, (x4_1 : Int).toNat * 5 + 3, none⟩ = false := hfr10 3; have hf10_4 : w11.frozen? ⟨go10, (x4_1 : Int).toNat * 5 + 4, none⟩ = false := hfr10 4; clear hcl10 hcc10 hfr10; (try clear hM10); replace p10 := eq_true p10; replace q10 := eq_true q10; have HX12 := aM (show Kd.R k101 101 w11 w.heap.size (fun _ => True) (.slice (some ⟨go10, 0, none⟩) x3_1.length eS) x3_1 from (by (with_reducible repeat (first | apply ae | apply ac | apply aa)); exact cw.out)); obtain ⟨ce12, hcl12, hM12, hcc12, hfr12⟩ := Kd.R_elem HX12.out z101 (x4_1 : Int) (oD z2) (by have h_ : (x4_1 : Int) < ((x3_1.length : Int) : Int) := oD z2; first | exact h_ | (have e_ := (ai cw.out).1; omega) | simpa using h_); obtain rfl := k101_openM hM12; have HP12 := Kd.R_seg HX12.out (x4_1 : Int) (oD z2) (by have h_ : (x4_1 : Int) < ((x3_1.length : Int) : Int) := oD z2; first | exact h_ | (have e_ := (ai cw.out).1; omega) | simpa using h_) (seg := [.int .i64 kX, .int .i64 kW, .string kV, .int .i64 kU, .int .i64 kT]) (j := 0) hcl12 hcc12 (show 5 ≤ 5 from by decide) (x' := (⟨kX, kW, kV, kU, kT⟩ : S101)) (k101_mkM _ _ _ (⟨kX, kW, kV, kU, kT⟩ : S101) ) (fun _ hk => hk); have hx12_0 := hcc12 0 _ rfl; (try simp only [show (k101).sz = 5 from rfl, Nat.mul_one, Nat.add_zero] at hx12_0); have hf12_0 := hfr12 0; (try simp only [show (k101).sz = 5 from rfl, Nat.mul_one, Nat.add_zero] at hf12_0); have hx12_1 := hcc12 1 _ rfl; (try simp only [show (k101).sz = 5 from rfl, Nat.mul_one, Nat.add_zero] at hx12_1); have hf12_1 := hfr12 1; (try simp only [show (k101).sz = 5 from rfl, Nat.mul_one, Nat.add_zero] at hf12_1); have hx12_2 := hcc12 2 _ rfl; (try simp only [show (k101).sz = 5 from rfl, Nat.mul_one, Nat.add_zero] at hx12_2); have hf12_2 := hfr12 2; (try simp only [show (k101).sz = 5 from rfl, Nat.mul_one, Nat.add_zero] at hf12_2); have hx12_3 := hcc12 3 _ rfl; (try simp only [show (k101).sz = 5 from rfl, Nat.mul_one, Nat.add_zero] at hx12_3); have hf12_3 := hfr12 3; (try simp only [show (k101).sz = 5 from rfl, Nat.mul_one, Nat.add_zero] at hf12_3); have hx12_4 := hcc12 4 _ rfl; (try simp only [show (k101).sz = 5 from rfl, Nat.mul_one, Nat.add_zero] at hx12_4); have hf12_4 := hfr12 4; (try simp only [show (k101).sz = 5 from rfl, Nat.mul_one, Nat.add_zero] at hf12_4); clear hcl12 hcc12 hfr12; (try clear hM12)) | ((with_reducible refine gate_store (t := 101) (p := 21) rfl ?_); refine store_event (t := 101) (p := 21) (v := ?vo_w13) (w1 := (((((w11.setCell ⟨go10, (x4_1 : Int).toNat * 5, none⟩ (.int .i64 kX)).setCell ⟨go10, (x4_1 : Int).toNat * 5 + 1, none⟩ (.int .i64 kW)).setCell ⟨go10, (x4_1 : Int).toNat * 5 + 2, none⟩ (.string kV)).setCell ⟨go10, (x4_1 : Int).toNat * 5 + 3, none⟩ (.int .i64 kU)).setCell ⟨go10, (x4_1 : Int).toNat * 5 + 4, none⟩ (.int .i64 kT))) ?hg ?ho ?hn ?hr ?_; (case ho => rfl); (case hg => rfl); (case hn => rfl); (case hr => first | (go_simp; done) | (go_simp; rfl) | ((try simp only [aV] at *); go_simp; first | done | rfl)); intro w13 hw; have hg : w11.grownBy w13 (some go10) := (by rw [hw]; exact HP12.2); have hp_ : Kd.R k101 101 w13 w.heap.size (fun _ => True) (.slice (some ⟨go10, 0, none⟩) x3_1.length eS) y186 := (by rw [hw, Ny186.out]; exact HP12.1); clear HP12; have a6 := aM (hp_); have ba := aM ((by rw [hw]; exact ax (ax (ax (ax (ax (HB.out) GB10.out) GB10.out) GB10.out) GB10.out) GB10.out : Below w.heap.size w w13)); clear cw; clear HB; have cw := a6; have HB := ba; clear a6 ba; clear hg hw hp_))
        go_roundg k1
        case measure => have := HK1.out; omega
        case rel => exact ⟨(y186), (wrap64 (x4_1 + 1)), z1, H', ⟨y0⟩, ⟨y5⟩, ⟨y4⟩⟩
       ·rw [if_neg c9] at H
        exact absurd H (by simp)
      ·rw [if_neg c7] at H
       exact absurd H (by simp)
     ·rw [if_neg c6] at H
      have c6b0 : decide (x4_1 < (l0.length : Int)) = false := dF c6
      clear c6
      obtain rfl := sI H
      go_wp2
      go_ret
      exact ⟨_, y3, y5, y4⟩
  ·rw [if_neg c3] at H
   exact absurd H (by simp)
 ·rw [if_neg c2] at H
  exact absurd H (by simp)

/-! ### laws_toRope: function 8 -/
def laws_toRope.f (k : Nat) (l0_0 : List (S100)) : Option ((List (S101))) := (laws_toBoughS.f k l0_0).bind fun jf => (some jf)
theorem laws_toRope.mono : ∀ a0 k, LeO (laws_toRope.f k a0) (laws_toRope.f (k + 1) a0) := by
 intro a0 k
 unfold laws_toRope.f
 repeat' first
   | (with_reducible exact laws_toBoughS.mono _ _)
   | (with_reducible exact LeO.refl _)
   | (with_reducible exact LeO.none _)
   | (with_reducible refine LeO.ite ?_ ?_)
   | (with_reducible refine LeO.bind ?_ (fun _ => ?_))
   | exact laws_toBoughS.mono _ _
   | exact LeO.none _
   | refine LeO.ite ?_ ?_
   | refine LeO.bind ?_ (fun _ => ?_)
set_option maxHeartbeats 8000000 in
set_option maxRecDepth 100000 in
theorem laws_toRope.calls (k : Nat) (bj : Option Addr) (bk : Nat) (l0_0 : List (S100)) (r : List (S101)) (w : World) (hr0_0 : Kd.C k100 w bj l0_0.length l0_0) (hc0_0 : l0_0.length ≤ bk) (h : laws_toRope.f k l0_0 = some r) :
  Calls Try.prog 8 #[.agg #[.slice bj l0_0.length bk]] w fun e w' => ∃ v0_ : Value, e = .returned (.agg #[v0_]) ∧ Kd.R k101 101 w' w.heap.size (fun _ => True) v0_ r ∧ Below w.heap.size w w' := by
 have hu24 := Try.underlying24
 have hu30 := Try.underlying30
 have cI := aM hr0_0
 have cM := aM hc0_0
 clear hr0_0 hc0_0
 have HB := aM (Below.refl w.heap.size w)
 have H : ((laws_toBoughS.f k l0_0).bind fun jf => (some jf)) = some r := h
 clear h
 replace H := oB H
 obtain ⟨jf, lW, H⟩ := H
 try dsimp only at H
 have A2 := aM lW
 clear lW
 obtain rfl := sI H
 go_enter Try.func8, Try.ntmps8
 go_wp2_with (first | ((with_reducible refine aJ (N := 1) rfl ?_); refine aK ?hg (N := 1) ?hd (cs := #[.slice bj l0_0.length bk]) (t := 24) ?hr ?_; (case hd => rfl); (case hg => rfl); (case hr => first | (go_simp; done) | (go_simp; rfl)); intro dI hg w3 hbox hb; have a6 := aM (ay z11 hb); have ba := aM (hbox); have bb := aM ((by rw [hg]; exact (az z11) : w.heap.size ≤ dI)); have bf := aM ((by rw [hg]; exact (az z11) : w.heap.size ≤ dI)); clear HB; have HB := a6; have dG := ba; have GW187 := bb; have fI := bf; clear a6 ba bb bf; clear hb hbox hg) | ((with_reducible refine aJ (N := 2) rfl ?_); refine aK ?hg (N := 2) ?hd (cs := #[.slice none 0 0]) (t := 30) ?hr ?_; (case hd => rfl); (case hg => rfl); (case hr => first | (go_simp; done) | (go_simp; rfl)); intro dQ hg w4 hbox hb; have a6 := aM (af (g := dI) (o := .cells #[.slice bj l0_0.length bk] 24 (0, 0)) (by (with_reducible repeat (first | refine ar ?_ _ | refine aq ?_ | refine au ?_ _)); exact dG.out) hb); have ba := aM (ay (by repeat (first | (with_reducible first | exact HB.out | apply bA | apply pD | apply bD | refine ax ?_ fI.out) | exact HB.out)) hb); have bb := aM (hbox); have bf := aM ((by rw [hg]; exact (az (by repeat (first | (with_reducible first | exact HB.out | apply bA | apply pD | apply bD | refine ax ?_ fI.out) | exact HB.out))) : w.heap.size ≤ dQ)); have bz := aM ((by rw [hg]; exact (az (by repeat (first | (with_reducible first | exact HB.out | apply bA | apply pD | apply bD | refine ax ?_ fI.out) | exact HB.out))) : w.heap.size ≤ dQ)); have bH := aM ((by rw [hg]; exact aA (aw (g := dI) (o := .cells #[.slice bj l0_0.length bk] 24 (0, 0)) (by (with_reducible repeat (first | refine ar ?_ _ | refine aq ?_ | refine au ?_ _)); exact dG.out)) : dI ≠ dQ)); have bI := aM ((by rw [hg]; exact aC (aw (g := dI) (o := .cells #[.slice bj l0_0.length bk] 24 (0, 0)) (by (with_reducible repeat (first | refine ar ?_ _ | refine aq ?_ | refine au ?_ _)); exact dG.out)) : dQ ≠ dI)); clear dG; clear HB; have dG := a6; have HB := ba; have ek := bb; have GW188 := bf; have g6 := bz; have NB187_188 := bH; have NB188_187 := bI; clear a6 ba bb bf bz bH bI; clear hb hbox hg) | ((with_reducible refine aJ (N := 3) rfl ?_); refine aK ?hg (N := 3) ?hd (cs := #[.slice none 0 0]) (t := 30) ?hr ?_; (case hd => rfl); (case hg => rfl); (case hr => first | (go_simp; done) | (go_simp; rfl)); intro fE hg w5 hbox hb; have a6 := aM (af (g := dI) (o := .cells #[.slice bj l0_0.length bk] 24 (0, 0)) (by (with_reducible repeat (first | refine ar ?_ _ | refine aq ?_ | refine au ?_ _)); exact dG.out) hb); have ba := aM (af (g := dQ) (o := .cells #[.slice none 0 0] 30 (0, 0)) (by (with_reducible repeat (first | refine ar ?_ _ | refine aq ?_ | refine au ?_ _)); exact ek.out) hb); have bb := aM (ay (by repeat (first | (with_reducible first | exact HB.out | apply bA | apply pD | apply bD | refine ax ?_ fI.out | refine ax ?_ g6.out) | exact HB.out)) hb); have bf := aM (hbox); have bz := aM ((by rw [hg]; exact (az (by repeat (first | (with_reducible first | exact HB.out | apply bA | apply pD | apply bD | refine ax ?_ fI.out | refine ax ?_ g6.out) | exact HB.out))) : w.heap.size ≤ fE)); have bH := aM ((by rw [hg]; exact (az (by repeat (first | (with_reducible first | exact HB.out | apply bA | apply pD | apply bD | refine ax ?_ fI.out | refine ax ?_ g6.out) | exact HB.out))) : w.heap.size ≤ fE)); have bI := aM ((by rw [hg]; exact aA (aw (g := dI) (o := .cells #[.slice bj l0_0.length bk] 24 (0, 0)) (by (with_reducible repeat (first | refine ar ?_ _ | refine aq ?_ | refine au ?_ _)); exact dG.out)) : dI ≠ fE)); have bZ := aM ((by rw [hg]; exact aC (aw (g := dI) (o := .cells #[.slice bj l0_0.length bk] 24 (0, 0)) (by (with_reducible repeat (first | refine ar ?_ _ | refine aq ?_ | refine au ?_ _)); exact dG.out)) : fE ≠ dI)); have b8 := aM ((by rw [hg]; exact aA (aw (g := dQ) (o := .cells #[.slice none 0 0] 30 (0, 0)) (by (with_reducible repeat (first | refine ar ?_ _ | refine aq ?_ | refine au ?_ _)); exact ek.out)) : dQ ≠ fE)); have cn := aM ((by rw [hg]; exact aC (aw (g := dQ) (o := .cells #[.slice none 0 0] 30 (0, 0)) (by (with_reducible repeat (first | refine ar ?_ _ | refine aq ?_ | refine au ?_ _)); exact ek.out)) : fE ≠ dQ)); clear dG; clear ek; clear HB; have dG := a6; have ek := ba; have HB := bb; have hH := bf; have GW189 := bz; have lT := bH; have NB187_189 := bI; have NB189_187 := bZ; have gZ := b8; have NB189_188 := cn; clear a6 ba bb bf bz bH bI bZ b8 cn; clear hb hbox hg; have nM := NB187_188.out; have nK := NB188_187.out; have hnb7 := NB187_189.out; have hnc7 := NB189_187.out; have e6 : w5.cell? ⟨dI, 0, none⟩ = some (.slice bj l0_0.length bk) := (bC dG.out 0).trans rfl; have eX := bF dG.out 0) | ((with_reducible refine aI (f := 33) rfl ?_); refine aN (some 6) rfl rfl Try.func33 z0 rfl #[.slice bj l0_0.length bk] rfl z12 ?_; (with_reducible refine (laws_toBoughS.calls k _ _ l0_0 jf _ ?side1 ?side2 A2.out).mono ?_); (case side1 => repeat (first | exact (aD cI.out HB.out) | (with_reducible refine aE ?_ _) | (with_reducible refine aG ?_ _) | (with_reducible refine aH ?_))); (case side2 => exact cM.out); rintro e w9 ⟨v191, rfl, ho0, hb⟩; refine ⟨_, rfl, ?_⟩; have a6 := aM (aT ho0 (az (by repeat (first | (with_reducible first | exact HB.out | apply bA | apply pD | apply bD | refine ax ?_ fI.out | refine ax ?_ g6.out | refine ax ?_ lT.out) | exact HB.out)))); have ba := aM (af (g := dI) (o := .cells #[.slice bj l0_0.length bk] 24 (0, 0)) (by (with_reducible repeat (first | refine ar ?_ _ | refine aq ?_ | refine au ?_ _)); exact dG.out) hb); have bb := aM (af (g := dQ) (o := .cells #[.slice none 0 0] 30 (0, 0)) (by (with_reducible repeat (first | refine ar ?_ _ | refine aq ?_ | refine au ?_ _)); exact ek.out) hb); have bf := aM (af (g := fE) (o := .cells #[.slice none 0 0] 30 (0, 0)) (by (with_reducible repeat (first | refine ar ?_ _ | refine aq ?_ | refine au ?_ _)); exact hH.out) hb); have bz := aM (ay (by repeat (first | (with_reducible first | exact HB.out | apply bA | apply pD | apply bD | refine ax ?_ fI.out | refine ax ?_ g6.out | refine ax ?_ lT.out) | exact HB.out)) hb); clear dG; clear ek; clear hH; clear HB; have ms := a6; have dG := ba; have ek := bb; have hH := bf; have HB := bz; clear a6 ba bb bf bz; (try clear hb); (try clear hb2); (try clear hk); (try clear hi); (try clear ho0); obtain ⟨mh, eS, eo10⟩ := Kd.R_slice ms.out; subst eo10; have hnb11 := NB189_188.out; have hnc11 := gZ.out; have i7 : w9.cell? ⟨fE, 0, none⟩ = some (.slice none 0 0) := (bC hH.out 0).trans rfl; have iG := bF hH.out 0; have kJ : w9.cell? ⟨dQ, 0, none⟩ = some (.slice none 0 0) := (bC ek.out 0).trans rfl; have km := bF ek.out 0))
 refine aQ (results_cell_row rfl _ _ dQ 30 #[.slice mh jf.length eS] (0, 0) _ rfl (by (with_reducible repeat (first | refine ar ?_ _ | refine aq ?_ | refine au ?_ _)); refine av (cs := #[.slice none 0 0]) ?_ 0 _ rfl; (with_reducible repeat (first | refine ar ?_ _ | refine aq ?_ | refine au ?_ _)); refine blk_far ?_ gZ.out _; (with_reducible repeat (first | refine ar ?_ _ | refine aq ?_ | refine au ?_ _)); exact ek.out) Try.underlying30 rfl z0) rfl ?_
 exact ⟨_, y3, by (with_reducible repeat (first | apply ae | apply ac | apply aa)); exact ah (am (p := ⟨dQ, 0, none⟩) (am (p := ⟨fE, 0, none⟩) (ap (ap ms.out hH.out (by decide)) ek.out (by decide)) (fun _ hk => hk.1.2) (.slice mh jf.length eS)) (fun _ hk => hk.2) (.slice mh jf.length eS)) (fun _ hk => trivial), by repeat (first | (with_reducible first | exact HB.out | apply bA | apply pD | apply bD | refine ax ?_ fI.out | refine ax ?_ g6.out | refine ax ?_ lT.out) | exact HB.out)⟩

/-! ### laws_toPart: function 34 -/
def laws_toPart.f (a0_0 : Int) (a0_1 : ByteArray) (a0_2 : ByteArray) : Option (Int × ByteArray × ByteArray) := some (a0_0, a0_1, a0_2)
set_option maxHeartbeats 8000000 in
set_option maxRecDepth 100000 in
theorem laws_toPart.calls (a0_0 : Int) (a0_1 : ByteArray) (a0_2 : ByteArray) (r1 : Int) (r2 : ByteArray) (r3 : ByteArray) (w : World) (h : laws_toPart.f a0_0 a0_1 a0_2 = some (r1, r2, r3)) :
  Calls Try.prog 34 #[.agg #[.int .i64 a0_0, .string a0_1, .string a0_2]] w fun e w' => e = .returned (.agg #[.int .i64 r1, .string r2, .string r3]) ∧ Below w.heap.size w w' := by
 have hu55 := Try.underlying55
 have hu59 := Try.underlying59
 have HB := aM (Below.refl w.heap.size w)
 have H : (some (a0_0, a0_1, a0_2)) = some (r1, r2, r3) := h
 clear h
 simp only [Option.some.injEq, Prod.mk.injEq] at H
 obtain ⟨rfl, rfl, rfl⟩ := H
 go_enter Try.func34, Try.ntmps34
 go_wp2_with (first | ((with_reducible refine aJ (N := 1) rfl ?_); refine aK ?hg (N := 1) ?hd (cs := #[.int .i64 a0_0, .string a0_1, .string a0_2]) (t := 55) ?hr ?_; (case hd => rfl); (case hg => rfl); (case hr => first | (go_simp; done) | (go_simp; rfl)); intro dB hg w2 hbox hb; have a6 := aM (ay z11 hb); have ba := aM (hbox); have bb := aM ((by rw [hg]; exact (az z11) : w.heap.size ≤ dB)); have bf := aM ((by rw [hg]; exact (az z11) : w.heap.size ≤ dB)); clear HB; have HB := a6; have du := ba; have GW193 := bb; have gK := bf; clear a6 ba bb bf; clear hb hbox hg) | ((with_reducible refine aJ (N := 2) rfl ?_); refine aK ?hg (N := 2) ?hd (cs := #[.int .i64 0, .string (⟨#[]⟩ : ByteArray), .string (⟨#[]⟩ : ByteArray)]) (t := 59) ?hr ?_; (case hd => rfl); (case hg => rfl); (case hr => first | (go_simp; done) | (go_simp; rfl)); intro dP hg w3 hbox hb; have a6 := aM (af (g := dB) (o := .cells #[.int .i64 a0_0, .string a0_1, .string a0_2] 55 (0, 0)) (by (with_reducible repeat (first | refine ar ?_ _ | refine aq ?_ | refine au ?_ _)); exact du.out) hb); have ba := aM (ay (by repeat (first | (with_reducible first | exact HB.out | apply bA | apply pD | apply bD | refine ax ?_ gK.out) | exact HB.out)) hb); have bb := aM (hbox); have bf := aM ((by rw [hg]; exact (az (by repeat (first | (with_reducible first | exact HB.out | apply bA | apply pD | apply bD | refine ax ?_ gK.out) | exact HB.out))) : w.heap.size ≤ dP)); have bz := aM ((by rw [hg]; exact (az (by repeat (first | (with_reducible first | exact HB.out | apply bA | apply pD | apply bD | refine ax ?_ gK.out) | exact HB.out))) : w.heap.size ≤ dP)); have bH := aM ((by rw [hg]; exact aA (aw (g := dB) (o := .cells #[.int .i64 a0_0, .string a0_1, .string a0_2] 55 (0, 0)) (by (with_reducible repeat (first | refine ar ?_ _ | refine aq ?_ | refine au ?_ _)); exact du.out)) : dB ≠ dP)); have bI := aM ((by rw [hg]; exact aC (aw (g := dB) (o := .cells #[.int .i64 a0_0, .string a0_1, .string a0_2] 55 (0, 0)) (by (with_reducible repeat (first | refine ar ?_ _ | refine aq ?_ | refine au ?_ _)); exact du.out)) : dP ≠ dB)); clear du; clear HB; have du := a6; have HB := ba; have ej := bb; have GW194 := bf; have kL := bz; have NB193_194 := bH; have NB194_193 := bI; clear a6 ba bb bf bz bH bI; clear hb hbox hg) | ((with_reducible refine aJ (N := 3) rfl ?_); refine aK ?hg (N := 3) ?hd (cs := #[.int .i64 0, .string (⟨#[]⟩ : ByteArray), .string (⟨#[]⟩ : ByteArray)]) (t := 59) ?hr ?_; (case hd => rfl); (case hg => rfl); (case hr => first | (go_simp; done) | (go_simp; rfl)); intro fD hg w4 hbox hb; have a6 := aM (af (g := dB) (o := .cells #[.int .i64 a0_0, .string a0_1, .string a0_2] 55 (0, 0)) (by (with_reducible repeat (first | refine ar ?_ _ | refine aq ?_ | refine au ?_ _)); exact du.out) hb); have ba := aM (af (g := dP) (o := .cells #[.int .i64 0, .string (⟨#[]⟩ : ByteArray), .string (⟨#[]⟩ : ByteArray)] 59 (0, 0)) (by (with_reducible repeat (first | refine ar ?_ _ | refine aq ?_ | refine au ?_ _)); exact ej.out) hb); have bb := aM (ay (by repeat (first | (with_reducible first | exact HB.out | apply bA | apply pD | apply bD | refine ax ?_ gK.out | refine ax ?_ kL.out) | exact HB.out)) hb); have bf := aM (hbox); have bz := aM ((by rw [hg]; exact (az (by repeat (first | (with_reducible first | exact HB.out | apply bA | apply pD | apply bD | refine ax ?_ gK.out | refine ax ?_ kL.out) | exact HB.out))) : w.heap.size ≤ fD)); have bH := aM ((by rw [hg]; exact (az (by repeat (first | (with_reducible first | exact HB.out | apply bA | apply pD | apply bD | refine ax ?_ gK.out | refine ax ?_ kL.out) | exact HB.out))) : w.heap.size ≤ fD)); have bI := aM ((by rw [hg]; exact aA (aw (g := dB) (o := .cells #[.int .i64 a0_0, .string a0_1, .string a0_2] 55 (0, 0)) (by (with_reducible repeat (first | refine ar ?_ _ | refine aq ?_ | refine au ?_ _)); exact du.out)) : dB ≠ fD)); have bZ := aM ((by rw [hg]; exact aC (aw (g := dB) (o := .cells #[.int .i64 a0_0, .string a0_1, .string a0_2] 55 (0, 0)) (by (with_reducible repeat (first | refine ar ?_ _ | refine aq ?_ | refine au ?_ _)); exact du.out)) : fD ≠ dB)); have b8 := aM ((by rw [hg]; exact aA (aw (g := dP) (o := .cells #[.int .i64 0, .string (⟨#[]⟩ : ByteArray), .string (⟨#[]⟩ : ByteArray)] 59 (0, 0)) (by (with_reducible repeat (first | refine ar ?_ _ | refine aq ?_ | refine au ?_ _)); exact ej.out)) : dP ≠ fD)); have cn := aM ((by rw [hg]; exact aC (aw (g := dP) (o := .cells #[.int .i64 0, .string (⟨#[]⟩ : ByteArray), .string (⟨#[]⟩ : ByteArray)] 59 (0, 0)) (by (with_reducible repeat (first | refine ar ?_ _ | refine aq ?_ | refine au ?_ _)); exact ej.out)) : fD ≠ dP)); clear du; clear ej; clear HB; have du := a6; have ej := ba; have HB := bb; have hD := bf; have GW195 := bz; have GE195 := bH; have NB193_195 := bI; have NB195_193 := bZ; have eP := b8; have NB195_194 := cn; clear a6 ba bb bf bz bH bI bZ b8 cn; clear hb hbox hg; have hnb5 := NB193_194.out; have hnc5 := NB194_193.out; have nM := NB193_195.out; have nK := NB195_193.out; have ev : w4.cell? ⟨dB, 0, none⟩ = some (.int .i64 a0_0) := (bC du.out 0).trans rfl; have eu : w4.cell? ⟨dB, 1, none⟩ = some (.string a0_1) := (bC du.out 1).trans rfl; have es : w4.cell? ⟨dB, 2, none⟩ = some (.string a0_2) := (bC du.out 2).trans rfl; have er := bF du.out 0; have ep := bF du.out 1; have en := bF du.out 2; have nL := NB195_194.out; have nJ := eP.out; have dp : w4.cell? ⟨fD, 0, none⟩ = some (.int .i64 0) := (bC hD.out 0).trans rfl; have ec : w4.cell? ⟨fD, 1, none⟩ = some (.string (⟨#[]⟩ : ByteArray)) := (bC hD.out 1).trans rfl; have eb : w4.cell? ⟨fD, 2, none⟩ = some (.string (⟨#[]⟩ : ByteArray)) := (bC hD.out 2).trans rfl; have dn := bF hD.out 0; have d5 := bF hD.out 1; have dZ := bF hD.out 2; have eh : w4.cell? ⟨dP, 0, none⟩ = some (.int .i64 0) := (bC ej.out 0).trans rfl; have eg : w4.cell? ⟨dP, 1, none⟩ = some (.string (⟨#[]⟩ : ByteArray)) := (bC ej.out 1).trans rfl; have ee : w4.cell? ⟨dP, 2, none⟩ = some (.string (⟨#[]⟩ : ByteArray)) := (bC ej.out 2).trans rfl; have ea := bF ej.out 0; have d8 := bF ej.out 1; have d7 := bF ej.out 2))
 refine aQ (results_cell_row rfl _ _ dP 59 #[.int .i64 a0_0, .string a0_1, .string a0_2] (0, 0) _ rfl (by (with_reducible repeat (first | refine ar ?_ _ | refine aq ?_ | refine au ?_ _)); refine av (cs := #[.int .i64 a0_0, .string a0_1, .string (⟨#[]⟩ : ByteArray)]) ?_ 2 _ rfl; (with_reducible repeat (first | refine ar ?_ _ | refine aq ?_ | refine au ?_ _)); refine av (cs := #[.int .i64 a0_0, .string (⟨#[]⟩ : ByteArray), .string (⟨#[]⟩ : ByteArray)]) ?_ 1 _ rfl; (with_reducible repeat (first | refine ar ?_ _ | refine aq ?_ | refine au ?_ _)); refine av (cs := #[.int .i64 0, .string (⟨#[]⟩ : ByteArray), .string (⟨#[]⟩ : ByteArray)]) ?_ 0 _ rfl; (with_reducible repeat (first | refine ar ?_ _ | refine aq ?_ | refine au ?_ _)); refine blk_far ?_ eP.out _; (with_reducible repeat (first | refine ar ?_ _ | refine aq ?_ | refine au ?_ _)); refine blk_far ?_ eP.out _; (with_reducible repeat (first | refine ar ?_ _ | refine aq ?_ | refine au ?_ _)); refine blk_far ?_ eP.out _; (with_reducible repeat (first | refine ar ?_ _ | refine aq ?_ | refine au ?_ _)); exact ej.out) Try.underlying59 rfl z0) rfl ?_
 exact ⟨y3, by repeat (first | (with_reducible first | exact HB.out | apply bA | apply pD | apply bD | refine ax ?_ gK.out | refine ax ?_ kL.out | refine ax ?_ GE195.out) | exact HB.out)⟩

/-! ### laws_toPartS: function 9 -/
def laws_toPartS.l0 : Nat → List (S55) → List (S59) → Int → Option ((List (S59)))
 | 0, _, _, _ => none
 | k + 1, x0, x3, x4 => if x4 < (x0.length : Int) then (if 0 ≤ x4 then ((laws_toPart.f ((rd_T55 x0 x4).f0) ((rd_T55 x0 x4).f1) ((rd_T55 x0 x4).f2)).bind fun lK => (if x4 < (x3.length : Int) then (laws_toPartS.l0 k x0 (x3.set (x4 : Int).toNat (⟨lK.1, lK.2.1, lK.2.2⟩ : S59)) (wrap64 (x4 + 1))) else (none))) else (none)) else (some x3)
def laws_toPartS.f (k : Nat) (l0 : List (S55)) : Option ((List (S59))) := if 0 ≤ (l0.length : Int) then (if ((l0.length : Int) : Int).toNat ≤ 7036874417766 then (laws_toPartS.l0 k l0 (List.replicate ((l0.length : Int) : Int).toNat z59) 0) else (none)) else (none)
theorem laws_toPartS.mono_l : ∀ k, (∀ y0 y1 y2, LeO (laws_toPartS.l0 k y0 y1 y2) (laws_toPartS.l0 (k + 1) y0 y1 y2))
 | 0 => fun _ _ _ r h => by simp [laws_toPartS.l0] at h
 | k + 1 => by
  have ih0 := laws_toPartS.mono_l k
  ·intro y0 y1 y2
   unfold laws_toPartS.l0
   repeat' first
   | (with_reducible exact ih0 _ _ _)
   | (with_reducible exact LeO.refl _)
   | (with_reducible exact LeO.none _)
   | (with_reducible refine LeO.ite ?_ ?_)
   | (with_reducible refine LeO.bind ?_ (fun _ => ?_))
   | exact ih0 _ _ _
   | exact LeO.none _
   | refine LeO.ite ?_ ?_
   | refine LeO.bind ?_ (fun _ => ?_)
theorem laws_toPartS.mono : ∀ a0 k, LeO (laws_toPartS.f k a0) (laws_toPartS.f (k + 1) a0) := by
 intro a0 k
 have ih0 := laws_toPartS.mono_l k
 unfold laws_toPartS.f
 repeat' first
   | (with_reducible exact ih0 _ _ _)
   | (with_reducible exact LeO.refl _)
   | (with_reducible exact LeO.none _)
   | (with_reducible refine LeO.ite ?_ ?_)
   | (with_reducible refine LeO.bind ?_ (fun _ => ?_))
   | exact ih0 _ _ _
   | exact LeO.none _
   | refine LeO.ite ?_ ?_
   | refine LeO.bind ?_ (fun _ => ?_)
set_option maxHeartbeats 8000000 in
set_option maxRecDepth 100000 in
theorem laws_toPartS.calls (k : Nat) (A0 : Option Addr) (c0 : Nat) (l0 : List (S55)) (r : List (S59)) (w : World) (hr0 : Kd.C k55 w A0 l0.length l0) (hc0 : l0.length ≤ c0) (h : laws_toPartS.f k l0 = some r) :
  Calls Try.prog 9 #[.slice A0 l0.length c0] w fun e w' => ∃ v0_ : Value, e = .returned (v0_) ∧ Kd.R k59 59 w' w.heap.size (fun _ => True) v0_ r ∧ Below w.heap.size w w' := by
 have hu55 := Try.underlying55
 have hu59 := Try.underlying59
 have bY := aM hr0
 have cQ := aM hc0
 clear hr0 hc0
 have HB := aM (Below.refl w.heap.size w)
 have H : (if 0 ≤ (l0.length : Int) then (if ((l0.length : Int) : Int).toNat ≤ 7036874417766 then (laws_toPartS.l0 k l0 (List.replicate ((l0.length : Int) : Int).toNat z59) 0) else (none)) else (none)) = some r := h
 clear h
 by_cases c2 : 0 ≤ (l0.length : Int)
 ·rw [if_pos c2] at H
  have c2b0 := eq_true c2
  have c2b1 : decide (0 ≤ (l0.length : Int)) = true := dT c2
  clear c2
  by_cases c3 : ((l0.length : Int) : Int).toNat ≤ 7036874417766
  ·rw [if_pos c3] at H
   have c3b0 := eq_true c3
   have c3b1 : decide (((l0.length : Int) : Int).toNat ≤ 7036874417766) = true := dT c3
   (try (have c3b1n := c3b1; simp only [aV] at c3b1n))
   clear c3
   obtain ⟨y196, hy196⟩ : ∃ y_ : List (S59), y_ = (List.replicate ((l0.length : Int) : Int).toNat z59) := ⟨_, rfl⟩
   replace H : (laws_toPartS.l0 k l0 y196 0) = some r := by first | (rw [hy196]; with_reducible exact H) | (have H2_ := (Option.bind_some _ _).symm.trans H; rw [hy196]; with_reducible exact H2_) | (have H2_ := (Option.bind_some _ _).symm.trans H; with_reducible exact H2_) | with_reducible exact H | (rw [hy196]; exact H) | exact H
   have Ny196 := aM hy196
   clear hy196
   have H' := aM H
   clear H
   go_enter Try.func9, Try.ntmps9
   go_wp2_with (first | ((with_reducible refine aJ (N := 7) rfl ?_); refine Kd.R_make k59 _ 59 rfl (N := 7) rfl 34 _ _ rfl (l0.length : Int) rfl rfl Try.underlying34 (.agg #[(.int .i64 0), (.string ⟨#[]⟩), (.string ⟨#[]⟩)]) 40 info59 rfl (by decide) (by omega) z59 (ok := fun _ => True) (okp := fun _ => True) (k59_mkM _ _ _ z59 ) (fun _ hk => hk) trivial (oD z2) (Nat.le_trans (Nat.mul_le_mul_right _ (oD z2 : (l0.length : Int).toNat ≤ 7036874417766)) (by omega)) (Below.refl _ _) (Nat.le_refl _) ?_; intro v197 w4 ho5 hb hg_ hnew_; clear hg_ hnew_; (first | rw [← Ny196.out] at ho5 | (simp only [Int.reduceToNat] at ho5; rw [← Ny196.out] at ho5)); have a6 := aM (aT ho5 (az z11)); have ba := aM (ay z11 hb); clear HB; have HO198 := a6; have HB := ba; clear a6 ba; clear hb ho5))
   go_loopg [4] k (fun kq v4 w' => ∃ (x3_1 : List (S59)) (x4_1 : Int), v4 = .int .i64 x4_1 ∧ Aside0 (laws_toPartS.l0 kq l0 x3_1 x4_1 = some r) ∧ Aside0 (kq ≤ k) ∧ Aside0 (Kd.R k59 59 w' w.heap.size (fun _ => True) v197 x3_1) ∧ Aside0 (Below w.heap.size w w'))
   case atStart => exact ⟨(y196), (0), z1, H', ⟨Nat.le_refl _⟩, ⟨by (with_reducible repeat (first | apply ae | apply ac | apply aa)); exact HO198.out⟩, ⟨y4⟩⟩
   case round =>
    clear H'
    try clear c2
    try clear c2b0
    try clear c2b1
    try clear p2
    try clear c3
    try clear c3b0
    try clear c3b1
    obtain ⟨x3_1, x4_1, rfl, HA, HK1, cw, HB⟩ := hrel
    cases gk with
    | zero => exact absurd HA.out (by simp [laws_toPartS.l0])
    | succ k1 =>
     have H := HA.out
     clear HA
     simp only [laws_toPartS.l0] at H
     by_cases c6 : x4_1 < (l0.length : Int)
     ·rw [if_pos c6] at H
      have c6b0 : decide (x4_1 < (l0.length : Int)) = true := dT c6
      clear c6
      by_cases c7 : 0 ≤ x4_1
      ·rw [if_pos c7] at H
       have c7b0 : decide (0 ≤ x4_1) = true := dT c7
       clear c7
       replace H := oB H
       obtain ⟨⟨kS, je, kR⟩, kN, H⟩ := H
       try dsimp only at H
       have A8 := aM kN
       clear kN
       by_cases c9 : x4_1 < (x3_1.length : Int)
       ·rw [if_pos c9] at H
        have c9b0 : decide (x4_1 < (x3_1.length : Int)) = true := dT c9
        clear c9
        obtain ⟨y203, hy203⟩ : ∃ y_ : List (S59), y_ = (x3_1.set (x4_1 : Int).toNat (⟨kS, je, kR⟩ : S59)) := ⟨_, rfl⟩
        replace H : (laws_toPartS.l0 k1 l0 y203 (wrap64 (x4_1 + 1))) = some r := by first | (rw [hy203]; with_reducible exact H) | (have H2_ := (Option.bind_some _ _).symm.trans H; rw [hy203]; with_reducible exact H2_) | (have H2_ := (Option.bind_some _ _).symm.trans H; with_reducible exact H2_) | with_reducible exact H | (rw [hy203]; exact H) | exact H
        have Ny203 := aM hy203
        clear hy203
        have H' := aM H
        clear H
        have p199 : 0 ≤ (x4_1 : Int) := oD z2
        have q199 : x4_1 < (l0.length : Int) := oD z2
        obtain ⟨ad199, e199, hx199_0, hx199_1, hx199_2⟩ := at_T55 bY.out x4_1 p199 q199
        cases e199
        replace hx199_0 := (HB.out.cell (World.block_lt_of_cell? w _ hx199_0)).trans hx199_0
        replace hx199_1 := (HB.out.cell (World.block_lt_of_cell? w _ hx199_1)).trans hx199_1
        replace hx199_2 := (HB.out.cell (World.block_lt_of_cell? w _ hx199_2)).trans hx199_2
        replace p199 := eq_true p199
        replace q199 := eq_true q199
        go_wp2_with (first | ((with_reducible refine aI (f := 34) rfl ?_); refine aN (some 20) rfl rfl Try.func34 z0 rfl #[.agg #[.int .i64 ((rd_T55 l0 x4_1).f0), .string ((rd_T55 l0 x4_1).f1), .string ((rd_T55 l0 x4_1).f2)]] rfl z12 ?_; (with_reducible refine (laws_toPart.calls ((rd_T55 l0 x4_1).f0) ((rd_T55 l0 x4_1).f1) ((rd_T55 l0 x4_1).f2) kS je kR _ A8.out).mono ?_); rintro e w11 ⟨rfl, hb⟩; refine ⟨_, rfl, ?_⟩; have a6 := aM (ag (by (with_reducible repeat (first | apply ae | apply ac | apply aa)); exact cw.out) hb); have ba := aM (ay z11 hb); clear cw; clear HB; have cw := a6; have HB := ba; clear a6 ba; (try clear hb); (try clear hb2); (try clear hk); (try clear hi); have p10 : 0 ≤ (x4_1 : Int) := oD z2; have q10 : (x4_1 : Int) < ((x3_1.length : Int) : Int) := oD z2; obtain ⟨go10, eS, eo10, lB, gl10, cl10, HG10⟩ := Kd.R_form cw.out (by omega); (first | cases eo10 | (injection eo10 with ea_ en_ ec_; (first | subst ea_ | (injection ea_ with ea_; subst ea_)); subst ec_; clear en_)); have GB10 := aM lB; have GG10 := aM HG10; clear lB gl10 HG10; obtain ⟨ce10, hcl10, hM10, hcc10, hfr10⟩ := Kd.R_elem cw.out z59 (x4_1 : Int) p10 q10; obtain rfl := k59_openM hM10; have hx10_0 : w11.cell? ⟨go10, (x4_1 : Int).toNat * 3, none⟩ = some (.int .i64 ((rd_T59 x3_1 x4_1).f0)) := hcc10 0 _ rfl; have hx10_1 : w11.cell? ⟨go10, (x4_1 : Int).toNat * 3 + 1, none⟩ = some (.string ((rd_T59 x3_1 x4_1).f1)) := hcc10 1 _ rfl; have hx10_2 : w11.cell? ⟨go10, (x4_1 : Int).toNat * 3 + 2, none⟩ = some (.string ((rd_T59 x3_1 x4_1).f2)) := hcc10 2 _ rfl; have hf10_0 : w11.frozen? ⟨go10, (x4_1 : Int).toNat * 3, none⟩ = false := hfr10 0; have hf10_1 : w11.frozen? ⟨go10, (x4_1 : Int).toNat * 3 + 1, none⟩ = false := hfr10 1; have hf10_2 : w11.frozen? ⟨go10, (x4_1 : Int).toNat * 3 + 2, none⟩ = false := hfr10 2; clear hcl10 hcc10 hfr10; (try clear hM10); replace p10 := eq_true p10; replace q10 := eq_true q10; have HX12 := aM (show Kd.R k59 59 w11 w.heap.size (fun _ => True) (.slice (some ⟨go10, 0, none⟩) x3_1.length eS) x3_1 from (by (with_reducible repeat (first | apply ae | apply ac | apply aa)); exact cw.out)); obtain ⟨ce12, hcl12, hM12, hcc12, hfr12⟩ := Kd.R_elem HX12.out z59 (x4_1 : Int) (oD z2) (by have h_ : (x4_1 : Int) < ((x3_1.length : Int) : Int) := oD z2; first | exact h_ | (have e_ := (ai cw.out).1; omega) | simpa using h_); obtain rfl := k59_openM hM12; have HP12 := Kd.R_seg HX12.out (x4_1 : Int) (oD z2) (by have h_ : (x4_1 : Int) < ((x3_1.length : Int) : Int) := oD z2; first | exact h_ | (have e_ := (ai cw.out).1; omega) | simpa using h_) (seg := [.int .i64 kS, .string je, .string kR]) (j := 0) hcl12 hcc12 (show 3 ≤ 3 from by decide) (x' := (⟨kS, je, kR⟩ : S59)) (k59_mkM _ _ _ (⟨kS, je, kR⟩ : S59) ) (fun _ hk => hk); have hx12_0 := hcc12 0 _ rfl; (try simp only [show (k59).sz = 3 from rfl, Nat.mul_one, Nat.add_zero] at hx12_0); have hf12_0 := hfr12 0; (try simp only [show (k59).sz = 3 from rfl, Nat.mul_one, Nat.add_zero] at hf12_0); have hx12_1 := hcc12 1 _ rfl; (try simp only [show (k59).sz = 3 from rfl, Nat.mul_one, Nat.add_zero] at hx12_1); have hf12_1 := hfr12 1; (try simp only [show (k59).sz = 3 from rfl, Nat.mul_one, Nat.add_zero] at hf12_1); have hx12_2 := hcc12 2 _ rfl; (try simp only [show (k59).sz = 3 from rfl, Nat.mul_one, Nat.add_zero] at hx12_2); have hf12_2 := hfr12 2; (try simp only [show (k59).sz = 3 from rfl, Nat.mul_one, Nat.add_zero] at hf12_2); clear hcl12 hcc12 hfr12; (try clear hM12)) | ((with_reducible refine gate_store (t := 59) (p := 21) rfl ?_); refine store_event (t := 59) (p := 21) (v := ?vo_w13) (w1 := (((w11.setCell ⟨go10, (x4_1 : Int).toNat * 3, none⟩ (.int .i64 kS)).setCell ⟨go10, (x4_1 : Int).toNat * 3 + 1, none⟩ (.string je)).setCell ⟨go10, (x4_1 : Int).toNat * 3 + 2, none⟩ (.string kR))) ?hg ?ho ?hn ?hr ?_; (case ho => rfl); (case hg => rfl); (case hn => rfl); (case hr => first | (go_simp; done) | (go_simp; rfl) | ((try simp only [aV] at *); go_simp; first | done | rfl)); intro w13 hw; have hg : w11.grownBy w13 (some go10) := (by rw [hw]; exact HP12.2); have hp_ : Kd.R k59 59 w13 w.heap.size (fun _ => True) (.slice (some ⟨go10, 0, none⟩) x3_1.length eS) y203 := (by rw [hw, Ny203.out]; exact HP12.1); clear HP12; have a6 := aM (hp_); have ba := aM ((by rw [hw]; exact ax (ax (ax (HB.out) GB10.out) GB10.out) GB10.out : Below w.heap.size w w13)); clear cw; clear HB; have cw := a6; have HB := ba; clear a6 ba; clear hg hw hp_))
        go_roundg k1
        case measure => have := HK1.out; omega
        case rel => exact ⟨(y203), (wrap64 (x4_1 + 1)), z1, H', ⟨y0⟩, ⟨y5⟩, ⟨y4⟩⟩
       ·rw [if_neg c9] at H
        exact absurd H (by simp)
      ·rw [if_neg c7] at H
       exact absurd H (by simp)
     ·rw [if_neg c6] at H
      have c6b0 : decide (x4_1 < (l0.length : Int)) = false := dF c6
      clear c6
      obtain rfl := sI H
      go_wp2
      go_ret
      exact ⟨_, y3, y5, y4⟩
  ·rw [if_neg c3] at H
   exact absurd H (by simp)
 ·rw [if_neg c2] at H
  exact absurd H (by simp)

/-! ### impl_sizes: function 57 -/
def impl_sizes.l0 : Nat → Int → Int → List (S59) → Int → Int → Option (Int × Int)
 | 0, _, _, _, _, _ => none
 | k + 1, x4, x5, x8, x9, x10 => if x10 < x9 then (if 0 ≤ x10 then (if x10 < (x8.length : Int) then (impl_sizes.l0 k (wrap64 (x4 + (wrap64 (((rd_T59 x8 x10).f0) + (((rd_T59 x8 x10).f2).size : Int))))) (wrap64 (x5 + (wrap64 (((rd_T59 x8 x10).f0) + (((rd_T59 x8 x10).f1).size : Int))))) x8 x9 (wrap64 (x10 + 1))) else (none)) else (none)) else (some (x4, x5))
def impl_sizes.f (k : Nat) (l0 : List (S59)) : Option (Int × Int) := impl_sizes.l0 k 0 0 l0 (l0.length : Int) 0
theorem impl_sizes.mono_l : ∀ k, (∀ y0 y1 y2 y3 y4, LeO (impl_sizes.l0 k y0 y1 y2 y3 y4) (impl_sizes.l0 (k + 1) y0 y1 y2 y3 y4))
 | 0 => fun _ _ _ _ _ r h => by simp [impl_sizes.l0] at h
 | k + 1 => by
  have ih0 := impl_sizes.mono_l k
  ·intro y0 y1 y2 y3 y4
   unfold impl_sizes.l0
   repeat' first
   | (with_reducible exact ih0 _ _ _ _ _)
   | (with_reducible exact LeO.refl _)
   | (with_reducible exact LeO.none _)
   | (with_reducible refine LeO.ite ?_ ?_)
   | (with_reducible refine LeO.bind ?_ (fun _ => ?_))
   | exact ih0 _ _ _ _ _
   | exact LeO.none _
   | refine LeO.ite ?_ ?_
   | refine LeO.bind ?_ (fun _ => ?_)
theorem impl_sizes.mono : ∀ a0 k, LeO (impl_sizes.f k a0) (impl_sizes.f (k + 1) a0) := by
 intro a0 k
 have ih0 := impl_sizes.mono_l k
 unfold impl_sizes.f
 repeat' first
   | (with_reducible exact ih0 _ _ _ _ _)
   | (with_reducible exact LeO.refl _)
   | (with_reducible exact LeO.none _)
   | (with_reducible refine LeO.ite ?_ ?_)
   | (with_reducible refine LeO.bind ?_ (fun _ => ?_))
   | exact ih0 _ _ _ _ _
   | exact LeO.none _
   | refine LeO.ite ?_ ?_
   | refine LeO.bind ?_ (fun _ => ?_)
set_option maxHeartbeats 8000000 in
set_option maxRecDepth 100000 in
theorem impl_sizes.calls (k : Nat) (A0 : Option Addr) (c0 : Nat) (l0 : List (S59)) (r1 : Int) (r2 : Int) (w : World) (hr0 : Kd.C k59 w A0 l0.length l0) (hc0 : l0.length ≤ c0) (h : impl_sizes.f k l0 = some (r1, r2)) :
  Calls Try.prog 57 #[.slice A0 l0.length c0] w fun e w' => e = .returned (.tuple #[.int .i64 r1, .int .i64 r2]) ∧ Below w.heap.size w w' := by
 have hu59 := Try.underlying59
 have bY := aM hr0
 have cQ := aM hc0
 clear hr0 hc0
 have HB := aM (Below.refl w.heap.size w)
 have H : (impl_sizes.l0 k 0 0 l0 (l0.length : Int) 0) = some (r1, r2) := h
 clear h
 have H' := aM H
 clear H
 go_enter Try.func57, Try.ntmps57
 go_wp2
 go_loopg [4, 5, 10] k (fun kq v4 v5 v10 w' => ∃ (x4_1 : Int) (x5_1 : Int) (x10_1 : Int), v4 = .int .i64 x4_1 ∧ v5 = .int .i64 x5_1 ∧ v10 = .int .i64 x10_1 ∧ Aside0 (impl_sizes.l0 kq x4_1 x5_1 l0 (l0.length : Int) x10_1 = some (r1, r2)) ∧ Aside0 (kq ≤ k) ∧ Aside0 (Below w.heap.size w w'))
 case atStart => exact ⟨(0), (0), (0), z1, z1, z1, H', ⟨Nat.le_refl _⟩, ⟨y4⟩⟩
 case round =>
  clear H'
  obtain ⟨x4_1, x5_1, x10_1, rfl, rfl, rfl, HA, HK1, HB⟩ := hrel
  cases gk with
  | zero => exact absurd HA.out (by simp [impl_sizes.l0])
  | succ k1 =>
   have H := HA.out
   clear HA
   simp only [impl_sizes.l0] at H
   by_cases c2 : x10_1 < (l0.length : Int)
   ·rw [if_pos c2] at H
    have c2b0 : decide (x10_1 < (l0.length : Int)) = true := dT c2
    clear c2
    by_cases c3 : 0 ≤ x10_1
    ·rw [if_pos c3] at H
     have c3b0 : decide (0 ≤ x10_1) = true := dT c3
     clear c3
     by_cases c4 : x10_1 < (l0.length : Int)
     ·rw [if_pos c4] at H
      have c4b0 : decide (x10_1 < (l0.length : Int)) = true := dT c4
      clear c4
      have H' := aM H
      clear H
      have p204 : 0 ≤ (x10_1 : Int) := oD z2
      have q204 : x10_1 < (l0.length : Int) := oD z2
      obtain ⟨ad204, e204, hx204_0, hx204_1, hx204_2⟩ := at_T59 bY.out x10_1 p204 q204
      cases e204
      replace hx204_0 := (HB.out.cell (World.block_lt_of_cell? w _ hx204_0)).trans hx204_0
      replace hx204_1 := (HB.out.cell (World.block_lt_of_cell? w _ hx204_1)).trans hx204_1
      replace hx204_2 := (HB.out.cell (World.block_lt_of_cell? w _ hx204_2)).trans hx204_2
      replace p204 := eq_true p204
      replace q204 := eq_true q204
      go_wp2_with (first | ((with_reducible refine aJ (N := 7) rfl ?_); refine aK ?hg (N := 7) ?hd (cs := #[.int .i64 0, .string (⟨#[]⟩ : ByteArray), .string (⟨#[]⟩ : ByteArray)]) (t := 59) ?hr ?_; (case hd => rfl); (case hg => rfl); (case hr => first | (go_simp; done) | (go_simp; rfl)); intro jo hg w5 hbox hb; have a6 := aM (ay z11 hb); have ba := aM (hbox); have bb := aM ((by rw [hg]; exact (az z11) : w.heap.size ≤ jo)); have bf := aM ((by rw [hg]; exact (az z11) : w.heap.size ≤ jo)); clear HB; have HB := a6; have g9 := ba; have GW205 := bb; have GE205 := bf; clear a6 ba bb bf; clear hb hbox hg; have dL : w5.cell? ⟨jo, 0, none⟩ = some (.int .i64 0) := (bC g9.out 0).trans rfl; have jP : w5.cell? ⟨jo, 1, none⟩ = some (.string (⟨#[]⟩ : ByteArray)) := (bC g9.out 1).trans rfl; have jO : w5.cell? ⟨jo, 2, none⟩ = some (.string (⟨#[]⟩ : ByteArray)) := (bC g9.out 2).trans rfl; have dK := bF g9.out 0; have jN := bF g9.out 1; have jM := bF g9.out 2))
      go_roundg k1
      case measure => have := HK1.out; omega
      case rel => exact ⟨(wrap64 (x4_1 + (wrap64 (((rd_T59 l0 x10_1).f0) + (((rd_T59 l0 x10_1).f2).size : Int))))), (wrap64 (x5_1 + (wrap64 (((rd_T59 l0 x10_1).f0) + (((rd_T59 l0 x10_1).f1).size : Int))))), (wrap64 (x10_1 + 1)), z1, z1, z1, H', ⟨y0⟩, ⟨by repeat (first | (with_reducible first | exact HB.out | apply bA | apply pD | apply bD | refine ax ?_ GE205.out) | exact HB.out)⟩⟩
     ·rw [if_neg c4] at H
      exact absurd H (by simp)
    ·rw [if_neg c3] at H
     exact absurd H (by simp)
   ·rw [if_neg c2] at H
    have c2b0 : decide (x10_1 < (l0.length : Int)) = false := dF c2
    clear c2
    simp only [Option.some.injEq, Prod.mk.injEq] at H
    obtain ⟨rfl, rfl⟩ := H
    go_wp2
    go_ret2
    exact ⟨y3, y4⟩

/-! ### impl_isName: function 75 -/
def impl_isName.f (a0 : Int) : Option (Bool) := if a0 ≥ 65 then (some (decide (a0 ≤ 70))) else (some false)
set_option maxHeartbeats 8000000 in
set_option maxRecDepth 100000 in
theorem impl_isName.calls (a0 : Int) (r : Bool) (w : World) (h : impl_isName.f a0 = some r) :
  Calls Try.prog 75 #[.int .u8 a0] w fun e w' => e = .returned (.bool r) ∧ Drawn0 w w' := by
 have H : (if a0 ≥ 65 then (some (decide (a0 ≤ 70))) else (some false)) = some r := h
 clear h
 by_cases c2 : a0 ≥ 65
 ·rw [if_pos c2] at H
  have c2b0 : decide (65 ≤ a0) = true := dT c2
  clear c2
  obtain rfl := sI H
  go_enter Try.func75, Try.ntmps75
  go_wp2
  go_ret
  exact ⟨y1, y2⟩
 ·rw [if_neg c2] at H
  have c2b0 : decide (65 ≤ a0) = false := dF c2
  clear c2
  obtain rfl := sI H
  go_enter Try.func75, Try.ntmps75
  go_wp2
  go_ret
  exact ⟨y1, y2⟩

end Go.Proofs.Ytblnnbaeiggmoaa.AFnExactEditRope
