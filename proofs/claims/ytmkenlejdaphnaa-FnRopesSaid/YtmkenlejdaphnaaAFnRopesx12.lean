-- this session's own text: written by wip/tools/ownprint.py over the kit's print
import Derived.Test.YtmkenlejdaphnaaAFnRopesx0
import Derived.Test.YtmkenlejdaphnaaAFnRopesx3
import Derived.Test.YtmkenlejdaphnaaAFnRopesx5
import Derived.Test.YtmkenlejdaphnaaAFnRopesx6
import Derived.Test.YtmkenlejdaphnaaAFnRopesx7
import Derived.Test.YtmkenlejdaphnaaAFnRopesx10
import Derived.Test.YtmkenlejdaphnaaAFnRopesx11
namespace Go.Proofs.Ytmkenlejdaphnaa.AFnRopes
open Go.RowKit Go.Proofs.YtmkenlejdaphnaaW.PrintWords Go.Proofs.YtmkenlejdaphnaaW.PrintLast Go.Proofs.YtmkenlejdaphnaaW.PrintMore
attribute [local go_sem] max2_int min2_int max_two min_two max_three min_three max_four min_four   -- for this text's walks alone
set_option linter.unusedVariables false
set_option linter.unusedSimpArgs false

/-! ### spec_EditRope: function 91, by hand -/
def eJ (k : Nat) : List ByteArray → List S58 → Option (List S58)
 | [], out => some out
 | s :: ss, out => (spec_l12Piece.f s).bind fun p => (spec_l12Join.f k out p).bind fun q => eJ k ss q
def eL (k : Nat) : List S120 → List S58 → List S58 → Option (List S58)
 | [], _, out => some out
 | p :: ps, rest, out =>
  if p.f1.toList ≠ [] then ((spec_l12Cut.f k p.f1).bind fun cs => if cs.length ≤ 100000000 then ((eJ k cs out).bind fun o2 => eL k ps rest o2) else none)
  else ((spec_l12Split.f k rest (wrap64 (p.f0 + (p.f2.size : Int)))).bind fun ab =>
   if p.f0 = 0 then eL k ps ab.2 out else ((spec_l12Pieces.f k ab.1).bind fun pc => if pc.length ≤ 100000000 then ((eJ k pc out).bind fun o2 => eL k ps ab.2 o2) else none))
theorem eJ_mono (k : Nat) : ∀ (ss : List ByteArray) (out : List S58), LeO (eJ k ss out) (eJ (k + 1) ss out)
 | [], _ => LeO.refl _
 | s :: ss, out => LeO.bind (LeO.refl _) (fun _ => LeO.bind (spec_l12Join.mono _ _ _) (fun _ => eJ_mono k ss _))
theorem eL_mono (k : Nat) : ∀ (ps : List S120) (rest out : List S58), LeO (eL k ps rest out) (eL (k + 1) ps rest out)
 | [], _, _ => LeO.refl _
 | p :: ps, rest, out => LeO.ite (LeO.bind (spec_l12Cut.mono _ _) (fun _ => LeO.ite (LeO.bind (eJ_mono k _ _) (fun _ => eL_mono k ps _ _)) (LeO.none _)))
   (LeO.bind (spec_l12Split.mono _ _ _) (fun _ => LeO.ite (eL_mono k ps _ _) (LeO.bind (spec_l12Pieces.mono _ _) (fun _ => LeO.ite (LeO.bind (eJ_mono k _ _) (fun _ => eL_mono k ps _ _)) (LeO.none _)))))
theorem eJ_at (k : Nat) (cs : List ByteArray) (out : List S58) (j : Nat) (h : j < cs.length) : eJ k (cs.drop j) out = (spec_l12Piece.f (rdOf ByteArray.empty cs (j : Int))).bind fun p => (spec_l12Join.f k out p).bind fun q => eJ k (cs.drop (j + 1)) q := by
 rw [List.drop_eq_getElem_cons h]
 unfold rdOf
 rw [aY, List.getD_eq_getElem?_getD, aX h]
 rfl
theorem eL_at (k : Nat) (l1 : List S120) (rest out : List S58) (i : Nat) (h : i < l1.length) : eL k (l1.drop i) rest out = if (rd_T120 l1 (i : Int)).f1.toList ≠ [] then ((spec_l12Cut.f k (rd_T120 l1 (i : Int)).f1).bind fun cs => if cs.length ≤ 100000000 then ((eJ k cs out).bind fun o2 => eL k (l1.drop (i + 1)) rest o2) else none)
  else ((spec_l12Split.f k rest (wrap64 ((rd_T120 l1 (i : Int)).f0 + ((rd_T120 l1 (i : Int)).f2.size : Int)))).bind fun ab =>
   if (rd_T120 l1 (i : Int)).f0 = 0 then eL k (l1.drop (i + 1)) ab.2 out else ((spec_l12Pieces.f k ab.1).bind fun pc => if pc.length ≤ 100000000 then ((eJ k pc out).bind fun o2 => eL k (l1.drop (i + 1)) ab.2 o2) else none)) := by
 rw [List.drop_eq_getElem_cons h]
 unfold rd_T120
 rw [aY, List.getD_eq_getElem?_getD, aX h]
 rfl
def spec_EditRope.f (k : Nat) (l0_0 : List S58) (l1 : List S120) : Option (List S58 × Bool) :=
 (spec_GoodRope.f k l0_0).bind fun g => if g = true then ((spec_GoodOp.f k l1).bind fun g2 => if g2 = true then
  ((spec_l12Text.f k l0_0).bind fun t => (spec_l3Apply.f k l1 t).bind fun ao => if ao.2 = true then
   (if l1.length ≤ 100000000 then ((eL k l1 l0_0 []).bind fun out => if out.length < 2932031007402 then ((spec_GoodRope.f k out).bind fun g3 => if g3 = true then some (out, true) else some ([], false)) else none) else none)
  else some ([], false)) else some ([], false)) else some ([], false)
theorem spec_EditRope.mono : ∀ a0 a1 k, LeO (spec_EditRope.f k a0 a1) (spec_EditRope.f (k + 1) a0 a1) := fun a0 a1 k =>
 LeO.bind (spec_GoodRope.mono _ _) (fun _ => LeO.ite (LeO.bind (spec_GoodOp.mono _ _) (fun _ => LeO.ite (LeO.bind (spec_l12Text.mono _ _) (fun _ => LeO.bind (spec_l3Apply.mono _ _ _) (fun _ => LeO.ite (LeO.ite (LeO.bind (eL_mono k _ _ _) (fun _ => LeO.ite (LeO.bind (spec_GoodRope.mono _ _) (fun _ => LeO.refl _)) (LeO.none _))) (LeO.none _)) (LeO.refl _)))) (LeO.refl _))) (LeO.refl _))
/-- What stands through the whole call. -/
def EdF (A0 : Option Addr) (c0 : Nat) (l0 : List S58) (A1 : Option Addr) (l1 : List S120) (w W : World) : Prop := Below w.heap.size w W ∧ W.heap[w.heap.size]? = some (.cells #[.slice A0 l0.length c0] 29 (0, 0)) ∧ W.heap[w.heap.size + 1]? = some (.cells #[.slice none 0 0] 29 (0, 0)) ∧ Kd.C k58 W A0 l0.length l0 ∧ Kd.C k120 W A1 l1.length l1
section
variable {A0 : Option Addr} {c0 : Nat} {l0 : List S58} {A1 : Option Addr} {l1 : List S120} {w W W' : World}
theorem EdF.below (h : EdF A0 c0 l0 A1 l1 w W) (hb : Below W.heap.size W W') : EdF A0 c0 l0 A1 l1 w W' := ⟨aA h.1 hb, af h.2.1 hb, af h.2.2.1 hb, aG h.2.2.2.1 hb, aG h.2.2.2.2 hb⟩
theorem EdF.alloc (h : EdF A0 c0 l0 A1 l1 w W) (o : Obj) : EdF A0 c0 l0 A1 l1 w (W.alloc o) := h.below (bA (Below.refl _ _) _)
theorem EdF.drewN (h : EdF A0 c0 l0 A1 l1 w W) (n : Nat) : EdF A0 c0 l0 A1 l1 w (W.drewN n) := h.below (pD (Below.refl _ _) _)
theorem EdF.drew (h : EdF A0 c0 l0 A1 l1 w W) : EdF A0 c0 l0 A1 l1 w W.drew := h.below (below_drew (Below.refl _ _))
end
set_option maxHeartbeats 8000000 in
set_option maxRecDepth 100000 in
theorem spec_EditRope.calls (k : Nat) (ce : Option Addr) (ci : Nat) (l0_0 : List S58) (A1 : Option Addr) (c1 : Nat) (l1 : List S120) (r1 : List S58) (r2 : Bool) (w : World) (hr0_0 : Kd.C k58 w ce l0_0.length l0_0) (hc0_0 : l0_0.length ≤ ci) (hr1 : Kd.C k120 w A1 l1.length l1) (hc1 : l1.length ≤ c1) (h : spec_EditRope.f k l0_0 l1 = some (r1, r2)) :
  Calls Try.prog 91 #[.agg #[.slice ce l0_0.length ci], .slice A1 l1.length c1] w fun e w' => ∃ v0_ : Value, e = .returned (.tuple #[.agg #[v0_], .bool r2]) ∧ Kd.R k58 58 w' w.heap.size (fun _ => True) v0_ r1 ∧ Below w.heap.size w w' := by
 obtain ⟨W2, hW2⟩ : ∃ W2, (w.alloc (.cells #[.slice ce l0_0.length ci] 29)).alloc (.cells #[.slice none 0 0] 29) = W2 := ⟨_, rfl⟩
 have HWB : Below w.heap.size w W2 := by rw [← hW2]; exact bA (bA (Below.refl _ _) _) _
 have HF : Aside0 (EdF ce ci l0_0 A1 l1 w W2) := ⟨HWB, by rw [← hW2]; have := av (blk_new w (.cells #[.slice ce l0_0.length ci] 29)) (.cells #[.slice none 0 0] 29); simpa using this, by rw [← hW2]; have := blk_new (w.alloc (.cells #[.slice ce l0_0.length ci] 29)) (.cells #[.slice none 0 0] 29); simpa using this, aG hr0_0 HWB, aG hr1 HWB⟩
 have HWE := aM hW2
 have eV := aM hc0_0
 have eN := aM hc1
 have hu59 := Try.underlying120
 obtain ⟨gg, hg, h⟩ := oB h
 have HG := aM hg
 clear HWB hr0_0 hc0_0 hr1 hc1 hg hW2
 cases gg with
 | false =>
  rw [if_neg (by simp)] at h
  obtain ⟨rfl, rfl⟩ := Prod.mk.inj (sI h)
  clear h
  go_enter Try.func91, Try.ntmps91
  go_wp2_with (first | (go_at_call 15; (try rw [HWE.out]); refine (spec_GoodRope.calls k _ _ l0_0 _ _ (by repeat (first | exact HF.out.2.2.2.1 | (with_reducible refine aH ?_ _) | (with_reducible refine aI ?_ _) | (with_reducible refine aJ ?_))) eV.out HG.out).mono ?_; rintro e w1 ⟨rfl, hb⟩; replace HF := aM (EdF.below z24 hb); (try clear cA cB); have cA : w1.cell? ⟨w.heap.size, 0, none⟩ = some (.slice ce l0_0.length ci) := (bC HF.out.2.1 0).trans rfl; have cB : w1.cell? ⟨w.heap.size + 1, 0, none⟩ = some (.slice none 0 0) := (bC HF.out.2.2.1 0).trans rfl; have fB := bF HF.out.2.2.1 0; clear hb))
  refine aU (aV rfl _ _ (w.heap.size + 1) 29 #[.slice none 0 0] (0, 0) _ rfl (by exact ax (cs := #[.slice none 0 0]) HF.out.2.2.1 0 _ rfl) Try.underlying29 rfl z1) rfl ?_
  exact ⟨_, rfl, Kd.R_nil _ _ _ _ _, az HF.out.1 (by omega)⟩
 | true =>
 rw [if_pos rfl] at h
 obtain ⟨g2, hg2, h⟩ := oB h
 have HG2 := aM hg2
 clear hg2
 cases g2 with
 | false =>
  rw [if_neg (by simp)] at h
  obtain ⟨rfl, rfl⟩ := Prod.mk.inj (sI h)
  clear h
  go_enter Try.func91, Try.ntmps91
  go_wp2_with (first | (go_at_call 15; (try rw [HWE.out]); refine (spec_GoodRope.calls k _ _ l0_0 _ _ (by repeat (first | exact HF.out.2.2.2.1 | (with_reducible refine aH ?_ _) | (with_reducible refine aI ?_ _) | (with_reducible refine aJ ?_))) eV.out HG.out).mono ?_; rintro e w1 ⟨rfl, hb⟩; replace HF := aM (EdF.below z24 hb); (try clear cA cB); have cA : w1.cell? ⟨w.heap.size, 0, none⟩ = some (.slice ce l0_0.length ci) := (bC HF.out.2.1 0).trans rfl; have cB : w1.cell? ⟨w.heap.size + 1, 0, none⟩ = some (.slice none 0 0) := (bC HF.out.2.2.1 0).trans rfl; have fB := bF HF.out.2.2.1 0; clear hb) | (go_at_call 96; refine (spec_GoodOp.calls k _ _ l1 _ _ z25 eN.out HG2.out).mono ?_; rintro e w2 ⟨rfl, hb⟩; replace HF := aM (EdF.below z24 hb); (try clear cA cB); have cA : w2.cell? ⟨w.heap.size, 0, none⟩ = some (.slice ce l0_0.length ci) := (bC HF.out.2.1 0).trans rfl; have cB : w2.cell? ⟨w.heap.size + 1, 0, none⟩ = some (.slice none 0 0) := (bC HF.out.2.2.1 0).trans rfl; have fB := bF HF.out.2.2.1 0; clear hb))
  refine aU (aV rfl _ _ (w.heap.size + 1) 29 #[.slice none 0 0] (0, 0) _ rfl (by exact ax (cs := #[.slice none 0 0]) HF.out.2.2.1 0 _ rfl) Try.underlying29 rfl z1) rfl ?_
  exact ⟨_, rfl, Kd.R_nil _ _ _ _ _, az HF.out.1 (by omega)⟩
 | true =>
 rw [if_pos rfl] at h
 obtain ⟨tt, ht, h⟩ := oB h
 obtain ⟨ao, ha, h⟩ := oB h
 have HT := aM ht
 have HA : Aside0 (spec_l3Apply.f k l1 tt = some (ao.1, ao.2)) := ⟨ha⟩
 clear ht ha
 obtain ⟨ao1, ao2⟩ := ao
 cases ao2 with
 | false =>
  rw [if_neg (by simp)] at h
  obtain ⟨rfl, rfl⟩ := Prod.mk.inj (sI h)
  clear h
  go_enter Try.func91, Try.ntmps91
  go_wp2_with (first | (go_at_call 15; (try rw [HWE.out]); refine (spec_GoodRope.calls k _ _ l0_0 _ _ (by repeat (first | exact HF.out.2.2.2.1 | (with_reducible refine aH ?_ _) | (with_reducible refine aI ?_ _) | (with_reducible refine aJ ?_))) eV.out HG.out).mono ?_; rintro e w1 ⟨rfl, hb⟩; replace HF := aM (EdF.below z24 hb); (try clear cA cB); have cA : w1.cell? ⟨w.heap.size, 0, none⟩ = some (.slice ce l0_0.length ci) := (bC HF.out.2.1 0).trans rfl; have cB : w1.cell? ⟨w.heap.size + 1, 0, none⟩ = some (.slice none 0 0) := (bC HF.out.2.2.1 0).trans rfl; have fB := bF HF.out.2.2.1 0; clear hb) | (go_at_call 96; refine (spec_GoodOp.calls k _ _ l1 _ _ z25 eN.out HG2.out).mono ?_; rintro e w2 ⟨rfl, hb⟩; replace HF := aM (EdF.below z24 hb); (try clear cA cB); have cA : w2.cell? ⟨w.heap.size, 0, none⟩ = some (.slice ce l0_0.length ci) := (bC HF.out.2.1 0).trans rfl; have cB : w2.cell? ⟨w.heap.size + 1, 0, none⟩ = some (.slice none 0 0) := (bC HF.out.2.2.1 0).trans rfl; have fB := bF HF.out.2.2.1 0; clear hb) | (go_at_call 54; refine (spec_l12Text.calls k _ _ l0_0 tt _ (by repeat (first | exact HF.out.2.2.2.1 | (with_reducible refine aH ?_ _) | (with_reducible refine aI ?_ _) | (with_reducible refine aJ ?_))) eV.out HT.out).mono ?_; rintro e w3 ⟨rfl, hb⟩; replace HF := aM (EdF.below z24 hb); (try clear cA cB); have cA : w3.cell? ⟨w.heap.size, 0, none⟩ = some (.slice ce l0_0.length ci) := (bC HF.out.2.1 0).trans rfl; have cB : w3.cell? ⟨w.heap.size + 1, 0, none⟩ = some (.slice none 0 0) := (bC HF.out.2.2.1 0).trans rfl; have fB := bF HF.out.2.2.1 0; clear hb) | (go_at_call 97; refine (spec_l3Apply.calls k _ _ l1 tt ao1 false _ z25 eN.out HA.out).mono ?_; rintro e w4 ⟨rfl, hb⟩; replace HF := aM (EdF.below z24 hb); (try clear cA cB); have cA : w4.cell? ⟨w.heap.size, 0, none⟩ = some (.slice ce l0_0.length ci) := (bC HF.out.2.1 0).trans rfl; have cB : w4.cell? ⟨w.heap.size + 1, 0, none⟩ = some (.slice none 0 0) := (bC HF.out.2.2.1 0).trans rfl; have fB := bF HF.out.2.2.1 0; clear hb))
  refine aU (aV rfl _ _ (w.heap.size + 1) 29 #[.slice none 0 0] (0, 0) _ rfl (by exact ax (cs := #[.slice none 0 0]) HF.out.2.2.1 0 _ rfl) Try.underlying29 rfl z1) rfl ?_
  exact ⟨_, rfl, Kd.R_nil _ _ _ _ _, az HF.out.1 (by omega)⟩
 | true =>
 rw [if_pos rfl] at h
 by_cases hl1 : l1.length ≤ 100000000
 case neg => rw [if_neg hl1] at h; cases h
 rw [if_pos hl1] at h
 have HL1 := aM hl1
 clear hl1
 obtain ⟨res, he, h⟩ := oB h
 split at h
 case isFalse => cases h
 case isTrue hlen =>
 obtain ⟨g3, hg3, h⟩ := oB h
 have HE := aM he
 have HG3 := aM hg3
 have HH := aM h
 have LM : Aside0 (([] : List S58).length + res.length < 2932031007402) := ⟨by simpa using hlen⟩
 clear he hg3 h hlen
 go_enter Try.func91, Try.ntmps91
 go_upto_region 8 with (first | (go_at_call 15; (try rw [HWE.out]); refine (spec_GoodRope.calls k _ _ l0_0 _ _ (by repeat (first | exact HF.out.2.2.2.1 | (with_reducible refine aH ?_ _) | (with_reducible refine aI ?_ _) | (with_reducible refine aJ ?_))) eV.out HG.out).mono ?_; rintro e w1 ⟨rfl, hb⟩; replace HF := aM (EdF.below z24 hb); (try clear cA cB); have cA : w1.cell? ⟨w.heap.size, 0, none⟩ = some (.slice ce l0_0.length ci) := (bC HF.out.2.1 0).trans rfl; have cB : w1.cell? ⟨w.heap.size + 1, 0, none⟩ = some (.slice none 0 0) := (bC HF.out.2.2.1 0).trans rfl; have fB := bF HF.out.2.2.1 0; clear hb) | (go_at_call 96; refine (spec_GoodOp.calls k _ _ l1 _ _ z25 eN.out HG2.out).mono ?_; rintro e w2 ⟨rfl, hb⟩; replace HF := aM (EdF.below z24 hb); (try clear cA cB); have cA : w2.cell? ⟨w.heap.size, 0, none⟩ = some (.slice ce l0_0.length ci) := (bC HF.out.2.1 0).trans rfl; have cB : w2.cell? ⟨w.heap.size + 1, 0, none⟩ = some (.slice none 0 0) := (bC HF.out.2.2.1 0).trans rfl; have fB := bF HF.out.2.2.1 0; clear hb) | (go_at_call 54; refine (spec_l12Text.calls k _ _ l0_0 tt _ (by repeat (first | exact HF.out.2.2.2.1 | (with_reducible refine aH ?_ _) | (with_reducible refine aI ?_ _) | (with_reducible refine aJ ?_))) eV.out HT.out).mono ?_; rintro e w3 ⟨rfl, hb⟩; replace HF := aM (EdF.below z24 hb); (try clear cA cB); have cA : w3.cell? ⟨w.heap.size, 0, none⟩ = some (.slice ce l0_0.length ci) := (bC HF.out.2.1 0).trans rfl; have cB : w3.cell? ⟨w.heap.size + 1, 0, none⟩ = some (.slice none 0 0) := (bC HF.out.2.2.1 0).trans rfl; have fB := bF HF.out.2.2.1 0; clear hb) | (go_at_call 97; refine (spec_l3Apply.calls k _ _ l1 tt ao1 true _ z25 eN.out HA.out).mono ?_; rintro e w4 ⟨rfl, hb⟩; replace HF := aM (EdF.below z24 hb); (try clear cA cB); have cA : w4.cell? ⟨w.heap.size, 0, none⟩ = some (.slice ce l0_0.length ci) := (bC HF.out.2.1 0).trans rfl; have cB : w4.cell? ⟨w.heap.size + 1, 0, none⟩ = some (.slice none 0 0) := (bC HF.out.2.2.1 0).trans rfl; have fB := bF HF.out.2.2.1 0; clear hb))
 clear cA cB fB HG HG2 HT HA HWE
 go_wp2
 go_loopg [8, 9, 43] l1.length (fun d v8 v9 v43 w' => ∃ (i : Nat) (rest out : List S58) (A8 : Option Addr) (c8 : Nat) (A9 : Option Addr) (c9 : Nat), v43 = .int .i64 (i : Nat) ∧ i + d = l1.length ∧ v8 = .slice A8 rest.length c8 ∧ v9 = .slice A9 out.length c9 ∧ rest.length ≤ c8 ∧ out.length ≤ c9 ∧ Aside0 (Kd.C k58 w' A8 rest.length rest) ∧ Aside0 (Kd.C k58 w' A9 out.length out) ∧ Aside0 (eL k (l1.drop i) rest out = some res) ∧ Aside0 (EdF ce ci l0_0 A1 l1 w w'))
 case atStart => exact ⟨0, l0_0, [], ce, ci, none, 0, rfl, Nat.zero_add _, rfl, rfl, eV.out, Nat.le_refl _, ⟨by repeat (first | exact HF.out.2.2.2.1 | (with_reducible refine aH ?_ _) | (with_reducible refine aI ?_ _) | (with_reducible refine aJ ?_))⟩, ⟨Kd.C_nil _ _⟩, ⟨by rw [List.drop_zero]; exact HE.out⟩, ⟨y15⟩⟩
 case round =>
  clear HF HE
  obtain ⟨i, rest, out, A8, c8, A9, c9, rfl, hid, rfl, rfl, hl8, hlo, CR, CO, HE, HF⟩ := hrel
  have hmx1 := HL1.out
  cases gk with
  | zero =>
   have d0 : decide (i < l1.length) = false := dF (by omega)
   have he := HE.out
   rw [List.drop_of_length_le (by omega)] at he
   obtain rfl := sI he
   clear he HE
   have HLO := aM hlo
   have HSZ := aM HF.out.1.size
   clear hid hmx1 hl8 hlo CR HL1
   go_upto_region 27 with (first | ((with_reducible refine aN (N := 91) rfl ?_); refine Kd.R_lit k58 (w0 := wr) wr.heap.size 58 ?hg (N := 91) ?hd (xs := ([] : List (S58))) (inner := []) (ok := fun _ => True) (okp := fun _ => True) ?hr ?hp (fun _ hk => hk) trivial (Below.refl _ _) (Nat.le_refl _) (by simp) ?_; (case hd => rfl); (case hg => rfl); (case hr => first | (go_simp; done) | (go_simp; rfl)); (case hp => exact (Reps.none _ _)); intro v1 w1 ho1 hb1 hg_ hnew_; have HV1 := aM ho1; have HB1 : Aside0 (Below wr.heap.size wr w1) := ⟨hb1⟩; have HRA := aM (aG CO.out hb1); clear ho1 hb1 hg_ hnew_) | ((with_reducible refine gate_builtin (b := .append) (xs := #[.tmp 91, .tmp 92]) rfl ?_); at_builtin; refine Kd.R_append_rows k58 (w0 := wr) wr.heap.size rfl (.tmp 91) (.tmp 92) 27 58 (.agg #[(.int .i64 0), (.int .i64 0), (.string ⟨#[]⟩), (.int .i64 0), (.int .i64 0)]) 48 rfl Try.underlying27 info58 rfl z0 (by omega) v1 [] out _ _ _ (fun _ => True) (fun _ => False) rfl rfl ?aO ?aR (fun _ _ h => h) (fun _ h => h.elim) (fun _ _ => trivial) ?aB ?aS ?aL ?_; (case aR => repeat (first | exact HRA.out | (with_reducible refine aH ?_ _) | (with_reducible refine aI ?_ _) | (with_reducible refine aJ ?_))); (case aB => exact (by repeat (first | (with_reducible first | exact HB1.out | apply bA | apply pD | apply bD) | exact HB1.out))); (case aO => exact (kR_ HV1.out)); (case aS => exact (aC (by repeat (first | (with_reducible first | exact HB1.out | apply bA | apply pD | apply bD) | exact HB1.out)))); (case aL => have := LM.out; simp only [List.length_nil] at *; omega); intro v2 w2 ho hb hg hat; rw [List.nil_append] at ho; obtain ⟨A2, c2, eo⟩ := Kd.R_slice ho; subst eo; have HV2 := aM ho; have nf_ := aM (EdF.below HF.out hb); clear HF; have HF := nf_; clear nf_ ho hb hg hat))
   obtain ⟨wc, hwc⟩ : ∃ x, w2.alloc (.cells #[.slice A2 out.length c2] 29) = x := ⟨_, rfl⟩
   rw [hwc]
   have hb : Below w2.heap.size w2 wc := by rw [← hwc]; exact bA (Below.refl _ _) _
   have BX : Aside0 (wc.heap[w2.heap.size]? = some (.cells #[.slice A2 out.length c2] 29 (0, 0))) := ⟨by rw [← hwc]; exact blk_new _ _⟩
   have nf_ := aM (EdF.below HF.out hb); clear HF; have HF := nf_; clear nf_
   have HV3 := aM (ag HV2.out hb)
   have jW := aM (ai HV3.out).2.2
   have HL2 := aM (ai HV3.out).2.1
   obtain ⟨gx, hgx⟩ : ∃ g, w2.heap.size = g := ⟨_, rfl⟩
   rw [hgx] at BX ⊢
   clear hb hwc hgx HV2 HRA HV1 HB1 CO HLO
   have hcx_0 : wc.cell? ⟨gx, 0, none⟩ = some (.slice A2 out.length c2) := (bC BX.out 0).trans rfl
   have hh := HH.out
   clear HH
   cases g3 with
   | false =>
    rw [if_neg (by simp)] at hh
    obtain ⟨rfl, rfl⟩ := Prod.mk.inj (sI hh)
    clear hh
    go_wp2_with (first | (go_at_call 15; refine (spec_GoodRope.calls k _ _ out _ _ (by repeat (first | exact jW.out | (with_reducible refine aH ?_ _) | (with_reducible refine aI ?_ _) | (with_reducible refine aJ ?_))) HL2.out HG3.out).mono ?_; rintro e w5 ⟨rfl, hb⟩; replace HF := aM (EdF.below z24 hb); have nx_ := aM (af BX.out hb); clear BX hcx_0; have BX := nx_; have nv_ := aM (ag HV3.out hb); clear HV3 nx_; have HV3 := nv_; have hcx_0 : w5.cell? ⟨gx, 0, none⟩ = some (.slice A2 out.length c2) := (bC BX.out 0).trans rfl; have cB : w5.cell? ⟨w.heap.size + 1, 0, none⟩ = some (.slice none 0 0) := (bC HF.out.2.2.1 0).trans rfl; have fB := bF HF.out.2.2.1 0; clear hb nv_))
    refine aU (aV rfl _ _ (w.heap.size + 1) 29 #[.slice none 0 0] (0, 0) _ rfl (by exact ax (cs := #[.slice none 0 0]) HF.out.2.2.1 0 _ rfl) Try.underlying29 rfl z1) rfl ?_
    exact ⟨_, rfl, Kd.R_nil _ _ _ _ _, az HF.out.1 (by omega)⟩
   | true =>
    rw [if_pos rfl] at hh
    obtain ⟨rfl, rfl⟩ := Prod.mk.inj (sI hh)
    clear hh
    go_wp2_with (first | (go_at_call 15; refine (spec_GoodRope.calls k _ _ out _ _ (by repeat (first | exact jW.out | (with_reducible refine aH ?_ _) | (with_reducible refine aI ?_ _) | (with_reducible refine aJ ?_))) HL2.out HG3.out).mono ?_; rintro e w5 ⟨rfl, hb⟩; replace HF := aM (EdF.below z24 hb); have nx_ := aM (af BX.out hb); clear BX hcx_0; have BX := nx_; have nv_ := aM (ag HV3.out hb); clear HV3 nx_; have HV3 := nv_; have hcx_0 : w5.cell? ⟨gx, 0, none⟩ = some (.slice A2 out.length c2) := (bC BX.out 0).trans rfl; have cB : w5.cell? ⟨w.heap.size + 1, 0, none⟩ = some (.slice none 0 0) := (bC HF.out.2.2.1 0).trans rfl; have fB := bF HF.out.2.2.1 0; clear hb nv_))
    refine aU (aV rfl _ _ (w.heap.size + 1) 29 #[.slice A2 out.length c2] (0, 0) _ rfl (by exact ax (cs := #[.slice none 0 0]) HF.out.2.2.1 0 _ rfl) Try.underlying29 rfl z1) rfl ?_
    exact ⟨_, rfl, Kd.R_set (aW HV3.out HSZ.out) HF.out.2.2.1 z0 0 _, az HF.out.1 (by omega)⟩
  | succ gk0 =>
   have d0 : decide (i < l1.length) = true := dT (by omega)
   have hlt : i < l1.length := by omega
   have hlt' : (i : Int) < (l1.length : Int) := by omega
   have hi2 : (i : Int) + 1 ≤ 100000000 := by omega
   clear hmx1
   have HID := aM hid
   have HI2 := aM hi2
   have he := HE.out
   rw [eL_at k l1 rest out i (by omega)] at he
   obtain ⟨ad, e_, hx0, hx1, hx2⟩ := at_T120 HF.out.2.2.2.2 (i : Int) (by omega) (by omega)
   simp only [aY] at hx0 hx1 hx2
   cases e_
   clear hid hi2
   go_upto_region 11 with (fail)
   clear d0 hlt hlt'
   obtain ⟨wc, hwc⟩ : ∃ x, wr.alloc (.cells #[.int .i64 ((rd_T120 l1 (i : Int)).f0), .string ((rd_T120 l1 (i : Int)).f1), .string ((rd_T120 l1 (i : Int)).f2)] 120) = x := ⟨_, rfl⟩
   rw [hwc]
   have hb : Below wr.heap.size wr wc := by rw [← hwc]; exact bA (Below.refl _ _) _
   have BX : Aside0 (wc.heap[wr.heap.size]? = some (.cells #[.int .i64 ((rd_T120 l1 (i : Int)).f0), .string ((rd_T120 l1 (i : Int)).f1), .string ((rd_T120 l1 (i : Int)).f2)] 120 (0, 0))) := ⟨by rw [← hwc]; exact blk_new _ _⟩
   have nf_ := aM (EdF.below z24 hb); have nc0_ := aM (aG (by repeat (first | exact CR.out | (with_reducible refine aH ?_ _) | (with_reducible refine aI ?_ _) | (with_reducible refine aJ ?_))) hb); have nc1_ := aM (aG (by repeat (first | exact CO.out | (with_reducible refine aH ?_ _) | (with_reducible refine aI ?_ _) | (with_reducible refine aJ ?_))) hb); clear HF CR CO; have HF := nf_; clear nf_; have CR := nc0_; clear nc0_; have CO := nc1_; clear nc1_
   obtain ⟨gx, hgx⟩ : ∃ g, wr.heap.size = g := ⟨_, rfl⟩
   rw [hgx] at BX ⊢
   clear hb hwc hgx hx0 hx1 hx2
   have hcx_0 : wc.cell? ⟨gx, 0, none⟩ = some (.int .i64 ((rd_T120 l1 (i : Int)).f0)) := (bC BX.out 0).trans rfl; have hfx_0 := bF BX.out 0; have hcx_1 : wc.cell? ⟨gx, 1, none⟩ = some (.string ((rd_T120 l1 (i : Int)).f1)) := (bC BX.out 1).trans rfl; have hfx_1 := bF BX.out 1; have hcx_2 : wc.cell? ⟨gx, 2, none⟩ = some (.string ((rd_T120 l1 (i : Int)).f2)) := (bC BX.out 2).trans rfl; have hfx_2 := bF BX.out 2
   by_cases hput : (rd_T120 l1 (i : Int)).f1.toList = []
   ·have s0 : ((rd_T120 l1 (i : Int)).f1.toList != []) = false := nF hput
    have s00 : ((rd_T120 l1 (i : Int)).f1.toList == []) = true := qT hput
    rw [if_neg (fun h_ => h_ hput)] at he
    obtain ⟨⟨x, y⟩, hs, he⟩ := oB he
    obtain ⟨sm, hsm⟩ : ∃ m : Int, wrap64 ((rd_T120 l1 (i : Int)).f0 + ((rd_T120 l1 (i : Int)).f2.size : Int)) = m := ⟨_, rfl⟩
    have hsmw : IntKind.i64.wrap ((rd_T120 l1 (i : Int)).f0 + ((rd_T120 l1 (i : Int)).f2.size : Int)) = sm := (i64_w _).trans hsm
    rw [hsm] at hs
    have HS := aM hs
    clear hs hsm hput
    by_cases hk0 : (rd_T120 l1 (i : Int)).f0 = 0
    ·have s1 : ((rd_T120 l1 (i : Int)).f0 == 0) = true := qT hk0
     rw [if_pos hk0] at he
     have HE2 := aM he
     clear he hk0 HE
     go_wp2_with (first | (go_at_call 70; refine (split_rd k rest A8 c8 sm x y _ (by repeat (first | exact CR.out | (with_reducible refine aH ?_ _) | (with_reducible refine aI ?_ _) | (with_reducible refine aJ ?_))) hl8 HS.out).mono ?_; rintro e w7 ⟨A6, c6, A7, c7, rfl, hc6, hl6, hc7, hl7, hb⟩; have jV := aM hc6; have HL6 := aM hl6; have pn := aM hc7; have HL7 := aM hl7; have nf_ := aM (EdF.below z24 hb); have nc0_ := aM (aG (by repeat (first | exact CO.out | (with_reducible refine aH ?_ _) | (with_reducible refine aI ?_ _) | (with_reducible refine aJ ?_))) hb); have nx_ := aM (af (kB_ BX.out) hb); (try clear hcx_0 hcx_1 hcx_2 hfx_0 hfx_1 hfx_2); clear HF CO BX; have HF := nf_; clear nf_; have CO := nc0_; clear nc0_; have BX := nx_; clear nx_; obtain ⟨hcx_0, hcx_1, hcx_2, hfx_0, hfx_1, hfx_2⟩ := cc3 BX.out; clear CR hc6 hl6 hc7 hl7 hb))
     have hi2 := HI2.out
     go_roundg gk0
     case measure => have := HID.out; omega
     case rel => exact ⟨i + 1, y, out, _, _, _, _, (by rw [show wrap64 ((i : Int) + 1) = ((i + 1 : Nat) : Int) from by unfold wrap64; omega]), by have := HID.out; omega, rfl, rfl, HL7.out, hlo, ⟨by repeat (first | exact pn.out | (with_reducible refine aH ?_ _) | (with_reducible refine aI ?_ _) | (with_reducible refine aJ ?_))⟩, ⟨y16⟩, HE2, ⟨y15⟩⟩
    ·have s1 : ((rd_T120 l1 (i : Int)).f0 == 0) = false := qF hk0
     rw [if_neg hk0] at he
     obtain ⟨pc, hpc, he⟩ := oB he
     by_cases hm_ : pc.length ≤ 100000000
     case neg => rw [if_neg hm_] at he; cases he
     rw [if_pos hm_] at he
     have HMX := aM hm_
     clear hm_
     obtain ⟨o2, ho2, he⟩ := oB he
     have HPC := aM hpc
     have HJ := aM ho2
     have HE2 := aM he
     have HLO := aM hlo
     clear he hk0 HE hpc ho2 hlo
     go_wp2_with (first | (go_at_call 70; refine (split_rd k rest A8 c8 sm x y _ (by repeat (first | exact CR.out | (with_reducible refine aH ?_ _) | (with_reducible refine aI ?_ _) | (with_reducible refine aJ ?_))) hl8 HS.out).mono ?_; rintro e w7 ⟨A6, c6, A7, c7, rfl, hc6, hl6, hc7, hl7, hb⟩; have jV := aM hc6; have HL6 := aM hl6; have pn := aM hc7; have HL7 := aM hl7; have nf_ := aM (EdF.below z24 hb); have nc0_ := aM (aG (by repeat (first | exact CO.out | (with_reducible refine aH ?_ _) | (with_reducible refine aI ?_ _) | (with_reducible refine aJ ?_))) hb); have nx_ := aM (af (kB_ BX.out) hb); (try clear hcx_0 hcx_1 hcx_2 hfx_0 hfx_1 hfx_2); clear HF CO BX; have HF := nf_; clear nf_; have CO := nc0_; clear nc0_; have BX := nx_; clear nx_; obtain ⟨hcx_0, hcx_1, hcx_2, hfx_0, hfx_1, hfx_2⟩ := cc3 BX.out; clear CR hc6 hl6 hc7 hl7 hb) | (go_at_call 65; refine (spec_l12Pieces.calls k _ _ x pc _ (by repeat (first | exact jV.out | (with_reducible refine aH ?_ _) | (with_reducible refine aI ?_ _) | (with_reducible refine aJ ?_))) HL6.out HPC.out).mono ?_; rintro e w9 ⟨v9, rfl, ho, hb⟩; obtain ⟨As, cs_, eo⟩ := Kd.R_slice ho; subst eo; have CS := aM (ai ho).2.2; have nf_ := aM (EdF.below z24 hb); have nc0_ := aM (aG (by repeat (first | exact pn.out | (with_reducible refine aH ?_ _) | (with_reducible refine aI ?_ _) | (with_reducible refine aJ ?_))) hb); have nc1_ := aM (aG (by repeat (first | exact CO.out | (with_reducible refine aH ?_ _) | (with_reducible refine aI ?_ _) | (with_reducible refine aJ ?_))) hb); clear HF pn CO; have HF := nf_; clear nf_; have pn := nc0_; clear nc0_; have CO := nc1_; clear nc1_; clear ho hb))
     have CR := pn
     clear pn
     go_loopg [9, 81] pc.length (fun d v9 v_ w' => ∃ (j : Nat) (out : List S58) (A9 : Option Addr) (c9 : Nat), v_ = .int .i64 (j : Nat) ∧ j + d = pc.length ∧ v9 = .slice A9 out.length c9 ∧ out.length ≤ c9 ∧ Aside0 (Kd.C k58 w' A9 out.length out) ∧ Aside0 (eJ k (pc.drop j) out = some o2) ∧ Aside0 (EdF ce ci l0_0 (some ad) l1 w w') ∧ Aside0 (Kd.C k58 w' _ y.length y) ∧ Aside0 (Kd.C Kd.string w' As pc.length pc))
     case atStart => exact ⟨0, out, A9, c9, rfl, Nat.zero_add _, rfl, HLO.out, ⟨y16⟩, ⟨by rw [List.drop_zero]; exact HJ.out⟩, ⟨y15⟩, ⟨y17⟩, ⟨by repeat (first | exact CS.out | (with_reducible refine aH ?_ _) | (with_reducible refine aI ?_ _) | (with_reducible refine aJ ?_))⟩⟩
     case round =>
      clear CO HF CR CS HJ HLO
      obtain ⟨j, out, A9, c9, rfl, hjd, rfl, hlo, CO, HJ, HF, CR, CS⟩ := hrel
      have hmx := HMX.out
      cases gk with
      | zero =>
       have d9 : decide (j < pc.length) = false := dF (by omega)
       have hj := HJ.out
       rw [List.drop_of_length_le (by omega)] at hj
       obtain rfl := sI hj
       clear hj HJ hjd hmx
       go_wp2
       have hi2 := HI2.out
       go_roundg gk0
       case measure => have := HID.out; omega
       case rel => exact ⟨i + 1, y, _, _, _, _, _, (by rw [show wrap64 ((i : Int) + 1) = ((i + 1 : Nat) : Int) from by unfold wrap64; omega]), by have := HID.out; omega, rfl, rfl, HL7.out, (by first | exact hlo | exact HLO.out), ⟨y17⟩, ⟨y16⟩, HE2, ⟨y15⟩⟩
      | succ gk =>
       have d9 : decide (j < pc.length) = true := dT (by omega)
       have hlt : j < pc.length := by omega
       have hlt' : (j : Int) < (pc.length : Int) := by omega
       have hj2 : (j : Int) + 1 ≤ 100000000 := by omega
       clear hmx
       have HJD := aM hjd
       have rl := aM hj2
       have hj := HJ.out
       rw [eJ_at k pc out j (by omega)] at hj
       obtain ⟨p, hp, hj⟩ := oB hj
       obtain ⟨q, hq, hj⟩ := oB hj
       have HP := aM hp
       have HQ := aM hq
       have tb := aM hj
       have HLO := aM hlo
       obtain ⟨ads, es_, hs0⟩ := Kd.at_string CS.out (j : Int) (by omega) (by omega)
       simp only [aY] at hs0
       cases es_
       clear hp hq hj HJ hlo hjd hj2
       go_wp2_with (first | (go_at_call 80; refine (spec_l12Piece.calls _ _ _ HP.out).mono ?_; rintro e w5 ⟨v5, rfl, ho, hb⟩; obtain ⟨A5, c5, eo⟩ := Kd.R_slice ho; subst eo; have g6 := aM (ai ho).2.2; have HL5 := aM (ai ho).2.1; have nf_ := aM (EdF.below z24 hb); have nc0_ := aM (aG (by repeat (first | exact CO.out | (with_reducible refine aH ?_ _) | (with_reducible refine aI ?_ _) | (with_reducible refine aJ ?_))) hb); have nc1_ := aM (aG (by repeat (first | exact CR.out | (with_reducible refine aH ?_ _) | (with_reducible refine aI ?_ _) | (with_reducible refine aJ ?_))) hb); have nc2_ := aM (aG (by repeat (first | exact CS.out | (with_reducible refine aH ?_ _) | (with_reducible refine aI ?_ _) | (with_reducible refine aJ ?_))) hb); clear HF CO CR CS; have HF := nf_; clear nf_; have CO := nc0_; clear nc0_; have CR := nc1_; clear nc1_; have CS := nc2_; clear nc2_; clear ho hb) | (go_at_call 68; refine (join_rd k out A9 c9 p A5 c5 q _ (by repeat (first | exact CO.out | (with_reducible refine aH ?_ _) | (with_reducible refine aI ?_ _) | (with_reducible refine aJ ?_))) HLO.out (by repeat (first | exact g6.out | (with_reducible refine aH ?_ _) | (with_reducible refine aI ?_ _) | (with_reducible refine aJ ?_))) HL5.out HQ.out).mono ?_; rintro e w6 ⟨A6, c6, rfl, hc6, hl6, hb⟩; have jV := aM hc6; have HL6 := aM hl6; have nf_ := aM (EdF.below z24 hb); have nc0_ := aM (aG (by repeat (first | exact CR.out | (with_reducible refine aH ?_ _) | (with_reducible refine aI ?_ _) | (with_reducible refine aJ ?_))) hb); have nc1_ := aM (aG (by repeat (first | exact CS.out | (with_reducible refine aH ?_ _) | (with_reducible refine aI ?_ _) | (with_reducible refine aJ ?_))) hb); clear HF CR CS; have HF := nf_; clear nf_; have CR := nc0_; clear nc0_; have CS := nc1_; clear nc1_; clear hc6 hl6 hb))
       have hj2 := rl.out
       go_roundg gk
       case measure => have := HJD.out; omega
       case rel => exact ⟨j + 1, q, A6, c6, (by rw [show wrap64 ((j : Int) + 1) = ((j + 1 : Nat) : Int) from by unfold wrap64; omega]), by have := HJD.out; omega, rfl, HL6.out, ⟨by repeat (first | exact jV.out | (with_reducible refine aH ?_ _) | (with_reducible refine aI ?_ _) | (with_reducible refine aJ ?_))⟩, tb, ⟨y15⟩, ⟨y17⟩, ⟨by repeat (first | exact CS.out | (with_reducible refine aH ?_ _) | (with_reducible refine aI ?_ _) | (with_reducible refine aJ ?_))⟩⟩
   ·have s0 : ((rd_T120 l1 (i : Int)).f1.toList != []) = true := nT hput
    have s00 : ((rd_T120 l1 (i : Int)).f1.toList == []) = false := qF hput
    rw [if_pos hput] at he
    obtain ⟨cu, hcu, he⟩ := oB he
    by_cases hm_ : cu.length ≤ 100000000
    case neg => rw [if_neg hm_] at he; cases he
    rw [if_pos hm_] at he
    have HMX := aM hm_
    clear hm_
    obtain ⟨o2, ho2, he⟩ := oB he
    have HCU := aM hcu
    have HJ := aM ho2
    have HE2 := aM he
    have HLO := aM hlo
    have HL8 := aM hl8
    clear he hput HE hcu ho2 hlo hl8
    go_wp2_with (first | (go_at_call 58; refine (spec_l12Cut.calls k _ cu _ HCU.out).mono ?_; rintro e w9 ⟨v9, rfl, ho, hb⟩; obtain ⟨As, cs_, eo⟩ := Kd.R_slice ho; subst eo; have CS := aM (ai ho).2.2; have nf_ := aM (EdF.below z24 hb); have nc0_ := aM (aG (by repeat (first | exact CR.out | (with_reducible refine aH ?_ _) | (with_reducible refine aI ?_ _) | (with_reducible refine aJ ?_))) hb); have nc1_ := aM (aG (by repeat (first | exact CO.out | (with_reducible refine aH ?_ _) | (with_reducible refine aI ?_ _) | (with_reducible refine aJ ?_))) hb); clear HF CR CO; have HF := nf_; clear nf_; have CR := nc0_; clear nc0_; have CO := nc1_; clear nc1_; clear ho hb))
    go_loopg [9, 54] cu.length (fun d v9 v_ w' => ∃ (j : Nat) (out : List S58) (A9 : Option Addr) (c9 : Nat), v_ = .int .i64 (j : Nat) ∧ j + d = cu.length ∧ v9 = .slice A9 out.length c9 ∧ out.length ≤ c9 ∧ Aside0 (Kd.C k58 w' A9 out.length out) ∧ Aside0 (eJ k (cu.drop j) out = some o2) ∧ Aside0 (EdF ce ci l0_0 (some ad) l1 w w') ∧ Aside0 (Kd.C k58 w' _ rest.length rest) ∧ Aside0 (Kd.C Kd.string w' As cu.length cu))
    case atStart => exact ⟨0, out, A9, c9, rfl, Nat.zero_add _, rfl, HLO.out, ⟨y16⟩, ⟨by rw [List.drop_zero]; exact HJ.out⟩, ⟨y15⟩, ⟨y17⟩, ⟨by repeat (first | exact CS.out | (with_reducible refine aH ?_ _) | (with_reducible refine aI ?_ _) | (with_reducible refine aJ ?_))⟩⟩
    case round =>
     clear CO HF CR CS HJ HLO
     obtain ⟨j, out, A9, c9, rfl, hjd, rfl, hlo, CO, HJ, HF, CR, CS⟩ := hrel
     have hmx := HMX.out
     cases gk with
     | zero =>
      have d9 : decide (j < cu.length) = false := dF (by omega)
      have hj := HJ.out
      rw [List.drop_of_length_le (by omega)] at hj
      obtain rfl := sI hj
      clear hj HJ hjd hmx
      go_wp2
      have hi2 := HI2.out
      go_roundg gk0
      case measure => have := HID.out; omega
      case rel => exact ⟨i + 1, rest, _, _, _, _, _, (by rw [show wrap64 ((i : Int) + 1) = ((i + 1 : Nat) : Int) from by unfold wrap64; omega]), by have := HID.out; omega, rfl, rfl, HL8.out, (by first | exact hlo | exact HLO.out), ⟨y17⟩, ⟨y16⟩, HE2, ⟨y15⟩⟩
     | succ gk =>
      have d9 : decide (j < cu.length) = true := dT (by omega)
      have hlt : j < cu.length := by omega
      have hlt' : (j : Int) < (cu.length : Int) := by omega
      have hj2 : (j : Int) + 1 ≤ 100000000 := by omega
      clear hmx
      have HJD := aM hjd
      have rl := aM hj2
      have hj := HJ.out
      rw [eJ_at k cu out j (by omega)] at hj
      obtain ⟨p, hp, hj⟩ := oB hj
      obtain ⟨q, hq, hj⟩ := oB hj
      have HP := aM hp
      have HQ := aM hq
      have tb := aM hj
      have HLO := aM hlo
      obtain ⟨ads, es_, hs0⟩ := Kd.at_string CS.out (j : Int) (by omega) (by omega)
      simp only [aY] at hs0
      cases es_
      clear hp hq hj HJ hlo hjd hj2
      go_wp2_with (first | (go_at_call 80; refine (spec_l12Piece.calls _ _ _ HP.out).mono ?_; rintro e w5 ⟨v5, rfl, ho, hb⟩; obtain ⟨A5, c5, eo⟩ := Kd.R_slice ho; subst eo; have g6 := aM (ai ho).2.2; have HL5 := aM (ai ho).2.1; have nf_ := aM (EdF.below z24 hb); have nc0_ := aM (aG (by repeat (first | exact CO.out | (with_reducible refine aH ?_ _) | (with_reducible refine aI ?_ _) | (with_reducible refine aJ ?_))) hb); have nc1_ := aM (aG (by repeat (first | exact CR.out | (with_reducible refine aH ?_ _) | (with_reducible refine aI ?_ _) | (with_reducible refine aJ ?_))) hb); have nc2_ := aM (aG (by repeat (first | exact CS.out | (with_reducible refine aH ?_ _) | (with_reducible refine aI ?_ _) | (with_reducible refine aJ ?_))) hb); clear HF CO CR CS; have HF := nf_; clear nf_; have CO := nc0_; clear nc0_; have CR := nc1_; clear nc1_; have CS := nc2_; clear nc2_; clear ho hb) | (go_at_call 68; refine (join_rd k out A9 c9 p A5 c5 q _ (by repeat (first | exact CO.out | (with_reducible refine aH ?_ _) | (with_reducible refine aI ?_ _) | (with_reducible refine aJ ?_))) HLO.out (by repeat (first | exact g6.out | (with_reducible refine aH ?_ _) | (with_reducible refine aI ?_ _) | (with_reducible refine aJ ?_))) HL5.out HQ.out).mono ?_; rintro e w6 ⟨A6, c6, rfl, hc6, hl6, hb⟩; have jV := aM hc6; have HL6 := aM hl6; have nf_ := aM (EdF.below z24 hb); have nc0_ := aM (aG (by repeat (first | exact CR.out | (with_reducible refine aH ?_ _) | (with_reducible refine aI ?_ _) | (with_reducible refine aJ ?_))) hb); have nc1_ := aM (aG (by repeat (first | exact CS.out | (with_reducible refine aH ?_ _) | (with_reducible refine aI ?_ _) | (with_reducible refine aJ ?_))) hb); clear HF CR CS; have HF := nf_; clear nf_; have CR := nc0_; clear nc0_; have CS := nc1_; clear nc1_; clear hc6 hl6 hb))
      have hj2 := rl.out
      go_roundg gk
      case measure => have := HJD.out; omega
      case rel => exact ⟨j + 1, q, A6, c6, (by rw [show wrap64 ((j : Int) + 1) = ((j + 1 : Nat) : Int) from by unfold wrap64; omega]), by have := HJD.out; omega, rfl, HL6.out, ⟨by repeat (first | exact jV.out | (with_reducible refine aH ?_ _) | (with_reducible refine aI ?_ _) | (with_reducible refine aJ ?_))⟩, tb, ⟨y15⟩, ⟨y17⟩, ⟨by repeat (first | exact CS.out | (with_reducible refine aH ?_ _) | (with_reducible refine aI ?_ _) | (with_reducible refine aJ ?_))⟩⟩

/-! ### spec_l1Cur_opOn: function 92 -/
mutual
def spec_l1Cur_opOn.l0 : Nat → ByteArray → List (S120) → Int → List Int → Int → Int → Option ((List (S120)) × Int × Int)
 | 0, _, _, _, _, _, _ => none
 | k + 1, x1, x5, x6, x1000, x1001, x1002 => if x6 < (x1.size : Int) then ((spec_l1Cur_pick.f x1000 x1001 x1002 5).bind fun jR => (if (wrap64 (1 + jR.1)) > (wrap64 ((x1.size : Int) - x6)) then (spec_l1Cur_opOn.j1 k x1 x5 x6 (wrap64 ((x1.size : Int) - x6)) x1000 jR.2.1 jR.2.2) else (spec_l1Cur_opOn.j1 k x1 x5 x6 (wrap64 (1 + jR.1)) x1000 jR.2.1 jR.2.2))) else ((spec_l1Cur_one.f x1000 x1001 x1002 3).bind fun lA => (if lA.1 = true then ((spec_l1Cur_of.f x1000 lA.2.1 lA.2.2 (([(⟨#[101, 110, 100]⟩ : ByteArray), (⟨#[46]⟩ : ByteArray)] : List ByteArray))).bind fun jl => (if x5.length < 3518437208883 then (some ((x5 ++ [(⟨0, jl.1, (⟨#[]⟩ : ByteArray)⟩ : S120)]), jl.2.1, jl.2.2)) else (none))) else (some (x5, lA.2.1, lA.2.2))))
def spec_l1Cur_opOn.j1 : Nat → ByteArray → List (S120) → Int → Int → List Int → Int → Int → Option ((List (S120)) × Int × Int)
 | 0, _, _, _, _, _, _, _ => none
 | k + 1, x1, x5, x6, x7, x1000, x1001, x1002 => (spec_l1Cur_pick.f x1000 x1001 x1002 4).bind fun ix => (if ix.1 = 0 then (if 0 ≤ x6 then (if x6 ≤ (wrap64 (x6 + x7)) then (if (wrap64 (x6 + x7)) ≤ (x1.size : Int) then (if x5.length < 3518437208883 then (spec_l1Cur_opOn.l0 k x1 (x5 ++ [(⟨0, (⟨#[]⟩ : ByteArray), x1.extract (x6 : Int).toNat ((wrap64 (x6 + x7)) : Int).toNat⟩ : S120)]) (wrap64 (x6 + x7)) x1000 ix.2.1 ix.2.2) else (none)) else (none)) else (none)) else (none)) else (if ix.1 = 1 then ((spec_l1Cur_of.f x1000 ix.2.1 ix.2.2 (([(⟨#[120]⟩ : ByteArray), (⟨#[121, 121]⟩ : ByteArray), (⟨#[65, 47]⟩ : ByteArray), (⟨#[110, 101, 119]⟩ : ByteArray), (⟨#[66]⟩ : ByteArray)] : List ByteArray))).bind fun jm => (if x5.length < 3518437208883 then (spec_l1Cur_opOn.l0 k x1 (x5 ++ [(⟨0, jm.1, (⟨#[]⟩ : ByteArray)⟩ : S120)]) x6 x1000 jm.2.1 jm.2.2) else (none))) else (if x5.length < 3518437208883 then (spec_l1Cur_opOn.l0 k x1 (x5 ++ [(⟨x7, (⟨#[]⟩ : ByteArray), (⟨#[]⟩ : ByteArray)⟩ : S120)]) (wrap64 (x6 + x7)) x1000 ix.2.1 ix.2.2) else (none))))
end
def spec_l1Cur_opOn.f (k : Nat) (s0_0 : List Int) (s0_1 : Int) (s0_2 : Int) (a1 : ByteArray) : Option ((List (S120)) × Int × Int) := spec_l1Cur_opOn.l0 k a1 ([] : List (S120)) 0 s0_0 s0_1 s0_2
theorem spec_l1Cur_opOn.mono_l : ∀ k, (∀ y0 y1 y2 y3 y4 y5, LeO (spec_l1Cur_opOn.l0 k y0 y1 y2 y3 y4 y5) (spec_l1Cur_opOn.l0 (k + 1) y0 y1 y2 y3 y4 y5)) ∧ (∀ y0 y1 y2 y3 y4 y5 y6, LeO (spec_l1Cur_opOn.j1 k y0 y1 y2 y3 y4 y5 y6) (spec_l1Cur_opOn.j1 (k + 1) y0 y1 y2 y3 y4 y5 y6))
 | 0 => ⟨fun _ _ _ _ _ _ r h => by simp [spec_l1Cur_opOn.l0] at h, fun _ _ _ _ _ _ _ r h => by simp [spec_l1Cur_opOn.j1] at h⟩
 | k + 1 => by
  obtain ⟨ih0, ih1⟩ := spec_l1Cur_opOn.mono_l k
  refine ⟨?_, ?_⟩
  ·intro y0 y1 y2 y3 y4 y5
   unfold spec_l1Cur_opOn.l0
   repeat' first
   | (with_reducible exact ih0 _ _ _ _ _ _)
   | (with_reducible exact ih1 _ _ _ _ _ _ _)
   | (with_reducible exact LeO.refl _)
   | (with_reducible exact LeO.none _)
   | (with_reducible refine LeO.ite ?_ ?_)
   | (with_reducible refine LeO.bind ?_ (fun _ => ?_))
  ·intro y0 y1 y2 y3 y4 y5 y6
   unfold spec_l1Cur_opOn.j1
   repeat' first
   | (with_reducible exact ih0 _ _ _ _ _ _)
   | (with_reducible exact ih1 _ _ _ _ _ _ _)
   | (with_reducible exact LeO.refl _)
   | (with_reducible exact LeO.none _)
   | (with_reducible refine LeO.ite ?_ ?_)
   | (with_reducible refine LeO.bind ?_ (fun _ => ?_))
theorem spec_l1Cur_opOn.mono : ∀ a0 a1 a2 a3 k, LeO (spec_l1Cur_opOn.f k a0 a1 a2 a3) (spec_l1Cur_opOn.f (k + 1) a0 a1 a2 a3) := by
 intro a0 a1 a2 a3 k
 obtain ⟨ih0, ih1⟩ := spec_l1Cur_opOn.mono_l k
 unfold spec_l1Cur_opOn.f
 repeat' first
   | (with_reducible exact ih0 _ _ _ _ _ _)
   | (with_reducible exact ih1 _ _ _ _ _ _ _)
   | (with_reducible exact LeO.refl _)
   | (with_reducible exact LeO.none _)
   | (with_reducible refine LeO.ite ?_ ?_)
   | (with_reducible refine LeO.bind ?_ (fun _ => ?_))
set_option maxHeartbeats 8000000 in
set_option maxRecDepth 100000 in
theorem spec_l1Cur_opOn.calls (k : Nat) (g : Nat) (s0_0 : List Int) (s0_1 : Int) (s0_2 : Int) (a1 : ByteArray) (r1 : List (S120)) (r2 : Int) (r3 : Int) (w0 w : World) (hI : IsS95 w0 w g s0_0 s0_1 s0_2) (hB : Below w0.heap.size w0 w) (h : spec_l1Cur_opOn.f k s0_0 s0_1 s0_2 a1 = some (r1, r2, r3)) :
  Calls Try.prog 92 #[.pointer (some ⟨g, 0, none⟩), .string a1] w fun e w' => ∃ v0_ : Value, e = .returned (v0_) ∧ Kd.R k120 120 w' w.heap.size (fun _ => True) v0_ r1 ∧ IsS95 w0 w' g s0_0 r2 r3 ∧ Below w0.heap.size w0 w' ∧ KeepBut w w' g none := by
 have hu120 := Try.underlying120
 have HI0 := aM hI
 have HK := aM (KeepBut.refl w g none)
 have HL := aM hB.size
 clear hI
 have HW0 := aM hB.size
 have HB := aM hB
 clear hB
 have H : (spec_l1Cur_opOn.l0 k a1 ([] : List (S120)) 0 s0_0 s0_1 s0_2) = some (r1, r2, r3) := h
 clear h
 have H' := aM H
 clear H
 go_enter Try.func92, Try.ntmps92
 go_wp2
 go_loopg [5, 6] k (fun kq v5 v6 w' => ∃ (x5_1 : List (S120)) (x6_1 : Int) (x1001_1 : Int) (x1002_1 : Int), v6 = .int .i64 x6_1 ∧ Aside0 (spec_l1Cur_opOn.l0 kq a1 x5_1 x6_1 s0_0 x1001_1 x1002_1 = some (r1, r2, r3)) ∧ Aside0 (kq ≤ k) ∧ Aside0 (Kd.R k120 120 w' w.heap.size (fun _ => True) v5 x5_1) ∧ Aside0 (IsS95 w0 w' g s0_0 x1001_1 x1002_1) ∧ Aside0 (KeepBut w w' g none) ∧ Aside0 (Below w0.heap.size w0 w'))
 case atStart => exact ⟨(([] : List (S120))), (0), (s0_1), (s0_2), z2, H', ⟨Nat.le_refl _⟩, ⟨y12⟩, ⟨y19⟩, ⟨y14⟩, ⟨y13⟩⟩
 case round =>
  clear H'
  obtain ⟨x5_1, x6_1, x1001_1, x1002_1, rfl, HA, HK1, ey, HI0, HK, HB⟩ := hrel
  cases gk with
  | zero => exact absurd HA.out (by simp [spec_l1Cur_opOn.l0])
  | succ k1 =>
   have H := HA.out
   clear HA
   simp only [spec_l1Cur_opOn.l0] at H
   by_cases c3 : x6_1 < (a1.size : Int)
   ·rw [if_pos c3] at H
    have c3b0 : decide (x6_1 < (a1.size : Int)) = true := dT c3
    clear c3
    obtain ⟨⟨od, kf, ke⟩, A4, H⟩ := oA_ H
    try dsimp only at H
    have g6 := aM H
    clear H
    go_upto_if 20 with (first | ((with_reducible refine aK (f := 86) rfl ?_); refine aT (some 13) rfl rfl Try.func86 z1 rfl #[.pointer (some ⟨g, 0, none⟩), .int .i64 5] rfl z21 ?_; (with_reducible refine (spec_l1Cur_pick.calls g s0_0 x1001_1 x1002_1 5 od kf ke w0 _ ?side1 ?side2 A4.out).mono ?_); (case side1 => exact y44); (case side2 => exact y34); rintro e w6 ⟨rfl, hi, hb, hk⟩; refine ⟨_, rfl, ?_⟩; replace ey := aM (ah (Kd.R_keep (IsS95.apart (show IsS95 w0 _ g s0_0 x1001_1 x1002_1 from by (try simp only [Int.add_zero]); repeat (first | (with_reducible first | exact HI0.out | apply IsS95.alloc | apply IsS95.drewN | apply IsS95.drew | apply IsS95.set_1 | apply IsS95.set_2) | exact HI0.out)) z4 z0) hk (fun _ h => h.2)) (fun _ h => h.1)); replace HK := aM (KeepBut.trans z22 hk (.inl rfl)); replace HB := aM (hb); replace HI0 := aM (hi); (try clear hb); (try clear hk); (try clear hi); (try clear dX)))
    (try simp only [Act.put, sA, sB, sC])
    go_cut [7] (fun v7 wc => ∃ (kq : Nat) (x7_4 : Int), v7 = .int .i64 x7_4 ∧ Aside0 (spec_l1Cur_opOn.j1 kq a1 x5_1 x6_1 x7_4 s0_0 kf ke = some (r1, r2, r3)) ∧ Aside0 (kq ≤ k1) ∧ Aside0 (Kd.R k120 120 wc w.heap.size (fun _ => True) u5 x5_1) ∧ Aside0 (IsS95 w0 wc g s0_0 kf ke) ∧ Aside0 (KeepBut w wc g none) ∧ Aside0 (Below w0.heap.size w0 wc))
    case first =>
     have H := g6.out
     clear g6
     by_cases c7 : (wrap64 (1 + od)) > (wrap64 ((a1.size : Int) - x6_1))
     ·rw [if_pos c7] at H
      have c7b0 : decide ((wrap64 ((a1.size : Int) - x6_1)) < (wrap64 (1 + od))) = true := dT c7
      clear c7
      (first | rw [c7b0] | (simp only [i64_w, i32_w]; rw [c7b0]) | skip)
      have H' := aM H
      clear H
      go_wp2
      go_meet
      case rel => exact ⟨_, (wrap64 ((a1.size : Int) - x6_1)), z2, H', ⟨y2⟩, ⟨kR_ ey.out⟩, ⟨y19⟩, ⟨y14⟩, ⟨y13⟩⟩
     ·rw [if_neg c7] at H
      have c7b0 : decide ((wrap64 ((a1.size : Int) - x6_1)) < (wrap64 (1 + od))) = false := dF c7
      clear c7
      (first | rw [c7b0] | (simp only [i64_w, i32_w]; rw [c7b0]) | skip)
      have H' := aM H
      clear H
      go_wp2
      go_meet
      case rel => exact ⟨_, (wrap64 (1 + od)), z2, H', ⟨y2⟩, ⟨kR_ ey.out⟩, ⟨y19⟩, ⟨y14⟩, ⟨y13⟩⟩
    case rest =>
     clear g6
     try clear p2
     try clear c3
     try clear c3b0
     try clear p2
     obtain ⟨kq, x7_4, rfl, HA, gJ, ey, HI0, HK, HB⟩ := hcut
     cases kq with
     | zero => exact absurd HA.out (by simp [spec_l1Cur_opOn.j1])
     | succ kj4 =>
      have H := HA.out
      clear HA
      simp only [spec_l1Cur_opOn.j1] at H
      obtain ⟨⟨hO, iN, iM⟩, A8, H⟩ := oA_ H
      try dsimp only at H
      by_cases c9 : hO = 0
      ·rw [if_pos c9] at H
       have c9b0 : (hO == 0) = true := qT c9
       have c9b1 : (hO != 0) = false := nF c9
       clear c9
       by_cases eH : 0 ≤ x6_1
       ·rw [if_pos eH] at H
        have c10b0 := eq_true eH
        have c10b1 : decide (0 ≤ x6_1) = true := dT eH
        clear eH
        by_cases e9 : x6_1 ≤ (wrap64 (x6_1 + x7_4))
        ·rw [if_pos e9] at H
         have c11b0 := eq_true e9
         have c11b1 : decide (x6_1 ≤ (wrap64 (x6_1 + x7_4))) = true := dT e9
         by_cases eZ : (wrap64 (x6_1 + x7_4)) ≤ (a1.size : Int)
         ·rw [if_pos eZ] at H
          have c12b0 := eq_true eZ
          have c12b1 : decide ((wrap64 (x6_1 + x7_4)) ≤ (a1.size : Int)) = true := dT eZ
          by_cases fj : x5_1.length < 3518437208883
          ·rw [if_pos fj] at H
           have LMc13 := aM fj
           clear fj
           obtain ⟨y269, hy269⟩ : ∃ y_ : List (S120), y_ = (x5_1 ++ [(⟨0, (⟨#[]⟩ : ByteArray), a1.extract (x6_1 : Int).toNat ((wrap64 (x6_1 + x7_4)) : Int).toNat⟩ : S120)]) := ⟨_, rfl⟩
           replace H : (spec_l1Cur_opOn.l0 kj4 a1 y269 (wrap64 (x6_1 + x7_4)) s0_0 iN iM) = some (r1, r2, r3) := by first | (rw [hy269]; with_reducible exact H) | (have H2_ := (Option.bind_some _ _).symm.trans H; rw [hy269]; with_reducible exact H2_) | (have H2_ := (Option.bind_some _ _).symm.trans H; with_reducible exact H2_) | with_reducible exact H | (rw [hy269]; exact H) | exact H
           have Ny269 := aM hy269
           clear hy269
           have H' := aM H
           clear H
           go_wp2_with (first | ((with_reducible refine aK (f := 86) rfl ?_); refine aT (some 26) rfl rfl Try.func86 z1 rfl #[.pointer (some ⟨g, 0, none⟩), .int .i64 4] rfl z21 ?_; (with_reducible refine (spec_l1Cur_pick.calls g s0_0 kf ke 4 hO iN iM w0 _ ?side1 ?side2 A8.out).mono ?_); (case side1 => exact y44); (case side2 => exact y34); rintro e w14 ⟨rfl, hi, hb, hk⟩; refine ⟨_, rfl, ?_⟩; replace ey := aM (ah (Kd.R_keep (IsS95.apart (show IsS95 w0 _ g s0_0 kf ke from by (try simp only [Int.add_zero]); repeat (first | (with_reducible first | exact HI0.out | apply IsS95.alloc | apply IsS95.drewN | apply IsS95.drew | apply IsS95.set_1 | apply IsS95.set_2) | exact HI0.out)) z4 z0) hk (fun _ h => h.2)) (fun _ h => h.1)); replace HK := aM (KeepBut.trans z22 hk (.inl rfl)); replace HB := aM (hb); replace HI0 := aM (hi); (try clear hb); (try clear hk); (try clear hi); (try clear dX)) | ((with_reducible refine gate_builtin (b := .append) (xs := #[.tmp 37, .tmp 45]) rfl ?_); at_builtin; refine Kd.R_append k120 w.heap.size rfl (.tmp 37) (.tmp 45) 114 120 (.agg #[(.int .i64 0), (.string ⟨#[]⟩), (.string ⟨#[]⟩)]) 40 rfl Try.underlying114 info120 rfl z0 (by omega) u5 x5_1 (⟨0, (⟨#[]⟩ : ByteArray), a1.extract (x6_1 : Int).toNat ((wrap64 (x6_1 + x7_4)) : Int).toNat⟩ : S120) [.int .i64 0, .string ⟨#[]⟩, .string (a1.extract (x6_1 : Int).toNat ((wrap64 (x6_1 + x7_4)) : Int).toNat)] (fun _ => True) (fun _ => False) rfl rfl ?aP (fun _ hk => hk.elim) ?aF ?aO (Below.refl _ _) ?aS ?aL ?_; (case aP => exact k120_mkM _ _ _ (⟨0, (⟨#[]⟩ : ByteArray), a1.extract (x6_1 : Int).toNat ((wrap64 (x6_1 + x7_4)) : Int).toNat⟩ : S120)); (case aF => exact (fun _ _ => trivial)); (case aO => exact z4); (case aS => exact (keep_size (w := w) (g := g) (row := none) z22)); (case aL => have := LMc13.out; omega); intro v270 w15 ho hb hg hat; rw [← Ny269.out] at ho; replace HB := aM (below_weaken z27 HL.out hb); replace HI0 := aM (IsS95.grown z30 hg (IsS95.own_ne HI0.out ey.out z0)); replace HK := aM (KeepBut.trans z22 (KeepBut.of_grown hg g) (Kd.R_base2 ey.out)); have HO271 := aM (ho); clear ey; clear ho hb hg hat))
           go_roundg kj4
           case measure => have := HK1.out; have := gJ.out; omega
           case rel => exact ⟨(y269), (wrap64 (x6_1 + x7_4)), (iN), (iM), z2, H', ⟨by have := HK1.out; have := gJ.out; omega⟩, ⟨kR_ HO271.out⟩, ⟨y19⟩, ⟨y14⟩, ⟨y13⟩⟩
          ·rw [if_neg fj] at H
           exact absurd H (by simp)
         ·rw [if_neg eZ] at H
          exact absurd H (by simp)
        ·rw [if_neg e9] at H
         exact absurd H (by simp)
       ·rw [if_neg eH] at H
        exact absurd H (by simp)
      ·rw [if_neg c9] at H
       have c9b0 : (hO == 0) = false := qF c9
       have c9b1 : (hO != 0) = true := nT c9
       by_cases fS : hO = 1
       ·rw [if_pos fS] at H
        have c16b0 : (hO == 1) = true := qT fS
        have c16b1 : (hO != 1) = false := nF fS
        clear fS
        obtain ⟨y272, hy272⟩ : ∃ y_ : List ByteArray, y_ = (([(⟨#[120]⟩ : ByteArray), (⟨#[121, 121]⟩ : ByteArray), (⟨#[65, 47]⟩ : ByteArray), (⟨#[110, 101, 119]⟩ : ByteArray), (⟨#[66]⟩ : ByteArray)] : List ByteArray)) := ⟨_, rfl⟩
        replace H : ((spec_l1Cur_of.f s0_0 iN iM y272).bind fun jm => (if x5_1.length < 3518437208883 then (spec_l1Cur_opOn.l0 kj4 a1 (x5_1 ++ [(⟨0, jm.1, (⟨#[]⟩ : ByteArray)⟩ : S120)]) x6_1 s0_0 jm.2.1 jm.2.2) else (none))) = some (r1, r2, r3) := by first | (rw [hy272]; with_reducible exact H) | (have H2_ := (Option.bind_some _ _).symm.trans H; rw [hy272]; with_reducible exact H2_) | (have H2_ := (Option.bind_some _ _).symm.trans H; with_reducible exact H2_) | with_reducible exact H | (rw [hy272]; exact H) | exact H
        have Ny272 := aM hy272
        clear hy272
        obtain ⟨⟨oc, qQ, qP⟩, rC, H⟩ := oA_ H
        try dsimp only at H
        by_cases lc : x5_1.length < 3518437208883
        ·rw [if_pos lc] at H
         have LMc18 := aM lc
         clear lc
         obtain ⟨y278, hy278⟩ : ∃ y_ : List (S120), y_ = (x5_1 ++ [(⟨0, oc, (⟨#[]⟩ : ByteArray)⟩ : S120)]) := ⟨_, rfl⟩
         replace H : (spec_l1Cur_opOn.l0 kj4 a1 y278 x6_1 s0_0 qQ qP) = some (r1, r2, r3) := by first | (rw [hy278]; with_reducible exact H) | (have H2_ := (Option.bind_some _ _).symm.trans H; rw [hy278]; with_reducible exact H2_) | (have H2_ := (Option.bind_some _ _).symm.trans H; with_reducible exact H2_) | with_reducible exact H | (rw [hy278]; exact H) | exact H
         have Ny278 := aM hy278
         clear hy278
         have H' := aM H
         clear H
         go_wp2_with (first | ((with_reducible refine aK (f := 86) rfl ?_); refine aT (some 26) rfl rfl Try.func86 z1 rfl #[.pointer (some ⟨g, 0, none⟩), .int .i64 4] rfl z21 ?_; (with_reducible refine (spec_l1Cur_pick.calls g s0_0 kf ke 4 hO iN iM w0 _ ?side1 ?side2 A8.out).mono ?_); (case side1 => exact y44); (case side2 => exact y34); rintro e w19 ⟨rfl, hi, hb, hk⟩; refine ⟨_, rfl, ?_⟩; replace ey := aM (ah (Kd.R_keep (IsS95.apart (show IsS95 w0 _ g s0_0 kf ke from by (try simp only [Int.add_zero]); repeat (first | (with_reducible first | exact HI0.out | apply IsS95.alloc | apply IsS95.drewN | apply IsS95.drew | apply IsS95.set_1 | apply IsS95.set_2) | exact HI0.out)) z4 z0) hk (fun _ h => h.2)) (fun _ h => h.1)); replace HK := aM (KeepBut.trans z22 hk (.inl rfl)); replace HB := aM (hb); replace HI0 := aM (hi); (try clear hb); (try clear hk); (try clear hi); (try clear dX)) | ((with_reducible refine aN (N := 54) rfl ?_); refine Kd.R_lit Kd.string _ 9 ?hg (N := 54) ?hd (xs := ([(⟨#[120]⟩ : ByteArray), (⟨#[121, 121]⟩ : ByteArray), (⟨#[65, 47]⟩ : ByteArray), (⟨#[110, 101, 119]⟩ : ByteArray), (⟨#[66]⟩ : ByteArray)] : List ByteArray)) (inner := [.string (⟨#[120]⟩ : ByteArray), .string (⟨#[121, 121]⟩ : ByteArray), .string (⟨#[65, 47]⟩ : ByteArray), .string (⟨#[110, 101, 119]⟩ : ByteArray), .string (⟨#[66]⟩ : ByteArray)]) (ok := fun _ => True) (okp := fun _ => True) ?hr ?hp (fun _ hk => hk) trivial (Below.refl _ _) (Nat.le_refl _) (by simp) ?_; (case hd => rfl); (case hg => rfl); (case hr => first | (go_simp; done) | (go_simp; rfl)); (case hp => exact (Reps.one (show Kd.M Kd.string _ _ _ (⟨#[120]⟩ : ByteArray) [.string (⟨#[120]⟩ : ByteArray)] from rfl) (Reps.one (show Kd.M Kd.string _ _ _ (⟨#[121, 121]⟩ : ByteArray) [.string (⟨#[121, 121]⟩ : ByteArray)] from rfl) (Reps.one (show Kd.M Kd.string _ _ _ (⟨#[65, 47]⟩ : ByteArray) [.string (⟨#[65, 47]⟩ : ByteArray)] from rfl) (Reps.one (show Kd.M Kd.string _ _ _ (⟨#[110, 101, 119]⟩ : ByteArray) [.string (⟨#[110, 101, 119]⟩ : ByteArray)] from rfl) (Reps.one (show Kd.M Kd.string _ _ _ (⟨#[66]⟩ : ByteArray) [.string (⟨#[66]⟩ : ByteArray)] from rfl) (Reps.none _ _))))))); intro v273 w20 ho21 hb hg_ hnew_; clear hg_ hnew_; (first | rw [← Ny272.out] at ho21 | (simp only [Int.reduceToNat] at ho21; rw [← Ny272.out] at ho21)); replace ey := aM (ag z4 hb); have gG := aM (aW ho21 (keep_size (w := w) (g := g) (row := none) z22)); replace HK := aM (KeepBut.trans z22 (KeepBut.of_below hb g none) (.inl rfl)); replace HB := aM (aA z27 hb); replace HI0 := aM (IsS95.below z30 hb); clear hb ho21; obtain ⟨bO, bN, eo22⟩ := Kd.R_slice gG.out; subst eo22) | ((with_reducible refine aK (f := 87) rfl ?_); refine aT (some 55) rfl rfl Try.func87 z1 rfl #[.pointer (some ⟨g, 0, none⟩), .slice bO y272.length bN] rfl z21 ?_; (with_reducible refine (spec_l1Cur_of.calls g s0_0 iN iM _ _ y272 oc qQ qP w0 _ ?side1 ?side2 ?side3 ?side4 ?side5 rC.out).mono ?_); (case side1 => exact y44); (case side2 => exact y34); (case side3 => repeat (first | exact (ai gG.out).2.2 | (with_reducible refine aH ?_ _) | (with_reducible refine aI ?_ _) | (with_reducible refine aJ ?_))); (case side4 => exact (ai gG.out).2.1); (case side5 => exact far_slice (IsS95.own_ne HI0.out gG.out z0)); rintro e w23 ⟨rfl, hi, hb, hk⟩; refine ⟨_, rfl, ?_⟩; replace ey := aM (ah (Kd.R_keep (IsS95.apart (show IsS95 w0 _ g s0_0 iN iM from by (try simp only [Int.add_zero]); repeat (first | (with_reducible first | exact HI0.out | apply IsS95.alloc | apply IsS95.drewN | apply IsS95.drew | apply IsS95.set_1 | apply IsS95.set_2) | exact HI0.out)) z4 z0) hk (fun _ h => h.2)) (fun _ h => h.1)); replace gG := aM (ah (Kd.R_keep (IsS95.apart (show IsS95 w0 _ g s0_0 iN iM from by (try simp only [Int.add_zero]); repeat (first | (with_reducible first | exact HI0.out | apply IsS95.alloc | apply IsS95.drewN | apply IsS95.drew | apply IsS95.set_1 | apply IsS95.set_2) | exact HI0.out)) (kR_ gG.out) z0) hk (fun _ h => h.2)) (fun _ h => h.1)); replace HK := aM (KeepBut.trans z22 hk (.inl rfl)); replace HB := aM (hb); replace HI0 := aM (hi); (try clear hb); (try clear hk); (try clear hi); (try clear dX)) | ((with_reducible refine gate_builtin (b := .append) (xs := #[.tmp 52, .tmp 57]) rfl ?_); at_builtin; refine Kd.R_append k120 w.heap.size rfl (.tmp 52) (.tmp 57) 114 120 (.agg #[(.int .i64 0), (.string ⟨#[]⟩), (.string ⟨#[]⟩)]) 40 rfl Try.underlying114 info120 rfl z0 (by omega) u5 x5_1 (⟨0, oc, (⟨#[]⟩ : ByteArray)⟩ : S120) [.int .i64 0, .string oc, .string ⟨#[]⟩] (fun _ => True) (fun _ => False) rfl rfl ?aP (fun _ hk => hk.elim) ?aF ?aO (Below.refl _ _) ?aS ?aL ?_; (case aP => exact k120_mkM _ _ _ (⟨0, oc, (⟨#[]⟩ : ByteArray)⟩ : S120)); (case aF => exact (fun _ _ => trivial)); (case aO => exact z4); (case aS => exact (keep_size (w := w) (g := g) (row := none) z22)); (case aL => have := LMc18.out; omega); intro v279 w24 ho hb hg hat; rw [← Ny278.out] at ho; replace gG := aM (Kd.R_over' (kR_ gG.out) (Kd.R_typed z4) z0 hg); replace HB := aM (below_weaken z27 HL.out hb); replace HI0 := aM (IsS95.grown z30 hg (IsS95.own_ne HI0.out ey.out z0)); replace HK := aM (KeepBut.trans z22 (KeepBut.of_grown hg g) (Kd.R_base2 ey.out)); have HO280 := aM (ho); clear ey; clear ho hb hg hat))
         go_roundg kj4
         case measure => have := HK1.out; have := gJ.out; omega
         case rel => exact ⟨(y278), (x6_1), (qQ), (qP), z2, H', ⟨by have := HK1.out; have := gJ.out; omega⟩, ⟨kR_ HO280.out⟩, ⟨y19⟩, ⟨y14⟩, ⟨y13⟩⟩
        ·rw [if_neg lc] at H
         exact absurd H (by simp)
       ·rw [if_neg fS] at H
        have c16b0 : (hO == 1) = false := qF fS
        have c16b1 : (hO != 1) = true := nT fS
        by_cases jB : x5_1.length < 3518437208883
        ·rw [if_pos jB] at H
         have LMc25 := aM jB
         clear jB
         obtain ⟨y281, hy281⟩ : ∃ y_ : List (S120), y_ = (x5_1 ++ [(⟨x7_4, (⟨#[]⟩ : ByteArray), (⟨#[]⟩ : ByteArray)⟩ : S120)]) := ⟨_, rfl⟩
         replace H : (spec_l1Cur_opOn.l0 kj4 a1 y281 (wrap64 (x6_1 + x7_4)) s0_0 iN iM) = some (r1, r2, r3) := by first | (rw [hy281]; with_reducible exact H) | (have H2_ := (Option.bind_some _ _).symm.trans H; rw [hy281]; with_reducible exact H2_) | (have H2_ := (Option.bind_some _ _).symm.trans H; with_reducible exact H2_) | with_reducible exact H | (rw [hy281]; exact H) | exact H
         have Ny281 := aM hy281
         clear hy281
         have H' := aM H
         clear H
         go_wp2_with (first | ((with_reducible refine aK (f := 86) rfl ?_); refine aT (some 26) rfl rfl Try.func86 z1 rfl #[.pointer (some ⟨g, 0, none⟩), .int .i64 4] rfl z21 ?_; (with_reducible refine (spec_l1Cur_pick.calls g s0_0 kf ke 4 hO iN iM w0 _ ?side1 ?side2 A8.out).mono ?_); (case side1 => exact y44); (case side2 => exact y34); rintro e w26 ⟨rfl, hi, hb, hk⟩; refine ⟨_, rfl, ?_⟩; replace ey := aM (ah (Kd.R_keep (IsS95.apart (show IsS95 w0 _ g s0_0 kf ke from by (try simp only [Int.add_zero]); repeat (first | (with_reducible first | exact HI0.out | apply IsS95.alloc | apply IsS95.drewN | apply IsS95.drew | apply IsS95.set_1 | apply IsS95.set_2) | exact HI0.out)) z4 z0) hk (fun _ h => h.2)) (fun _ h => h.1)); replace HK := aM (KeepBut.trans z22 hk (.inl rfl)); replace HB := aM (hb); replace HI0 := aM (hi); (try clear hb); (try clear hk); (try clear hi); (try clear dX)) | ((with_reducible refine gate_builtin (b := .append) (xs := #[.tmp 27, .tmp 30]) rfl ?_); at_builtin; refine Kd.R_append k120 w.heap.size rfl (.tmp 27) (.tmp 30) 114 120 (.agg #[(.int .i64 0), (.string ⟨#[]⟩), (.string ⟨#[]⟩)]) 40 rfl Try.underlying114 info120 rfl z0 (by omega) u5 x5_1 (⟨x7_4, (⟨#[]⟩ : ByteArray), (⟨#[]⟩ : ByteArray)⟩ : S120) [.int .i64 x7_4, .string ⟨#[]⟩, .string ⟨#[]⟩] (fun _ => True) (fun _ => False) rfl rfl ?aP (fun _ hk => hk.elim) ?aF ?aO (Below.refl _ _) ?aS ?aL ?_; (case aP => exact k120_mkM _ _ _ (⟨x7_4, (⟨#[]⟩ : ByteArray), (⟨#[]⟩ : ByteArray)⟩ : S120)); (case aF => exact (fun _ _ => trivial)); (case aO => exact z4); (case aS => exact (keep_size (w := w) (g := g) (row := none) z22)); (case aL => have := LMc25.out; omega); intro v282 w27 ho hb hg hat; rw [← Ny281.out] at ho; replace HB := aM (below_weaken z27 HL.out hb); replace HI0 := aM (IsS95.grown z30 hg (IsS95.own_ne HI0.out ey.out z0)); replace HK := aM (KeepBut.trans z22 (KeepBut.of_grown hg g) (Kd.R_base2 ey.out)); have HO283 := aM (ho); clear ey; clear ho hb hg hat))
         go_roundg kj4
         case measure => have := HK1.out; have := gJ.out; omega
         case rel => exact ⟨(y281), (wrap64 (x6_1 + x7_4)), (iN), (iM), z2, H', ⟨by have := HK1.out; have := gJ.out; omega⟩, ⟨kR_ HO283.out⟩, ⟨y19⟩, ⟨y14⟩, ⟨y13⟩⟩
        ·rw [if_neg jB] at H
         exact absurd H (by simp)
   ·rw [if_neg c3] at H
    have c3b0 : decide (x6_1 < (a1.size : Int)) = false := dF c3
    clear c3
    obtain ⟨⟨t284, nL, nK⟩, tk, H⟩ := oA_ H
    try dsimp only at H
    by_cases gY : t284 = true
    ·subst gY
     rw [if_pos rfl] at H
     obtain ⟨y287, hy287⟩ : ∃ y_ : List ByteArray, y_ = (([(⟨#[101, 110, 100]⟩ : ByteArray), (⟨#[46]⟩ : ByteArray)] : List ByteArray)) := ⟨_, rfl⟩
     replace H : ((spec_l1Cur_of.f s0_0 nL nK y287).bind fun jl => (if x5_1.length < 3518437208883 then (some ((x5_1 ++ [(⟨0, jl.1, (⟨#[]⟩ : ByteArray)⟩ : S120)]), jl.2.1, jl.2.2)) else (none))) = some (r1, r2, r3) := by first | (rw [hy287]; with_reducible exact H) | (have H2_ := (Option.bind_some _ _).symm.trans H; rw [hy287]; with_reducible exact H2_) | (have H2_ := (Option.bind_some _ _).symm.trans H; with_reducible exact H2_) | with_reducible exact H | (rw [hy287]; exact H) | exact H
     have Ny287 := aM hy287
     clear hy287
     obtain ⟨⟨ob, rP, rO⟩, hD, H⟩ := oA_ H
     try dsimp only at H
     by_cases pl : x5_1.length < 3518437208883
     ·rw [if_pos pl] at H
      have LMc31 := aM pl
      clear pl
      obtain ⟨y293, hy293⟩ : ∃ y_ : List (S120), y_ = (x5_1 ++ [(⟨0, ob, (⟨#[]⟩ : ByteArray)⟩ : S120)]) := ⟨_, rfl⟩
      replace H : (some (y293, rP, rO)) = some (r1, r2, r3) := by first | (rw [hy293]; with_reducible exact H) | (have H2_ := (Option.bind_some _ _).symm.trans H; rw [hy293]; with_reducible exact H2_) | (have H2_ := (Option.bind_some _ _).symm.trans H; with_reducible exact H2_) | with_reducible exact H | (rw [hy293]; exact H) | exact H
      have Ny293 := aM hy293
      clear hy293
      simp only [Option.some.injEq, Prod.mk.injEq] at H
      obtain ⟨rfl, rfl, rfl⟩ := H
      go_wp2_with (first | ((with_reducible refine aK (f := 88) rfl ?_); refine aT (some 60) rfl rfl Try.func88 z1 rfl #[.pointer (some ⟨g, 0, none⟩), .int .i64 3] rfl z21 ?_; (with_reducible refine (spec_l1Cur_one.calls g s0_0 x1001_1 x1002_1 3 true nL nK w0 _ ?side1 ?side2 tk.out).mono ?_); (case side1 => exact y44); (case side2 => exact y34); rintro e w32 ⟨rfl, hi, hb, hk⟩; refine ⟨_, rfl, ?_⟩; replace ey := aM (ah (Kd.R_keep (IsS95.apart (show IsS95 w0 _ g s0_0 x1001_1 x1002_1 from by (try simp only [Int.add_zero]); repeat (first | (with_reducible first | exact HI0.out | apply IsS95.alloc | apply IsS95.drewN | apply IsS95.drew | apply IsS95.set_1 | apply IsS95.set_2) | exact HI0.out)) z4 z0) hk (fun _ h => h.2)) (fun _ h => h.1)); replace HK := aM (KeepBut.trans z22 hk (.inl rfl)); replace HB := aM (hb); replace HI0 := aM (hi); (try clear hb); (try clear hk); (try clear hi); (try clear dX)) | ((with_reducible refine aN (N := 63) rfl ?_); refine Kd.R_lit Kd.string _ 9 ?hg (N := 63) ?hd (xs := ([(⟨#[101, 110, 100]⟩ : ByteArray), (⟨#[46]⟩ : ByteArray)] : List ByteArray)) (inner := [.string (⟨#[101, 110, 100]⟩ : ByteArray), .string (⟨#[46]⟩ : ByteArray)]) (ok := fun _ => True) (okp := fun _ => True) ?hr ?hp (fun _ hk => hk) trivial (Below.refl _ _) (Nat.le_refl _) (by simp) ?_; (case hd => rfl); (case hg => rfl); (case hr => first | (go_simp; done) | (go_simp; rfl)); (case hp => exact (Reps.one (show Kd.M Kd.string _ _ _ (⟨#[101, 110, 100]⟩ : ByteArray) [.string (⟨#[101, 110, 100]⟩ : ByteArray)] from rfl) (Reps.one (show Kd.M Kd.string _ _ _ (⟨#[46]⟩ : ByteArray) [.string (⟨#[46]⟩ : ByteArray)] from rfl) (Reps.none _ _)))); intro v288 w33 ho34 hb hg_ hnew_; clear hg_ hnew_; (first | rw [← Ny287.out] at ho34 | (simp only [Int.reduceToNat] at ho34; rw [← Ny287.out] at ho34)); replace ey := aM (ag z4 hb); have gF := aM (aW ho34 (keep_size (w := w) (g := g) (row := none) z22)); replace HK := aM (KeepBut.trans z22 (KeepBut.of_below hb g none) (.inl rfl)); replace HB := aM (aA z27 hb); replace HI0 := aM (IsS95.below z30 hb); clear hb ho34; obtain ⟨Ao35, co35, eo35⟩ := Kd.R_slice gF.out; subst eo35) | ((with_reducible refine aK (f := 87) rfl ?_); refine aT (some 64) rfl rfl Try.func87 z1 rfl #[.pointer (some ⟨g, 0, none⟩), .slice Ao35 y287.length co35] rfl z21 ?_; (with_reducible refine (spec_l1Cur_of.calls g s0_0 nL nK _ _ y287 ob rP rO w0 _ ?side1 ?side2 ?side3 ?side4 ?side5 hD.out).mono ?_); (case side1 => exact y44); (case side2 => exact y34); (case side3 => repeat (first | exact (ai gF.out).2.2 | (with_reducible refine aH ?_ _) | (with_reducible refine aI ?_ _) | (with_reducible refine aJ ?_))); (case side4 => exact (ai gF.out).2.1); (case side5 => exact far_slice (IsS95.own_ne HI0.out gF.out z0)); rintro e w36 ⟨rfl, hi, hb, hk⟩; refine ⟨_, rfl, ?_⟩; replace ey := aM (ah (Kd.R_keep (IsS95.apart (show IsS95 w0 _ g s0_0 nL nK from by (try simp only [Int.add_zero]); repeat (first | (with_reducible first | exact HI0.out | apply IsS95.alloc | apply IsS95.drewN | apply IsS95.drew | apply IsS95.set_1 | apply IsS95.set_2) | exact HI0.out)) z4 z0) hk (fun _ h => h.2)) (fun _ h => h.1)); replace gF := aM (ah (Kd.R_keep (IsS95.apart (show IsS95 w0 _ g s0_0 nL nK from by (try simp only [Int.add_zero]); repeat (first | (with_reducible first | exact HI0.out | apply IsS95.alloc | apply IsS95.drewN | apply IsS95.drew | apply IsS95.set_1 | apply IsS95.set_2) | exact HI0.out)) (kR_ gF.out) z0) hk (fun _ h => h.2)) (fun _ h => h.1)); replace HK := aM (KeepBut.trans z22 hk (.inl rfl)); replace HB := aM (hb); replace HI0 := aM (hi); (try clear hb); (try clear hk); (try clear hi); (try clear dX)) | ((with_reducible refine gate_builtin (b := .append) (xs := #[.tmp 61, .tmp 66]) rfl ?_); at_builtin; refine Kd.R_append k120 w.heap.size rfl (.tmp 61) (.tmp 66) 114 120 (.agg #[(.int .i64 0), (.string ⟨#[]⟩), (.string ⟨#[]⟩)]) 40 rfl Try.underlying114 info120 rfl z0 (by omega) u5 x5_1 (⟨0, ob, (⟨#[]⟩ : ByteArray)⟩ : S120) [.int .i64 0, .string ob, .string ⟨#[]⟩] (fun _ => True) (fun _ => False) rfl rfl ?aP (fun _ hk => hk.elim) ?aF ?aO (Below.refl _ _) ?aS ?aL ?_; (case aP => exact k120_mkM _ _ _ (⟨0, ob, (⟨#[]⟩ : ByteArray)⟩ : S120)); (case aF => exact (fun _ _ => trivial)); (case aO => exact z4); (case aS => exact (keep_size (w := w) (g := g) (row := none) z22)); (case aL => have := LMc31.out; omega); intro v294 w37 ho hb hg hat; rw [← Ny293.out] at ho; replace gF := aM (Kd.R_over' (kR_ gF.out) (Kd.R_typed z4) z0 hg); replace HB := aM (below_weaken z27 HL.out hb); replace HI0 := aM (IsS95.grown z30 hg (IsS95.own_ne HI0.out ey.out z0)); replace HK := aM (KeepBut.trans z22 (KeepBut.of_grown hg g) (Kd.R_base2 ey.out)); have HO295 := aM (ho); clear ey; clear ho hb hg hat))
      go_ret
      exact ⟨_, y4, by (with_reducible repeat (first | apply ae | apply ac | apply aa)); exact HO295.out, y19, y13, y14⟩
     ·rw [if_neg pl] at H
      exact absurd H (by simp)
    ·replace gY := Bool.eq_false_iff.mpr gY
     subst gY
     rw [if_neg nF_] at H
     simp only [Option.some.injEq, Prod.mk.injEq] at H
     obtain ⟨rfl, rfl, rfl⟩ := H
     go_wp2_with (first | ((with_reducible refine aK (f := 88) rfl ?_); refine aT (some 60) rfl rfl Try.func88 z1 rfl #[.pointer (some ⟨g, 0, none⟩), .int .i64 3] rfl z21 ?_; (with_reducible refine (spec_l1Cur_one.calls g s0_0 x1001_1 x1002_1 3 false nL nK w0 _ ?side1 ?side2 tk.out).mono ?_); (case side1 => exact y44); (case side2 => exact y34); rintro e w38 ⟨rfl, hi, hb, hk⟩; refine ⟨_, rfl, ?_⟩; replace ey := aM (ah (Kd.R_keep (IsS95.apart (show IsS95 w0 _ g s0_0 x1001_1 x1002_1 from by (try simp only [Int.add_zero]); repeat (first | (with_reducible first | exact HI0.out | apply IsS95.alloc | apply IsS95.drewN | apply IsS95.drew | apply IsS95.set_1 | apply IsS95.set_2) | exact HI0.out)) z4 z0) hk (fun _ h => h.2)) (fun _ h => h.1)); replace HK := aM (KeepBut.trans z22 hk (.inl rfl)); replace HB := aM (hb); replace HI0 := aM (hi); (try clear hb); (try clear hk); (try clear hi); (try clear dX)))
     go_ret
     exact ⟨_, y4, by (with_reducible repeat (first | apply ae | apply ac | apply aa)); exact ey.out, y19, y13, y14⟩

end Go.Proofs.Ytmkenlejdaphnaa.AFnRopes
