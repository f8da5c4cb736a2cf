-- this session's own text: written by wip/tools/ownprint.py over the kit's print
import Derived.Test.YtblnnbaeiggmoaaAFnSplitx0
import Derived.Test.YtblnnbaeiggmoaaAFnSplitx3
import Derived.Test.YtblnnbaeiggmoaaAFnSplitx4
import Derived.Test.YtblnnbaeiggmoaaAFnSplitx5
namespace Go.Proofs.Ytblnnbaeiggmoaa.AFnSplit
open Go.RowKit Go.Proofs.YtblnnbaeiggmoaaW.PrintWords Go.Proofs.YtblnnbaeiggmoaaW.PrintLast Go.Proofs.YtblnnbaeiggmoaaW.PrintMore
attribute [local go_sem] max2_int min2_int max_two min_two max_three min_three max_four min_four   -- for this text's walks alone
set_option linter.unusedVariables false
set_option linter.unusedSimpArgs false

/-! ### spec_EditRope: function 7, by hand -/
def eJ (k : Nat) : List ByteArray → List S101 → Option (List S101)
 | [], out => some out
 | s :: ss, out => (spec_l12Piece.f s).bind fun p => (spec_l12Join.f k out p).bind fun q => eJ k ss q
def eL (k : Nat) : List S59 → List S101 → List S101 → Option (List S101)
 | [], _, out => some out
 | p :: ps, rest, out =>
  if p.f1.toList ≠ [] then ((spec_l12Cut.f k p.f1).bind fun cs => if cs.length ≤ 100000000 then ((eJ k cs out).bind fun o2 => eL k ps rest o2) else none)
  else ((spec_l12Split.f k rest (wrap64 (p.f0 + (p.f2.size : Int)))).bind fun ab =>
   if p.f0 = 0 then eL k ps ab.2 out else ((spec_l12Pieces.f k ab.1).bind fun pc => if pc.length ≤ 100000000 then ((eJ k pc out).bind fun o2 => eL k ps ab.2 o2) else none))
theorem eJ_mono (k : Nat) : ∀ (ss : List ByteArray) (out : List S101), LeO (eJ k ss out) (eJ (k + 1) ss out)
 | [], _ => LeO.refl _
 | s :: ss, out => LeO.bind (LeO.refl _) (fun _ => LeO.bind (spec_l12Join.mono _ _ _) (fun _ => eJ_mono k ss _))
theorem eL_mono (k : Nat) : ∀ (ps : List S59) (rest out : List S101), LeO (eL k ps rest out) (eL (k + 1) ps rest out)
 | [], _, _ => LeO.refl _
 | p :: ps, rest, out => LeO.ite (LeO.bind (spec_l12Cut.mono _ _) (fun _ => LeO.ite (LeO.bind (eJ_mono k _ _) (fun _ => eL_mono k ps _ _)) (LeO.none _)))
   (LeO.bind (spec_l12Split.mono _ _ _) (fun _ => LeO.ite (eL_mono k ps _ _) (LeO.bind (spec_l12Pieces.mono _ _) (fun _ => LeO.ite (LeO.bind (eJ_mono k _ _) (fun _ => eL_mono k ps _ _)) (LeO.none _)))))
theorem eJ_at (k : Nat) (cs : List ByteArray) (out : List S101) (j : Nat) (h : j < cs.length) : eJ k (cs.drop j) out = (spec_l12Piece.f (rdOf ByteArray.empty cs (j : Int))).bind fun p => (spec_l12Join.f k out p).bind fun q => eJ k (cs.drop (j + 1)) q := by
 rw [List.drop_eq_getElem_cons h]
 unfold rdOf
 rw [aZ, List.getD_eq_getElem?_getD, aY h]
 rfl
theorem eL_at (k : Nat) (l1 : List S59) (rest out : List S101) (i : Nat) (h : i < l1.length) : eL k (l1.drop i) rest out = if (rd_T59 l1 (i : Int)).f1.toList ≠ [] then ((spec_l12Cut.f k (rd_T59 l1 (i : Int)).f1).bind fun cs => if cs.length ≤ 100000000 then ((eJ k cs out).bind fun o2 => eL k (l1.drop (i + 1)) rest o2) else none)
  else ((spec_l12Split.f k rest (wrap64 ((rd_T59 l1 (i : Int)).f0 + ((rd_T59 l1 (i : Int)).f2.size : Int)))).bind fun ab =>
   if (rd_T59 l1 (i : Int)).f0 = 0 then eL k (l1.drop (i + 1)) ab.2 out else ((spec_l12Pieces.f k ab.1).bind fun pc => if pc.length ≤ 100000000 then ((eJ k pc out).bind fun o2 => eL k (l1.drop (i + 1)) ab.2 o2) else none)) := by
 rw [List.drop_eq_getElem_cons h]
 unfold rd_T59
 rw [aZ, List.getD_eq_getElem?_getD, aY h]
 rfl
def spec_EditRope.f (k : Nat) (l0_0 : List S101) (l1 : List S59) : Option (List S101 × Bool) :=
 (spec_GoodRope.f k l0_0).bind fun g => if g = true then ((spec_GoodOp.f k l1).bind fun g2 => if g2 = true then
  ((spec_l12Text.f k l0_0).bind fun t => (spec_l3Apply.f k l1 t).bind fun ao => if ao.2 = true then
   (if l1.length ≤ 100000000 then ((eL k l1 l0_0 []).bind fun out => if out.length < 2932031007402 then ((spec_GoodRope.f k out).bind fun g3 => if g3 = true then some (out, true) else some ([], false)) else none) else none)
  else some ([], false)) else some ([], false)) else some ([], false)
theorem spec_EditRope.mono : ∀ a0 a1 k, LeO (spec_EditRope.f k a0 a1) (spec_EditRope.f (k + 1) a0 a1) := fun a0 a1 k =>
 LeO.bind (spec_GoodRope.mono _ _) (fun _ => LeO.ite (LeO.bind (spec_GoodOp.mono _ _) (fun _ => LeO.ite (LeO.bind (spec_l12Text.mono _ _) (fun _ => LeO.bind (spec_l3Apply.mono _ _ _) (fun _ => LeO.ite (LeO.ite (LeO.bind (eL_mono k _ _ _) (fun _ => LeO.ite (LeO.bind (spec_GoodRope.mono _ _) (fun _ => LeO.refl _)) (LeO.none _))) (LeO.none _)) (LeO.refl _)))) (LeO.refl _))) (LeO.refl _))
/-- What stands through the whole call. -/
def EdF (A0 : Option Addr) (c0 : Nat) (l0 : List S101) (A1 : Option Addr) (l1 : List S59) (w W : World) : Prop := Below w.heap.size w W ∧ W.heap[w.heap.size]? = some (.cells #[.slice A0 l0.length c0] 30 (0, 0)) ∧ W.heap[w.heap.size + 1]? = some (.cells #[.slice none 0 0] 30 (0, 0)) ∧ Kd.C k101 W A0 l0.length l0 ∧ Kd.C k59 W A1 l1.length l1
section
variable {A0 : Option Addr} {c0 : Nat} {l0 : List S101} {A1 : Option Addr} {l1 : List S59} {w W W' : World}
theorem EdF.below (h : EdF A0 c0 l0 A1 l1 w W) (hb : Below W.heap.size W W') : EdF A0 c0 l0 A1 l1 w W' := ⟨aA h.1 hb, af h.2.1 hb, af h.2.2.1 hb, aG h.2.2.2.1 hb, aG h.2.2.2.2 hb⟩
theorem EdF.alloc (h : EdF A0 c0 l0 A1 l1 w W) (o : Obj) : EdF A0 c0 l0 A1 l1 w (W.alloc o) := h.below (bA (Below.refl _ _) _)
theorem EdF.drewN (h : EdF A0 c0 l0 A1 l1 w W) (n : Nat) : EdF A0 c0 l0 A1 l1 w (W.drewN n) := h.below (pD (Below.refl _ _) _)
theorem EdF.drew (h : EdF A0 c0 l0 A1 l1 w W) : EdF A0 c0 l0 A1 l1 w W.drew := h.below (below_drew (Below.refl _ _))
end
set_option maxHeartbeats 8000000 in
set_option maxRecDepth 100000 in
theorem spec_EditRope.calls (k : Nat) (cL : Option Addr) (cM : Nat) (l0_0 : List S101) (A1 : Option Addr) (c1 : Nat) (l1 : List S59) (r1 : List S101) (r2 : Bool) (w : World) (hr0_0 : Kd.C k101 w cL l0_0.length l0_0) (hc0_0 : l0_0.length ≤ cM) (hr1 : Kd.C k59 w A1 l1.length l1) (hc1 : l1.length ≤ c1) (h : spec_EditRope.f k l0_0 l1 = some (r1, r2)) :
  Calls Try.prog 7 #[.agg #[.slice cL l0_0.length cM], .slice A1 l1.length c1] w fun e w' => ∃ v0_ : Value, e = .returned (.tuple #[.agg #[v0_], .bool r2]) ∧ Kd.R k101 101 w' w.heap.size (fun _ => True) v0_ r1 ∧ Below w.heap.size w w' := by
 obtain ⟨W2, hW2⟩ : ∃ W2, (w.alloc (.cells #[.slice cL l0_0.length cM] 30)).alloc (.cells #[.slice none 0 0] 30) = W2 := ⟨_, rfl⟩
 have HWB : Below w.heap.size w W2 := by rw [← hW2]; exact bA (bA (Below.refl _ _) _) _
 have HF : Aside0 (EdF cL cM l0_0 A1 l1 w W2) := ⟨HWB, by rw [← hW2]; have := av (blk_new w (.cells #[.slice cL l0_0.length cM] 30)) (.cells #[.slice none 0 0] 30); simpa using this, by rw [← hW2]; have := blk_new (w.alloc (.cells #[.slice cL l0_0.length cM] 30)) (.cells #[.slice none 0 0] 30); simpa using this, aG hr0_0 HWB, aG hr1 HWB⟩
 have HWE := aM hW2
 have en := aM hc0_0
 have gm := aM hc1
 have hu59 := Try.underlying59
 obtain ⟨gg, hg, h⟩ := oB h
 have HG := aM hg
 clear HWB hr0_0 hc0_0 hr1 hc1 hg hW2
 cases gg with
 | false =>
  rw [if_neg (by simp)] at h
  obtain ⟨rfl, rfl⟩ := Prod.mk.inj (sI h)
  clear h
  go_enter Try.func7, Try.ntmps7
  go_wp2_with (first | (go_at_call 24; (try rw [HWE.out]); refine (spec_GoodRope.calls k _ _ l0_0 _ _ (by repeat (first | exact HF.out.2.2.2.1 | (with_reducible refine aH ?_ _) | (with_reducible refine aI ?_ _) | (with_reducible refine aJ ?_))) en.out HG.out).mono ?_; rintro e w1 ⟨rfl, hb⟩; replace HF := aM (EdF.below z35 hb); (try clear cA cB); have cA : w1.cell? ⟨w.heap.size, 0, none⟩ = some (.slice cL l0_0.length cM) := (bC HF.out.2.1 0).trans rfl; have cB : w1.cell? ⟨w.heap.size + 1, 0, none⟩ = some (.slice none 0 0) := (bC HF.out.2.2.1 0).trans rfl; have fB := bF HF.out.2.2.1 0; clear hb))
  refine aU (aV rfl _ _ (w.heap.size + 1) 30 #[.slice none 0 0] (0, 0) _ rfl (by exact ax (cs := #[.slice none 0 0]) HF.out.2.2.1 0 _ rfl) Try.underlying30 rfl z1) rfl ?_
  exact ⟨_, rfl, Kd.R_nil _ _ _ _ _, az HF.out.1 (by omega)⟩
 | true =>
 rw [if_pos rfl] at h
 obtain ⟨g2, hg2, h⟩ := oB h
 have HG2 := aM hg2
 clear hg2
 cases g2 with
 | false =>
  rw [if_neg (by simp)] at h
  obtain ⟨rfl, rfl⟩ := Prod.mk.inj (sI h)
  clear h
  go_enter Try.func7, Try.ntmps7
  go_wp2_with (first | (go_at_call 24; (try rw [HWE.out]); refine (spec_GoodRope.calls k _ _ l0_0 _ _ (by repeat (first | exact HF.out.2.2.2.1 | (with_reducible refine aH ?_ _) | (with_reducible refine aI ?_ _) | (with_reducible refine aJ ?_))) en.out HG.out).mono ?_; rintro e w1 ⟨rfl, hb⟩; replace HF := aM (EdF.below z35 hb); (try clear cA cB); have cA : w1.cell? ⟨w.heap.size, 0, none⟩ = some (.slice cL l0_0.length cM) := (bC HF.out.2.1 0).trans rfl; have cB : w1.cell? ⟨w.heap.size + 1, 0, none⟩ = some (.slice none 0 0) := (bC HF.out.2.2.1 0).trans rfl; have fB := bF HF.out.2.2.1 0; clear hb) | (go_at_call 25; refine (spec_GoodOp.calls k _ _ l1 _ _ z39 gm.out HG2.out).mono ?_; rintro e w2 ⟨rfl, hb⟩; replace HF := aM (EdF.below z35 hb); (try clear cA cB); have cA : w2.cell? ⟨w.heap.size, 0, none⟩ = some (.slice cL l0_0.length cM) := (bC HF.out.2.1 0).trans rfl; have cB : w2.cell? ⟨w.heap.size + 1, 0, none⟩ = some (.slice none 0 0) := (bC HF.out.2.2.1 0).trans rfl; have fB := bF HF.out.2.2.1 0; clear hb))
  refine aU (aV rfl _ _ (w.heap.size + 1) 30 #[.slice none 0 0] (0, 0) _ rfl (by exact ax (cs := #[.slice none 0 0]) HF.out.2.2.1 0 _ rfl) Try.underlying30 rfl z1) rfl ?_
  exact ⟨_, rfl, Kd.R_nil _ _ _ _ _, az HF.out.1 (by omega)⟩
 | true =>
 rw [if_pos rfl] at h
 obtain ⟨tt, ht, h⟩ := oB h
 obtain ⟨ao, ha, h⟩ := oB h
 have HT := aM ht
 have HA : Aside0 (spec_l3Apply.f k l1 tt = some (ao.1, ao.2)) := ⟨ha⟩
 clear ht ha
 obtain ⟨ao1, ao2⟩ := ao
 cases ao2 with
 | false =>
  rw [if_neg (by simp)] at h
  obtain ⟨rfl, rfl⟩ := Prod.mk.inj (sI h)
  clear h
  go_enter Try.func7, Try.ntmps7
  go_wp2_with (first | (go_at_call 24; (try rw [HWE.out]); refine (spec_GoodRope.calls k _ _ l0_0 _ _ (by repeat (first | exact HF.out.2.2.2.1 | (with_reducible refine aH ?_ _) | (with_reducible refine aI ?_ _) | (with_reducible refine aJ ?_))) en.out HG.out).mono ?_; rintro e w1 ⟨rfl, hb⟩; replace HF := aM (EdF.below z35 hb); (try clear cA cB); have cA : w1.cell? ⟨w.heap.size, 0, none⟩ = some (.slice cL l0_0.length cM) := (bC HF.out.2.1 0).trans rfl; have cB : w1.cell? ⟨w.heap.size + 1, 0, none⟩ = some (.slice none 0 0) := (bC HF.out.2.2.1 0).trans rfl; have fB := bF HF.out.2.2.1 0; clear hb) | (go_at_call 25; refine (spec_GoodOp.calls k _ _ l1 _ _ z39 gm.out HG2.out).mono ?_; rintro e w2 ⟨rfl, hb⟩; replace HF := aM (EdF.below z35 hb); (try clear cA cB); have cA : w2.cell? ⟨w.heap.size, 0, none⟩ = some (.slice cL l0_0.length cM) := (bC HF.out.2.1 0).trans rfl; have cB : w2.cell? ⟨w.heap.size + 1, 0, none⟩ = some (.slice none 0 0) := (bC HF.out.2.2.1 0).trans rfl; have fB := bF HF.out.2.2.1 0; clear hb) | (go_at_call 27; refine (spec_l12Text.calls k _ _ l0_0 tt _ (by repeat (first | exact HF.out.2.2.2.1 | (with_reducible refine aH ?_ _) | (with_reducible refine aI ?_ _) | (with_reducible refine aJ ?_))) en.out HT.out).mono ?_; rintro e w3 ⟨rfl, hb⟩; replace HF := aM (EdF.below z35 hb); (try clear cA cB); have cA : w3.cell? ⟨w.heap.size, 0, none⟩ = some (.slice cL l0_0.length cM) := (bC HF.out.2.1 0).trans rfl; have cB : w3.cell? ⟨w.heap.size + 1, 0, none⟩ = some (.slice none 0 0) := (bC HF.out.2.2.1 0).trans rfl; have fB := bF HF.out.2.2.1 0; clear hb) | (go_at_call 26; refine (spec_l3Apply.calls k _ _ l1 tt ao1 false _ z39 gm.out HA.out).mono ?_; rintro e w4 ⟨rfl, hb⟩; replace HF := aM (EdF.below z35 hb); (try clear cA cB); have cA : w4.cell? ⟨w.heap.size, 0, none⟩ = some (.slice cL l0_0.length cM) := (bC HF.out.2.1 0).trans rfl; have cB : w4.cell? ⟨w.heap.size + 1, 0, none⟩ = some (.slice none 0 0) := (bC HF.out.2.2.1 0).trans rfl; have fB := bF HF.out.2.2.1 0; clear hb))
  refine aU (aV rfl _ _ (w.heap.size + 1) 30 #[.slice none 0 0] (0, 0) _ rfl (by exact ax (cs := #[.slice none 0 0]) HF.out.2.2.1 0 _ rfl) Try.underlying30 rfl z1) rfl ?_
  exact ⟨_, rfl, Kd.R_nil _ _ _ _ _, az HF.out.1 (by omega)⟩
 | true =>
 rw [if_pos rfl] at h
 by_cases hl1 : l1.length ≤ 100000000
 case neg => rw [if_neg hl1] at h; cases h
 rw [if_pos hl1] at h
 have HL1 := aM hl1
 clear hl1
 obtain ⟨res, he, h⟩ := oB h
 split at h
 case isFalse => cases h
 case isTrue hlen =>
 obtain ⟨g3, hg3, h⟩ := oB h
 have HE := aM he
 have HG3 := aM hg3
 have HH := aM h
 have LM : Aside0 (([] : List S101).length + res.length < 2932031007402) := ⟨by simpa using hlen⟩
 clear he hg3 h hlen
 go_enter Try.func7, Try.ntmps7
 go_upto_region 8 with (first | (go_at_call 24; (try rw [HWE.out]); refine (spec_GoodRope.calls k _ _ l0_0 _ _ (by repeat (first | exact HF.out.2.2.2.1 | (with_reducible refine aH ?_ _) | (with_reducible refine aI ?_ _) | (with_reducible refine aJ ?_))) en.out HG.out).mono ?_; rintro e w1 ⟨rfl, hb⟩; replace HF := aM (EdF.below z35 hb); (try clear cA cB); have cA : w1.cell? ⟨w.heap.size, 0, none⟩ = some (.slice cL l0_0.length cM) := (bC HF.out.2.1 0).trans rfl; have cB : w1.cell? ⟨w.heap.size + 1, 0, none⟩ = some (.slice none 0 0) := (bC HF.out.2.2.1 0).trans rfl; have fB := bF HF.out.2.2.1 0; clear hb) | (go_at_call 25; refine (spec_GoodOp.calls k _ _ l1 _ _ z39 gm.out HG2.out).mono ?_; rintro e w2 ⟨rfl, hb⟩; replace HF := aM (EdF.below z35 hb); (try clear cA cB); have cA : w2.cell? ⟨w.heap.size, 0, none⟩ = some (.slice cL l0_0.length cM) := (bC HF.out.2.1 0).trans rfl; have cB : w2.cell? ⟨w.heap.size + 1, 0, none⟩ = some (.slice none 0 0) := (bC HF.out.2.2.1 0).trans rfl; have fB := bF HF.out.2.2.1 0; clear hb) | (go_at_call 27; refine (spec_l12Text.calls k _ _ l0_0 tt _ (by repeat (first | exact HF.out.2.2.2.1 | (with_reducible refine aH ?_ _) | (with_reducible refine aI ?_ _) | (with_reducible refine aJ ?_))) en.out HT.out).mono ?_; rintro e w3 ⟨rfl, hb⟩; replace HF := aM (EdF.below z35 hb); (try clear cA cB); have cA : w3.cell? ⟨w.heap.size, 0, none⟩ = some (.slice cL l0_0.length cM) := (bC HF.out.2.1 0).trans rfl; have cB : w3.cell? ⟨w.heap.size + 1, 0, none⟩ = some (.slice none 0 0) := (bC HF.out.2.2.1 0).trans rfl; have fB := bF HF.out.2.2.1 0; clear hb) | (go_at_call 26; refine (spec_l3Apply.calls k _ _ l1 tt ao1 true _ z39 gm.out HA.out).mono ?_; rintro e w4 ⟨rfl, hb⟩; replace HF := aM (EdF.below z35 hb); (try clear cA cB); have cA : w4.cell? ⟨w.heap.size, 0, none⟩ = some (.slice cL l0_0.length cM) := (bC HF.out.2.1 0).trans rfl; have cB : w4.cell? ⟨w.heap.size + 1, 0, none⟩ = some (.slice none 0 0) := (bC HF.out.2.2.1 0).trans rfl; have fB := bF HF.out.2.2.1 0; clear hb))
 clear cA cB fB HG HG2 HT HA HWE
 go_wp2
 go_loopg [8, 9, 43] l1.length (fun d v8 v9 v43 w' => ∃ (i : Nat) (rest out : List S101) (A8 : Option Addr) (c8 : Nat) (A9 : Option Addr) (c9 : Nat), v43 = .int .i64 (i : Nat) ∧ i + d = l1.length ∧ v8 = .slice A8 rest.length c8 ∧ v9 = .slice A9 out.length c9 ∧ rest.length ≤ c8 ∧ out.length ≤ c9 ∧ Aside0 (Kd.C k101 w' A8 rest.length rest) ∧ Aside0 (Kd.C k101 w' A9 out.length out) ∧ Aside0 (eL k (l1.drop i) rest out = some res) ∧ Aside0 (EdF cL cM l0_0 A1 l1 w w'))
 case atStart => exact ⟨0, l0_0, [], cL, cM, none, 0, rfl, Nat.zero_add _, rfl, rfl, en.out, Nat.le_refl _, ⟨by repeat (first | exact HF.out.2.2.2.1 | (with_reducible refine aH ?_ _) | (with_reducible refine aI ?_ _) | (with_reducible refine aJ ?_))⟩, ⟨Kd.C_nil _ _⟩, ⟨by rw [List.drop_zero]; exact HE.out⟩, ⟨y15⟩⟩
 case round =>
  clear HF HE
  obtain ⟨i, rest, out, A8, c8, A9, c9, rfl, hid, rfl, rfl, hl8, hlo, CR, CO, HE, HF⟩ := hrel
  have hmx1 := HL1.out
  cases gk with
  | zero =>
   have d0 : decide (i < l1.length) = false := dF (by omega)
   have he := HE.out
   rw [List.drop_of_length_le (by omega)] at he
   obtain rfl := sI he
   clear he HE
   have HLO := aM hlo
   have HSZ := aM HF.out.1.size
   clear hid hmx1 hl8 hlo CR HL1
   go_upto_region 27 with (first | ((with_reducible refine aN (N := 91) rfl ?_); refine Kd.R_lit k101 (w0 := wr) wr.heap.size 101 ?hg (N := 91) ?hd (xs := ([] : List (S101))) (inner := []) (ok := fun _ => True) (okp := fun _ => True) ?hr ?hp (fun _ hk => hk) trivial (Below.refl _ _) (Nat.le_refl _) (by simp) ?_; (case hd => rfl); (case hg => rfl); (case hr => first | (go_simp; done) | (go_simp; rfl)); (case hp => exact (Reps.none _ _)); intro v1 w1 ho1 hb1 hg_ hnew_; have HV1 := aM ho1; have HB1 : Aside0 (Below wr.heap.size wr w1) := ⟨hb1⟩; have HRA := aM (aG CO.out hb1); clear ho1 hb1 hg_ hnew_) | ((with_reducible refine gate_builtin (b := .append) (xs := #[.tmp 91, .tmp 92]) rfl ?_); at_builtin; refine Kd.R_append_rows k101 (w0 := wr) wr.heap.size rfl (.tmp 91) (.tmp 92) 28 101 (.agg #[(.int .i64 0), (.int .i64 0), (.string ⟨#[]⟩), (.int .i64 0), (.int .i64 0)]) 48 rfl Try.underlying28 info101 rfl z0 (by omega) v1 [] out _ _ _ (fun _ => True) (fun _ => False) rfl rfl ?aO ?aR (fun _ _ h => h) (fun _ h => h.elim) (fun _ _ => trivial) ?aB ?aS ?aL ?_; (case aR => repeat (first | exact HRA.out | (with_reducible refine aH ?_ _) | (with_reducible refine aI ?_ _) | (with_reducible refine aJ ?_))); (case aB => exact (by repeat (first | (with_reducible first | exact HB1.out | apply bA | apply pD | apply bD) | exact HB1.out))); (case aO => exact (kR_ HV1.out)); (case aS => exact (aC (by repeat (first | (with_reducible first | exact HB1.out | apply bA | apply pD | apply bD) | exact HB1.out)))); (case aL => have := LM.out; simp only [List.length_nil] at *; omega); intro v2 w2 ho hb hg hat; rw [List.nil_append] at ho; obtain ⟨A2, c2, eo⟩ := Kd.R_slice ho; subst eo; have HV2 := aM ho; have nf_ := aM (EdF.below HF.out hb); clear HF; have HF := nf_; clear nf_ ho hb hg hat))
   obtain ⟨wc, hwc⟩ : ∃ x, w2.alloc (.cells #[.slice A2 out.length c2] 30) = x := ⟨_, rfl⟩
   rw [hwc]
   have hb : Below w2.heap.size w2 wc := by rw [← hwc]; exact bA (Below.refl _ _) _
   have BX : Aside0 (wc.heap[w2.heap.size]? = some (.cells #[.slice A2 out.length c2] 30 (0, 0))) := ⟨by rw [← hwc]; exact blk_new _ _⟩
   have nf_ := aM (EdF.below HF.out hb); clear HF; have HF := nf_; clear nf_
   have HV3 := aM (ag HV2.out hb)
   have r7 := aM (ai HV3.out).2.2
   have HL2 := aM (ai HV3.out).2.1
   obtain ⟨gx, hgx⟩ : ∃ g, w2.heap.size = g := ⟨_, rfl⟩
   rw [hgx] at BX ⊢
   clear hb hwc hgx HV2 HRA HV1 HB1 CO HLO
   have hcx_0 : wc.cell? ⟨gx, 0, none⟩ = some (.slice A2 out.length c2) := (bC BX.out 0).trans rfl
   have hh := HH.out
   clear HH
   cases g3 with
   | false =>
    rw [if_neg (by simp)] at hh
    obtain ⟨rfl, rfl⟩ := Prod.mk.inj (sI hh)
    clear hh
    go_wp2_with (first | (go_at_call 24; refine (spec_GoodRope.calls k _ _ out _ _ (by repeat (first | exact r7.out | (with_reducible refine aH ?_ _) | (with_reducible refine aI ?_ _) | (with_reducible refine aJ ?_))) HL2.out HG3.out).mono ?_; rintro e w5 ⟨rfl, hb⟩; replace HF := aM (EdF.below z35 hb); have nx_ := aM (af BX.out hb); clear BX hcx_0; have BX := nx_; have nv_ := aM (ag HV3.out hb); clear HV3 nx_; have HV3 := nv_; have hcx_0 : w5.cell? ⟨gx, 0, none⟩ = some (.slice A2 out.length c2) := (bC BX.out 0).trans rfl; have cB : w5.cell? ⟨w.heap.size + 1, 0, none⟩ = some (.slice none 0 0) := (bC HF.out.2.2.1 0).trans rfl; have fB := bF HF.out.2.2.1 0; clear hb nv_))
    refine aU (aV rfl _ _ (w.heap.size + 1) 30 #[.slice none 0 0] (0, 0) _ rfl (by exact ax (cs := #[.slice none 0 0]) HF.out.2.2.1 0 _ rfl) Try.underlying30 rfl z1) rfl ?_
    exact ⟨_, rfl, Kd.R_nil _ _ _ _ _, az HF.out.1 (by omega)⟩
   | true =>
    rw [if_pos rfl] at hh
    obtain ⟨rfl, rfl⟩ := Prod.mk.inj (sI hh)
    clear hh
    go_wp2_with (first | (go_at_call 24; refine (spec_GoodRope.calls k _ _ out _ _ (by repeat (first | exact r7.out | (with_reducible refine aH ?_ _) | (with_reducible refine aI ?_ _) | (with_reducible refine aJ ?_))) HL2.out HG3.out).mono ?_; rintro e w5 ⟨rfl, hb⟩; replace HF := aM (EdF.below z35 hb); have nx_ := aM (af BX.out hb); clear BX hcx_0; have BX := nx_; have nv_ := aM (ag HV3.out hb); clear HV3 nx_; have HV3 := nv_; have hcx_0 : w5.cell? ⟨gx, 0, none⟩ = some (.slice A2 out.length c2) := (bC BX.out 0).trans rfl; have cB : w5.cell? ⟨w.heap.size + 1, 0, none⟩ = some (.slice none 0 0) := (bC HF.out.2.2.1 0).trans rfl; have fB := bF HF.out.2.2.1 0; clear hb nv_))
    refine aU (aV rfl _ _ (w.heap.size + 1) 30 #[.slice A2 out.length c2] (0, 0) _ rfl (by exact ax (cs := #[.slice none 0 0]) HF.out.2.2.1 0 _ rfl) Try.underlying30 rfl z1) rfl ?_
    exact ⟨_, rfl, Kd.R_set (aW HV3.out HSZ.out) HF.out.2.2.1 z0 0 _, az HF.out.1 (by omega)⟩
  | succ gk0 =>
   have d0 : decide (i < l1.length) = true := dT (by omega)
   have hlt : i < l1.length := by omega
   have hlt' : (i : Int) < (l1.length : Int) := by omega
   have hi2 : (i : Int) + 1 ≤ 100000000 := by omega
   clear hmx1
   have HID := aM hid
   have HI2 := aM hi2
   have he := HE.out
   rw [eL_at k l1 rest out i (by omega)] at he
   obtain ⟨ad, e_, hx0, hx1, hx2⟩ := at_T59 HF.out.2.2.2.2 (i : Int) (by omega) (by omega)
   simp only [aZ] at hx0 hx1 hx2
   cases e_
   clear hid hi2
   go_upto_region 11 with (fail)
   clear d0 hlt hlt'
   obtain ⟨wc, hwc⟩ : ∃ x, wr.alloc (.cells #[.int .i64 ((rd_T59 l1 (i : Int)).f0), .string ((rd_T59 l1 (i : Int)).f1), .string ((rd_T59 l1 (i : Int)).f2)] 59) = x := ⟨_, rfl⟩
   rw [hwc]
   have hb : Below wr.heap.size wr wc := by rw [← hwc]; exact bA (Below.refl _ _) _
   have BX : Aside0 (wc.heap[wr.heap.size]? = some (.cells #[.int .i64 ((rd_T59 l1 (i : Int)).f0), .string ((rd_T59 l1 (i : Int)).f1), .string ((rd_T59 l1 (i : Int)).f2)] 59 (0, 0))) := ⟨by rw [← hwc]; exact blk_new _ _⟩
   have nf_ := aM (EdF.below z35 hb); have nc0_ := aM (aG (by repeat (first | exact CR.out | (with_reducible refine aH ?_ _) | (with_reducible refine aI ?_ _) | (with_reducible refine aJ ?_))) hb); have nc1_ := aM (aG (by repeat (first | exact CO.out | (with_reducible refine aH ?_ _) | (with_reducible refine aI ?_ _) | (with_reducible refine aJ ?_))) hb); clear HF CR CO; have HF := nf_; clear nf_; have CR := nc0_; clear nc0_; have CO := nc1_; clear nc1_
   obtain ⟨gx, hgx⟩ : ∃ g, wr.heap.size = g := ⟨_, rfl⟩
   rw [hgx] at BX ⊢
   clear hb hwc hgx hx0 hx1 hx2
   have hcx_0 : wc.cell? ⟨gx, 0, none⟩ = some (.int .i64 ((rd_T59 l1 (i : Int)).f0)) := (bC BX.out 0).trans rfl; have hfx_0 := bF BX.out 0; have hcx_1 : wc.cell? ⟨gx, 1, none⟩ = some (.string ((rd_T59 l1 (i : Int)).f1)) := (bC BX.out 1).trans rfl; have hfx_1 := bF BX.out 1; have hcx_2 : wc.cell? ⟨gx, 2, none⟩ = some (.string ((rd_T59 l1 (i : Int)).f2)) := (bC BX.out 2).trans rfl; have hfx_2 := bF BX.out 2
   by_cases hput : (rd_T59 l1 (i : Int)).f1.toList = []
   ·have s0 : ((rd_T59 l1 (i : Int)).f1.toList != []) = false := nF hput
    have s00 : ((rd_T59 l1 (i : Int)).f1.toList == []) = true := qT hput
    rw [if_neg (fun h_ => h_ hput)] at he
    obtain ⟨⟨x, y⟩, hs, he⟩ := oB he
    obtain ⟨sm, hsm⟩ : ∃ m : Int, wrap64 ((rd_T59 l1 (i : Int)).f0 + ((rd_T59 l1 (i : Int)).f2.size : Int)) = m := ⟨_, rfl⟩
    have hsmw : IntKind.i64.wrap ((rd_T59 l1 (i : Int)).f0 + ((rd_T59 l1 (i : Int)).f2.size : Int)) = sm := (i64_w _).trans hsm
    rw [hsm] at hs
    have HS := aM hs
    clear hs hsm hput
    by_cases hk0 : (rd_T59 l1 (i : Int)).f0 = 0
    ·have s1 : ((rd_T59 l1 (i : Int)).f0 == 0) = true := qT hk0
     rw [if_pos hk0] at he
     have HE2 := aM he
     clear he hk0 HE
     go_wp2_with (first | (go_at_call 31; refine (split_rd k rest A8 c8 sm x y _ (by repeat (first | exact CR.out | (with_reducible refine aH ?_ _) | (with_reducible refine aI ?_ _) | (with_reducible refine aJ ?_))) hl8 HS.out).mono ?_; rintro e w7 ⟨A6, c6, A7, c7, rfl, hc6, hl6, hc7, hl7, hb⟩; have mm := aM hc6; have HL6 := aM hl6; have rD := aM hc7; have HL7 := aM hl7; have nf_ := aM (EdF.below z35 hb); have nc0_ := aM (aG (by repeat (first | exact CO.out | (with_reducible refine aH ?_ _) | (with_reducible refine aI ?_ _) | (with_reducible refine aJ ?_))) hb); have nx_ := aM (af (kB_ BX.out) hb); (try clear hcx_0 hcx_1 hcx_2 hfx_0 hfx_1 hfx_2); clear HF CO BX; have HF := nf_; clear nf_; have CO := nc0_; clear nc0_; have BX := nx_; clear nx_; obtain ⟨hcx_0, hcx_1, hcx_2, hfx_0, hfx_1, hfx_2⟩ := cc3 BX.out; clear CR hc6 hl6 hc7 hl7 hb))
     have hi2 := HI2.out
     go_roundg gk0
     case measure => have := HID.out; omega
     case rel => exact ⟨i + 1, y, out, _, _, _, _, (by rw [show wrap64 ((i : Int) + 1) = ((i + 1 : Nat) : Int) from by unfold wrap64; omega]), by have := HID.out; omega, rfl, rfl, HL7.out, hlo, ⟨by repeat (first | exact rD.out | (with_reducible refine aH ?_ _) | (with_reducible refine aI ?_ _) | (with_reducible refine aJ ?_))⟩, ⟨y17⟩, HE2, ⟨y15⟩⟩
    ·have s1 : ((rd_T59 l1 (i : Int)).f0 == 0) = false := qF hk0
     rw [if_neg hk0] at he
     obtain ⟨pc, hpc, he⟩ := oB he
     by_cases hm_ : pc.length ≤ 100000000
     case neg => rw [if_neg hm_] at he; cases he
     rw [if_pos hm_] at he
     have HMX := aM hm_
     clear hm_
     obtain ⟨o2, ho2, he⟩ := oB he
     have HPC := aM hpc
     have HJ := aM ho2
     have HE2 := aM he
     have HLO := aM hlo
     clear he hk0 HE hpc ho2 hlo
     go_wp2_with (first | (go_at_call 31; refine (split_rd k rest A8 c8 sm x y _ (by repeat (first | exact CR.out | (with_reducible refine aH ?_ _) | (with_reducible refine aI ?_ _) | (with_reducible refine aJ ?_))) hl8 HS.out).mono ?_; rintro e w7 ⟨A6, c6, A7, c7, rfl, hc6, hl6, hc7, hl7, hb⟩; have mm := aM hc6; have HL6 := aM hl6; have rD := aM hc7; have HL7 := aM hl7; have nf_ := aM (EdF.below z35 hb); have nc0_ := aM (aG (by repeat (first | exact CO.out | (with_reducible refine aH ?_ _) | (with_reducible refine aI ?_ _) | (with_reducible refine aJ ?_))) hb); have nx_ := aM (af (kB_ BX.out) hb); (try clear hcx_0 hcx_1 hcx_2 hfx_0 hfx_1 hfx_2); clear HF CO BX; have HF := nf_; clear nf_; have CO := nc0_; clear nc0_; have BX := nx_; clear nx_; obtain ⟨hcx_0, hcx_1, hcx_2, hfx_0, hfx_1, hfx_2⟩ := cc3 BX.out; clear CR hc6 hl6 hc7 hl7 hb) | (go_at_call 32; refine (spec_l12Pieces.calls k _ _ x pc _ (by repeat (first | exact mm.out | (with_reducible refine aH ?_ _) | (with_reducible refine aI ?_ _) | (with_reducible refine aJ ?_))) HL6.out HPC.out).mono ?_; rintro e w9 ⟨v9, rfl, ho, hb⟩; obtain ⟨As, cs_, eo⟩ := Kd.R_slice ho; subst eo; have CS := aM (ai ho).2.2; have nf_ := aM (EdF.below z35 hb); have nc0_ := aM (aG (by repeat (first | exact rD.out | (with_reducible refine aH ?_ _) | (with_reducible refine aI ?_ _) | (with_reducible refine aJ ?_))) hb); have nc1_ := aM (aG (by repeat (first | exact CO.out | (with_reducible refine aH ?_ _) | (with_reducible refine aI ?_ _) | (with_reducible refine aJ ?_))) hb); clear HF rD CO; have HF := nf_; clear nf_; have rD := nc0_; clear nc0_; have CO := nc1_; clear nc1_; clear ho hb))
     have CR := rD
     clear rD
     go_loopg [9, 81] pc.length (fun d v9 v_ w' => ∃ (j : Nat) (out : List S101) (A9 : Option Addr) (c9 : Nat), v_ = .int .i64 (j : Nat) ∧ j + d = pc.length ∧ v9 = .slice A9 out.length c9 ∧ out.length ≤ c9 ∧ Aside0 (Kd.C k101 w' A9 out.length out) ∧ Aside0 (eJ k (pc.drop j) out = some o2) ∧ Aside0 (EdF cL cM l0_0 (some ad) l1 w w') ∧ Aside0 (Kd.C k101 w' _ y.length y) ∧ Aside0 (Kd.C Kd.string w' As pc.length pc))
     case atStart => exact ⟨0, out, A9, c9, rfl, Nat.zero_add _, rfl, HLO.out, ⟨y17⟩, ⟨by rw [List.drop_zero]; exact HJ.out⟩, ⟨y15⟩, ⟨y18⟩, ⟨by repeat (first | exact CS.out | (with_reducible refine aH ?_ _) | (with_reducible refine aI ?_ _) | (with_reducible refine aJ ?_))⟩⟩
     case round =>
      clear CO HF CR CS HJ HLO
      obtain ⟨j, out, A9, c9, rfl, hjd, rfl, hlo, CO, HJ, HF, CR, CS⟩ := hrel
      have hmx := HMX.out
      cases gk with
      | zero =>
       have d9 : decide (j < pc.length) = false := dF (by omega)
       have hj := HJ.out
       rw [List.drop_of_length_le (by omega)] at hj
       obtain rfl := sI hj
       clear hj HJ hjd hmx
       go_wp2
       have hi2 := HI2.out
       go_roundg gk0
       case measure => have := HID.out; omega
       case rel => exact ⟨i + 1, y, _, _, _, _, _, (by rw [show wrap64 ((i : Int) + 1) = ((i + 1 : Nat) : Int) from by unfold wrap64; omega]), by have := HID.out; omega, rfl, rfl, HL7.out, (by first | exact hlo | exact HLO.out), ⟨y18⟩, ⟨y17⟩, HE2, ⟨y15⟩⟩
      | succ gk =>
       have d9 : decide (j < pc.length) = true := dT (by omega)
       have hlt : j < pc.length := by omega
       have hlt' : (j : Int) < (pc.length : Int) := by omega
       have hj2 : (j : Int) + 1 ≤ 100000000 := by omega
       clear hmx
       have HJD := aM hjd
       have tQ := aM hj2
       have hj := HJ.out
       rw [eJ_at k pc out j (by omega)] at hj
       obtain ⟨p, hp, hj⟩ := oB hj
       obtain ⟨q, hq, hj⟩ := oB hj
       have HP := aM hp
       have HQ := aM hq
       have r5 := aM hj
       have HLO := aM hlo
       obtain ⟨ads, es_, hs0⟩ := Kd.at_string CS.out (j : Int) (by omega) (by omega)
       simp only [aZ] at hs0
       cases es_
       clear hp hq hj HJ hlo hjd hj2
       go_wp2_with (first | (go_at_call 30; refine (spec_l12Piece.calls _ _ _ HP.out).mono ?_; rintro e w5 ⟨v5, rfl, ho, hb⟩; obtain ⟨A5, c5, eo⟩ := Kd.R_slice ho; subst eo; have jH := aM (ai ho).2.2; have HL5 := aM (ai ho).2.1; have nf_ := aM (EdF.below z35 hb); have nc0_ := aM (aG (by repeat (first | exact CO.out | (with_reducible refine aH ?_ _) | (with_reducible refine aI ?_ _) | (with_reducible refine aJ ?_))) hb); have nc1_ := aM (aG (by repeat (first | exact CR.out | (with_reducible refine aH ?_ _) | (with_reducible refine aI ?_ _) | (with_reducible refine aJ ?_))) hb); have nc2_ := aM (aG (by repeat (first | exact CS.out | (with_reducible refine aH ?_ _) | (with_reducible refine aI ?_ _) | (with_reducible refine aJ ?_))) hb); clear HF CO CR CS; have HF := nf_; clear nf_; have CO := nc0_; clear nc0_; have CR := nc1_; clear nc1_; have CS := nc2_; clear nc2_; clear ho hb) | (go_at_call 29; refine (join_rd k out A9 c9 p A5 c5 q _ (by repeat (first | exact CO.out | (with_reducible refine aH ?_ _) | (with_reducible refine aI ?_ _) | (with_reducible refine aJ ?_))) HLO.out (by repeat (first | exact jH.out | (with_reducible refine aH ?_ _) | (with_reducible refine aI ?_ _) | (with_reducible refine aJ ?_))) HL5.out HQ.out).mono ?_; rintro e w6 ⟨A6, c6, rfl, hc6, hl6, hb⟩; have mm := aM hc6; have HL6 := aM hl6; have nf_ := aM (EdF.below z35 hb); have nc0_ := aM (aG (by repeat (first | exact CR.out | (with_reducible refine aH ?_ _) | (with_reducible refine aI ?_ _) | (with_reducible refine aJ ?_))) hb); have nc1_ := aM (aG (by repeat (first | exact CS.out | (with_reducible refine aH ?_ _) | (with_reducible refine aI ?_ _) | (with_reducible refine aJ ?_))) hb); clear HF CR CS; have HF := nf_; clear nf_; have CR := nc0_; clear nc0_; have CS := nc1_; clear nc1_; clear hc6 hl6 hb))
       have hj2 := tQ.out
       go_roundg gk
       case measure => have := HJD.out; omega
       case rel => exact ⟨j + 1, q, A6, c6, (by rw [show wrap64 ((j : Int) + 1) = ((j + 1 : Nat) : Int) from by unfold wrap64; omega]), by have := HJD.out; omega, rfl, HL6.out, ⟨by repeat (first | exact mm.out | (with_reducible refine aH ?_ _) | (with_reducible refine aI ?_ _) | (with_reducible refine aJ ?_))⟩, r5, ⟨y15⟩, ⟨y18⟩, ⟨by repeat (first | exact CS.out | (with_reducible refine aH ?_ _) | (with_reducible refine aI ?_ _) | (with_reducible refine aJ ?_))⟩⟩
   ·have s0 : ((rd_T59 l1 (i : Int)).f1.toList != []) = true := nT hput
    have s00 : ((rd_T59 l1 (i : Int)).f1.toList == []) = false := qF hput
    rw [if_pos hput] at he
    obtain ⟨cu, hcu, he⟩ := oB he
    by_cases hm_ : cu.length ≤ 100000000
    case neg => rw [if_neg hm_] at he; cases he
    rw [if_pos hm_] at he
    have HMX := aM hm_
    clear hm_
    obtain ⟨o2, ho2, he⟩ := oB he
    have HCU := aM hcu
    have HJ := aM ho2
    have HE2 := aM he
    have HLO := aM hlo
    have HL8 := aM hl8
    clear he hput HE hcu ho2 hlo hl8
    go_wp2_with (first | (go_at_call 28; refine (spec_l12Cut.calls k _ cu _ HCU.out).mono ?_; rintro e w9 ⟨v9, rfl, ho, hb⟩; obtain ⟨As, cs_, eo⟩ := Kd.R_slice ho; subst eo; have CS := aM (ai ho).2.2; have nf_ := aM (EdF.below z35 hb); have nc0_ := aM (aG (by repeat (first | exact CR.out | (with_reducible refine aH ?_ _) | (with_reducible refine aI ?_ _) | (with_reducible refine aJ ?_))) hb); have nc1_ := aM (aG (by repeat (first | exact CO.out | (with_reducible refine aH ?_ _) | (with_reducible refine aI ?_ _) | (with_reducible refine aJ ?_))) hb); clear HF CR CO; have HF := nf_; clear nf_; have CR := nc0_; clear nc0_; have CO := nc1_; clear nc1_; clear ho hb))
    go_loopg [9, 54] cu.length (fun d v9 v_ w' => ∃ (j : Nat) (out : List S101) (A9 : Option Addr) (c9 : Nat), v_ = .int .i64 (j : Nat) ∧ j + d = cu.length ∧ v9 = .slice A9 out.length c9 ∧ out.length ≤ c9 ∧ Aside0 (Kd.C k101 w' A9 out.length out) ∧ Aside0 (eJ k (cu.drop j) out = some o2) ∧ Aside0 (EdF cL cM l0_0 (some ad) l1 w w') ∧ Aside0 (Kd.C k101 w' _ rest.length rest) ∧ Aside0 (Kd.C Kd.string w' As cu.length cu))
    case atStart => exact ⟨0, out, A9, c9, rfl, Nat.zero_add _, rfl, HLO.out, ⟨y17⟩, ⟨by rw [List.drop_zero]; exact HJ.out⟩, ⟨y15⟩, ⟨y18⟩, ⟨by repeat (first | exact CS.out | (with_reducible refine aH ?_ _) | (with_reducible refine aI ?_ _) | (with_reducible refine aJ ?_))⟩⟩
    case round =>
     clear CO HF CR CS HJ HLO
     obtain ⟨j, out, A9, c9, rfl, hjd, rfl, hlo, CO, HJ, HF, CR, CS⟩ := hrel
     have hmx := HMX.out
     cases gk with
     | zero =>
      have d9 : decide (j < cu.length) = false := dF (by omega)
      have hj := HJ.out
      rw [List.drop_of_length_le (by omega)] at hj
      obtain rfl := sI hj
      clear hj HJ hjd hmx
      go_wp2
      have hi2 := HI2.out
      go_roundg gk0
      case measure => have := HID.out; omega
      case rel => exact ⟨i + 1, rest, _, _, _, _, _, (by rw [show wrap64 ((i : Int) + 1) = ((i + 1 : Nat) : Int) from by unfold wrap64; omega]), by have := HID.out; omega, rfl, rfl, HL8.out, (by first | exact hlo | exact HLO.out), ⟨y18⟩, ⟨y17⟩, HE2, ⟨y15⟩⟩
     | succ gk =>
      have d9 : decide (j < cu.length) = true := dT (by omega)
      have hlt : j < cu.length := by omega
      have hlt' : (j : Int) < (cu.length : Int) := by omega
      have hj2 : (j : Int) + 1 ≤ 100000000 := by omega
      clear hmx
      have HJD := aM hjd
      have tQ := aM hj2
      have hj := HJ.out
      rw [eJ_at k cu out j (by omega)] at hj
      obtain ⟨p, hp, hj⟩ := oB hj
      obtain ⟨q, hq, hj⟩ := oB hj
      have HP := aM hp
      have HQ := aM hq
      have r5 := aM hj
      have HLO := aM hlo
      obtain ⟨ads, es_, hs0⟩ := Kd.at_string CS.out (j : Int) (by omega) (by omega)
      simp only [aZ] at hs0
      cases es_
      clear hp hq hj HJ hlo hjd hj2
      go_wp2_with (first | (go_at_call 30; refine (spec_l12Piece.calls _ _ _ HP.out).mono ?_; rintro e w5 ⟨v5, rfl, ho, hb⟩; obtain ⟨A5, c5, eo⟩ := Kd.R_slice ho; subst eo; have jH := aM (ai ho).2.2; have HL5 := aM (ai ho).2.1; have nf_ := aM (EdF.below z35 hb); have nc0_ := aM (aG (by repeat (first | exact CO.out | (with_reducible refine aH ?_ _) | (with_reducible refine aI ?_ _) | (with_reducible refine aJ ?_))) hb); have nc1_ := aM (aG (by repeat (first | exact CR.out | (with_reducible refine aH ?_ _) | (with_reducible refine aI ?_ _) | (with_reducible refine aJ ?_))) hb); have nc2_ := aM (aG (by repeat (first | exact CS.out | (with_reducible refine aH ?_ _) | (with_reducible refine aI ?_ _) | (with_reducible refine aJ ?_))) hb); clear HF CO CR CS; have HF := nf_; clear nf_; have CO := nc0_; clear nc0_; have CR := nc1_; clear nc1_; have CS := nc2_; clear nc2_; clear ho hb) | (go_at_call 29; refine (join_rd k out A9 c9 p A5 c5 q _ (by repeat (first | exact CO.out | (with_reducible refine aH ?_ _) | (with_reducible refine aI ?_ _) | (with_reducible refine aJ ?_))) HLO.out (by repeat (first | exact jH.out | (with_reducible refine aH ?_ _) | (with_reducible refine aI ?_ _) | (with_reducible refine aJ ?_))) HL5.out HQ.out).mono ?_; rintro e w6 ⟨A6, c6, rfl, hc6, hl6, hb⟩; have mm := aM hc6; have HL6 := aM hl6; have nf_ := aM (EdF.below z35 hb); have nc0_ := aM (aG (by repeat (first | exact CR.out | (with_reducible refine aH ?_ _) | (with_reducible refine aI ?_ _) | (with_reducible refine aJ ?_))) hb); have nc1_ := aM (aG (by repeat (first | exact CS.out | (with_reducible refine aH ?_ _) | (with_reducible refine aI ?_ _) | (with_reducible refine aJ ?_))) hb); clear HF CR CS; have HF := nf_; clear nf_; have CR := nc0_; clear nc0_; have CS := nc1_; clear nc1_; clear hc6 hl6 hb))
      have hj2 := tQ.out
      go_roundg gk
      case measure => have := HJD.out; omega
      case rel => exact ⟨j + 1, q, A6, c6, (by rw [show wrap64 ((j : Int) + 1) = ((j + 1 : Nat) : Int) from by unfold wrap64; omega]), by have := HJD.out; omega, rfl, HL6.out, ⟨by repeat (first | exact mm.out | (with_reducible refine aH ?_ _) | (with_reducible refine aI ?_ _) | (with_reducible refine aJ ?_))⟩, r5, ⟨y15⟩, ⟨y18⟩, ⟨by repeat (first | exact CS.out | (with_reducible refine aH ?_ _) | (with_reducible refine aI ?_ _) | (with_reducible refine aJ ?_))⟩⟩

/-! ### impl_sizes: function 57 -/
def impl_sizes.l0 : Nat → Int → Int → List (S59) → Int → Int → Option (Int × Int)
 | 0, _, _, _, _, _ => none
 | k + 1, x4, x5, x8, x9, x10 => if x10 < x9 then (if 0 ≤ x10 then (if x10 < (x8.length : Int) then (impl_sizes.l0 k (wrap64 (x4 + (wrap64 (((rd_T59 x8 x10).f0) + (((rd_T59 x8 x10).f2).size : Int))))) (wrap64 (x5 + (wrap64 (((rd_T59 x8 x10).f0) + (((rd_T59 x8 x10).f1).size : Int))))) x8 x9 (wrap64 (x10 + 1))) else (none)) else (none)) else (some (x4, x5))
def impl_sizes.f (k : Nat) (l0 : List (S59)) : Option (Int × Int) := impl_sizes.l0 k 0 0 l0 (l0.length : Int) 0
theorem impl_sizes.mono_l : ∀ k, (∀ y0 y1 y2 y3 y4, LeO (impl_sizes.l0 k y0 y1 y2 y3 y4) (impl_sizes.l0 (k + 1) y0 y1 y2 y3 y4))
 | 0 => fun _ _ _ _ _ r h => by simp [impl_sizes.l0] at h
 | k + 1 => by
  have ih0 := impl_sizes.mono_l k
  ·intro y0 y1 y2 y3 y4
   unfold impl_sizes.l0
   repeat' first
   | (with_reducible exact ih0 _ _ _ _ _)
   | (with_reducible exact LeO.refl _)
   | (with_reducible exact LeO.none _)
   | (with_reducible refine LeO.ite ?_ ?_)
   | (with_reducible refine LeO.bind ?_ (fun _ => ?_))
theorem impl_sizes.mono : ∀ a0 k, LeO (impl_sizes.f k a0) (impl_sizes.f (k + 1) a0) := by
 intro a0 k
 have ih0 := impl_sizes.mono_l k
 unfold impl_sizes.f
 repeat' first
   | (with_reducible exact ih0 _ _ _ _ _)
   | (with_reducible exact LeO.refl _)
   | (with_reducible exact LeO.none _)
   | (with_reducible refine LeO.ite ?_ ?_)
   | (with_reducible refine LeO.bind ?_ (fun _ => ?_))
set_option maxHeartbeats 8000000 in
set_option maxRecDepth 100000 in
theorem impl_sizes.calls (k : Nat) (A0 : Option Addr) (c0 : Nat) (l0 : List (S59)) (r1 : Int) (r2 : Int) (w : World) (hr0 : Kd.C k59 w A0 l0.length l0) (hc0 : l0.length ≤ c0) (h : impl_sizes.f k l0 = some (r1, r2)) :
  Calls Try.prog 57 #[.slice A0 l0.length c0] w fun e w' => e = .returned (.tuple #[.int .i64 r1, .int .i64 r2]) ∧ Below w.heap.size w w' := by
 have hu59 := Try.underlying59
 have dY := aM hr0
 have en := aM hc0
 clear hr0 hc0
 have HB := aM (Below.refl w.heap.size w)
 have H : (impl_sizes.l0 k 0 0 l0 (l0.length : Int) 0) = some (r1, r2) := h
 clear h
 have H' := aM H
 clear H
 go_enter Try.func57, Try.ntmps57
 go_wp2
 go_loopg [4, 5, 10] k (fun kq v4 v5 v10 w' => ∃ (x4_1 : Int) (x5_1 : Int) (x10_1 : Int), v4 = .int .i64 x4_1 ∧ v5 = .int .i64 x5_1 ∧ v10 = .int .i64 x10_1 ∧ Aside0 (impl_sizes.l0 kq x4_1 x5_1 l0 (l0.length : Int) x10_1 = some (r1, r2)) ∧ Aside0 (kq ≤ k) ∧ Aside0 (Below w.heap.size w w'))
 case atStart => exact ⟨(0), (0), (0), z2, z2, z2, H', ⟨Nat.le_refl _⟩, ⟨y5⟩⟩
 case round =>
  clear H'
  obtain ⟨x4_1, x5_1, x10_1, rfl, rfl, rfl, HA, HK1, HB⟩ := hrel
  cases gk with
  | zero => exact absurd HA.out (by simp [impl_sizes.l0])
  | succ k1 =>
   have H := HA.out
   clear HA
   simp only [impl_sizes.l0] at H
   by_cases c2 : x10_1 < (l0.length : Int)
   ·rw [if_pos c2] at H
    have c2b0 : decide (x10_1 < (l0.length : Int)) = true := dT c2
    clear c2
    by_cases c3 : 0 ≤ x10_1
    ·rw [if_pos c3] at H
     have c3b0 : decide (0 ≤ x10_1) = true := dT c3
     clear c3
     by_cases c4 : x10_1 < (l0.length : Int)
     ·rw [if_pos c4] at H
      have c4b0 : decide (x10_1 < (l0.length : Int)) = true := dT c4
      clear c4
      have H' := aM H
      clear H
      have p166 : 0 ≤ (x10_1 : Int) := oD z3
      have q166 : x10_1 < (l0.length : Int) := oD z3
      obtain ⟨ad166, e166, hx166_0, hx166_1, hx166_2⟩ := at_T59 dY.out x10_1 p166 q166
      cases e166
      replace hx166_0 := (HB.out.cell (World.block_lt_of_cell? w _ hx166_0)).trans hx166_0
      replace hx166_1 := (HB.out.cell (World.block_lt_of_cell? w _ hx166_1)).trans hx166_1
      replace hx166_2 := (HB.out.cell (World.block_lt_of_cell? w _ hx166_2)).trans hx166_2
      replace p166 := eq_true p166
      replace q166 := eq_true q166
      go_wp2_with (first | ((with_reducible refine aN (N := 7) rfl ?_); refine aQ ?hg (N := 7) ?hd (cs := #[.int .i64 0, .string ⟨#[]⟩, .string ⟨#[]⟩]) (t := 59) ?hr ?_; (case hd => rfl); (case hg => rfl); (case hr => first | (go_simp; done) | (go_simp; rfl)); intro nB hg w5 hbox hb; have ms := aM (hbox); have GW167 := aM ((by rw [hg]; exact (aC z32) : w.heap.size ≤ nB)); have GE167 := aM ((by rw [hg]; exact (aC z32) : w.heap.size ≤ nB)); replace HB := aM (aA z32 hb); clear hb hbox hg; obtain ⟨lh, mY, mX, mJ, mI, mH⟩ := cc3 ms.out))
      go_roundg k1
      case measure => have := HK1.out; omega
      case rel => exact ⟨(wrap64 (x4_1 + (wrap64 (((rd_T59 l0 x10_1).f0) + (((rd_T59 l0 x10_1).f2).size : Int))))), (wrap64 (x5_1 + (wrap64 (((rd_T59 l0 x10_1).f0) + (((rd_T59 l0 x10_1).f1).size : Int))))), (wrap64 (x10_1 + 1)), z2, z2, z2, H', ⟨y0⟩, ⟨by repeat (first | (with_reducible first | exact HB.out | apply bA | apply pD | apply bD | refine az ?_ GE167.out) | exact HB.out)⟩⟩
     ·rw [if_neg c4] at H
      exact absurd H (by simp)
    ·rw [if_neg c3] at H
     exact absurd H (by simp)
   ·rw [if_neg c2] at H
    have c2b0 : decide (x10_1 < (l0.length : Int)) = false := dF c2
    clear c2
    simp only [Option.some.injEq, Prod.mk.injEq] at H
    obtain ⟨rfl, rfl⟩ := H
    go_wp2
    go_ret2
    exact ⟨y4, y5⟩

/-! ### impl_isName: function 75 -/
def impl_isName.f (a0 : Int) : Option (Bool) := if a0 ≥ 65 then (some (decide (a0 ≤ 70))) else (some false)
set_option maxHeartbeats 8000000 in
set_option maxRecDepth 100000 in
theorem impl_isName.calls (a0 : Int) (r : Bool) (w : World) (h : impl_isName.f a0 = some r) :
  Calls Try.prog 75 #[.int .u8 a0] w fun e w' => e = .returned (.bool r) ∧ Drawn0 w w' := by
 have H : (if a0 ≥ 65 then (some (decide (a0 ≤ 70))) else (some false)) = some r := h
 clear h
 by_cases c2 : a0 ≥ 65
 ·rw [if_pos c2] at H
  have c2b0 : decide (65 ≤ a0) = true := dT c2
  clear c2
  obtain rfl := sI H
  go_enter Try.func75, Try.ntmps75
  go_wp2
  go_ret
  exact ⟨y1, y3⟩
 ·rw [if_neg c2] at H
  have c2b0 : decide (65 ≤ a0) = false := dF c2
  clear c2
  obtain rfl := sI H
  go_enter Try.func75, Try.ntmps75
  go_wp2
  go_ret
  exact ⟨y1, y3⟩

/-! ### impl_isPlain: function 76 -/
def impl_isPlain.f (a0 : Int) : Option (Bool) := if a0 ≥ 97 then (if a0 ≤ 122 then (some true) else (if a0 ≥ 48 then (if a0 ≤ 57 then (some true) else (if a0 = 32 then (some true) else (if a0 = 46 then (some true) else (some (a0 == 44))))) else (if a0 = 32 then (some true) else (if a0 = 46 then (some true) else (some (a0 == 44)))))) else (if a0 ≥ 48 then (if a0 ≤ 57 then (some true) else (if a0 = 32 then (some true) else (if a0 = 46 then (some true) else (some (a0 == 44))))) else (if a0 = 32 then (some true) else (if a0 = 46 then (some true) else (some (a0 == 44)))))
set_option maxHeartbeats 8000000 in
set_option maxRecDepth 100000 in
theorem impl_isPlain.calls (a0 : Int) (r : Bool) (w : World) (h : impl_isPlain.f a0 = some r) :
  Calls Try.prog 76 #[.int .u8 a0] w fun e w' => e = .returned (.bool r) ∧ Drawn0 w w' := by
 have H : (if a0 ≥ 97 then (if a0 ≤ 122 then (some true) else (if a0 ≥ 48 then (if a0 ≤ 57 then (some true) else (if a0 = 32 then (some true) else (if a0 = 46 then (some true) else (some (a0 == 44))))) else (if a0 = 32 then (some true) else (if a0 = 46 then (some true) else (some (a0 == 44)))))) else (if a0 ≥ 48 then (if a0 ≤ 57 then (some true) else (if a0 = 32 then (some true) else (if a0 = 46 then (some true) else (some (a0 == 44))))) else (if a0 = 32 then (some true) else (if a0 = 46 then (some true) else (some (a0 == 44)))))) = some r := h
 clear h
 by_cases c2 : a0 ≥ 97
 ·rw [if_pos c2] at H
  have c2b0 : decide (97 ≤ a0) = true := dT c2
  clear c2
  by_cases c3 : a0 ≤ 122
  ·rw [if_pos c3] at H
   have c3b0 : decide (a0 ≤ 122) = true := dT c3
   clear c3
   obtain rfl := sI H
   go_enter Try.func76, Try.ntmps76
   go_wp2
   go_ret
   exact ⟨y1, y3⟩
  ·rw [if_neg c3] at H
   have c3b0 : decide (a0 ≤ 122) = false := dF c3
   clear c3
   by_cases c4 : a0 ≥ 48
   ·rw [if_pos c4] at H
    have c4b0 : decide (48 ≤ a0) = true := dT c4
    clear c4
    by_cases c5 : a0 ≤ 57
    ·rw [if_pos c5] at H
     have c5b0 : decide (a0 ≤ 57) = true := dT c5
     clear c5
     obtain rfl := sI H
     go_enter Try.func76, Try.ntmps76
     go_wp2
     go_ret
     exact ⟨y1, y3⟩
    ·rw [if_neg c5] at H
     have c5b0 : decide (a0 ≤ 57) = false := dF c5
     clear c5
     by_cases c6 : a0 = 32
     ·rw [if_pos c6] at H
      have c6b0 : (a0 == 32) = true := qT c6
      have c6b1 : (a0 != 32) = false := nF c6
      clear c6
      obtain rfl := sI H
      go_enter Try.func76, Try.ntmps76
      go_wp2
      go_ret
      exact ⟨y1, y3⟩
     ·rw [if_neg c6] at H
      have c6b0 : (a0 == 32) = false := qF c6
      have c6b1 : (a0 != 32) = true := nT c6
      by_cases c7 : a0 = 46
      ·rw [if_pos c7] at H
       have c7b0 : (a0 == 46) = true := qT c7
       have c7b1 : (a0 != 46) = false := nF c7
       clear c7
       obtain rfl := sI H
       go_enter Try.func76, Try.ntmps76
       go_wp2
       go_ret
       exact ⟨y1, y3⟩
      ·rw [if_neg c7] at H
       have c7b0 : (a0 == 46) = false := qF c7
       have c7b1 : (a0 != 46) = true := nT c7
       obtain rfl := sI H
       go_enter Try.func76, Try.ntmps76
       go_wp2
       go_ret
       exact ⟨y1, y3⟩
   ·rw [if_neg c4] at H
    have c4b0 : decide (48 ≤ a0) = false := dF c4
    clear c4
    by_cases c8 : a0 = 32
    ·rw [if_pos c8] at H
     have c8b0 : (a0 == 32) = true := qT c8
     have c8b1 : (a0 != 32) = false := nF c8
     clear c8
     obtain rfl := sI H
     go_enter Try.func76, Try.ntmps76
     go_wp2
     go_ret
     exact ⟨y1, y3⟩
    ·rw [if_neg c8] at H
     have c8b0 : (a0 == 32) = false := qF c8
     have c8b1 : (a0 != 32) = true := nT c8
     by_cases c9 : a0 = 46
     ·rw [if_pos c9] at H
      have c9b0 : (a0 == 46) = true := qT c9
      have c9b1 : (a0 != 46) = false := nF c9
      clear c9
      obtain rfl := sI H
      go_enter Try.func76, Try.ntmps76
      go_wp2
      go_ret
      exact ⟨y1, y3⟩
     ·rw [if_neg c9] at H
      have c9b0 : (a0 == 46) = false := qF c9
      have c9b1 : (a0 != 46) = true := nT c9
      obtain rfl := sI H
      go_enter Try.func76, Try.ntmps76
      go_wp2
      go_ret
      exact ⟨y1, y3⟩
 ·rw [if_neg c2] at H
  have c2b0 : decide (97 ≤ a0) = false := dF c2
  clear c2
  by_cases fo : a0 ≥ 48
  ·rw [if_pos fo] at H
   have c10b0 : decide (48 ≤ a0) = true := dT fo
   clear fo
   by_cases fY : a0 ≤ 57
   ·rw [if_pos fY] at H
    have c11b0 : decide (a0 ≤ 57) = true := dT fY
    clear fY
    obtain rfl := sI H
    go_enter Try.func76, Try.ntmps76
    go_wp2
    go_ret
    exact ⟨y1, y3⟩
   ·rw [if_neg fY] at H
    have c11b0 : decide (a0 ≤ 57) = false := dF fY
    clear fY
    by_cases gj : a0 = 32
    ·rw [if_pos gj] at H
     have c12b0 : (a0 == 32) = true := qT gj
     have c12b1 : (a0 != 32) = false := nF gj
     clear gj
     obtain rfl := sI H
     go_enter Try.func76, Try.ntmps76
     go_wp2
     go_ret
     exact ⟨y1, y3⟩
    ·rw [if_neg gj] at H
     have c12b0 : (a0 == 32) = false := qF gj
     have c12b1 : (a0 != 32) = true := nT gj
     by_cases fZ : a0 = 46
     ·rw [if_pos fZ] at H
      have c13b0 : (a0 == 46) = true := qT fZ
      have c13b1 : (a0 != 46) = false := nF fZ
      clear fZ
      obtain rfl := sI H
      go_enter Try.func76, Try.ntmps76
      go_wp2
      go_ret
      exact ⟨y1, y3⟩
     ·rw [if_neg fZ] at H
      have c13b0 : (a0 == 46) = false := qF fZ
      have c13b1 : (a0 != 46) = true := nT fZ
      obtain rfl := sI H
      go_enter Try.func76, Try.ntmps76
      go_wp2
      go_ret
      exact ⟨y1, y3⟩
  ·rw [if_neg fo] at H
   have c10b0 : decide (48 ≤ a0) = false := dF fo
   clear fo
   by_cases gF : a0 = 32
   ·rw [if_pos gF] at H
    have c14b0 : (a0 == 32) = true := qT gF
    have c14b1 : (a0 != 32) = false := nF gF
    clear gF
    obtain rfl := sI H
    go_enter Try.func76, Try.ntmps76
    go_wp2
    go_ret
    exact ⟨y1, y3⟩
   ·rw [if_neg gF] at H
    have c14b0 : (a0 == 32) = false := qF gF
    have c14b1 : (a0 != 32) = true := nT gF
    by_cases gn : a0 = 46
    ·rw [if_pos gn] at H
     have c15b0 : (a0 == 46) = true := qT gn
     have c15b1 : (a0 != 46) = false := nF gn
     clear gn
     obtain rfl := sI H
     go_enter Try.func76, Try.ntmps76
     go_wp2
     go_ret
     exact ⟨y1, y3⟩
    ·rw [if_neg gn] at H
     have c15b0 : (a0 == 46) = false := qF gn
     have c15b1 : (a0 != 46) = true := nT gn
     obtain rfl := sI H
     go_enter Try.func76, Try.ntmps76
     go_wp2
     go_ret
     exact ⟨y1, y3⟩

/-! ### impl_GoodText: function 56 -/
def impl_GoodText.l0 : Nat → ByteArray → Int → Int → Option (Bool)
 | 0, _, _, _ => none
 | k + 1, x0, x5, x6 => if x6 < x5 then (if 0 ≤ x6 then (if x6 < (x0.size : Int) then ((impl_isName.f (bt x0 x6)).bind fun tE => (if tE = true then (impl_GoodText.l0 k x0 x5 (wrap64 (x6 + 1))) else ((impl_isPlain.f (bt x0 x6)).bind fun tD => (if tD = true then (impl_GoodText.l0 k x0 x5 (wrap64 (x6 + 1))) else (if (bt x0 x6) = 47 then (impl_GoodText.l0 k x0 x5 (wrap64 (x6 + 1))) else (some false)))))) else (none)) else (none)) else (some (decide ((x0.size : Int) ≤ 300)))
def impl_GoodText.f (k : Nat) (a0 : ByteArray) : Option (Bool) := impl_GoodText.l0 k a0 (a0.size : Int) 0
theorem impl_GoodText.mono_l : ∀ k, (∀ y0 y1 y2, LeO (impl_GoodText.l0 k y0 y1 y2) (impl_GoodText.l0 (k + 1) y0 y1 y2))
 | 0 => fun _ _ _ r h => by simp [impl_GoodText.l0] at h
 | k + 1 => by
  have ih0 := impl_GoodText.mono_l k
  ·intro y0 y1 y2
   unfold impl_GoodText.l0
   repeat' first
   | (with_reducible exact ih0 _ _ _)
   | (with_reducible exact LeO.refl _)
   | (with_reducible exact LeO.none _)
   | (with_reducible refine LeO.ite ?_ ?_)
   | (with_reducible refine LeO.bind ?_ (fun _ => ?_))
theorem impl_GoodText.mono : ∀ a0 k, LeO (impl_GoodText.f k a0) (impl_GoodText.f (k + 1) a0) := by
 intro a0 k
 have ih0 := impl_GoodText.mono_l k
 unfold impl_GoodText.f
 repeat' first
   | (with_reducible exact ih0 _ _ _)
   | (with_reducible exact LeO.refl _)
   | (with_reducible exact LeO.none _)
   | (with_reducible refine LeO.ite ?_ ?_)
   | (with_reducible refine LeO.bind ?_ (fun _ => ?_))
set_option maxHeartbeats 8000000 in
set_option maxRecDepth 100000 in
theorem impl_GoodText.calls (k : Nat) (a0 : ByteArray) (r : Bool) (w : World) (h : impl_GoodText.f k a0 = some r) :
  Calls Try.prog 56 #[.string a0] w fun e w' => e = .returned (.bool r) ∧ Drawn0 w w' := by
 have H : (impl_GoodText.l0 k a0 (a0.size : Int) 0) = some r := h
 clear h
 have H' := aM H
 clear H
 go_enter Try.func56, Try.ntmps56
 go_wp2
 go_loopg [6] k (fun kq v6 w' => ∃ (x6_1 : Int), v6 = .int .i64 x6_1 ∧ Aside0 (impl_GoodText.l0 kq a0 (a0.size : Int) x6_1 = some r) ∧ Aside0 (kq ≤ k) ∧ Drawn0 w w')
 case atStart => exact ⟨(0), z2, H', ⟨Nat.le_refl _⟩, y3⟩
 case round =>
  clear H'
  obtain ⟨x6_1, rfl, HA, HK1, ⟨m1, rfl⟩⟩ := hrel
  cases gk with
  | zero => exact absurd HA.out (by simp [impl_GoodText.l0])
  | succ k1 =>
   have H := HA.out
   clear HA
   simp only [impl_GoodText.l0] at H
   by_cases c2 : x6_1 < (a0.size : Int)
   ·rw [if_pos c2] at H
    have c2b0 : decide (x6_1 < (a0.size : Int)) = true := dT c2
    clear c2
    by_cases c3 : 0 ≤ x6_1
    ·rw [if_pos c3] at H
     have c3b0 : decide (0 ≤ x6_1) = true := dT c3
     clear c3
     by_cases c4 : x6_1 < (a0.size : Int)
     ·rw [if_pos c4] at H
      have c4b0 : decide (x6_1 < (a0.size : Int)) = true := dT c4
      clear c4
      obtain ⟨tE, A6, H⟩ := oA_ H
      try dsimp only at H
      by_cases c7 : tE = true
      ·subst c7
       rw [if_pos rfl] at H
       have H' := aM H
       clear H
       have p5 : 0 ≤ (x6_1 : Int) := oD z3
       have q5 : x6_1 < (a0.size : Int) := oD z3
       have hx5 := bt_at a0 x6_1
       replace p5 := eq_true p5
       replace q5 := eq_true q5
       go_wp2_with (first | ((with_reducible refine aK (f := 75) rfl ?_); refine aT (some 12) rfl rfl Try.func75 z1 rfl #[.int .u8 (bt a0 x6_1)] rfl z33 ?_; (with_reducible refine (impl_isName.calls (bt a0 x6_1) true _ A6.out).mono ?_); rintro e w' ⟨rfl, ⟨nd, rfl⟩⟩; refine ⟨_, rfl, ?_⟩))
       go_roundg k1
       case measure => have := HK1.out; omega
       case rel => exact ⟨(wrap64 (x6_1 + 1)), z2, H', ⟨y0⟩, y3⟩
      ·replace c7 := Bool.eq_false_iff.mpr c7
       subst c7
       rw [if_neg nF_] at H
       obtain ⟨tD, A9, H⟩ := oA_ H
       try dsimp only at H
       by_cases fo : tD = true
       ·subst fo
        rw [if_pos rfl] at H
        have H' := aM H
        clear H
        have p5 : 0 ≤ (x6_1 : Int) := oD z3
        have q5 : x6_1 < (a0.size : Int) := oD z3
        have hx5 := bt_at a0 x6_1
        replace p5 := eq_true p5
        replace q5 := eq_true q5
        go_wp2_with (first | ((with_reducible refine aK (f := 75) rfl ?_); refine aT (some 12) rfl rfl Try.func75 z1 rfl #[.int .u8 (bt a0 x6_1)] rfl z33 ?_; (with_reducible refine (impl_isName.calls (bt a0 x6_1) false _ A6.out).mono ?_); rintro e w' ⟨rfl, ⟨nd, rfl⟩⟩; refine ⟨_, rfl, ?_⟩; have p8 : 0 ≤ (x6_1 : Int) := oD z3; have q8 : x6_1 < (a0.size : Int) := oD z3; have hx8 := bt_at a0 x6_1; replace p8 := eq_true p8; replace q8 := eq_true q8) | (go_at_call 76; (with_reducible refine (impl_isPlain.calls (bt a0 x6_1) true _ A9.out).mono ?_); rintro e w' ⟨rfl, ⟨nd, rfl⟩⟩))
        go_roundg k1
        case measure => have := HK1.out; omega
        case rel => exact ⟨(wrap64 (x6_1 + 1)), z2, H', ⟨y0⟩, y3⟩
       ·replace fo := Bool.eq_false_iff.mpr fo
        subst fo
        rw [if_neg nF_] at H
        by_cases gj : (bt a0 x6_1) = 47
        ·rw [if_pos gj] at H
         have c12b0 : ((bt a0 x6_1) == 47) = true := qT gj
         have c12b1 : ((bt a0 x6_1) != 47) = false := nF gj
         clear gj
         have H' := aM H
         clear H
         have p5 : 0 ≤ (x6_1 : Int) := oD z3
         have q5 : x6_1 < (a0.size : Int) := oD z3
         have hx5 := bt_at a0 x6_1
         replace p5 := eq_true p5
         replace q5 := eq_true q5
         go_wp2_with (first | ((with_reducible refine aK (f := 75) rfl ?_); refine aT (some 12) rfl rfl Try.func75 z1 rfl #[.int .u8 (bt a0 x6_1)] rfl z33 ?_; (with_reducible refine (impl_isName.calls (bt a0 x6_1) false _ A6.out).mono ?_); rintro e w' ⟨rfl, ⟨nd, rfl⟩⟩; refine ⟨_, rfl, ?_⟩; have p8 : 0 ≤ (x6_1 : Int) := oD z3; have q8 : x6_1 < (a0.size : Int) := oD z3; have hx8 := bt_at a0 x6_1; replace p8 := eq_true p8; replace q8 := eq_true q8) | (go_at_call 76; (with_reducible refine (impl_isPlain.calls (bt a0 x6_1) false _ A9.out).mono ?_); rintro e w' ⟨rfl, ⟨nd, rfl⟩⟩; have p11 : 0 ≤ (x6_1 : Int) := oD z3; have q11 : x6_1 < (a0.size : Int) := oD z3; have hx11 := bt_at a0 x6_1; replace p11 := eq_true p11; replace q11 := eq_true q11))
         go_roundg k1
         case measure => have := HK1.out; omega
         case rel => exact ⟨(wrap64 (x6_1 + 1)), z2, H', ⟨y0⟩, y3⟩
        ·rw [if_neg gj] at H
         have c12b0 : ((bt a0 x6_1) == 47) = false := qF gj
         have c12b1 : ((bt a0 x6_1) != 47) = true := nT gj
         obtain rfl := sI H
         have p5 : 0 ≤ (x6_1 : Int) := oD z3
         have q5 : x6_1 < (a0.size : Int) := oD z3
         have hx5 := bt_at a0 x6_1
         replace p5 := eq_true p5
         replace q5 := eq_true q5
         go_wp2_with (first | ((with_reducible refine aK (f := 75) rfl ?_); refine aT (some 12) rfl rfl Try.func75 z1 rfl #[.int .u8 (bt a0 x6_1)] rfl z33 ?_; (with_reducible refine (impl_isName.calls (bt a0 x6_1) false _ A6.out).mono ?_); rintro e w' ⟨rfl, ⟨nd, rfl⟩⟩; refine ⟨_, rfl, ?_⟩; have p8 : 0 ≤ (x6_1 : Int) := oD z3; have q8 : x6_1 < (a0.size : Int) := oD z3; have hx8 := bt_at a0 x6_1; replace p8 := eq_true p8; replace q8 := eq_true q8) | (go_at_call 76; (with_reducible refine (impl_isPlain.calls (bt a0 x6_1) false _ A9.out).mono ?_); rintro e w' ⟨rfl, ⟨nd, rfl⟩⟩; have p11 : 0 ≤ (x6_1 : Int) := oD z3; have q11 : x6_1 < (a0.size : Int) := oD z3; have hx11 := bt_at a0 x6_1; replace p11 := eq_true p11; replace q11 := eq_true q11))
         go_ret
         exact ⟨y1, y3⟩
     ·rw [if_neg c4] at H
      exact absurd H (by simp)
    ·rw [if_neg c3] at H
     exact absurd H (by simp)
   ·rw [if_neg c2] at H
    have c2b0 : decide (x6_1 < (a0.size : Int)) = false := dF c2
    clear c2
    obtain rfl := sI H
    go_wp2
    go_ret
    exact ⟨y1, y3⟩

end Go.Proofs.Ytblnnbaeiggmoaa.AFnSplit
