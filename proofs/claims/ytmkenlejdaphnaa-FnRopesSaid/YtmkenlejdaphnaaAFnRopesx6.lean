-- this session's own text: written by wip/tools/ownprint.py over the kit's print
import Derived.Test.YtmkenlejdaphnaaAFnRopesx0
import Derived.Test.YtmkenlejdaphnaaAFnRopesx3
import Derived.Test.YtmkenlejdaphnaaAFnRopesx4
import Derived.Test.YtmkenlejdaphnaaAFnRopesx5
namespace Go.Proofs.Ytmkenlejdaphnaa.AFnRopes
open Go.RowKit Go.Proofs.YtmkenlejdaphnaaW.PrintWords Go.Proofs.YtmkenlejdaphnaaW.PrintLast Go.Proofs.YtmkenlejdaphnaaW.PrintMore
attribute [local go_sem] max2_int min2_int max_two min_two max_three min_three max_four min_four   -- for this text's walks alone
set_option linter.unusedVariables false
set_option linter.unusedSimpArgs false

/-! ### spec_RopeOf: function 25, by hand -/
def spec_RopeOf.f (k : Nat) (a0 : ByteArray) : Option ((List (S58)) × Bool) := (spec_GoodText.f k a0).bind fun f6 => (if f6 = true then ((spec_l12Cut.f k a0).bind fun gD => ((spec_l12Build.f k gD).bind fun iD => (some (iD, true)))) else (some (([] : List (S58)), false)))
theorem spec_RopeOf.mono : ∀ a0 k, LeO (spec_RopeOf.f k a0) (spec_RopeOf.f (k + 1) a0) := by
 intro a0 k
 unfold spec_RopeOf.f
 repeat' first
   | (with_reducible exact spec_GoodText.mono _ _)
   | (with_reducible exact spec_l12Build.mono _ _)
   | (with_reducible exact spec_l12Cut.mono _ _)
   | (with_reducible exact LeO.refl _)
   | (with_reducible exact LeO.none _)
   | (with_reducible refine LeO.ite ?_ ?_)
   | (with_reducible refine LeO.bind ?_ (fun _ => ?_))
set_option maxHeartbeats 8000000 in
set_option maxRecDepth 100000 in
theorem spec_RopeOf.calls (k : Nat) (a0 : ByteArray) (r1 : List (S58)) (r2 : Bool) (w : World) (h : spec_RopeOf.f k a0 = some (r1, r2)) :
  Calls Try.prog 25 #[.string a0] w fun e w' => ∃ v0_ : Value, e = .returned (.tuple #[.agg #[v0_], .bool r2]) ∧ Kd.R k58 58 w' w.heap.size (fun _ => True) v0_ r1 ∧ Below w.heap.size w w' := by
 obtain ⟨W2, hW2⟩ : ∃ W2, w.alloc (.cells #[.slice none 0 0] 29) = W2 := ⟨_, rfl⟩
 have HB0 := aM (show Below w.heap.size w W2 by rw [← hW2]; exact bA (Below.refl _ _) _)
 have BX : Aside0 (W2.heap[w.heap.size]? = some (.cells #[.slice none 0 0] 29 (0, 0))) := ⟨by rw [← hW2]; exact blk_new _ _⟩
 have HWE := aM hW2
 obtain ⟨gg, hg, h⟩ := oB h
 have HG := aM hg
 clear hg hW2
 cases gg with
 | false =>
  rw [if_neg (by simp)] at h
  obtain ⟨rfl, rfl⟩ := Prod.mk.inj (sI h)
  clear h
  go_enter Try.func25, Try.ntmps25
  go_wp2_with (first | (go_at_call 56; (try rw [HWE.out]); refine (spec_GoodText.calls k a0 _ _ HG.out).mono ?_; rintro e w1 ⟨rfl, hb⟩; (try replace hb := hb.below); have nb_ := aM (aA HB0.out hb); have nx_ := aM (af BX.out hb); clear HB0 BX; have HB0 := nb_; have BX := nx_; clear nb_ nx_; (try clear cB fB); have cB : w1.cell? ⟨w.heap.size, 0, none⟩ = some (.slice none 0 0) := (bC BX.out 0).trans rfl; have fB := bF BX.out 0; clear hb))
  refine aU (aV rfl _ _ w.heap.size 29 #[.slice none 0 0] (0, 0) _ rfl (by exact ax (cs := #[.slice none 0 0]) BX.out 0 _ rfl) Try.underlying29 rfl z1) rfl ?_
  exact ⟨_, rfl, Kd.R_nil _ _ _ _ _, az HB0.out (by omega)⟩
 | true =>
 rw [if_pos rfl] at h
 obtain ⟨cu, hcu, h⟩ := oB h
 obtain ⟨bu, hbu, h⟩ := oB h
 have HCU := aM hcu
 have HBU := aM hbu
 obtain ⟨rfl, rfl⟩ := Prod.mk.inj (sI h)
 clear h hcu hbu
 go_enter Try.func25, Try.ntmps25
 go_wp2_with (first | (go_at_call 56; (try rw [HWE.out]); refine (spec_GoodText.calls k a0 _ _ HG.out).mono ?_; rintro e w1 ⟨rfl, hb⟩; (try replace hb := hb.below); have nb_ := aM (aA HB0.out hb); have nx_ := aM (af BX.out hb); clear HB0 BX; have HB0 := nb_; have BX := nx_; clear nb_ nx_; (try clear cB fB); have cB : w1.cell? ⟨w.heap.size, 0, none⟩ = some (.slice none 0 0) := (bC BX.out 0).trans rfl; have fB := bF BX.out 0; clear hb) | (go_at_call 58; refine (spec_l12Cut.calls k a0 cu _ HCU.out).mono ?_; rintro e w2 ⟨v2, rfl, ho, hb⟩; obtain ⟨A4, c4, eo⟩ := Kd.R_slice ho; subst eo; have su := aM (ai ho).2.2; have HL4 := aM (ai ho).2.1; have nb_ := aM (aA HB0.out hb); have nx_ := aM (af BX.out hb); clear HB0 BX; have HB0 := nb_; have BX := nx_; clear nb_ nx_; (try clear cB fB); have cB : w2.cell? ⟨w.heap.size, 0, none⟩ = some (.slice none 0 0) := (bC BX.out 0).trans rfl; have fB := bF BX.out 0; clear ho hb) | (go_at_call 57; refine (spec_l12Build.calls k A4 c4 cu bu _ (by repeat (first | exact su.out | (with_reducible refine aH ?_ _) | (with_reducible refine aI ?_ _) | (with_reducible refine aJ ?_))) HL4.out HBU.out).mono ?_; rintro e w3 ⟨v3, rfl, ho, hb⟩; obtain ⟨A5, c5, eo⟩ := Kd.R_slice ho; subst eo; have HV := aM ho; have HSZ := aM HB0.out.size; have nb_ := aM (aA HB0.out hb); have nx_ := aM (af BX.out hb); clear HB0 BX; have HB0 := nb_; have BX := nx_; clear nb_ nx_; (try clear cB fB); have cB : w3.cell? ⟨w.heap.size, 0, none⟩ = some (.slice none 0 0) := (bC BX.out 0).trans rfl; have fB := bF BX.out 0; clear ho hb))
 refine aU (aV rfl _ _ w.heap.size 29 #[.slice A5 bu.length c5] (0, 0) _ rfl (by exact ax (cs := #[.slice none 0 0]) BX.out 0 _ rfl) Try.underlying29 rfl z1) rfl ?_
 exact ⟨_, rfl, Kd.R_set (aW HV.out HSZ.out) BX.out z0 0 _, az HB0.out (by omega)⟩

/-! ### impl_balanced: function 60, by hand -/
/-- Pieces joined evenly. -/
def bal : Nat → List ByteArray → Limb
 | 0, _ => .nil
 | d + 1, ps => if ps.length = 0 then .nil else (if ps.length = 1 then lf (rdOf ByteArray.empty ps 0) else fk (bal d (ps.take ((ps.length + 1) / 2))) (bal d (ps.drop ((ps.length + 1) / 2))))
def BalAt (w : World) (ok : Nat → Prop) (t : Limb) (e : Ending) (w' : World) : Prop := ∃ P, e = .returned (.pointer P) ∧ LmAt w' ok t P ∧ Below w.heap.size w w'
set_option maxHeartbeats 4000000 in
set_option maxRecDepth 100000 in
theorem balanced_any : ∀ (d : Nat) (ps : List ByteArray) (A : Option Addr) (c : Nat) (ok : Nat → Prop) (w : World), ps.length ≤ d → Kd.string.C w A ps.length ps → ps.length ≤ c → ps.length ≤ 100000000 → (∀ k, w.heap.size ≤ k → ok k) →
  Calls Try.prog 60 #[.slice A ps.length c] w (BalAt w ok (bal d ps)) := by
 intro d
 induction d with
 | zero =>
  intro ps A c ok w hd hC hc hn hok
  obtain rfl : ps = [] := List.eq_nil_of_length_eq_zero (by omega)
  clear hC hn hd hok
  go_enter Try.func60, Try.ntmps60
  go_wp2
  go_ret
  exact ⟨none, rfl, rfl, Below.refl _ _⟩
 | succ d ih =>
  intro ps A c ok w hd hC hc hn hok
  by_cases h0 : ps.length = 0
  ·have hX : Aside0 (bal (d + 1) ps = .nil) := ⟨by unfold bal; rw [if_pos h0]⟩
   rw [hX.out, h0]
   clear hC hn hd hok hX h0 ih hc
   go_enter Try.func60, Try.ntmps60
   go_wp2
   go_ret
   exact ⟨none, rfl, rfl, Below.refl _ _⟩
  ·by_cases h1 : ps.length = 1
   ·have hX : Aside0 (bal (d + 1) ps = lf (rdOf ByteArray.empty ps 0)) := ⟨by unfold bal; rw [if_neg h0, if_pos h1]⟩
    obtain ⟨ad, rfl, hc0⟩ := Kd.at_string hC 0 (by omega) (by omega)
    have hc1 : w.cell? ad = some (.string (rdOf ByteArray.empty ps 0)) := by rw [show ad.add (Int.toNat 0) = ad by cases ad; rfl] at hc0; exact hc0
    clear hc0
    have HK := aM hok
    rw [hX.out, h1]
    clear hC hn hd hok hX h0 ih hc h1
    go_enter Try.func60, Try.ntmps60
    go_wp2_with (first | (go_at_call 78; refine (leaf_any _ _).mono ?_; rintro e w1 ⟨P, rfl, hl, hb⟩; have HL := aM hl; have HB := aM hb; clear hl hb))
    go_ret
    exact ⟨P, rfl, HL.out.mono HK.out, HB.out⟩
   ·obtain ⟨m, hm⟩ : ∃ m, (ps.length + 1) / 2 = m := ⟨_, rfl⟩
    have hm1 : m ≤ ps.length := by omega
    have hm2 : m ≤ d := by omega
    have hm3 : ps.length - m ≤ d := by omega
    have hX : Aside0 (bal (d + 1) ps = fk (bal d (ps.take m)) (bal d (ps.drop m))) := ⟨by rw [← hm]; conv => lhs; unfold bal; rw [if_neg h0, if_neg h1]⟩
    rw [hX.out]
    have L1 : (ps.take m).length = m := by rw [List.length_take]; omega
    have L2 : (ps.drop m).length = ps.length - m := by rw [List.length_drop]
    have C1 := Kd.C_take hC hm1
    have C2 : Kd.string.C w (if c = m then A else A.map (·.add (m * 1))) (ps.drop m).length (ps.drop m) := Kd.C_drop hC hm1 hc
    rw [L1] at C1
    rw [L2] at C2
    have eN := aM C1
    have HI1 : Aside0 (∀ w', Kd.string.C w' A m (ps.take m) → (∀ k, w'.heap.size ≤ k → ok k) → Calls Try.prog 60 #[.slice A m c] w' (BalAt w' ok (bal d (ps.take m)))) := ⟨fun w' h1 h2 => by
     have := ih (ps.take m) A c ok w' (by omega) (by rw [L1]; exact h1) (by omega) (by omega) h2
     rw [L1] at this
     exact this⟩
    have jW := aM C2
    have HI2 : Aside0 (∀ w', Kd.string.C w' (if c = m then A else A.map (·.add (m * 1))) (ps.length - m) (ps.drop m) → (∀ k, w'.heap.size ≤ k → ok k) → Calls Try.prog 60 #[.slice (if c = m then A else A.map (·.add (m * 1))) (ps.length - m) (c - m)] w' (BalAt w' ok (bal d (ps.drop m)))) := ⟨fun w' h1 h2 => by
     have := ih (ps.drop m) (if c = m then A else A.map (·.add (m * 1))) (c - m) ok w' (by omega) (by rw [L2]; exact h1) (by omega) (by omega) h2
     rw [L2] at this
     exact this⟩
    have HK := aM hok
    obtain ⟨i9, hi9, _, hz9, _⟩ := info_parts info9
    have hcut1 := cut_to (P := Try.prog) 44 9 .i64 Try.underlying44 hi9 A ps.length c (m : Int) (by omega) (by omega) hc
    have hcut2 := cut_from (P := Try.prog) 44 9 .i64 Try.underlying44 hi9 1 hz9 A ps.length c (m : Int) (by omega) (by omega)
    simp only [aY] at hcut1 hcut2
    obtain ⟨A2, hA2⟩ : ∃ A2, (if c = m then A else A.map (·.add (m * 1))) = A2 := ⟨_, rfl⟩
    rw [hA2] at HI2 jW hcut2
    clear hA2 hi9 hz9
    have hw1 : wrap64 ((ps.length : Int) + 1) = (ps.length : Int) + 1 := by unfold wrap64; omega
    have hw2 : ((ps.length : Int) + 1) / 2 = (m : Int) := by omega
    have b0 : ((ps.length : Int) == 0) = false := qF (by omega)
    have b1 : ((ps.length : Int) == 1) = false := qF (by omega)
    have HW := aM hw2
    clear hC hd hok hX ih C1 C2 L1 L2 hm1 hm2 hm3 hm h0 h1 hw1 hw2
    go_enter Try.func60, Try.ntmps60
    go_wp2
    rw [HW.out]
    go_region_held3 (fun _ => True) (first | trivial) (first | (go_at_call 69; refine (fork_any _ _ P1 P2 ok _ HL1.out HL2.out ?g1).mono ?_; (case g1 => exact fun k hk => HK.out k (by have h1 := HB1.out.size; have h2 := HB2.out.size; simp at h1 h2 hk; omega)); rintro e w3 ⟨P3, rfl, hl, hb⟩; have HL3 := aM hl; have HB3 := aM hb; clear hl hb) | (go_at_call_of 60 (Value.slice A m c); refine (HI1.out _ ?g1 ?g2).mono ?_; (case g1 => (first | exact eN.out | exact aJ eN.out | exact aI eN.out _)); (case g2 => exact HK.out); rintro e w1 ⟨P1, rfl, hl, hb⟩; have HL1' := aM hl; have HB1 := aM hb; clear hl hb) | (go_at_call 60; refine (HI2.out _ ?g1 ?g2).mono ?_; (case g1 => exact aG (by (first | exact jW.out | exact aJ jW.out | exact aI jW.out _)) HB1.out); (case g2 => exact fun k hk => HK.out k (by have h1 := HB1.out.size; simp at h1 hk; omega)); rintro e w2 ⟨P2, rfl, hl, hb⟩; have HL2 := aM hl; have HB2 := aM hb; have HL1 := aM (HL1'.out.below hb); clear hl hb))
    go_wp2
    go_ret
    exact ⟨P3, rfl, HL3.out, aA (aA (by (first | exact HB1.out | exact aA (below_drew (Below.refl _ _)) HB1.out)) HB2.out) HB3.out⟩
/-- balanced, at a row of the call's own. -/
theorem balanced_row {w1 : World} {v : Value} {ps : List ByteArray} {base : Nat} {ok' : Nat → Prop} (h : Kd.R Kd.string 9 w1 base ok' v ps) (hn : ps.length ≤ 100000000) : ∃ A c, v = .slice A ps.length c ∧ Calls Try.prog 60 #[.slice A ps.length c] w1 (BalAt w1 (fun _ => True) (bal ps.length ps)) := by
 obtain ⟨A, c, e, hc, hr⟩ := Kd.R_reads h
 exact ⟨A, c, e, balanced_any ps.length ps A c (fun _ => True) w1 (Nat.le_refl _) hr hc hn (fun _ _ => trivial)⟩

/-! ### impl_chunks: function 61 -/
def impl_chunks.l0 : Nat → ByteArray → List ByteArray → Option (List ByteArray)
 | 0, _, _ => none
 | k + 1, x0, x3 => if (x0.size : Int) > 8 then (if 0 ≤ 8 then (if 8 ≤ (x0.size : Int) then (if x3.length < 8796093022208 then (impl_chunks.l0 k (x0.extract 8 x0.size) (x3 ++ [x0.extract 0 8])) else (none)) else (none)) else (none)) else (if x0.toList = ([] : List UInt8) then (some x3) else (if x3.length < 8796093022208 then (some (x3 ++ [x0])) else (none)))
def impl_chunks.f (k : Nat) (a0 : ByteArray) : Option (List ByteArray) := impl_chunks.l0 k a0 ([] : List ByteArray)
theorem impl_chunks.mono_l : ∀ k, (∀ y0 y1, LeO (impl_chunks.l0 k y0 y1) (impl_chunks.l0 (k + 1) y0 y1))
 | 0 => fun _ _ r h => by simp [impl_chunks.l0] at h
 | k + 1 => by
  have ih0 := impl_chunks.mono_l k
  ·intro y0 y1
   unfold impl_chunks.l0
   repeat' first
   | (with_reducible exact ih0 _ _)
   | (with_reducible exact LeO.refl _)
   | (with_reducible exact LeO.none _)
   | (with_reducible refine LeO.ite ?_ ?_)
   | (with_reducible refine LeO.bind ?_ (fun _ => ?_))
theorem impl_chunks.mono : ∀ a0 k, LeO (impl_chunks.f k a0) (impl_chunks.f (k + 1) a0) := by
 intro a0 k
 have ih0 := impl_chunks.mono_l k
 unfold impl_chunks.f
 repeat' first
   | (with_reducible exact ih0 _ _)
   | (with_reducible exact LeO.refl _)
   | (with_reducible exact LeO.none _)
   | (with_reducible refine LeO.ite ?_ ?_)
   | (with_reducible refine LeO.bind ?_ (fun _ => ?_))
set_option maxHeartbeats 8000000 in
set_option maxRecDepth 100000 in
theorem impl_chunks.calls (k : Nat) (a0 : ByteArray) (r : List ByteArray) (w : World) (h : impl_chunks.f k a0 = some r) :
  Calls Try.prog 61 #[.string a0] w fun e w' => ∃ v0_ : Value, e = .returned (v0_) ∧ Kd.R Kd.string 9 w' w.heap.size (fun _ => True) v0_ r ∧ Below w.heap.size w w' := by
 have HB := aM (Below.refl w.heap.size w)
 have H : (impl_chunks.l0 k a0 ([] : List ByteArray)) = some r := h
 clear h
 have H' := aM H
 clear H
 go_enter Try.func61, Try.ntmps61
 go_wp2
 go_loopg [0, 3] k (fun kq v0 v3 w' => ∃ (x0_1 : ByteArray) (x3_1 : List ByteArray), v0 = .string x0_1 ∧ Aside0 (impl_chunks.l0 kq x0_1 x3_1 = some r) ∧ Aside0 (kq ≤ k) ∧ Aside0 (Kd.R Kd.string 9 w' w.heap.size (fun _ => True) v3 x3_1) ∧ Aside0 (Below w.heap.size w w'))
 case atStart => exact ⟨(a0), (([] : List ByteArray)), z2, H', ⟨Nat.le_refl _⟩, ⟨y12⟩, ⟨y5⟩⟩
 case round =>
  clear H'
  obtain ⟨x0_1, x3_1, rfl, HA, HK1, fg, HB⟩ := hrel
  cases gk with
  | zero => exact absurd HA.out (by simp [impl_chunks.l0])
  | succ k1 =>
   have H := HA.out
   clear HA
   simp only [impl_chunks.l0] at H
   by_cases c2 : (x0_1.size : Int) > 8
   ·rw [if_pos c2] at H
    have c2b0 : decide (8 < (x0_1.size : Int)) = true := dT c2
    have c2b1 : decide (8 < x0_1.size) = true := dT (by omega)
    clear c2
    by_cases c3 : 0 ≤ 8
    ·rw [if_pos c3] at H
     have c3b0 := eq_true c3
     have c3b1 : decide (0 ≤ 8) = true := dT c3
     clear c3
     by_cases c4 : 8 ≤ (x0_1.size : Int)
     ·rw [if_pos c4] at H
      have c4b0 := eq_true c4
      have c4b1 : decide (8 ≤ (x0_1.size : Int)) = true := dT c4
      clear c4
      by_cases c5 : x3_1.length < 8796093022208
      ·rw [if_pos c5] at H
       have LMc5 := aM c5
       clear c5
       obtain ⟨y132, hy132⟩ : ∃ y_ : List ByteArray, y_ = (x3_1 ++ [x0_1.extract 0 8]) := ⟨_, rfl⟩
       replace H : (impl_chunks.l0 k1 (x0_1.extract 8 x0_1.size) y132) = some r := by first | (rw [hy132]; with_reducible exact H) | (have H2_ := (Option.bind_some _ _).symm.trans H; rw [hy132]; with_reducible exact H2_) | (have H2_ := (Option.bind_some _ _).symm.trans H; with_reducible exact H2_) | with_reducible exact H | (rw [hy132]; exact H) | exact H
       have Ny132 := aM hy132
       clear hy132
       have c6b0 := eq_true (oD z3 : 8 ≤ (x0_1.size : Int))
       have H' := aM H
       clear H
       go_wp2_with (first | ((with_reducible refine gate_builtin (b := .append) (xs := #[.tmp 7, .tmp 10]) rfl ?_); at_builtin; refine Kd.R_append Kd.string (w0 := w) w.heap.size rfl (.tmp 7) (.tmp 10) 44 9 (.string ⟨#[]⟩) 16 rfl Try.underlying44 info9 rfl z0 (by omega) u3 x3_1 (x0_1.extract 0 8) [.string (x0_1.extract 0 8)] (fun _ => True) (fun _ => False) rfl rfl ?aP (fun _ hk => hk.elim) ?aF ?aO ?aB ?aS ?aL ?_; (case aP => exact rfl); (case aB => exact z20); (case aF => exact (fun _ _ => trivial)); (case aO => exact (kR_ fg.out)); (case aS => exact (aC z20)); (case aL => have := LMc5.out; omega); intro v133 w7 ho hb hg hat; rw [← Ny132.out] at ho; replace HB := aM (hb); have HO134 := aM (ho); clear fg; clear ho hb hg hat))
       go_roundg k1
       case measure => have := HK1.out; omega
       case rel => exact ⟨(x0_1.extract 8 x0_1.size), (y132), z2, H', ⟨y0⟩, ⟨kR_ HO134.out⟩, ⟨y5⟩⟩
      ·rw [if_neg c5] at H
       exact absurd H (by simp)
     ·rw [if_neg c4] at H
      exact absurd H (by simp)
    ·exact absurd z0 c3
   ·rw [if_neg c2] at H
    have c2b0 : decide (8 < (x0_1.size : Int)) = false := dF c2
    have c2b1 : decide (8 < x0_1.size) = false := dF (by omega)
    clear c2
    by_cases c8 : x0_1.toList = ([] : List UInt8)
    ·rw [if_pos c8] at H
     have c8b0 : (x0_1.toList == ([] : List UInt8)) = true := qT c8
     have c8b1 : (x0_1.toList != ([] : List UInt8)) = false := nF c8
     clear c8
     obtain rfl := sI H
     go_wp2
     all_goals (try (exfalso; rename_i h_; rw [c8b0] at h_; cases h_; done))
     go_ret
     exact ⟨_, y4, by (with_reducible repeat (first | apply ae | apply ac | apply aa)); exact fg.out, y5⟩
    ·rw [if_neg c8] at H
     have c8b0 : (x0_1.toList == ([] : List UInt8)) = false := qF c8
     have c8b1 : (x0_1.toList != ([] : List UInt8)) = true := nT c8
     by_cases c9 : x3_1.length < 8796093022208
     ·rw [if_pos c9] at H
      have LMc9 := aM c9
      clear c9
      obtain ⟨y135, hy135⟩ : ∃ y_ : List ByteArray, y_ = (x3_1 ++ [x0_1]) := ⟨_, rfl⟩
      replace H : (some y135) = some r := by first | (rw [hy135]; with_reducible exact H) | (have H2_ := (Option.bind_some _ _).symm.trans H; rw [hy135]; with_reducible exact H2_) | (have H2_ := (Option.bind_some _ _).symm.trans H; with_reducible exact H2_) | with_reducible exact H | (rw [hy135]; exact H) | exact H
      have Ny135 := aM hy135
      clear hy135
      obtain rfl := sI H
      go_wp2_with (first | ((with_reducible refine gate_builtin (b := .append) (xs := #[.tmp 16, .tmp 18]) rfl ?_); at_builtin; refine Kd.R_append Kd.string (w0 := w) w.heap.size rfl (.tmp 16) (.tmp 18) 44 9 (.string ⟨#[]⟩) 16 rfl Try.underlying44 info9 rfl z0 (by omega) u3 x3_1 x0_1 [.string x0_1] (fun _ => True) (fun _ => False) rfl rfl ?aP (fun _ hk => hk.elim) ?aF ?aO ?aB ?aS ?aL ?_; (case aP => exact rfl); (case aB => exact z20); (case aF => exact (fun _ _ => trivial)); (case aO => exact (kR_ fg.out)); (case aS => exact (aC z20)); (case aL => have := LMc9.out; omega); intro v136 w10 ho hb hg hat; rw [← Ny135.out] at ho; replace HB := aM (hb); have HO137 := aM (ho); clear fg; clear ho hb hg hat))
      all_goals (try (exfalso; rename_i h_; rw [c8b0] at h_; cases h_; done))
      go_ret
      exact ⟨_, y4, by (with_reducible repeat (first | apply ae | apply ac | apply aa)); exact HO137.out, y5⟩
     ·rw [if_neg c9] at H
      exact absurd H (by simp)

/-! ### impl_limb_boughs: function 83, by hand -/
/-- The boughs of a tree, behind others. -/
def bgs : Limb → List S58 → List S58
 | .nil, out => out
 | .node l r s n d, out => if l.isNil = true then out ++ [⟨-1, -1, s, n, 0⟩] else bgs r (bgs l out) ++ [⟨((bgs l out).length : Int) - 1, ((bgs r (bgs l out)).length : Int) - 1, ⟨#[]⟩, n, d⟩]
theorem bgs_length (t : Limb) : ∀ out, (bgs t out).length = out.length + cnt t := by
 induction t with
 | nil => intro out; rfl
 | node l r s n d ihl ihr =>
  intro out
  unfold bgs cnt
  split
  ·simp
  ·rw [aZ, ihr, ihl]; simp; omega
def BgAt (w0 w : World) (v : Value) (xs : List S58) (e : Ending) (w' : World) : Prop := ∃ v', e = .returned v' ∧ Kd.R k58 58 w' w0.heap.size (fun _ => True) v' xs ∧ Below w0.heap.size w0 w' ∧ RowTo w w' v v'
set_option maxHeartbeats 4000000 in
theorem boughs_any (t : Limb) : ∀ (A : Option Addr) (ok : Nat → Prop) (w0 w : World) (v : Value) (xs : List S58), LmAt w ok t A → Kd.R k58 58 w w0.heap.size (fun _ => True) v xs → Below w0.heap.size w0 w → xs.length + cnt t ≤ 100000000 →
  Calls Try.prog 83 #[.pointer A, v] w (BgAt w0 w v (bgs t xs)) := by
 induction t with
 | nil =>
  intro A ok w0 w v xs hA hv hB hn
  obtain rfl : A = none := hA
  have HV := aM hv
  have HB := aM hB
  obtain ⟨Av, cv, rfl, -, -⟩ := Kd.R_reads hv
  have HX : Aside0 (bgs .nil xs = xs) := ⟨rfl⟩
  rw [HX.out]
  clear hv hB hn HX
  go_enter Try.func83, Try.ntmps83
  go_wp2
  go_ret
  exact ⟨_, rfl, HV.out, HB.out, RowTo.refl _ _⟩
 | node l r s n d ihl ihr =>
  intro A ok w0 w v xs hA hv hB hn
  have HA := aM hA
  have HV := aM hv
  have HB := aM hB
  obtain ⟨b, L, R, rfl, hb, hc, hl, hr⟩ := hA
  have HC := aM hc
  have c0 : w.cell? ⟨b, 0, none⟩ = some (.pointer L) := (bC hc 0).trans rfl
  have HL := aM hl
  have HR := aM hr
  obtain ⟨Av, cv, rfl, -, -⟩ := Kd.R_reads hv
  cases l with
  | nil =>
   obtain rfl : L = none := hl
   have c2 : w.cell? ⟨b, 2, none⟩ = some (.string s) := (bC hc 2).trans rfl
   have c3 : w.cell? ⟨b, 3, none⟩ = some (.int .i64 n) := (bC hc 3).trans rfl
   have HN1 : Aside0 (xs.length + 1 ≤ 100000000) := ⟨hn⟩
   have HX : Aside0 (bgs (.node .nil r s n d) xs = xs ++ [⟨-1, -1, s, n, 0⟩]) := ⟨rfl⟩
   rw [HX.out]
   clear hr hb hc hv hB hn ihl ihr HX
   go_enter Try.func83, Try.ntmps83
   go_wp2
   go_region_law (refine Kd.R_append_step k58 (w0 := w0) (W := w.drew) w0.heap.size ?hw (.tmp 16) (.tmp 26) 27 58 (.agg #[(.int .i64 0), (.int .i64 0), (.string ⟨#[]⟩), (.int .i64 0), (.int .i64 0)]) 48 ?ho Try.underlying27 info58 rfl z0 z0 (.slice Av xs.length cv) xs (⟨-1, -1, s, n, 0⟩ : S58) [.int .i64 (-1), .int .i64 (-1), .string s, .int .i64 n, .int .i64 0] (fun _ => True) (fun _ => False) ?hs ?hx ?aP (fun _ h => h.elim) (fun _ _ => trivial) ?aO ?aB ?aS ?aL ?_; (case aL => have := HN1.out; omega); (case hw => rfl); (case ho => rfl); (case hs => rfl); (case hx => rfl); (case aP => exact k58_mkM _ _ _ _); (case aB => exact below_drew HB.out); (case aO => exact aa HV.out); (case aS => exact HB.out.size); intro v1 w1 ho hb hg hat; obtain ⟨A1, c1, eo, -, -⟩ := Kd.R_reads ho; rw [aZ, a5] at eo; subst eo; have HO := aM ho; have HB1 := aM hb; have HT : Aside0 (RowTo w w1 (.slice Av xs.length cv) (.slice A1 (xs.length + 1) c1)) := ⟨⟨Kept.of_grown hg (Kept.refl w _) (fun k hk => .inl hk.symm), hat⟩⟩; clear ho hb hg hat)
   all_goals
    go_wp2
    go_ret
    exact ⟨_, rfl, HO.out, HB1.out, HT.out⟩
  | node l' r' s' n' d' =>
   have hl2 := hl
   obtain ⟨bl, L2, R2, rfl, -⟩ := hl2
   have c1 : w.cell? ⟨b, 1, none⟩ = some (.pointer R) := (bC hc 1).trans rfl
   have HN1 : Aside0 (xs.length + cnt (.node l' r' s' n' d') + cnt r + 1 ≤ 100000000) := ⟨by have : cnt (.node (.node l' r' s' n' d') r s n d) = cnt (.node l' r' s' n' d') + cnt r + 1 := rfl; rw [this] at hn; omega⟩
   have HX : Aside0 (bgs (.node (.node l' r' s' n' d') r s n d) xs = bgs r (bgs (.node l' r' s' n' d') xs) ++ [⟨((bgs (.node l' r' s' n' d') xs).length : Int) - 1, ((bgs r (bgs (.node l' r' s' n' d') xs)).length : Int) - 1, ⟨#[]⟩, n, d⟩]) := ⟨rfl⟩
   rw [HX.out]
   clear hr hb hc hv hB hn hl HX
   generalize (Limb.node l' r' s' n' d') = l at *
   obtain ⟨o1, ho1⟩ : ∃ o, bgs l xs = o := ⟨_, rfl⟩
   have HZ1 : Aside0 (bgs l xs = o1) := ⟨ho1⟩
   obtain ⟨o2, ho2⟩ : ∃ o, bgs r o1 = o := ⟨_, rfl⟩
   have HZ2 : Aside0 (bgs r o1 = o2) := ⟨ho2⟩
   have HE1 : Aside0 (o1.length = xs.length + cnt l) := ⟨by rw [← ho1, bgs_length]⟩
   have HE2 : Aside0 (o2.length = o1.length + cnt r) := ⟨by rw [← ho2, bgs_length]⟩
   rw [ho1, ho2]
   clear ho1 ho2
   go_enter Try.func83, Try.ntmps83
   go_wp2_with (first | (go_at_call_of 83 (Value.pointer (some ⟨bl, 0, none⟩)); refine (ihl (some ⟨bl, 0, none⟩) ok w0 _ _ xs HL.out HV.out HB.out ?g4).mono ?_; (case g4 => have := HN1.out; omega); rintro e w1 ⟨v1, rfl, ho, hb, ht⟩; rw [HZ1.out] at ho; obtain ⟨A1, k1, eo, -, -⟩ := Kd.R_reads ho; subst eo; have HV1 := aM ho; have HB1 := aM hb; have HT1 := aM ht; have eN := aM (blk_kept (W := w) HC.out HT1.out.1 (fun e => Kd.R_ne HV.out HC.out z0 e)); have d1 : w1.cell? ⟨b, 1, none⟩ = some (.pointer R) := (bC eN.out 1).trans rfl; have iK := aM (HR.out.rowTo HV.out z0 HT1.out); clear ho hb ht) | (go_at_call_of 83 (Value.pointer R); refine (ihr R ok w0 _ _ o1 iK.out HV1.out HB1.out ?g4).mono ?_; (case g4 => have := HN1.out; have := HE1.out; omega); rintro e w2 ⟨v2, rfl, ho, hb, ht⟩; rw [HZ2.out] at ho; obtain ⟨A2, k2, eo, -, -⟩ := Kd.R_reads ho; subst eo; have HV2 := aM ho; have HB2 := aM hb; have HT2 := aM ht; have jW := aM (blk_kept (W := w1) eN.out HT2.out.1 (fun e => Kd.R_ne HV1.out eN.out z0 e)); have d3 : w2.cell? ⟨b, 3, none⟩ = some (.int .i64 n) := (bC jW.out 3).trans rfl; have d4 : w2.cell? ⟨b, 4, none⟩ = some (.int .i64 d) := (bC jW.out 4).trans rfl; clear ho hb ht))
   have HW1 : Aside0 (wrap64 ((o1.length : Int) - 1) = (o1.length : Int) - 1) := ⟨by have := HN1.out; have := HE1.out; unfold wrap64; omega⟩
   have HW2 : Aside0 (wrap64 ((o2.length : Int) - 1) = (o2.length : Int) - 1) := ⟨by have := HN1.out; have := HE1.out; have := HE2.out; unfold wrap64; omega⟩
   rw [HW1.out]
   clear c0 c1 d1 ihl ihr
   go_region_law (refine Kd.R_append_step k58 (w0 := w0) (W := w2.drew) w0.heap.size ?hw (.tmp 43) (.tmp 57) 27 58 (.agg #[(.int .i64 0), (.int .i64 0), (.string ⟨#[]⟩), (.int .i64 0), (.int .i64 0)]) 48 ?ho Try.underlying27 info58 rfl z0 z0 (.slice A2 o2.length k2) o2 (⟨(o1.length : Int) - 1, IntKind.i64.wrap ((o2.length : Int) - 1), ⟨#[]⟩, n, d⟩ : S58) [.int .i64 ((o1.length : Int) - 1), .int .i64 (IntKind.i64.wrap ((o2.length : Int) - 1)), .string ⟨#[]⟩, .int .i64 n, .int .i64 d] (fun _ => True) (fun _ => False) ?hs ?hx ?aP (fun _ h => h.elim) (fun _ _ => trivial) ?aO ?aB ?aS ?aL ?_; (case aL => have := HN1.out; have := HE1.out; have := HE2.out; omega); (case hw => rfl); (case ho => rfl); (case hs => rfl); (case hx => rfl); (case aP => exact k58_mkM _ _ _ _); (case aB => exact below_drew HB2.out); (case aO => exact aa HV2.out); (case aS => exact HB2.out.size); intro v3 w3 ho hb hg hat; obtain ⟨A3, k3, eo, -, -⟩ := Kd.R_reads ho; rw [aZ, a5] at eo; subst eo; have HO := aM ho; have HB3 := aM hb; have HT3 : Aside0 (RowTo w2 w3 (.slice A2 o2.length k2) (.slice A3 (o2.length + 1) k3)) := ⟨⟨Kept.of_grown hg (Kept.refl w2 _) (fun k hk => .inl hk.symm), hat⟩⟩; clear ho hb hg hat)
   all_goals
    go_wp2
    go_ret
    refine ⟨_, rfl, ?_, HB3.out, (HT1.out.trans HT2.out).trans HT3.out⟩
    have := HO.out
    rw [i64_w, HW2.out] at this
    exact this

/-! ### impl_limb_rope: function 62, by hand -/
def ropeF (t : Limb) : Option (List S58 × Bool) :=
 if cnt t ≤ 10000000 then (if 200 < cnt t then some ([], false) else (if t.isNil = true then some (bgs t [], true) else (if 300 < t.size then some ([], false) else some (bgs t [], true)))) else none
set_option maxHeartbeats 4000000 in
theorem rope_any (t : Limb) (A : Option Addr) (ok : Nat → Prop) (w : World) (r1 : List S58) (r2 : Bool) (hA : LmAt w ok t A) (h : ropeF t = some (r1, r2)) :
  Calls Try.prog 62 #[.pointer A] w fun e w' => ∃ v0_ : Value, e = .returned (.tuple #[.agg #[v0_], .bool r2]) ∧ Kd.R k58 58 w' w.heap.size (fun _ => True) v0_ r1 ∧ Below w.heap.size w w' := by
 unfold ropeF at h
 split at h
 case isFalse => cases h
 case isTrue hc =>
 have HN : Aside0 (([] : List S58).length + cnt t ≤ 100000000) := ⟨by show 0 + _ ≤ _; omega⟩
 have HA := aM hA
 have HV : Aside0 (Kd.R k58 58 w w.heap.size (fun _ => True) (.slice none 0 0) ([] : List S58)) := ⟨Kd.R_nil _ _ _ _ _⟩
 obtain ⟨B, hB⟩ : ∃ B, bgs t [] = B := ⟨_, rfl⟩
 have HZ : Aside0 (bgs t [] = B) := ⟨hB⟩
 have hl : B.length = cnt t := by rw [← hB, bgs_length]; simp
 rw [hB] at h
 rw [← hl] at h
 clear hB hc hl
 by_cases hq : 200 < B.length
 ·rw [if_pos hq] at h
  obtain ⟨rfl, rfl⟩ := Prod.mk.inj (sI h)
  have q1 : decide ((200 : Int) < (B.length : Int)) = true := dT (by omega)
  clear h hA hq
  go_enter Try.func62, Try.ntmps62
  go_wp2_with (first | (go_at_call 83; refine (boughs_any _ _ ok w _ _ [] (HA.out.alloc _) (ae HV.out _) (bA (Below.refl _ _) _) HN.out).mono ?_; rintro e w1 ⟨v1, rfl, ho, hb, ht⟩; rw [HZ.out] at ho; obtain ⟨A1, k1, eo, -, -⟩ := Kd.R_reads ho; subst eo; have HV1 := aM ho; have HB1 := aM hb; have HT1 := aM ht; have eN := aM (blk_kept (W := w.alloc (.cells #[.slice none 0 0] 29)) (blk_new _ _) HT1.out.1 (by simp [Value.ownBlock])); have e0 : ∀ o, (w1.alloc o).cell? ⟨w.heap.size, 0, none⟩ = some (.slice none 0 0) := fun o => (bC (av eN.out o) 0).trans rfl; have e1 : ∀ o, (w1.alloc o).frozen? ⟨w.heap.size, 0, none⟩ = false := fun o => bF (av eN.out o) 0;  clear ho hb ht))
  refine aU (aV rfl _ _ w.heap.size 29 #[.slice none 0 0] (0, 0) _ rfl (by refine ax (cs := #[.slice none 0 0]) (av eN.out _) 0 _ rfl) Try.underlying29 rfl z1) rfl ?_
  exact ⟨_, rfl, Kd.R_nil _ _ _ _ _, az (bA HB1.out _) (Nat.le_refl _)⟩
 ·rw [if_neg hq] at h
  have q1 : decide ((200 : Int) < (B.length : Int)) = false := dF (by omega)
  clear hq
  cases t with
  | nil =>
   obtain rfl : A = none := hA
   obtain ⟨rfl, rfl⟩ := Prod.mk.inj (sI h)
   clear h
   go_enter Try.func62, Try.ntmps62
   go_wp2_with (first | (go_at_call 83; refine (boughs_any _ _ ok w _ _ [] (HA.out.alloc _) (ae HV.out _) (bA (Below.refl _ _) _) HN.out).mono ?_; rintro e w1 ⟨v1, rfl, ho, hb, ht⟩; rw [HZ.out] at ho; obtain ⟨A1, k1, eo, -, -⟩ := Kd.R_reads ho; subst eo; have HV1 := aM ho; have HB1 := aM hb; have HT1 := aM ht; have eN := aM (blk_kept (W := w.alloc (.cells #[.slice none 0 0] 29)) (blk_new _ _) HT1.out.1 (by simp [Value.ownBlock])); have e0 : ∀ o, (w1.alloc o).cell? ⟨w.heap.size, 0, none⟩ = some (.slice none 0 0) := fun o => (bC (av eN.out o) 0).trans rfl; have e1 : ∀ o, (w1.alloc o).frozen? ⟨w.heap.size, 0, none⟩ = false := fun o => bF (av eN.out o) 0;  clear ho hb ht))
   refine aU (aV rfl _ _ w.heap.size 29 #[.slice A1 B.length k1] (0, 0) _ rfl (by refine ax (cs := #[.slice none 0 0]) (av eN.out _) 0 _ rfl) Try.underlying29 rfl z1) rfl ?_
   exact ⟨_, rfl, Kd.R_set (ae HV1.out _) (av eN.out _) z0 0 _, az (bA HB1.out _) (Nat.le_refl _)⟩
  | node l r s n d =>
   obtain ⟨b, L, R, rfl, hb, hc, -, -⟩ := hA
   have HD := aM hc
   clear hb hc
   have h' : (if 300 < n then some ([], false) else some (B, true)) = some (r1, r2) := h
   clear h
   by_cases hn : 300 < n
   ·rw [if_pos hn] at h'
    obtain ⟨rfl, rfl⟩ := Prod.mk.inj (sI h')
    have q2 : decide (300 < n) = true := dT hn
    clear h' hn
    go_enter Try.func62, Try.ntmps62
    go_wp2_with (first | (go_at_call 83; refine (boughs_any _ _ ok w _ _ [] (HA.out.alloc _) (ae HV.out _) (bA (Below.refl _ _) _) HN.out).mono ?_; rintro e w1 ⟨v1, rfl, ho, hb, ht⟩; rw [HZ.out] at ho; obtain ⟨A1, k1, eo, -, -⟩ := Kd.R_reads ho; subst eo; have HV1 := aM ho; have HB1 := aM hb; have HT1 := aM ht; have eN := aM (blk_kept (W := w.alloc (.cells #[.slice none 0 0] 29)) (blk_new _ _) HT1.out.1 (by simp [Value.ownBlock])); have e0 : ∀ o, (w1.alloc o).cell? ⟨w.heap.size, 0, none⟩ = some (.slice none 0 0) := fun o => (bC (av eN.out o) 0).trans rfl; have e1 : ∀ o, (w1.alloc o).frozen? ⟨w.heap.size, 0, none⟩ = false := fun o => bF (av eN.out o) 0; have HA1 := aM ((HA.out.alloc (.cells #[.slice none 0 0] 29)).rowTo (ae HV.out _) z0 HT1.out); have HD1 := aM (blk_kept (W := w.alloc (.cells #[.slice none 0 0] 29)) (av HD.out _) HT1.out.1 (by simp [Value.ownBlock])); have d3 : ∀ o, (w1.alloc o).cell? ⟨b, 3, none⟩ = some (.int .i64 n) := fun o => (bC (av HD1.out o) 3).trans rfl; clear ho hb ht))
    refine aU (aV rfl _ _ w.heap.size 29 #[.slice none 0 0] (0, 0) _ rfl (by refine ax (cs := #[.slice none 0 0]) (av eN.out _) 0 _ rfl) Try.underlying29 rfl z1) rfl ?_
    exact ⟨_, rfl, Kd.R_nil _ _ _ _ _, az (bA HB1.out _) (Nat.le_refl _)⟩
   ·rw [if_neg hn] at h'
    obtain ⟨rfl, rfl⟩ := Prod.mk.inj (sI h')
    have q2 : decide (300 < n) = false := dF hn
    clear h' hn
    go_enter Try.func62, Try.ntmps62
    go_wp2_with (first | (go_at_call 83; refine (boughs_any _ _ ok w _ _ [] (HA.out.alloc _) (ae HV.out _) (bA (Below.refl _ _) _) HN.out).mono ?_; rintro e w1 ⟨v1, rfl, ho, hb, ht⟩; rw [HZ.out] at ho; obtain ⟨A1, k1, eo, -, -⟩ := Kd.R_reads ho; subst eo; have HV1 := aM ho; have HB1 := aM hb; have HT1 := aM ht; have eN := aM (blk_kept (W := w.alloc (.cells #[.slice none 0 0] 29)) (blk_new _ _) HT1.out.1 (by simp [Value.ownBlock])); have e0 : ∀ o, (w1.alloc o).cell? ⟨w.heap.size, 0, none⟩ = some (.slice none 0 0) := fun o => (bC (av eN.out o) 0).trans rfl; have e1 : ∀ o, (w1.alloc o).frozen? ⟨w.heap.size, 0, none⟩ = false := fun o => bF (av eN.out o) 0; have HA1 := aM ((HA.out.alloc (.cells #[.slice none 0 0] 29)).rowTo (ae HV.out _) z0 HT1.out); have HD1 := aM (blk_kept (W := w.alloc (.cells #[.slice none 0 0] 29)) (av HD.out _) HT1.out.1 (by simp [Value.ownBlock])); have d3 : ∀ o, (w1.alloc o).cell? ⟨b, 3, none⟩ = some (.int .i64 n) := fun o => (bC (av HD1.out o) 3).trans rfl; clear ho hb ht))
    refine aU (aV rfl _ _ w.heap.size 29 #[.slice A1 B.length k1] (0, 0) _ rfl (by refine ax (cs := #[.slice none 0 0]) (av eN.out _) 0 _ rfl) Try.underlying29 rfl z1) rfl ?_
    exact ⟨_, rfl, Kd.R_set (ae HV1.out _) (av eN.out _) z0 0 _, az (bA HB1.out _) (Nat.le_refl _)⟩

/-! ### impl_RopeOf: function 26, by hand -/
def impl_RopeOf.f (k : Nat) (a0 : ByteArray) : Option (List S58 × Bool) := (impl_GoodText.f k a0).bind fun g => if g = true then ((impl_chunks.f k a0).bind fun ps => if ps.length ≤ 100000000 then ropeF (bal ps.length ps) else none) else some ([], false)
theorem impl_RopeOf.mono : ∀ a0 k, LeO (impl_RopeOf.f k a0) (impl_RopeOf.f (k + 1) a0) := by
 intro a0 k
 unfold impl_RopeOf.f
 repeat' first
  | (with_reducible exact impl_GoodText.mono _ _)
  | (with_reducible exact impl_chunks.mono _ _)
  | (with_reducible exact LeO.refl _)
  | (with_reducible exact LeO.none _)
  | (with_reducible refine LeO.ite ?_ ?_)
  | (with_reducible refine LeO.bind ?_ (fun _ => ?_))
set_option maxHeartbeats 1000000 in
theorem impl_RopeOf.calls (k : Nat) (a0 : ByteArray) (r1 : List S58) (r2 : Bool) (w : World) (h : impl_RopeOf.f k a0 = some (r1, r2)) :
  Calls Try.prog 26 #[.string a0] w fun e w' => ∃ v0_ : Value, e = .returned (.tuple #[.agg #[v0_], .bool r2]) ∧ Kd.R k58 58 w' w.heap.size (fun _ => True) v0_ r1 ∧ Below w.heap.size w w' := by
 obtain ⟨g, h1, h2⟩ := oB h
 have HG := aM h1
 clear h h1
 cases g with
 | false =>
  rw [if_neg (by simp)] at h2
  obtain ⟨rfl, rfl⟩ := Prod.mk.inj (sI h2)
  clear h2
  go_enter Try.func26, Try.ntmps26
  go_wp2_with (first | (go_at_call 59; refine (impl_GoodText.calls k a0 false _ HG.out).mono ?_; rintro e w' ⟨rfl, ⟨nd, rfl⟩⟩))
  refine aU (aV rfl _ _ w.heap.size 29 #[.slice none 0 0] (0, 0) _ rfl (by first | exact au (blk_new w _) _ | exact ax (cs := #[.slice none 0 0]) (au (blk_new w _) _) 0 _ rfl) Try.underlying29 rfl z1) rfl ?_
  exact ⟨_, rfl, Kd.R_nil _ _ _ _ _, by first | exact pD (bA (Below.refl _ _) _) _ | exact az (pD (bA (Below.refl _ _) _) _) (Nat.le_refl _)⟩
 | true =>
  rw [if_pos rfl] at h2
  obtain ⟨ps, h3, h4⟩ := oB h2
  split at h4
  case isFalse => cases h4
  case isTrue hn =>
  have HP := aM h3
  have HN := aM hn
  have HR := aM h4
  clear h2 h3 h4 hn
  go_enter Try.func26, Try.ntmps26
  go_wp2_with (first | (go_at_call 59; refine (impl_GoodText.calls k a0 true _ HG.out).mono ?_; rintro e w' ⟨rfl, ⟨nd, rfl⟩⟩) | (go_at_call 61; refine (impl_chunks.calls k a0 ps _ HP.out).mono ?_; rintro e w1 ⟨v1, rfl, ho, hb⟩; obtain ⟨A1, c1, rfl, HBA⟩ := balanced_row ho HN.out; have HB1 := aM hb; have HB2 := aM HBA; clear ho hb HBA) | (go_at_call 60; refine HB2.out.mono ?_; rintro e w2 ⟨P, rfl, hl, hb⟩; have HL2 := aM hl; have HB3 := aM hb; clear hl hb) | (go_at_call 62; refine (rope_any _ P _ _ r1 r2 HL2.out HR.out).mono ?_; rintro e w3 ⟨v3, rfl, ho, hb⟩; obtain ⟨A3, c3, eo, -, -⟩ := Kd.R_reads ho; subst eo; have fP := aM ho; have HB4 := aM hb; have HX3 : Aside0 (w3.heap[w.heap.size]? = some (.cells #[.slice none 0 0] 29 (0, 0))) := ⟨af (af (af (au (blk_new w _) nd) HB1.out) HB3.out) hb⟩; have e0 : w3.cell? ⟨w.heap.size, 0, none⟩ = some (.slice none 0 0) := (bC HX3.out 0).trans rfl; have e1 := bF HX3.out 0; clear ho hb))
  refine aU (aV rfl _ _ w.heap.size 29 #[.slice A3 r1.length c3] (0, 0) _ rfl (by exact ax (cs := #[.slice none 0 0]) HX3.out 0 _ rfl) Try.underlying29 rfl z1) rfl ?_
  have HBB : Below w.heap.size w w3 := aA (aA (aA (pD (bA (Below.refl _ _) _) _) HB1.out) HB3.out) HB4.out
  refine ⟨_, rfl, Kd.R_set (aW fP.out ?_) HX3.out z0 0 _, az HBB (Nat.le_refl _)⟩
  have h1 := HB1.out.size
  have h3 := HB3.out.size
  simp at h1
  omega

/-! ### spec_JoinRopes: function 34, by hand -/
def spec_JoinRopes.j0 : Nat → Bool → List (S58) → List (S58) → Option ((List (S58)) × Bool)
 | 0, _, _, _ => none
 | k + 1, x14, x197000, x198000 => if x14 = true then (some (([] : List (S58)), false)) else ((some (([] : List (S58)) : List (S58))).bind fun y201 => ((spec_l12Join.f k x197000 x198000).bind fun fa => (if y201.length + fa.length < 2932031007402 then ((some (y201 ++ fa : List (S58))).bind fun y207 => ((spec_GoodRope.f k y207).bind fun jE => (if jE = true then (some (y207, true)) else (some (([] : List (S58)), false))))) else (none))))
def spec_JoinRopes.f (k : Nat) (l0_0 : List (S58)) (l1_0 : List (S58)) : Option ((List (S58)) × Bool) := (spec_GoodRope.f k l0_0).bind fun kS => (if kS = true then ((spec_GoodRope.f k l1_0).bind fun kA => (spec_JoinRopes.j0 k (!kA) l0_0 l1_0)) else (spec_JoinRopes.j0 k true l0_0 l1_0))
theorem spec_JoinRopes.mono_l : ∀ k, (∀ y0 y1 y2, LeO (spec_JoinRopes.j0 k y0 y1 y2) (spec_JoinRopes.j0 (k + 1) y0 y1 y2))
 | 0 => fun _ _ _ r h => by simp [spec_JoinRopes.j0] at h
 | k + 1 => by
  have ih0 := spec_JoinRopes.mono_l k
  ·intro y0 y1 y2
   unfold spec_JoinRopes.j0
   repeat' first
   | (with_reducible exact ih0 _ _ _)
   | (with_reducible exact spec_GoodRope.mono _ _)
   | (with_reducible exact spec_l12Join.mono _ _ _)
   | (with_reducible exact LeO.refl _)
   | (with_reducible exact LeO.none _)
   | (with_reducible refine LeO.ite ?_ ?_)
   | (with_reducible refine LeO.bind ?_ (fun _ => ?_))
theorem spec_JoinRopes.mono : ∀ a0 a1 k, LeO (spec_JoinRopes.f k a0 a1) (spec_JoinRopes.f (k + 1) a0 a1) := by
 intro a0 a1 k
 have ih0 := spec_JoinRopes.mono_l k
 unfold spec_JoinRopes.f
 repeat' first
   | (with_reducible exact ih0 _ _ _)
   | (with_reducible exact spec_GoodRope.mono _ _)
   | (with_reducible exact spec_l12Join.mono _ _ _)
   | (with_reducible exact LeO.refl _)
   | (with_reducible exact LeO.none _)
   | (with_reducible refine LeO.ite ?_ ?_)
   | (with_reducible refine LeO.bind ?_ (fun _ => ?_))
/-- What stands through the whole call. -/
def JrF (A0 : Option Addr) (c0 : Nat) (l0 : List S58) (A1 : Option Addr) (c1 : Nat) (l1 : List S58) (w W : World) : Prop := Below w.heap.size w W ∧ W.heap[w.heap.size]? = some (.cells #[.slice A0 l0.length c0] 29 (0, 0)) ∧ W.heap[w.heap.size + 1]? = some (.cells #[.slice A1 l1.length c1] 29 (0, 0)) ∧ W.heap[w.heap.size + 1 + 1]? = some (.cells #[.slice none 0 0] 29 (0, 0)) ∧ Kd.C k58 W A0 l0.length l0 ∧ Kd.C k58 W A1 l1.length l1
section
variable {A0 : Option Addr} {c0 : Nat} {l0 : List S58} {A1 : Option Addr} {c1 : Nat} {l1 : List S58} {w W W' : World}
theorem JrF.below (h : JrF A0 c0 l0 A1 c1 l1 w W) (hb : Below W.heap.size W W') : JrF A0 c0 l0 A1 c1 l1 w W' := ⟨aA h.1 hb, af h.2.1 hb, af h.2.2.1 hb, af h.2.2.2.1 hb, aG h.2.2.2.2.1 hb, aG h.2.2.2.2.2 hb⟩
theorem JrF.alloc (h : JrF A0 c0 l0 A1 c1 l1 w W) (o : Obj) : JrF A0 c0 l0 A1 c1 l1 w (W.alloc o) := h.below (bA (Below.refl _ _) _)
theorem JrF.drewN (h : JrF A0 c0 l0 A1 c1 l1 w W) (n : Nat) : JrF A0 c0 l0 A1 c1 l1 w (W.drewN n) := h.below (pD (Below.refl _ _) _)
theorem JrF.drew (h : JrF A0 c0 l0 A1 c1 l1 w W) : JrF A0 c0 l0 A1 c1 l1 w W.drew := h.below (below_drew (Below.refl _ _))
end
set_option maxHeartbeats 8000000 in
set_option maxRecDepth 100000 in
theorem spec_JoinRopes.calls (k : Nat) (ce : Option Addr) (ci : Nat) (l0_0 : List S58) (eC : Option Addr) (eD : Nat) (l1_0 : List S58) (r1 : List S58) (r2 : Bool) (w : World) (hr0_0 : Kd.C k58 w ce l0_0.length l0_0) (hc0_0 : l0_0.length ≤ ci) (hr1_0 : Kd.C k58 w eC l1_0.length l1_0) (hc1_0 : l1_0.length ≤ eD) (h : spec_JoinRopes.f k l0_0 l1_0 = some (r1, r2)) :
  Calls Try.prog 34 #[.agg #[.slice ce l0_0.length ci], .agg #[.slice eC l1_0.length eD]] w fun e w' => ∃ v0_ : Value, e = .returned (.tuple #[.agg #[v0_], .bool r2]) ∧ Kd.R k58 58 w' w.heap.size (fun _ => True) v0_ r1 ∧ Below w.heap.size w w' := by
 obtain ⟨W2, hW2⟩ : ∃ W2, ((w.alloc (.cells #[.slice ce l0_0.length ci] 29)).alloc (.cells #[.slice eC l1_0.length eD] 29)).alloc (.cells #[.slice none 0 0] 29) = W2 := ⟨_, rfl⟩
 have HWB : Below w.heap.size w W2 := by rw [← hW2]; exact bA (bA (bA (Below.refl _ _) _) _) _
 have HF : Aside0 (JrF ce ci l0_0 eC eD l1_0 w W2) := ⟨HWB, by rw [← hW2]; have := av (av (blk_new w (.cells #[.slice ce l0_0.length ci] 29)) (.cells #[.slice eC l1_0.length eD] 29)) (.cells #[.slice none 0 0] 29); simpa using this, by rw [← hW2]; have := av (blk_new (w.alloc (.cells #[.slice ce l0_0.length ci] 29)) (.cells #[.slice eC l1_0.length eD] 29)) (.cells #[.slice none 0 0] 29); simpa using this, by rw [← hW2]; have := blk_new ((w.alloc (.cells #[.slice ce l0_0.length ci] 29)).alloc (.cells #[.slice eC l1_0.length eD] 29)) (.cells #[.slice none 0 0] 29); simpa using this, aG hr0_0 HWB, aG hr1_0 HWB⟩
 have HWE := aM hW2
 have eV := aM hc0_0
 have eN := aM hc1_0
 obtain ⟨gg, hg, h⟩ := oB h
 have HG := aM hg
 clear HWB hr0_0 hc0_0 hr1_0 hc1_0 hg hW2
 cases gg with
 | false =>
  rw [if_neg (by simp)] at h
  cases k with
  | zero => exact absurd h (by simp [spec_JoinRopes.j0])
  | succ k2 =>
  simp only [spec_JoinRopes.j0, if_true] at h
  obtain ⟨rfl, rfl⟩ := Prod.mk.inj (sI h)
  clear h
  go_enter Try.func34, Try.ntmps34
  go_wp2_with (first | (go_at_call_of 15 (Value.agg #[.slice ce l0_0.length ci]); (try rw [HWE.out]); refine (spec_GoodRope.calls (k2 + 1) _ _ l0_0 _ _ (by repeat (first | exact HF.out.2.2.2.2.1 | (with_reducible refine aH ?_ _) | (with_reducible refine aI ?_ _) | (with_reducible refine aJ ?_))) eV.out HG.out).mono ?_; rintro e w1 ⟨rfl, hb⟩; replace HF := aM (JrF.below (by repeat (first | exact HF.out | (with_reducible refine JrF.alloc ?_ _) | (with_reducible refine JrF.drewN ?_ _) | (with_reducible refine JrF.drew ?_))) hb); (try clear cA cB cR fR); have cA : w1.cell? ⟨w.heap.size, 0, none⟩ = some (.slice ce l0_0.length ci) := (bC HF.out.2.1 0).trans rfl; have cB : w1.cell? ⟨w.heap.size + 1, 0, none⟩ = some (.slice eC l1_0.length eD) := (bC HF.out.2.2.1 0).trans rfl; have cR : w1.cell? ⟨w.heap.size + 1 + 1, 0, none⟩ = some (.slice none 0 0) := (bC HF.out.2.2.2.1 0).trans rfl; have fR := bF HF.out.2.2.2.1 0; clear hb))
  refine aU (aV rfl _ _ (w.heap.size + 1 + 1) 29 #[.slice none 0 0] (0, 0) _ rfl (by exact ax (cs := #[.slice none 0 0]) HF.out.2.2.2.1 0 _ rfl) Try.underlying29 rfl z1) rfl ?_
  exact ⟨_, rfl, Kd.R_nil _ _ _ _ _, az HF.out.1 (by omega)⟩
 | true =>
 rw [if_pos rfl] at h
 obtain ⟨g2, hg2, h⟩ := oB h
 have HG2 := aM hg2
 clear hg2
 cases k with
 | zero => exact absurd h (by simp [spec_JoinRopes.j0])
 | succ k2 =>
 cases g2 with
 | false =>
  simp only [spec_JoinRopes.j0, Bool.not_false, if_true] at h
  obtain ⟨rfl, rfl⟩ := Prod.mk.inj (sI h)
  clear h
  go_enter Try.func34, Try.ntmps34
  go_wp2_with (first | (go_at_call_of 15 (Value.agg #[.slice ce l0_0.length ci]); (try rw [HWE.out]); refine (spec_GoodRope.calls (k2 + 1) _ _ l0_0 _ _ (by repeat (first | exact HF.out.2.2.2.2.1 | (with_reducible refine aH ?_ _) | (with_reducible refine aI ?_ _) | (with_reducible refine aJ ?_))) eV.out HG.out).mono ?_; rintro e w1 ⟨rfl, hb⟩; replace HF := aM (JrF.below (by repeat (first | exact HF.out | (with_reducible refine JrF.alloc ?_ _) | (with_reducible refine JrF.drewN ?_ _) | (with_reducible refine JrF.drew ?_))) hb); (try clear cA cB cR fR); have cA : w1.cell? ⟨w.heap.size, 0, none⟩ = some (.slice ce l0_0.length ci) := (bC HF.out.2.1 0).trans rfl; have cB : w1.cell? ⟨w.heap.size + 1, 0, none⟩ = some (.slice eC l1_0.length eD) := (bC HF.out.2.2.1 0).trans rfl; have cR : w1.cell? ⟨w.heap.size + 1 + 1, 0, none⟩ = some (.slice none 0 0) := (bC HF.out.2.2.2.1 0).trans rfl; have fR := bF HF.out.2.2.2.1 0; clear hb) | (go_at_call_of 15 (Value.agg #[.slice eC l1_0.length eD]); refine (spec_GoodRope.calls (k2 + 1) _ _ l1_0 _ _ (by repeat (first | exact HF.out.2.2.2.2.2 | (with_reducible refine aH ?_ _) | (with_reducible refine aI ?_ _) | (with_reducible refine aJ ?_))) eN.out HG2.out).mono ?_; rintro e w2 ⟨rfl, hb⟩; replace HF := aM (JrF.below (by repeat (first | exact HF.out | (with_reducible refine JrF.alloc ?_ _) | (with_reducible refine JrF.drewN ?_ _) | (with_reducible refine JrF.drew ?_))) hb); (try clear cA cB cR fR); have cA : w2.cell? ⟨w.heap.size, 0, none⟩ = some (.slice ce l0_0.length ci) := (bC HF.out.2.1 0).trans rfl; have cB : w2.cell? ⟨w.heap.size + 1, 0, none⟩ = some (.slice eC l1_0.length eD) := (bC HF.out.2.2.1 0).trans rfl; have cR : w2.cell? ⟨w.heap.size + 1 + 1, 0, none⟩ = some (.slice none 0 0) := (bC HF.out.2.2.2.1 0).trans rfl; have fR := bF HF.out.2.2.2.1 0; clear hb))
  refine aU (aV rfl _ _ (w.heap.size + 1 + 1) 29 #[.slice none 0 0] (0, 0) _ rfl (by exact ax (cs := #[.slice none 0 0]) HF.out.2.2.2.1 0 _ rfl) Try.underlying29 rfl z1) rfl ?_
  exact ⟨_, rfl, Kd.R_nil _ _ _ _ _, az HF.out.1 (by omega)⟩
 | true =>
 simp only [spec_JoinRopes.j0, Bool.not_true] at h
 rw [if_neg (by simp), Option.bind_some] at h
 obtain ⟨fa, hj, h⟩ := oB h
 split at h
 case isFalse => cases h
 case isTrue hlen =>
 rw [Option.bind_some, List.nil_append] at h
 obtain ⟨g3, hg3, h⟩ := oB h
 have HJ := aM hj
 have HG3 := aM hg3
 have HH := aM h
 have LM : Aside0 (([] : List S58).length + fa.length < 2932031007402) := ⟨hlen⟩
 clear hj hg3 h hlen
 go_enter Try.func34, Try.ntmps34
 go_upto_region 3 with (first | (go_at_call_of 15 (Value.agg #[.slice ce l0_0.length ci]); (try rw [HWE.out]); refine (spec_GoodRope.calls (k2 + 1) _ _ l0_0 _ _ (by repeat (first | exact HF.out.2.2.2.2.1 | (with_reducible refine aH ?_ _) | (with_reducible refine aI ?_ _) | (with_reducible refine aJ ?_))) eV.out HG.out).mono ?_; rintro e w1 ⟨rfl, hb⟩; replace HF := aM (JrF.below (by repeat (first | exact HF.out | (with_reducible refine JrF.alloc ?_ _) | (with_reducible refine JrF.drewN ?_ _) | (with_reducible refine JrF.drew ?_))) hb); (try clear cA cB cR fR); have cA : w1.cell? ⟨w.heap.size, 0, none⟩ = some (.slice ce l0_0.length ci) := (bC HF.out.2.1 0).trans rfl; have cB : w1.cell? ⟨w.heap.size + 1, 0, none⟩ = some (.slice eC l1_0.length eD) := (bC HF.out.2.2.1 0).trans rfl; have cR : w1.cell? ⟨w.heap.size + 1 + 1, 0, none⟩ = some (.slice none 0 0) := (bC HF.out.2.2.2.1 0).trans rfl; have fR := bF HF.out.2.2.2.1 0; clear hb) | (go_at_call_of 15 (Value.agg #[.slice eC l1_0.length eD]); refine (spec_GoodRope.calls (k2 + 1) _ _ l1_0 _ _ (by repeat (first | exact HF.out.2.2.2.2.2 | (with_reducible refine aH ?_ _) | (with_reducible refine aI ?_ _) | (with_reducible refine aJ ?_))) eN.out HG2.out).mono ?_; rintro e w2 ⟨rfl, hb⟩; replace HF := aM (JrF.below (by repeat (first | exact HF.out | (with_reducible refine JrF.alloc ?_ _) | (with_reducible refine JrF.drewN ?_ _) | (with_reducible refine JrF.drew ?_))) hb); (try clear cA cB cR fR); have cA : w2.cell? ⟨w.heap.size, 0, none⟩ = some (.slice ce l0_0.length ci) := (bC HF.out.2.1 0).trans rfl; have cB : w2.cell? ⟨w.heap.size + 1, 0, none⟩ = some (.slice eC l1_0.length eD) := (bC HF.out.2.2.1 0).trans rfl; have cR : w2.cell? ⟨w.heap.size + 1 + 1, 0, none⟩ = some (.slice none 0 0) := (bC HF.out.2.2.2.1 0).trans rfl; have fR := bF HF.out.2.2.2.1 0; clear hb))
 have HG0 := HF
 go_upto_region 4 with (first | ((with_reducible refine aN (N := 16) rfl ?_); refine Kd.R_lit k58 (w0 := w2) w2.heap.size 58 ?hg (N := 16) ?hd (xs := ([] : List (S58))) (inner := []) (ok := fun _ => True) (okp := fun _ => True) ?hr ?hp (fun _ hk => hk) trivial (Below.refl _ _) (Nat.le_refl _) (by simp) ?_; (case hd => rfl); (case hg => rfl); (case hr => first | (go_simp; done) | (go_simp; rfl)); (case hp => exact (Reps.none _ _)); intro v1 w3 ho1 hb hg_ hnew_; obtain ⟨A3, c3, eo⟩ := Kd.R_slice ho1; subst eo; have HV1 := aM ho1; have HB1 : Aside0 (Below w2.heap.size w2 w3) := ⟨hb⟩; replace HF := aM (JrF.below (by repeat (first | exact HF.out | (with_reducible refine JrF.alloc ?_ _) | (with_reducible refine JrF.drewN ?_ _) | (with_reducible refine JrF.drew ?_))) hb); (try clear cA cB cR fR); have cA : w3.cell? ⟨w.heap.size, 0, none⟩ = some (.slice ce l0_0.length ci) := (bC HF.out.2.1 0).trans rfl; have cB : w3.cell? ⟨w.heap.size + 1, 0, none⟩ = some (.slice eC l1_0.length eD) := (bC HF.out.2.2.1 0).trans rfl; have cR : w3.cell? ⟨w.heap.size + 1 + 1, 0, none⟩ = some (.slice none 0 0) := (bC HF.out.2.2.2.1 0).trans rfl; have fR := bF HF.out.2.2.2.1 0; clear ho1 hb hg_ hnew_) | (go_at_call 68; refine (join_rd k2 l0_0 ce ci l1_0 eC eD fa _ (by repeat (first | exact HF.out.2.2.2.2.1 | (with_reducible refine aH ?_ _) | (with_reducible refine aI ?_ _) | (with_reducible refine aJ ?_))) eV.out (by repeat (first | exact HF.out.2.2.2.2.2 | (with_reducible refine aH ?_ _) | (with_reducible refine aI ?_ _) | (with_reducible refine aJ ?_))) eN.out HJ.out).mono ?_; rintro e w4 ⟨A5, c5, rfl, hc5, hl5, hb⟩; have g6 := aM hc5; have nv_ := aM (ag (by repeat (first | exact HV1.out | (with_reducible refine ae ?_ _) | (with_reducible refine ac ?_ _) | (with_reducible refine aa ?_))) hb); clear HV1; have HV1 := nv_; have nb_ := aM (aA (by repeat (first | (with_reducible first | exact HB1.out | apply bA | apply pD | apply bD) | exact HB1.out)) hb); clear HB1; have HB1 := nb_; clear nv_ nb_; replace HF := aM (JrF.below (by repeat (first | exact HF.out | (with_reducible refine JrF.alloc ?_ _) | (with_reducible refine JrF.drewN ?_ _) | (with_reducible refine JrF.drew ?_))) hb); (try clear cA cB cR fR); have cA : w4.cell? ⟨w.heap.size, 0, none⟩ = some (.slice ce l0_0.length ci) := (bC HF.out.2.1 0).trans rfl; have cB : w4.cell? ⟨w.heap.size + 1, 0, none⟩ = some (.slice eC l1_0.length eD) := (bC HF.out.2.2.1 0).trans rfl; have cR : w4.cell? ⟨w.heap.size + 1 + 1, 0, none⟩ = some (.slice none 0 0) := (bC HF.out.2.2.2.1 0).trans rfl; have fR := bF HF.out.2.2.2.1 0; clear hc5 hl5 hb) | ((with_reducible refine gate_builtin (b := .append) (xs := #[.tmp 16, .tmp 21]) rfl ?_); at_builtin; refine Kd.R_append_rows k58 (w0 := w2) w2.heap.size rfl (.tmp 16) (.tmp 21) 27 58 (.agg #[(.int .i64 0), (.int .i64 0), (.string ⟨#[]⟩), (.int .i64 0), (.int .i64 0)]) 48 rfl Try.underlying27 info58 rfl z0 (by omega) (.slice A3 0 c3) [] fa _ _ _ (fun _ => True) (fun _ => False) rfl rfl ?aO ?aR (fun _ _ h => h) (fun _ h => h.elim) (fun _ _ => trivial) ?aB ?aS ?aL ?_; (case aR => repeat (first | exact g6.out | (with_reducible refine aH ?_ _) | (with_reducible refine aI ?_ _) | (with_reducible refine aJ ?_))); (case aB => exact (by repeat (first | (with_reducible first | exact HB1.out | apply bA | apply pD | apply bD) | exact HB1.out))); (case aO => exact (kR_ HV1.out)); (case aS => exact (aC (by repeat (first | (with_reducible first | exact HB1.out | apply bA | apply pD | apply bD) | exact HB1.out)))); (case aL => have := LM.out; simp only [List.length_nil] at *; omega); intro v5 w5 ho hb5 hg hat; rw [List.nil_append] at ho; obtain ⟨A6, c6, eo⟩ := Kd.R_slice ho; subst eo; have HV2 := aM ho; replace HF := aM (JrF.below HG0.out hb5); (try clear cA cB cR fR); have cA : w5.cell? ⟨w.heap.size, 0, none⟩ = some (.slice ce l0_0.length ci) := (bC HF.out.2.1 0).trans rfl; have cB : w5.cell? ⟨w.heap.size + 1, 0, none⟩ = some (.slice eC l1_0.length eD) := (bC HF.out.2.2.1 0).trans rfl; have cR : w5.cell? ⟨w.heap.size + 1 + 1, 0, none⟩ = some (.slice none 0 0) := (bC HF.out.2.2.2.1 0).trans rfl; have fR := bF HF.out.2.2.2.1 0; clear ho hb5 hg hat))
 obtain ⟨wc, hwc⟩ : ∃ x, w5.alloc (.cells #[.slice A6 fa.length c6] 29) = x := ⟨_, rfl⟩
 rw [hwc]
 have hb : Below w5.heap.size w5 wc := by rw [← hwc]; exact bA (Below.refl _ _) _
 have BX : Aside0 (wc.heap[w5.heap.size]? = some (.cells #[.slice A6 fa.length c6] 29 (0, 0))) := ⟨by rw [← hwc]; exact blk_new _ _⟩
 have nf_ := aM (JrF.below (by repeat (first | exact HF.out | (with_reducible refine JrF.alloc ?_ _) | (with_reducible refine JrF.drewN ?_ _) | (with_reducible refine JrF.drew ?_))) hb); clear HF; have HF := nf_; clear nf_; (try clear cA cB cR fR); have cA : wc.cell? ⟨w.heap.size, 0, none⟩ = some (.slice ce l0_0.length ci) := (bC HF.out.2.1 0).trans rfl; have cB : wc.cell? ⟨w.heap.size + 1, 0, none⟩ = some (.slice eC l1_0.length eD) := (bC HF.out.2.2.1 0).trans rfl; have cR : wc.cell? ⟨w.heap.size + 1 + 1, 0, none⟩ = some (.slice none 0 0) := (bC HF.out.2.2.2.1 0).trans rfl; have fR := bF HF.out.2.2.2.1 0
 have HV3 := aM (ag HV2.out hb)
 have jV := aM (ai HV3.out).2.2
 have HL6 := aM (ai HV3.out).2.1
 have HSZ := aM HG0.out.1.size
 obtain ⟨gx, hgx⟩ : ∃ g, w5.heap.size = g := ⟨_, rfl⟩
 rw [hgx] at BX ⊢
 clear hb hwc hgx HV2 HV1 HB1 g6 HJ HG HG2 HG0 HWE
 have hcx_0 : wc.cell? ⟨gx, 0, none⟩ = some (.slice A6 fa.length c6) := (bC BX.out 0).trans rfl
 have hh := HH.out
 clear HH
 cases g3 with
 | false =>
  rw [if_neg (by simp)] at hh
  obtain ⟨rfl, rfl⟩ := Prod.mk.inj (sI hh)
  clear hh
  go_wp2_with (first | (go_at_call 15; refine (spec_GoodRope.calls k2 _ _ fa _ _ (by repeat (first | exact jV.out | (with_reducible refine aH ?_ _) | (with_reducible refine aI ?_ _) | (with_reducible refine aJ ?_))) HL6.out HG3.out).mono ?_; rintro e w6 ⟨rfl, hb⟩; replace HF := aM (JrF.below (by repeat (first | exact HF.out | (with_reducible refine JrF.alloc ?_ _) | (with_reducible refine JrF.drewN ?_ _) | (with_reducible refine JrF.drew ?_))) hb); (try clear cA cB cR fR); have cA : w6.cell? ⟨w.heap.size, 0, none⟩ = some (.slice ce l0_0.length ci) := (bC HF.out.2.1 0).trans rfl; have cB : w6.cell? ⟨w.heap.size + 1, 0, none⟩ = some (.slice eC l1_0.length eD) := (bC HF.out.2.2.1 0).trans rfl; have cR : w6.cell? ⟨w.heap.size + 1 + 1, 0, none⟩ = some (.slice none 0 0) := (bC HF.out.2.2.2.1 0).trans rfl; have fR := bF HF.out.2.2.2.1 0; have nx_ := aM (af BX.out hb); clear BX hcx_0; have BX := nx_; have nv_ := aM (ag HV3.out hb); clear HV3 nx_; have HV3 := nv_; have hcx_0 : w6.cell? ⟨gx, 0, none⟩ = some (.slice A6 fa.length c6) := (bC BX.out 0).trans rfl; clear hb nv_))
  refine aU (aV rfl _ _ (w.heap.size + 1 + 1) 29 #[.slice none 0 0] (0, 0) _ rfl (by exact ax (cs := #[.slice none 0 0]) HF.out.2.2.2.1 0 _ rfl) Try.underlying29 rfl z1) rfl ?_
  exact ⟨_, rfl, Kd.R_nil _ _ _ _ _, az HF.out.1 (by omega)⟩
 | true =>
  rw [if_pos rfl] at hh
  obtain ⟨rfl, rfl⟩ := Prod.mk.inj (sI hh)
  clear hh
  go_wp2_with (first | (go_at_call 15; refine (spec_GoodRope.calls k2 _ _ fa _ _ (by repeat (first | exact jV.out | (with_reducible refine aH ?_ _) | (with_reducible refine aI ?_ _) | (with_reducible refine aJ ?_))) HL6.out HG3.out).mono ?_; rintro e w6 ⟨rfl, hb⟩; replace HF := aM (JrF.below (by repeat (first | exact HF.out | (with_reducible refine JrF.alloc ?_ _) | (with_reducible refine JrF.drewN ?_ _) | (with_reducible refine JrF.drew ?_))) hb); (try clear cA cB cR fR); have cA : w6.cell? ⟨w.heap.size, 0, none⟩ = some (.slice ce l0_0.length ci) := (bC HF.out.2.1 0).trans rfl; have cB : w6.cell? ⟨w.heap.size + 1, 0, none⟩ = some (.slice eC l1_0.length eD) := (bC HF.out.2.2.1 0).trans rfl; have cR : w6.cell? ⟨w.heap.size + 1 + 1, 0, none⟩ = some (.slice none 0 0) := (bC HF.out.2.2.2.1 0).trans rfl; have fR := bF HF.out.2.2.2.1 0; have nx_ := aM (af BX.out hb); clear BX hcx_0; have BX := nx_; have nv_ := aM (ag HV3.out hb); clear HV3 nx_; have HV3 := nv_; have hcx_0 : w6.cell? ⟨gx, 0, none⟩ = some (.slice A6 fa.length c6) := (bC BX.out 0).trans rfl; clear hb nv_))
  refine aU (aV rfl _ _ (w.heap.size + 1 + 1) 29 #[.slice A6 fa.length c6] (0, 0) _ rfl (by exact ax (cs := #[.slice none 0 0]) HF.out.2.2.2.1 0 _ rfl) Try.underlying29 rfl z1) rfl ?_
  exact ⟨_, rfl, Kd.R_set (aW HV3.out HSZ.out) HF.out.2.2.2.1 z0 0 _, az HF.out.1 (by omega)⟩

/-! ### impl_JoinRopes: function 35, by hand -/
def impl_JoinRopes.f (k : Nat) (l0_0 : List S58) (l1_0 : List S58) : Option (List S58 × Bool) := (opnF k l0_0).bind fun p => (opnF k l1_0).bind fun q => if p.2 = true then (if q.2 = true then ropeF (fk p.1 q.1) else some ([], false)) else some ([], false)
theorem impl_JoinRopes.mono : ∀ a0 a1 k, LeO (impl_JoinRopes.f k a0 a1) (impl_JoinRopes.f (k + 1) a0 a1) := fun a0 a1 k => LeO.bind (opnF_mono k a0) (fun _ => LeO.bind (opnF_mono k a1) (fun _ => LeO.refl _))
set_option maxHeartbeats 1000000 in
theorem impl_JoinRopes.calls (k : Nat) (ce : Option Addr) (ci : Nat) (l0_0 : List S58) (eC : Option Addr) (eD : Nat) (l1_0 : List S58) (r1 : List S58) (r2 : Bool) (w : World) (hr0_0 : Kd.C k58 w ce l0_0.length l0_0) (hc0_0 : l0_0.length ≤ ci) (hr1_0 : Kd.C k58 w eC l1_0.length l1_0) (hc1_0 : l1_0.length ≤ eD) (h : impl_JoinRopes.f k l0_0 l1_0 = some (r1, r2)) :
  Calls Try.prog 35 #[.agg #[.slice ce l0_0.length ci], .agg #[.slice eC l1_0.length eD]] w fun e w' => ∃ v0_ : Value, e = .returned (.tuple #[.agg #[v0_], .bool r2]) ∧ Kd.R k58 58 w' w.heap.size (fun _ => True) v0_ r1 ∧ Below w.heap.size w w' := by
 obtain ⟨⟨t, b⟩, h1, h2⟩ := oB h
 obtain ⟨⟨t', b'⟩, h3, h4⟩ := oB h2
 have HO := aM (fun (w' : World) (hC : Kd.C k58 w' ce l0_0.length l0_0) => open_any k l0_0 ce ci t b w' hC hc0_0 h1)
 have HO' := aM (fun (w' : World) (hC : Kd.C k58 w' eC l1_0.length l1_0) => open_any k l1_0 eC eD t' b' w' hC hc1_0 h3)
 obtain ⟨W3, hW3⟩ : ∃ W3, ((w.alloc (.cells #[.slice ce l0_0.length ci] 29)).alloc (.cells #[.slice eC l1_0.length eD] 29)).alloc (.cells #[.slice none 0 0] 29) = W3 := ⟨_, rfl⟩
 have HWB : Aside0 (Below w.heap.size w W3) := ⟨by rw [← hW3]; exact bA (bA (bA (Below.refl _ _) _) _) _⟩
 have HW : Aside0 (W3.heap[w.heap.size + 1 + 1]? = some (.cells #[.slice none 0 0] 29 (0, 0))) := ⟨by rw [← hW3]; have := blk_new ((w.alloc (.cells #[.slice ce l0_0.length ci] 29)).alloc (.cells #[.slice eC l1_0.length eD] 29)) (.cells #[.slice none 0 0] 29); simpa using this⟩
 have HW1 : Aside0 (W3.heap[w.heap.size + 1]? = some (.cells #[.slice eC l1_0.length eD] 29 (0, 0))) := ⟨by rw [← hW3]; have := av (blk_new (w.alloc (.cells #[.slice ce l0_0.length ci] 29)) (.cells #[.slice eC l1_0.length eD] 29)) (.cells #[.slice none 0 0] 29); simpa using this⟩
 have HW0 : Aside0 (W3.heap[w.heap.size]? = some (.cells #[.slice ce l0_0.length ci] 29 (0, 0))) := ⟨by rw [← hW3]; have := av (av (blk_new w (.cells #[.slice ce l0_0.length ci] 29)) (.cells #[.slice eC l1_0.length eD] 29)) (.cells #[.slice none 0 0] 29); simpa using this⟩
 have eV := aM (aG hr0_0 HWB.out)
 have eN := aM (aG hr1_0 HWB.out)
 have HWE := aM hW3
 have HRR : Aside0 ((if b = true then (if b' = true then ropeF (fk t t') else some ([], false)) else some ([], false)) = some (r1, r2)) := ⟨h4⟩
 clear h h1 h2 h3 h4 hr0_0 hc0_0 hr1_0 hc1_0 hW3
 cases b with
 | false =>
  obtain ⟨rfl, rfl⟩ := Prod.mk.inj (sI HRR.out)
  clear HRR
  go_enter Try.func35, Try.ntmps35
  go_wp2_with (first | (go_at_call_of 48 (Value.agg #[Value.slice ce l0_0.length ci]); (try rw [HWE.out]); refine (HO.out _ eV.out).mono ?_; rintro e w1 ⟨P, rfl, hl, hb⟩; have HL1 := aM hl; have HB1 := aM hb; have HX1 := aM (af HW.out hb); have HY1 := aM (af HW1.out hb); have e1 : w1.cell? ⟨w.heap.size + 1, 0, none⟩ = some (.slice eC l1_0.length eD) := (bC HY1.out 0).trans rfl; have jW := aM (aG eN.out hb); clear hl hb) | (go_at_call 48; refine (HO'.out _ jW.out).mono ?_; rintro e w2 ⟨P', rfl, hl, hb⟩; have HL2 := aM hl; have HB2 := aM hb; have HX2 := aM (af HX1.out hb); have HL1' := aM (HL1.out.below hb); have e2 : w2.cell? ⟨w.heap.size + 1 + 1, 0, none⟩ = some (.slice none 0 0) := (bC HX2.out 0).trans rfl; have e3 := bF HX2.out 0; clear hl hb))
  refine aU (aV rfl _ _ (w.heap.size + 1 + 1) 29 #[.slice none 0 0] (0, 0) _ rfl (by exact ax (cs := #[.slice none 0 0]) HX2.out 0 _ rfl) Try.underlying29 rfl z1) rfl ?_
  exact ⟨_, rfl, Kd.R_nil _ _ _ _ _, az (aA (aA HWB.out HB1.out) HB2.out) (by omega)⟩
 | true =>
 cases b' with
 | false =>
  obtain ⟨rfl, rfl⟩ := Prod.mk.inj (sI HRR.out)
  clear HRR
  go_enter Try.func35, Try.ntmps35
  go_wp2_with (first | (go_at_call_of 48 (Value.agg #[Value.slice ce l0_0.length ci]); (try rw [HWE.out]); refine (HO.out _ eV.out).mono ?_; rintro e w1 ⟨P, rfl, hl, hb⟩; have HL1 := aM hl; have HB1 := aM hb; have HX1 := aM (af HW.out hb); have HY1 := aM (af HW1.out hb); have e1 : w1.cell? ⟨w.heap.size + 1, 0, none⟩ = some (.slice eC l1_0.length eD) := (bC HY1.out 0).trans rfl; have jW := aM (aG eN.out hb); clear hl hb) | (go_at_call 48; refine (HO'.out _ jW.out).mono ?_; rintro e w2 ⟨P', rfl, hl, hb⟩; have HL2 := aM hl; have HB2 := aM hb; have HX2 := aM (af HX1.out hb); have HL1' := aM (HL1.out.below hb); have e2 : w2.cell? ⟨w.heap.size + 1 + 1, 0, none⟩ = some (.slice none 0 0) := (bC HX2.out 0).trans rfl; have e3 := bF HX2.out 0; clear hl hb))
  refine aU (aV rfl _ _ (w.heap.size + 1 + 1) 29 #[.slice none 0 0] (0, 0) _ rfl (by exact ax (cs := #[.slice none 0 0]) HX2.out 0 _ rfl) Try.underlying29 rfl z1) rfl ?_
  exact ⟨_, rfl, Kd.R_nil _ _ _ _ _, az (aA (aA HWB.out HB1.out) HB2.out) (by omega)⟩
 | true =>
  have HRF : Aside0 (ropeF (fk t t') = some (r1, r2)) := ⟨HRR.out⟩
  clear HRR
  go_enter Try.func35, Try.ntmps35
  go_wp2_with (first | (go_at_call_of 48 (Value.agg #[Value.slice ce l0_0.length ci]); (try rw [HWE.out]); refine (HO.out _ eV.out).mono ?_; rintro e w1 ⟨P, rfl, hl, hb⟩; have HL1 := aM hl; have HB1 := aM hb; have HX1 := aM (af HW.out hb); have HY1 := aM (af HW1.out hb); have e1 : w1.cell? ⟨w.heap.size + 1, 0, none⟩ = some (.slice eC l1_0.length eD) := (bC HY1.out 0).trans rfl; have jW := aM (aG eN.out hb); clear hl hb) | (go_at_call 48; refine (HO'.out _ jW.out).mono ?_; rintro e w2 ⟨P', rfl, hl, hb⟩; have HL2 := aM hl; have HB2 := aM hb; have HX2 := aM (af HX1.out hb); have HL1' := aM (HL1.out.below hb); have e2 : w2.cell? ⟨w.heap.size + 1 + 1, 0, none⟩ = some (.slice none 0 0) := (bC HX2.out 0).trans rfl; have e3 := bF HX2.out 0; clear hl hb) | (go_at_call 69; refine (fork_any t t' P P' (fun _ => True) w2 (HL1'.out.mono (fun _ _ => trivial)) (HL2.out.mono (fun _ _ => trivial)) (fun _ _ => trivial)).mono ?_; rintro e w3 ⟨P3, rfl, hl, hb⟩; have HL3 := aM hl; have HB3 := aM hb; have HX3 := aM (af HX2.out hb); clear hl hb) | (go_at_call 62; refine (rope_any _ P3 _ _ r1 r2 HL3.out HRF.out).mono ?_; rintro e w4 ⟨v4, rfl, ho, hb⟩; obtain ⟨A4, c4, eo, -, -⟩ := Kd.R_reads ho; subst eo; have fv := aM ho; have HB4 := aM hb; have HX4 := aM (af HX3.out hb); have e4 : w4.cell? ⟨w.heap.size + 1 + 1, 0, none⟩ = some (.slice none 0 0) := (bC HX4.out 0).trans rfl; have e5 := bF HX4.out 0; clear ho hb))
  refine aU (aV rfl _ _ (w.heap.size + 1 + 1) 29 #[.slice A4 r1.length c4] (0, 0) _ rfl (by exact ax (cs := #[.slice none 0 0]) HX4.out 0 _ rfl) Try.underlying29 rfl z1) rfl ?_
  have HB23 : Below w.heap.size w w3 := aA (aA (aA HWB.out HB1.out) HB2.out) HB3.out
  exact ⟨_, rfl, Kd.R_set (aW fv.out HB23.size) HX4.out z0 0 _, az (aA HB23 HB4.out) (by omega)⟩

/-- A state of type 95 at block g of W; what its slices lead to came in by w0. -/
def IsS95 (w0 W : World) (g : Nat) (f0 : List Int) (f1 : Int) (f2 : Int) : Prop := ∃ A0 c0, W.heap[g]? = some (.cells #[.slice A0 f0.length c0, .int .i64 f1, .int .u64 f2] 95 (0, 0)) ∧ w0.heap.size ≤ g ∧ Kd.C (Kd.int .u8) w0 A0 f0.length f0
theorem IsS95.grown {w0 W : World} {g : Nat} {f0 : List Int} {f1 : Int} {f2 : Int} {W1 : World} {row : Option Nat} (h : IsS95 w0 W g f0 f1 f2) (hw : W.grownBy W1 row) (hne : some g ≠ row) : IsS95 w0 W1 g f0 f1 f2 := by
 obtain ⟨A0, c0, hb, hg, hr0⟩ := h
 exact ⟨A0, c0, blk_grown hb hw hne, hg, hr0⟩
theorem IsS95.own_neN {w0 W : World} {g : Nat} {f0 : List Int} {f1 : Int} {f2 : Int} {α : Type} {d : Kd α} {e : Nat} {base : Nat} {ok : Nat → Prop} {v : Value} {xs : List α} (h : IsS95 w0 W g f0 f1 f2) (ho : Kd.N d e W base ok v xs) (ht : e ≠ 95) : some g ≠ v.ownBlock := by
 obtain ⟨A0, c0, hb, hg, hr0⟩ := h
 exact Kd.N_ne ho hb ht
theorem IsS95.fresh {w0 W : World} {g : Nat} {f0 : List Int} {f1 : Int} {f2 : Int} (h : IsS95 w0 W g f0 f1 f2) : ∀ k, W.heap.size ≤ k → k ≠ g := by
 obtain ⟨A0, c0, hb, hg, hr0⟩ := h
 exact Kd.freshB hb
theorem IsS95.kept {w0 W : World} {g : Nat} {f0 : List Int} {f1 : Int} {f2 : Int} {W1 : World} {S : Nat → Prop} (h : IsS95 w0 W g f0 f1 f2) (hk : Kept W W1 S) (hne : ¬ S g) : IsS95 w0 W1 g f0 f1 f2 := by
 obtain ⟨A0, c0, hb, hg, hr0⟩ := h
 exact ⟨A0, c0, blk_kept hb hk hne, hg, hr0⟩
theorem IsS95.below {w0 W : World} {g : Nat} {f0 : List Int} {f1 : Int} {f2 : Int} {W1 : World} (h : IsS95 w0 W g f0 f1 f2) (hw : Below W.heap.size W W1) : IsS95 w0 W1 g f0 f1 f2 := h.grown (grown_of_below hw none) (by simp)
theorem IsS95.alloc {w0 W : World} {g : Nat} {f0 : List Int} {f1 : Int} {f2 : Int} (h : IsS95 w0 W g f0 f1 f2) (o : Obj) : IsS95 w0 (W.alloc o) g f0 f1 f2 := h.below (bA (Below.refl _ _) o)
theorem IsS95.drewN {w0 W : World} {g : Nat} {f0 : List Int} {f1 : Int} {f2 : Int} (h : IsS95 w0 W g f0 f1 f2) (m : Nat) : IsS95 w0 (W.drewN m) g f0 f1 f2 := h
theorem IsS95.drew {w0 W : World} {g : Nat} {f0 : List Int} {f1 : Int} {f2 : Int} (h : IsS95 w0 W g f0 f1 f2) : IsS95 w0 W.drew g f0 f1 f2 := h
theorem IsS95.at_ {w0 W : World} {g : Nat} {f0 : List Int} {f1 : Int} {f2 : Int} {w' : World} {m : Nat} (hq : W.drewN m = w') (h : IsS95 w0 W g f0 f1 f2) : IsS95 w0 w' g f0 f1 f2 := by subst hq; exact IsS95.drewN h m
theorem IsS95.apart {w0 W : World} {g : Nat} {f0 : List Int} {f1 : Int} {f2 : Int} {α : Type} {d : Kd α} {e : Nat} {base : Nat} {ok : Nat → Prop} {v : Value} {xs : List α} (h : IsS95 w0 W g f0 f1 f2) (ho : d.R e W base ok v xs) (ht : ∀ q, q ∈ e :: d.E → q ≠ 95) : d.R e W base (fun k => ok k ∧ k ≠ g) v xs := by
 obtain ⟨A0, c0, hb, hg, hr0⟩ := h
 exact aq ho hb ht
theorem IsS95.own_ne {w0 W : World} {g : Nat} {f0 : List Int} {f1 : Int} {f2 : Int} {α : Type} {d : Kd α} {e : Nat} {base : Nat} {ok : Nat → Prop} {v : Value} {xs : List α} (h : IsS95 w0 W g f0 f1 f2) (ho : d.R e W base ok v xs) (ht : e ≠ 95) : some g ≠ v.ownBlock := by
 obtain ⟨A0, c0, hb, hg, hr0⟩ := h
 exact Kd.R_ne ho hb ht
theorem IsS95.apartQ {w0 W : World} {g : Nat} {f0 : List Int} {f1 : Int} {f2 : Int} {α : Type} {d : Kd α} {e : Nat} {base : Nat} {ok : Nat → Prop} {v : Value} {xs : List α} (h : IsS95 w0 W g f0 f1 f2) (ho : d.Q e W base ok v xs) (ht : ∀ q, q ∈ e :: d.E → q ≠ 95) : d.Q e W base (fun k => ok k ∧ k ≠ g) v xs := by
 obtain ⟨A0, c0, hb, hg, hr0⟩ := h
 exact Kd.Q_types ho hb ht
theorem IsS95.own_neQ {w0 W : World} {g : Nat} {f0 : List Int} {f1 : Int} {f2 : Int} {α : Type} {d : Kd α} {e : Nat} {base : Nat} {ok : Nat → Prop} {v : Value} {xs : List α} (h : IsS95 w0 W g f0 f1 f2) (ho : d.Q e W base ok v xs) (ht : e ≠ 95) : some g ≠ v.ownBlock := by
 obtain ⟨A0, c0, hb, hg, hr0⟩ := h
 exact Kd.Q_ne ho hb ht
theorem IsS95.apartS {w0 W : World} {g : Nat} {f0 : List Int} {f1 : Int} {f2 : Int} {α : Type} {d : Kd α} {e : Nat} {base : Nat} {ok : Nat → Prop} {v : Value} {xs : List α} (h : IsS95 w0 W g f0 f1 f2) (ho : d.S e W base ok v xs) (ht : ∀ q, q ∈ e :: d.E → q ≠ 95) : d.S e W base (fun k => ok k ∧ k ≠ g) v xs := by
 obtain ⟨A0, c0, hb, hg, hr0⟩ := h
 exact Kd.S_types ho hb ht
theorem IsS95.own_neS {w0 W : World} {g : Nat} {f0 : List Int} {f1 : Int} {f2 : Int} {α : Type} {d : Kd α} {e : Nat} {base : Nat} {ok : Nat → Prop} {v : Value} {xs : List α} (h : IsS95 w0 W g f0 f1 f2) (ho : d.S e W base ok v xs) (ht : e ≠ 95) : some g ≠ v.ownBlock := by
 obtain ⟨A0, c0, hb, hg, hr0⟩ := h
 exact Kd.S_ne ho hb ht
theorem IsS95.lt {w0 W : World} {g : Nat} {f0 : List Int} {f1 : Int} {f2 : Int} (h : IsS95 w0 W g f0 f1 f2) : g < W.heap.size := by
 obtain ⟨A0, c0, hb, hg, hr0⟩ := h
 exact ay hb
theorem IsS95.ge {w0 W : World} {g : Nat} {f0 : List Int} {f1 : Int} {f2 : Int} (h : IsS95 w0 W g f0 f1 f2) : w0.heap.size ≤ g := by
 obtain ⟨A0, c0, hb, hg, hr0⟩ := h
 exact hg
theorem IsS95.ne_blk {w0 W : World} {g : Nat} {f0 : List Int} {f1 : Int} {f2 : Int} {a : Nat} {cs : Array Value} {t : TypeId} {fr : Nat × Nat} (h : IsS95 w0 W g f0 f1 f2) (hb2 : W.heap[a]? = some (.cells cs t fr)) (ht : t ≠ 95) : g ≠ a := by
 obtain ⟨A0, c0, hb, hg, hr0⟩ := h
 rintro rfl
 rw [hb] at hb2
 injection hb2 with hb2
 injection hb2 with _ ht2
 exact ht ht2.symm
theorem IsS95.far {w0 W : World} {g : Nat} {f0 : List Int} {f1 : Int} {f2 : Int} {p : Addr} (h : IsS95 w0 W g f0 f1 f2) (hne : g ≠ p.block) (u : Value) : IsS95 w0 (W.setCell p u) g f0 f1 f2 := by
 obtain ⟨A0, c0, hb, hg, hr0⟩ := h
 exact ⟨A0, c0, aw hb hne u, hg, hr0⟩
theorem cellS95_0 {W : World} {g : Nat} {A0 : Option Addr} {c0 : Nat} {f0 : List Int} {f1 : Int} {f2 : Int} (h : W.heap[g]? = some (.cells #[.slice A0 f0.length c0, .int .i64 f1, .int .u64 f2] 95 (0, 0))) : W.cell? ⟨g, 0, none⟩ = some (.slice A0 f0.length c0) := (bC h 0).trans rfl
theorem cellS95_1 {W : World} {g : Nat} {A0 : Option Addr} {c0 : Nat} {f0 : List Int} {f1 : Int} {f2 : Int} (h : W.heap[g]? = some (.cells #[.slice A0 f0.length c0, .int .i64 f1, .int .u64 f2] 95 (0, 0))) : W.cell? ⟨g, 1, none⟩ = some (.int .i64 f1) := (bC h 1).trans rfl
theorem IsS95.set_1 {w0 W : World} {g : Nat} {f0 : List Int} {f1 : Int} {f2 : Int} (h : IsS95 w0 W g f0 f1 f2) (x : Int) : IsS95 w0 (W.setCell ⟨g, 1, none⟩ (.int .i64 x)) g f0 x f2 := by
 obtain ⟨A0, c0, hb, hg, hr0⟩ := h
 exact ⟨A0, c0, by simpa using blk_set hb 1 (.int .i64 x), hg, hr0⟩
theorem cellS95_2 {W : World} {g : Nat} {A0 : Option Addr} {c0 : Nat} {f0 : List Int} {f1 : Int} {f2 : Int} (h : W.heap[g]? = some (.cells #[.slice A0 f0.length c0, .int .i64 f1, .int .u64 f2] 95 (0, 0))) : W.cell? ⟨g, 2, none⟩ = some (.int .u64 f2) := (bC h 2).trans rfl
theorem IsS95.set_2 {w0 W : World} {g : Nat} {f0 : List Int} {f1 : Int} {f2 : Int} (h : IsS95 w0 W g f0 f1 f2) (x : Int) : IsS95 w0 (W.setCell ⟨g, 2, none⟩ (.int .u64 x)) g f0 f1 x := by
 obtain ⟨A0, c0, hb, hg, hr0⟩ := h
 exact ⟨A0, c0, by simpa using blk_set hb 2 (.int .u64 x), hg, hr0⟩
theorem IsS95.new (w0 W : World) (A0 : Option Addr) (c0 : Nat) (f0 : List Int) (f1 : Int) (f2 : Int) (hB : Below w0.heap.size w0 W) (hr0 : Kd.C (Kd.int .u8) w0 A0 f0.length f0) : IsS95 w0 (W.alloc (.cells #[.slice A0 f0.length c0, .int .i64 f1, .int .u64 f2] 95)) W.heap.size f0 f1 f2 := ⟨A0, c0, by simpa using heap_alloc_new W _, hB.size, hr0⟩

/-! ### spec_l1Cur_next: function 95 -/
def spec_l1Cur_next.f (s0_0 : List Int) (s0_1 : Int) (s0_2 : Int) : Option (Int × Int × Int) := if s0_1 < (s0_0.length : Int) then (if 0 ≤ s0_1 then (if (wrap64 (s0_1 + 1)) ≤ (s0_0.length : Int) then (some (wrap64 (rd s0_0 s0_1), wrap64 (s0_1 + 1), IntKind.u64.wrap ((IntKind.u64.wrap ((IntKind.u64.wrap (s0_2 * 6364136223846793005)) + (IntKind.u64.wrap (wrap64 (rd s0_0 s0_1))))) + 1442695040888963407))) else (some (wrap64 (Go.bits .and .u64 ((IntKind.u64.wrap ((IntKind.u64.wrap ((IntKind.u64.wrap (s0_2 * 6364136223846793005)) + (IntKind.u64.wrap (wrap64 (rd s0_0 s0_1))))) + 1442695040888963407)) / 1099511627776) 255), wrap64 (s0_1 + 1), IntKind.u64.wrap ((IntKind.u64.wrap ((IntKind.u64.wrap (s0_2 * 6364136223846793005)) + (IntKind.u64.wrap (wrap64 (rd s0_0 s0_1))))) + 1442695040888963407)))) else (none)) else (if (wrap64 (s0_1 + 1)) ≤ (s0_0.length : Int) then (some (0, wrap64 (s0_1 + 1), IntKind.u64.wrap ((IntKind.u64.wrap ((IntKind.u64.wrap (s0_2 * 6364136223846793005)) + 0)) + 1442695040888963407))) else (some (wrap64 (Go.bits .and .u64 ((IntKind.u64.wrap ((IntKind.u64.wrap ((IntKind.u64.wrap (s0_2 * 6364136223846793005)) + 0)) + 1442695040888963407)) / 1099511627776) 255), wrap64 (s0_1 + 1), IntKind.u64.wrap ((IntKind.u64.wrap ((IntKind.u64.wrap (s0_2 * 6364136223846793005)) + 0)) + 1442695040888963407))))
set_option maxHeartbeats 8000000 in
set_option maxRecDepth 100000 in
theorem spec_l1Cur_next.calls (g : Nat) (s0_0 : List Int) (s0_1 : Int) (s0_2 : Int) (r1 : Int) (r2 : Int) (r3 : Int) (w0 w : World) (hI : IsS95 w0 w g s0_0 s0_1 s0_2) (hB : Below w0.heap.size w0 w) (h : spec_l1Cur_next.f s0_0 s0_1 s0_2 = some (r1, r2, r3)) :
  Calls Try.prog 95 #[.pointer (some ⟨g, 0, none⟩)] w fun e w' => e = .returned (.int .i64 r1) ∧ IsS95 w0 w' g s0_0 r2 r3 ∧ Below w0.heap.size w0 w' ∧ KeepBut w w' g none := by
 have HI0 := aM hI
 have HK := aM (KeepBut.refl w g none)
 have HL := aM hB.size
 clear hI
 have HW0 := aM hB.size
 have HB := aM hB
 clear hB
 have H : (if s0_1 < (s0_0.length : Int) then (if 0 ≤ s0_1 then (if (wrap64 (s0_1 + 1)) ≤ (s0_0.length : Int) then (some (wrap64 (rd s0_0 s0_1), wrap64 (s0_1 + 1), IntKind.u64.wrap ((IntKind.u64.wrap ((IntKind.u64.wrap (s0_2 * 6364136223846793005)) + (IntKind.u64.wrap (wrap64 (rd s0_0 s0_1))))) + 1442695040888963407))) else (some (wrap64 (Go.bits .and .u64 ((IntKind.u64.wrap ((IntKind.u64.wrap ((IntKind.u64.wrap (s0_2 * 6364136223846793005)) + (IntKind.u64.wrap (wrap64 (rd s0_0 s0_1))))) + 1442695040888963407)) / 1099511627776) 255), wrap64 (s0_1 + 1), IntKind.u64.wrap ((IntKind.u64.wrap ((IntKind.u64.wrap (s0_2 * 6364136223846793005)) + (IntKind.u64.wrap (wrap64 (rd s0_0 s0_1))))) + 1442695040888963407)))) else (none)) else (if (wrap64 (s0_1 + 1)) ≤ (s0_0.length : Int) then (some (0, wrap64 (s0_1 + 1), IntKind.u64.wrap ((IntKind.u64.wrap ((IntKind.u64.wrap (s0_2 * 6364136223846793005)) + 0)) + 1442695040888963407))) else (some (wrap64 (Go.bits .and .u64 ((IntKind.u64.wrap ((IntKind.u64.wrap ((IntKind.u64.wrap (s0_2 * 6364136223846793005)) + 0)) + 1442695040888963407)) / 1099511627776) 255), wrap64 (s0_1 + 1), IntKind.u64.wrap ((IntKind.u64.wrap ((IntKind.u64.wrap (s0_2 * 6364136223846793005)) + 0)) + 1442695040888963407))))) = some (r1, r2, r3) := h
 clear h
 by_cases c2 : s0_1 < (s0_0.length : Int)
 ·rw [if_pos c2] at H
  have c2b0 : decide (s0_1 < (s0_0.length : Int)) = true := dT c2
  clear c2
  by_cases c3 : 0 ≤ s0_1
  ·rw [if_pos c3] at H
   have c3b0 : decide (0 ≤ s0_1) = true := dT c3
   clear c3
   by_cases c4 : (wrap64 (s0_1 + 1)) ≤ (s0_0.length : Int)
   ·rw [if_pos c4] at H
    have c4b0 : decide ((wrap64 (s0_1 + 1)) ≤ (s0_0.length : Int)) = true := dT c4
    clear c4
    simp only [Option.some.injEq, Prod.mk.injEq] at H
    obtain ⟨rfl, rfl, rfl⟩ := H
    obtain ⟨ASz5_0, cSz5_0, HGz5, hgz5, HSz5_0⟩ := HI0.out
    have hcz5_0 := cellS95_0 HGz5
    have hcz5_1 := cellS95_1 HGz5
    have hcz5_2 := cellS95_2 HGz5
    have hfz5_1 := bF HGz5 1
    have hfz5_2 := bF HGz5 2
    clear HGz5 hgz5
    have p138 : 0 ≤ (s0_1 : Int) := oD z3
    have q138 : s0_1 < (s0_0.length : Int) := oD z3
    obtain ⟨ad138, e138, hx138_0⟩ := Kd.at_int HSz5_0 s0_1 p138 q138
    cases e138
    replace hx138_0 := pw_cell_below HB.out hx138_0
    replace p138 := eq_true p138
    replace q138 := eq_true q138
    go_enter Try.func95, Try.ntmps95
    go_wp2
    repeat (go_quiet (fail); try go_wp2)
    go_ret
    exact ⟨y4, y19, y13, y14⟩
   ·rw [if_neg c4] at H
    have c4b0 : decide ((wrap64 (s0_1 + 1)) ≤ (s0_0.length : Int)) = false := dF c4
    clear c4
    simp only [Option.some.injEq, Prod.mk.injEq] at H
    obtain ⟨rfl, rfl, rfl⟩ := H
    obtain ⟨ASz6_0, cSz6_0, HGz6, hgz6, HSz6_0⟩ := HI0.out
    have oE := cellS95_0 HGz6
    have oC := cellS95_1 HGz6
    have oA := cellS95_2 HGz6
    have oz := bF HGz6 1
    have oy := bF HGz6 2
    clear HGz6 hgz6
    have p138 : 0 ≤ (s0_1 : Int) := oD z3
    have q138 : s0_1 < (s0_0.length : Int) := oD z3
    obtain ⟨ad138, e138, hx138_0⟩ := Kd.at_int HSz6_0 s0_1 p138 q138
    cases e138
    replace hx138_0 := pw_cell_below HB.out hx138_0
    replace p138 := eq_true p138
    replace q138 := eq_true q138
    go_enter Try.func95, Try.ntmps95
    go_wp2
    repeat (go_quiet (fail); try go_wp2)
    go_ret
    exact ⟨y4, y19, y13, y14⟩
  ·rw [if_neg c3] at H
   exact absurd H (by simp)
 ·rw [if_neg c2] at H
  have c2b0 : decide (s0_1 < (s0_0.length : Int)) = false := dF c2
  clear c2
  by_cases c7 : (wrap64 (s0_1 + 1)) ≤ (s0_0.length : Int)
  ·rw [if_pos c7] at H
   have c7b0 : decide ((wrap64 (s0_1 + 1)) ≤ (s0_0.length : Int)) = true := dT c7
   clear c7
   simp only [Option.some.injEq, Prod.mk.injEq] at H
   obtain ⟨rfl, rfl, rfl⟩ := H
   obtain ⟨ASz8_0, cSz8_0, HGz8, hgz8, HSz8_0⟩ := HI0.out
   have ja := cellS95_0 HGz8
   have i7 := cellS95_1 HGz8
   have i6 := cellS95_2 HGz8
   have iZ := bF HGz8 1
   have iY := bF HGz8 2
   clear HGz8 hgz8
   go_enter Try.func95, Try.ntmps95
   go_wp2
   repeat (go_quiet (fail); try go_wp2)
   go_ret
   exact ⟨y4, y19, y13, y14⟩
  ·rw [if_neg c7] at H
   have c7b0 : decide ((wrap64 (s0_1 + 1)) ≤ (s0_0.length : Int)) = false := dF c7
   clear c7
   simp only [Option.some.injEq, Prod.mk.injEq] at H
   obtain ⟨rfl, rfl, rfl⟩ := H
   obtain ⟨ASz9_0, cSz9_0, HGz9, hgz9, HSz9_0⟩ := HI0.out
   have ic := cellS95_0 HGz9
   have ib := cellS95_1 HGz9
   have ia := cellS95_2 HGz9
   have hV := bF HGz9 1
   have hU := bF HGz9 2
   clear HGz9 hgz9
   go_enter Try.func95, Try.ntmps95
   go_wp2
   repeat (go_quiet (fail); try go_wp2)
   go_ret
   exact ⟨y4, y19, y13, y14⟩

/-! ### spec_l1Cur_pick: function 86 -/
def spec_l1Cur_pick.f (s0_0 : List Int) (s0_1 : Int) (s0_2 : Int) (a1 : Int) : Option (Int × Int × Int) := if a1 ≤ 1 then (some (0, s0_1, s0_2)) else ((spec_l1Cur_next.f s0_0 s0_1 s0_2).bind fun fD => (if a1 > 200 then ((spec_l1Cur_next.f s0_0 fD.2.1 fD.2.2).bind fun jt => (if a1 = 0 then (none) else (some (Int.tmod (wrap64 ((wrap64 (fD.1 * 256)) + jt.1)) a1, jt.2.1, jt.2.2)))) else (if a1 = 0 then (none) else (some (Int.tmod fD.1 a1, fD.2.1, fD.2.2)))))
set_option maxHeartbeats 8000000 in
set_option maxRecDepth 100000 in
theorem spec_l1Cur_pick.calls (g : Nat) (s0_0 : List Int) (s0_1 : Int) (s0_2 : Int) (a1 : Int) (r1 : Int) (r2 : Int) (r3 : Int) (w0 w : World) (hI : IsS95 w0 w g s0_0 s0_1 s0_2) (hB : Below w0.heap.size w0 w) (h : spec_l1Cur_pick.f s0_0 s0_1 s0_2 a1 = some (r1, r2, r3)) :
  Calls Try.prog 86 #[.pointer (some ⟨g, 0, none⟩), .int .i64 a1] w fun e w' => e = .returned (.int .i64 r1) ∧ IsS95 w0 w' g s0_0 r2 r3 ∧ Below w0.heap.size w0 w' ∧ KeepBut w w' g none := by
 have HI0 := aM hI
 have HK := aM (KeepBut.refl w g none)
 have HL := aM hB.size
 clear hI
 have HW0 := aM hB.size
 have HB := aM hB
 clear hB
 have H : (if a1 ≤ 1 then (some (0, s0_1, s0_2)) else ((spec_l1Cur_next.f s0_0 s0_1 s0_2).bind fun fD => (if a1 > 200 then ((spec_l1Cur_next.f s0_0 fD.2.1 fD.2.2).bind fun jt => (if a1 = 0 then (none) else (some (Int.tmod (wrap64 ((wrap64 (fD.1 * 256)) + jt.1)) a1, jt.2.1, jt.2.2)))) else (if a1 = 0 then (none) else (some (Int.tmod fD.1 a1, fD.2.1, fD.2.2)))))) = some (r1, r2, r3) := h
 clear h
 by_cases c3 : a1 ≤ 1
 ·rw [if_pos c3] at H
  have c3b0 : decide (a1 ≤ 1) = true := dT c3
  clear c3
  simp only [Option.some.injEq, Prod.mk.injEq] at H
  obtain ⟨rfl, rfl, rfl⟩ := H
  go_enter Try.func86, Try.ntmps86
  go_wp2
  go_ret
  exact ⟨y4, y19, y13, y14⟩
 ·rw [if_neg c3] at H
  have c3b0 : decide (a1 ≤ 1) = false := dF c3
  clear c3
  obtain ⟨⟨sa, ki, qV⟩, A4, H⟩ := oA_ H
  try dsimp only at H
  by_cases c5 : a1 > 200
  ·rw [if_pos c5] at H
   have c5b0 : decide (200 < a1) = true := dT c5
   clear c5
   obtain ⟨⟨t142, t143, iS⟩, A6, H⟩ := oA_ H
   try dsimp only at H
   by_cases c7 : a1 = 0
   ·rw [if_pos c7] at H
    exact absurd H (by simp)
   ·rw [if_neg c7] at H
    have c7b0 : (a1 == 0) = false := qF c7
    have c7b1 : (a1 != 0) = true := nT c7
    simp only [Option.some.injEq, Prod.mk.injEq] at H
    obtain ⟨rfl, rfl, rfl⟩ := H
    go_enter Try.func86, Try.ntmps86
    go_wp2_with (first | ((with_reducible refine aK (f := 95) rfl ?_); refine aT (some 9) rfl rfl Try.func95 z1 rfl #[.pointer (some ⟨g, 0, none⟩)] rfl z21 ?_; (with_reducible refine (spec_l1Cur_next.calls g s0_0 s0_1 s0_2 sa ki qV w0 _ ?side1 ?side2 A4.out).mono ?_); (case side1 => exact y44); (case side2 => exact y34); rintro e w8 ⟨rfl, hi, hb, hk⟩; refine ⟨_, rfl, ?_⟩; replace HK := aM (KeepBut.trans z22 hk (.inl rfl)); replace HB := aM (hb); replace HI0 := aM (hi); (try clear hb); (try clear hk); (try clear hi); (try clear dX)) | ((with_reducible refine aK (f := 95) rfl ?_); refine aT (some 15) rfl rfl Try.func95 z1 rfl #[.pointer (some ⟨g, 0, none⟩)] rfl z21 ?_; (with_reducible refine (spec_l1Cur_next.calls g s0_0 ki qV t142 t143 iS w0 _ ?side1 ?side2 A6.out).mono ?_); (case side1 => exact y44); (case side2 => exact y34); rintro e w9 ⟨rfl, hi, hb, hk⟩; refine ⟨_, rfl, ?_⟩; replace HK := aM (KeepBut.trans z22 hk (.inl rfl)); replace HB := aM (hb); replace HI0 := aM (hi); (try clear hb); (try clear hk); (try clear hi); (try clear dX)))
    go_ret
    exact ⟨y4, y19, y13, y14⟩
  ·rw [if_neg c5] at H
   have c5b0 : decide (200 < a1) = false := dF c5
   clear c5
   by_cases eH : a1 = 0
   ·rw [if_pos eH] at H
    exact absurd H (by simp)
   ·rw [if_neg eH] at H
    have c10b0 : (a1 == 0) = false := qF eH
    have c10b1 : (a1 != 0) = true := nT eH
    simp only [Option.some.injEq, Prod.mk.injEq] at H
    obtain ⟨rfl, rfl, rfl⟩ := H
    go_enter Try.func86, Try.ntmps86
    go_wp2_with (first | ((with_reducible refine aK (f := 95) rfl ?_); refine aT (some 9) rfl rfl Try.func95 z1 rfl #[.pointer (some ⟨g, 0, none⟩)] rfl z21 ?_; (with_reducible refine (spec_l1Cur_next.calls g s0_0 s0_1 s0_2 sa ki qV w0 _ ?side1 ?side2 A4.out).mono ?_); (case side1 => exact y44); (case side2 => exact y34); rintro e w11 ⟨rfl, hi, hb, hk⟩; refine ⟨_, rfl, ?_⟩; replace HK := aM (KeepBut.trans z22 hk (.inl rfl)); replace HB := aM (hb); replace HI0 := aM (hi); (try clear hb); (try clear hk); (try clear hi); (try clear dX)))
    go_ret
    exact ⟨y4, y19, y13, y14⟩

end Go.Proofs.Ytmkenlejdaphnaa.AFnRopes
