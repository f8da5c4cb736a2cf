-- this session's own text: written by wip/tools/ownprint.py over the kit's print
import Derived.Test.YtmkenlejdaphnaaAFnRopesx0
import Derived.Test.YtmkenlejdaphnaaAFnRopesx1
import Derived.Test.YtmkenlejdaphnaaAFnRopesx3
import Derived.Test.YtmkenlejdaphnaaAFnRopesx4
namespace Go.Proofs.Ytmkenlejdaphnaa.AFnRopes
open Go.RowKit Go.Proofs.YtmkenlejdaphnaaW.PrintWords Go.Proofs.YtmkenlejdaphnaaW.PrintLast Go.Proofs.YtmkenlejdaphnaaW.PrintMore
attribute [local go_sem] max2_int min2_int max_two min_two max_three min_three max_four min_four   -- for this text's walks alone
set_option linter.unusedVariables false
set_option linter.unusedSimpArgs false

/-! ### impl_limb_pieces: function 66, by hand -/
/-- The texts of the pieces. -/
def pcs : Limb → List ByteArray
 | .nil => []
 | .node l r s _ _ => if l.isNil = true then [s] else pcs l ++ pcs r
def PcAt (w0 w : World) (v : Value) (xs : List ByteArray) (e : Ending) (w' : World) : Prop := ∃ v', e = .returned v' ∧ Kd.R Kd.string 9 w' w0.heap.size (fun _ => True) v' xs ∧ Below w0.heap.size w0 w' ∧ RowTo w w' v v'
set_option maxHeartbeats 4000000 in
theorem pieces_any (t : Limb) : ∀ (A : Option Addr) (ok : Nat → Prop) (w0 w : World) (v : Value) (xs : List ByteArray), LmAt w ok t A → Kd.R Kd.string 9 w w0.heap.size (fun _ => True) v xs → Below w0.heap.size w0 w → xs.length + (pcs t).length ≤ 100000000 →
  Calls Try.prog 66 #[.pointer A, v] w (PcAt w0 w v (xs ++ pcs t)) := by
 induction t with
 | nil =>
  intro A ok w0 w v xs hA hv hB hn
  obtain rfl : A = none := hA
  have HV := aM hv
  have HB := aM hB
  obtain ⟨Av, cv, rfl, -, -⟩ := Kd.R_reads hv
  have HX : Aside0 (xs ++ pcs .nil = xs) := ⟨List.append_nil _⟩
  rw [HX.out]
  clear hv hB hn HX
  go_enter Try.func66, Try.ntmps66
  go_wp2
  go_ret
  exact ⟨_, rfl, HV.out, HB.out, RowTo.refl _ _⟩
 | node l r s n d ihl ihr =>
  intro A ok w0 w v xs hA hv hB hn
  have HA := aM hA
  have HV := aM hv
  have HB := aM hB
  have HN := aM hn
  obtain ⟨b, L, R, rfl, hb, hc, hl, hr⟩ := hA
  have HC := aM hc
  have c0 : w.cell? ⟨b, 0, none⟩ = some (.pointer L) := (bC hc 0).trans rfl
  have c1 : w.cell? ⟨b, 1, none⟩ = some (.pointer R) := (bC hc 1).trans rfl
  have c2 : w.cell? ⟨b, 2, none⟩ = some (.string s) := (bC hc 2).trans rfl
  have HL := aM hl
  have HR := aM hr
  obtain ⟨Av, cv, rfl, -, -⟩ := Kd.R_reads hv
  cases l with
  | nil =>
   obtain rfl : L = none := hl
   have HN1 : Aside0 (xs.length + 1 ≤ 100000000) := ⟨hn⟩
   have HX : Aside0 (xs ++ pcs (.node .nil r s n d) = xs ++ [s]) := ⟨rfl⟩
   rw [HX.out]
   clear hr hb hc hv hB hn ihl ihr HX HN
   go_enter Try.func66, Try.ntmps66
   go_wp2_with (first | (at_builtin; refine Kd.R_append Kd.string (w0 := w0) w0.heap.size rfl (.tmp 15) (.tmp 20) 44 9 (.string ⟨#[]⟩) 16 rfl Try.underlying44 info9 rfl z0 (by omega) (.slice Av xs.length cv) xs s [.string s] (fun _ => True) (fun _ => False) rfl (by first | (go_simp; done) | (go_simp; rfl)) ?aP (fun _ hk => hk.elim) (fun _ _ => trivial) ?aO ?aB ?aS ?aL ?_; (case aP => exact rfl); (case aO => exact HV.out); (case aB => exact HB.out); (case aS => exact HB.out.size); (case aL => have := HN1.out; omega); intro v1 w1 ho hb hg hat; obtain ⟨A1, c1, eo, -, -⟩ := Kd.R_reads ho; rw [aZ, a5] at eo; subst eo; have HO := aM ho; have HB1 := aM hb; have HT : Aside0 (RowTo w w1 (.slice Av xs.length cv) (.slice A1 (xs.length + 1) c1)) := ⟨⟨Kept.of_grown hg (Kept.refl w _) (fun k hk => .inl hk.symm), hat⟩⟩; clear ho hb hg hat))
   go_ret
   exact ⟨_, rfl, HO.out, HB1.out, HT.out⟩
  | node l' r' s' n' d' =>
   have hl2 := hl
   obtain ⟨bl, L2, R2, rfl, -⟩ := hl2
   have HN1 : Aside0 (xs.length + (pcs (.node l' r' s' n' d')).length ≤ 100000000) := ⟨by have : pcs (.node (.node l' r' s' n' d') r s n d) = pcs (.node l' r' s' n' d') ++ pcs r := rfl; rw [this, aZ] at hn; omega⟩
   have HN2 : Aside0 ((xs ++ pcs (.node l' r' s' n' d')).length + (pcs r).length ≤ 100000000) := ⟨by have : pcs (.node (.node l' r' s' n' d') r s n d) = pcs (.node l' r' s' n' d') ++ pcs r := rfl; rw [this, aZ] at hn; rw [aZ]; omega⟩
   have HX : Aside0 (xs ++ pcs (.node (.node l' r' s' n' d') r s n d) = (xs ++ pcs (.node l' r' s' n' d')) ++ pcs r) := ⟨(List.append_assoc _ _ _).symm⟩
   rw [HX.out]
   clear hr hb hc hv hB hn hl HN HX
   generalize (Limb.node l' r' s' n' d') = l at *
   go_enter Try.func66, Try.ntmps66
   go_wp2
   go_region_held3 (fun w' => w'.cell? ⟨b, 0, none⟩ = some (.pointer (some ⟨bl, 0, none⟩)) ∧ w'.cell? ⟨b, 1, none⟩ = some (.pointer R)) (first | go_keep | exact HS1.out | exact HS2.out)
    (first | (go_at_call_of 66 (Value.pointer (some ⟨bl, 0, none⟩)); refine (ihl (some ⟨bl, 0, none⟩) ok w0 _ _ xs ?g1 ?g2 ?g3 HN1.out).mono ?_; (case g1 => (first | exact HL.out | exact HL.out.drewN _ | exact HL.out.drew)); (case g2 => (first | exact HV.out | exact ac HV.out _ | exact aa HV.out)); (case g3 => (first | exact HB.out | exact pD HB.out _ | exact below_drew HB.out)); rintro e w1 ⟨v1, rfl, ho, hb, ht⟩; obtain ⟨A1, k1, eo, -, -⟩ := Kd.R_reads ho; rw [aZ] at eo; subst eo; have HV1 := aM ho; have HB1 := aM hb; have HT1 : Aside0 (RowTo w w1 (.slice Av xs.length cv) _) := ⟨ht⟩; have hc1 := blk_kept (W := w) HC.out HT1.out.1 (fun e => Kd.R_ne HV.out HC.out z0 e); have HS1 : Aside0 (w1.cell? ⟨b, 0, none⟩ = some (.pointer (some ⟨bl, 0, none⟩)) ∧ w1.cell? ⟨b, 1, none⟩ = some (.pointer R)) := ⟨⟨(bC hc1 0).trans rfl, (bC hc1 1).trans rfl⟩⟩; have iK := aM (HR.out.rowTo HV.out z0 HT1.out); clear ho hb ht hc1) | (go_at_call_of 66 (Value.pointer R); refine (ihr R ok w0 _ _ (xs ++ pcs l) ?g1 ?g2 ?g3 HN2.out).mono ?_; (case g1 => (first | exact iK.out | exact iK.out.drewN _ | exact iK.out.drew)); (case g2 => (first | exact HV1.out | exact ac HV1.out _ | exact aa HV1.out)); (case g3 => (first | exact HB1.out | exact pD HB1.out _ | exact below_drew HB1.out)); rintro e w2 ⟨v2, rfl, ho, hb, ht⟩; obtain ⟨A2, k2, eo, -, -⟩ := Kd.R_reads ho; rw [aZ, aZ] at eo; subst eo; have HV2 := aM ho; have HB2 := aM hb; have HT2 : Aside0 (RowTo w1 w2 _ _) := ⟨ht⟩; have hc2 := blk_kept (W := w1) ((blk_kept (W := w) HC.out HT1.out.1 (fun e => Kd.R_ne HV.out HC.out z0 e))) HT2.out.1 (fun e => Kd.R_ne HV1.out ((blk_kept (W := w) HC.out HT1.out.1 (fun e => Kd.R_ne HV.out HC.out z0 e))) z0 e); have HS2 : Aside0 (w2.cell? ⟨b, 0, none⟩ = some (.pointer (some ⟨bl, 0, none⟩)) ∧ w2.cell? ⟨b, 1, none⟩ = some (.pointer R)) := ⟨⟨(bC hc2 0).trans rfl, (bC hc2 1).trans rfl⟩⟩; clear ho hb ht hc2))
   go_wp2
   go_ret
   exact ⟨_, rfl, HV2.out, HB2.out, HT1.out.trans HT2.out⟩

/-! ### impl_textOf: function 55, by hand -/
def tx (ps : List ByteArray) : ByteArray := ps.foldl (fun a p => a ++ p) ⟨#[]⟩
theorem tx_snoc (ps : List ByteArray) (i : Nat) (h : i < ps.length) : tx (ps.take (i + 1)) = tx (ps.take i) ++ rdOf ByteArray.empty ps i := by
 unfold tx rdOf
 rw [List.take_succ_eq_append_getElem h, List.foldl_append, List.getD_eq_getElem?_getD, aY, aX h]
 rfl
theorem foldl_size_le (ps : List ByteArray) : ∀ a : ByteArray, a.size ≤ (ps.foldl (fun a p => a ++ p) a).size := by
 induction ps with
 | nil => intro a; exact Nat.le_refl _
 | cons p ps ih => intro a; exact Nat.le_trans (by rw [a6]; omega) (ih (a ++ p))
theorem tx_take_le (ps : List ByteArray) (i : Nat) : (tx (ps.take i)).size ≤ (tx ps).size := by
 conv => rhs; rw [← List.take_append_drop i ps]
 unfold tx
 rw [List.foldl_append]
 exact foldl_size_le _ _
def TxAt (w : World) (t : Limb) (e : Ending) (w' : World) : Prop := e = .returned (.string (tx (pcs t))) ∧ Below w.heap.size w w'
set_option maxHeartbeats 4000000 in
theorem textOf_any (t : Limb) (A : Option Addr) (ok : Nat → Prop) (w : World) (hA : LmAt w ok t A) (hn : (pcs t).length ≤ 100000000) (hs : (tx (pcs t)).size ≤ 1000000000) :
  Calls Try.prog 55 #[.pointer A] w (TxAt w t) := by
 have HA := aM hA
 have HN : Aside0 (([] : List ByteArray).length + (pcs t).length ≤ 100000000) := ⟨by show 0 + _ ≤ _; omega⟩
 have HS := aM hs
 have HQ : Aside0 ((pcs t).length ≤ 100000000) := ⟨hn⟩
 clear hA hn hs
 go_enter Try.func55, Try.ntmps55
 go_wp2_with (first | (go_at_call 66; refine (pieces_any t A ok w _ _ [] HA.out (Kd.R_nil _ _ _ _ _) (Below.refl _ _) HN.out).mono ?_; rintro e w1 ⟨v1, rfl, ho, hb, ht⟩; rw [List.nil_append] at ho; obtain ⟨A1, k1, eo, -, hr⟩ := Kd.R_reads ho; subst eo; have iK := aM hr; have HB1 := aM hb; clear ho hb ht hr))
 have HX : Aside0 (TxAt w t (.returned (.string (tx (pcs t)))) w1) := ⟨⟨rfl, HB1.out⟩⟩
 generalize pcs t = ps at *
 go_loop [3, 9] (fun u i => ∃ k : Nat, k ≤ ps.length ∧ i = .int .i64 k ∧ u = .string (tx (ps.take k))) (fun _ i => ps.length - (intOf i).toNat)
 case atStart => exact ⟨0, Nat.zero_le _, rfl, rfl⟩
 case round =>
  obtain ⟨k, hk, rfl, rfl⟩ := hrel
  by_cases hlt : k < ps.length
  ·obtain ⟨ad, rfl, hc0⟩ := Kd.at_string iK.out (k : Int) (by omega) (by omega)
   simp only [aY] at hc0
   have HE := aM (tx_snoc ps k hlt)
   have hz : (tx (ps.take k)).size + (rdOf ByteArray.empty ps (k : Int)).size ≤ 1000000000 := by
    have h1 := tx_take_le ps (k + 1)
    rw [HE.out, a6] at h1
    exact Nat.le_trans h1 HS.out
   have hlt' : (k : Int) < (ps.length : Int) := by omega
   have hk2 : (k : Int) + 1 ≤ 100000000 := by have := HQ.out; omega
   go_wp2
   go_round
   case rel => exact ⟨k + 1, by omega, by go_num, by rw [HE.out]⟩
   case measure => simp [intOf]; omega
  ·have : k = ps.length := by omega
   subst this
   go_wp2
   go_ret
   exact HX.out

/-! ### impl_TextIn: function 24, by hand -/
def impl_TextIn.f (k : Nat) (l0_0 : List S58) : Option (ByteArray × Bool) := (opnF k l0_0).bind fun p => if p.2 = true then (if (pcs p.1).length ≤ 100000000 ∧ (tx (pcs p.1)).size ≤ 1000000000 then some (tx (pcs p.1), true) else none) else some (⟨#[]⟩, false)
theorem impl_TextIn.mono : ∀ a0 k, LeO (impl_TextIn.f k a0) (impl_TextIn.f (k + 1) a0) := fun a0 k => open_drop (fun _ => LeO.refl _)
set_option maxHeartbeats 1000000 in
theorem impl_TextIn.calls (k : Nat) (ce : Option Addr) (ci : Nat) (l0_0 : List S58) (r1 : ByteArray) (r2 : Bool) (w : World) (hr0_0 : Kd.C k58 w ce l0_0.length l0_0) (hc0_0 : l0_0.length ≤ ci) (h : impl_TextIn.f k l0_0 = some (r1, r2)) :
  Calls Try.prog 24 #[.agg #[.slice ce l0_0.length ci]] w fun e w' => e = .returned (.tuple #[.string r1, .bool r2]) ∧ Below w.heap.size w w' := by
 obtain ⟨⟨t, b⟩, h1, h2⟩ := oB h
 have HO := aM (fun (w' : World) (hC : Kd.C k58 w' ce l0_0.length l0_0) => open_any k l0_0 ce ci t b w' hC hc0_0 h1)
 have HC := aM hr0_0
 cases b with
 | false =>
  rw [if_neg (by simp)] at h2
  obtain ⟨rfl, rfl⟩ := Prod.mk.inj (sI h2)
  clear h h1 h2 hr0_0 hc0_0
  go_enter Try.func24, Try.ntmps24
  go_wp2_with (first | (go_at_call 48; refine (HO.out _ (aH HC.out _)).mono ?_; rintro e w1 ⟨P, rfl, hl, hb⟩; have HB := aM hb; clear hl hb))
  go_ret2
  exact ⟨rfl, aA (bA (Below.refl _ _) _) HB.out⟩
 | true =>
  rw [if_pos rfl] at h2
  split at h2
  case isFalse => cases h2
  case isTrue hn =>
  obtain ⟨rfl, rfl⟩ := Prod.mk.inj (sI h2)
  have HN := aM hn
  clear h h1 h2 hr0_0 hc0_0 hn
  go_enter Try.func24, Try.ntmps24
  go_wp2_with (first | (go_at_call 48; refine (HO.out _ (aH HC.out _)).mono ?_; rintro e w1 ⟨P, rfl, hl, hb⟩; have HB := aM hb; have HL := aM hl; clear hl hb) | (go_at_call 55; refine (textOf_any t P _ _ HL.out HN.out.1 HN.out.2).mono ?_; rintro e w2 ⟨rfl, hb⟩; have HB2 := aM hb; clear hb))
  go_ret2
  exact ⟨rfl, aA (aA (bA (Below.refl _ _) _) HB.out) HB2.out⟩

/-! ### spec_GoodText: function 56 -/
def spec_GoodText.f (k : Nat) (a0 : ByteArray) : Option (Bool) := (spec_l1Text.f k a0).bind fun ot => (if ot = true then (some (decide ((a0.size : Int) ≤ 300))) else (some false))
theorem spec_GoodText.mono : ∀ a0 k, LeO (spec_GoodText.f k a0) (spec_GoodText.f (k + 1) a0) := by
 intro a0 k
 unfold spec_GoodText.f
 repeat' first
   | (with_reducible exact spec_l1Text.mono _ _)
   | (with_reducible exact LeO.refl _)
   | (with_reducible exact LeO.none _)
   | (with_reducible refine LeO.ite ?_ ?_)
   | (with_reducible refine LeO.bind ?_ (fun _ => ?_))
set_option maxHeartbeats 8000000 in
set_option maxRecDepth 100000 in
theorem spec_GoodText.calls (k : Nat) (a0 : ByteArray) (r : Bool) (w : World) (h : spec_GoodText.f k a0 = some r) :
  Calls Try.prog 56 #[.string a0] w fun e w' => e = .returned (.bool r) ∧ Drawn0 w w' := by
 have H : ((spec_l1Text.f k a0).bind fun ot => (if ot = true then (some (decide ((a0.size : Int) ≤ 300))) else (some false))) = some r := h
 clear h
 obtain ⟨ot, A2, H⟩ := oA_ H
 try dsimp only at H
 by_cases c3 : ot = true
 ·subst c3
  rw [if_pos rfl] at H
  obtain rfl := sI H
  go_enter Try.func56, Try.ntmps56
  go_wp2_with (first | ((with_reducible refine aK (f := 76) rfl ?_); refine aT (some 4) rfl rfl Try.func76 z1 rfl #[.string a0] rfl z21 ?_; (with_reducible refine (spec_l1Text.calls k a0 true _ A2.out).mono ?_); rintro e w' ⟨rfl, ⟨nd, rfl⟩⟩; refine ⟨_, rfl, ?_⟩))
  go_ret
  exact ⟨y1, y3⟩
 ·replace c3 := Bool.eq_false_iff.mpr c3
  subst c3
  rw [if_neg nF_] at H
  obtain rfl := sI H
  go_enter Try.func56, Try.ntmps56
  go_wp2_with (first | ((with_reducible refine aK (f := 76) rfl ?_); refine aT (some 4) rfl rfl Try.func76 z1 rfl #[.string a0] rfl z21 ?_; (with_reducible refine (spec_l1Text.calls k a0 false _ A2.out).mono ?_); rintro e w' ⟨rfl, ⟨nd, rfl⟩⟩; refine ⟨_, rfl, ?_⟩))
  go_ret
  exact ⟨y1, y3⟩

/-! ### spec_l12Join: function 68, by hand -/
def spec_l12Join.l0 : Nat → List (S58) → List (S58) → List (S58) → List (S58) → Int → Int → Option ((List (S58)))
 | 0, _, _, _, _, _, _ => none
 | k + 1, x0, x1, x5, x22, x23, x24 => if x24 < x23 then (if 0 ≤ x24 then (if x24 < (x22.length : Int) then (if ((rd_T58 x22 x24).f0) ≥ 0 then (if x5.length < 2932031007402 then (spec_l12Join.l0 k x0 x1 (x5 ++ [(⟨wrap64 (((rd_T58 x22 x24).f0) + (x0.length : Int)), wrap64 (((rd_T58 x22 x24).f1) + (x0.length : Int)), (rd_T58 x22 x24).f2, (rd_T58 x22 x24).f3, (rd_T58 x22 x24).f4⟩ : S58)]) x22 x23 (wrap64 (x24 + 1))) else (none)) else (if x5.length < 2932031007402 then (spec_l12Join.l0 k x0 x1 (x5 ++ [(⟨(rd_T58 x22 x24).f0, (rd_T58 x22 x24).f1, (rd_T58 x22 x24).f2, (rd_T58 x22 x24).f3, (rd_T58 x22 x24).f4⟩ : S58)]) x22 x23 (wrap64 (x24 + 1))) else (none))) else (none)) else (none)) else (if 0 ≤ (wrap64 ((x0.length : Int) - 1)) then (if (wrap64 ((x0.length : Int) - 1)) < (x0.length : Int) then (if 0 ≤ (wrap64 ((x1.length : Int) - 1)) then (if (wrap64 ((x1.length : Int) - 1)) < (x1.length : Int) then (if ((rd_T58 x1 (wrap64 ((x1.length : Int) - 1))).f4) > ((rd_T58 x0 (wrap64 ((x0.length : Int) - 1))).f4) then (if x5.length < 2932031007402 then (some (x5 ++ [(⟨wrap64 ((x0.length : Int) - 1), wrap64 ((x5.length : Int) - 1), (⟨#[]⟩ : ByteArray), wrap64 (((rd_T58 x0 (wrap64 ((x0.length : Int) - 1))).f3) + ((rd_T58 x1 (wrap64 ((x1.length : Int) - 1))).f3)), wrap64 (((rd_T58 x1 (wrap64 ((x1.length : Int) - 1))).f4) + 1)⟩ : S58)])) else (none)) else (if x5.length < 2932031007402 then (some (x5 ++ [(⟨wrap64 ((x0.length : Int) - 1), wrap64 ((x5.length : Int) - 1), (⟨#[]⟩ : ByteArray), wrap64 (((rd_T58 x0 (wrap64 ((x0.length : Int) - 1))).f3) + ((rd_T58 x1 (wrap64 ((x1.length : Int) - 1))).f3)), wrap64 (((rd_T58 x0 (wrap64 ((x0.length : Int) - 1))).f4) + 1)⟩ : S58)])) else (none))) else (none)) else (none)) else (none)) else (none))
def spec_l12Join.f (k : Nat) (l0 : List (S58)) (l1 : List (S58)) : Option ((List (S58))) := if (l0.length : Int) = 0 then (some l1) else (if (l1.length : Int) = 0 then (some l0) else ((some (([] : List (S58)) : List (S58))).bind fun y157 => (if y157.length + l0.length < 2932031007402 then (spec_l12Join.l0 k l0 l1 (y157 ++ l0) l1 (l1.length : Int) 0) else (none))))
theorem spec_l12Join.mono_l : ∀ k, (∀ y0 y1 y2 y3 y4 y5, LeO (spec_l12Join.l0 k y0 y1 y2 y3 y4 y5) (spec_l12Join.l0 (k + 1) y0 y1 y2 y3 y4 y5))
 | 0 => fun _ _ _ _ _ _ r h => by simp [spec_l12Join.l0] at h
 | k + 1 => by
  have ih0 := spec_l12Join.mono_l k
  ·intro y0 y1 y2 y3 y4 y5
   unfold spec_l12Join.l0
   repeat' first
   | (with_reducible exact ih0 _ _ _ _ _ _)
   | (with_reducible exact LeO.refl _)
   | (with_reducible exact LeO.none _)
   | (with_reducible refine LeO.ite ?_ ?_)
   | (with_reducible refine LeO.bind ?_ (fun _ => ?_))
theorem spec_l12Join.mono : ∀ a0 a1 k, LeO (spec_l12Join.f k a0 a1) (spec_l12Join.f (k + 1) a0 a1) := by
 intro a0 a1 k
 have ih0 := spec_l12Join.mono_l k
 unfold spec_l12Join.f
 repeat' first
   | (with_reducible exact ih0 _ _ _ _ _ _)
   | (with_reducible exact LeO.refl _)
   | (with_reducible exact LeO.none _)
   | (with_reducible refine LeO.ite ?_ ?_)
   | (with_reducible refine LeO.bind ?_ (fun _ => ?_))
def RdAt (w : World) (r : List S58) (e : Ending) (w' : World) : Prop := ∃ A c, e = .returned (.slice A r.length c) ∧ Kd.C k58 w' A r.length r ∧ r.length ≤ c ∧ Below w.heap.size w w'
/-- .. and the row that comes back is one of the two, or a new one. -/
def JnAt (w : World) (A0 : Option Addr) (c0 : Nat) (l0 : List S58) (A1 : Option Addr) (c1 : Nat) (l1 r : List S58) (e : Ending) (w' : World) : Prop := ∃ A c, e = .returned (.slice A r.length c) ∧ ((A = A1 ∧ c = c1 ∧ r = l1) ∨ (A = A0 ∧ c = c0 ∧ r = l0) ∨ Kd.R k58 58 w' w.heap.size (fun _ => True) (.slice A r.length c) r) ∧ Below w.heap.size w w'
set_option maxHeartbeats 8000000 in
set_option maxRecDepth 100000 in
theorem join_own (k : Nat) (l0 : List S58) (A0 : Option Addr) (c0 : Nat) (l1 : List S58) (A1 : Option Addr) (c1 : Nat) (r : List S58) (w : World) (hr0 : Kd.C k58 w A0 l0.length l0) (hc0 : l0.length ≤ c0) (hr1 : Kd.C k58 w A1 l1.length l1) (hc1 : l1.length ≤ c1) (h : spec_l12Join.f k l0 l1 = some r) :
  Calls Try.prog 68 #[.slice A0 l0.length c0, .slice A1 l1.length c1] w (JnAt w A0 c0 l0 A1 c1 l1 r) := by
 have hu101 := Try.underlying58
 have em := aM hr0
 have iK := aM hr1
 have eV := aM hc0
 have eN := aM hc1
 unfold spec_l12Join.f at h
 by_cases e0 : (l0.length : Int) = 0
 ·rw [if_pos e0] at h
  obtain rfl := sI h
  have q0 : ((l0.length : Int) == 0) = true := qT e0
  clear h e0 hr0 hr1 hc0 hc1
  go_enter Try.func68, Try.ntmps68
  go_wp2
  go_ret
  exact ⟨A1, c1, rfl, .inl ⟨rfl, rfl, rfl⟩, Below.refl _ _⟩
 rw [if_neg e0] at h
 have q0 : ((l0.length : Int) == 0) = false := qF e0
 by_cases e1 : (l1.length : Int) = 0
 ·rw [if_pos e1] at h
  obtain rfl := sI h
  have q1 : ((l1.length : Int) == 0) = true := qT e1
  clear h e0 e1 hr0 hr1 hc0 hc1
  go_enter Try.func68, Try.ntmps68
  go_wp2
  go_ret
  exact ⟨A0, c0, rfl, .inr (.inl ⟨rfl, rfl, rfl⟩), Below.refl _ _⟩
 rw [if_neg e1] at h
 have q1 : ((l1.length : Int) == 0) = false := qF e1
 replace h : (if ([] : List S58).length + l0.length < 2932031007402 then (spec_l12Join.l0 k l0 l1 ([] ++ l0) l1 (l1.length : Int) 0) else none) = some r := h
 rw [List.nil_append] at h
 split at h
 case isFalse => cases h
 case isTrue hlen =>
 have HH := aM h
 have LM0 : Aside0 (([] : List S58).length + l0.length < 2932031007402) := ⟨hlen⟩
 clear h e0 e1 hr0 hr1 hc0 hc1 hlen
 go_enter Try.func68, Try.ntmps68
 go_wp2_with (first | ((with_reducible refine aN (N := 19) rfl ?_); refine Kd.R_lit k58 _ 58 ?hg (N := 19) ?hd (xs := ([] : List (S58))) (inner := []) (ok := fun _ => True) (okp := fun _ => True) ?hr ?hp (fun _ hk => hk) trivial (Below.refl _ _) (Nat.le_refl _) (by simp) ?_; (case hd => rfl); (case hg => rfl); (case hr => first | (go_simp; done) | (go_simp; rfl)); (case hp => exact (Reps.none _ _)); intro v1 w1 ho1 hb1 hg_ hnew_; have HV1 := aM ho1; have HB1 : Aside0 (Below w.heap.size w w1) := ⟨hb1⟩; have HRA := aM (aG em.out hb1); clear ho1 hb1 hg_ hnew_) | ((with_reducible refine gate_builtin (b := .append) (xs := #[.tmp 19, .tmp 20]) rfl ?_); at_builtin; refine Kd.R_append_rows k58 (w0 := w) w.heap.size rfl (.tmp 19) (.tmp 20) 27 58 (.agg #[(.int .i64 0), (.int .i64 0), (.string ⟨#[]⟩), (.int .i64 0), (.int .i64 0)]) 48 rfl Try.underlying27 info58 rfl z0 (by omega) v1 [] l0 _ _ _ (fun _ => True) (fun _ => False) rfl rfl ?aO ?aR (fun _ _ h => h) (fun _ h => h.elim) (fun _ _ => trivial) ?aB ?aS ?aL ?_; (case aR => repeat (first | exact HRA.out | (with_reducible refine aH ?_ _) | (with_reducible refine aI ?_ _) | (with_reducible refine aJ ?_))); (case aB => exact (by repeat (first | (with_reducible first | exact HB1.out | apply bA | apply pD | apply bD) | exact HB1.out))); (case aO => exact (kR_ HV1.out)); (case aS => exact (aC (by repeat (first | (with_reducible first | exact HB1.out | apply bA | apply pD | apply bD) | exact HB1.out)))); (case aL => have := LM0.out; simp only [List.length_nil] at *; omega); intro v2 w2 ho hb hg hat; rw [List.nil_append] at ho; have HV2 := aM ho; have HB2 := aM hb; clear ho hb hg hat))
 go_loopg [5, 24] k (fun kq v5 v24 w' => ∃ (x5 : List S58) (i : Int), v24 = .int .i64 i ∧ Aside0 (spec_l12Join.l0 kq l0 l1 x5 l1 (l1.length : Int) i = some r) ∧ Aside0 (kq ≤ k) ∧ Aside0 (Kd.R k58 58 w' w.heap.size (fun _ => True) v5 x5) ∧ Aside0 (Below w.heap.size w w'))
 case atStart => exact ⟨l0, 0, (by first | rfl | (simp; done)), HH, ⟨Nat.le_refl _⟩, ⟨kR_ HV2.out⟩, ⟨by repeat (first | (with_reducible first | exact HB2.out | apply bA | apply pD | apply bD) | exact HB2.out)⟩⟩
 case round =>
  clear HH HV2 HB2 HV1 HB1 HRA
  obtain ⟨x5, i, rfl, HA, HK1, fH, HB⟩ := hrel
  cases gk with
  | zero => exact absurd HA.out (by simp [spec_l12Join.l0])
  | succ k1 =>
   have H := HA.out
   clear HA
   simp only [spec_l12Join.l0] at H
   obtain ⟨sv, sb, eo5⟩ := Kd.R_slice fH.out
   subst eo5
   by_cases t1 : i < (l1.length : Int)
   ·rw [if_pos t1] at H
    have d1 : decide (i < (l1.length : Int)) = true := dT t1
    by_cases t2 : 0 ≤ i
    ·rw [if_pos t2, if_pos t1] at H
     have d2 : decide (0 ≤ i) = true := dT t2
     obtain ⟨ad, e_, hx0, hx1, hx2, hx3, hx4⟩ := at_T58 (aG iK.out HB.out) i t2 t1
     cases e_
     replace t1 := eq_true t1
     replace t2 := eq_true t2
     by_cases t3 : (rd_T58 l1 i).f0 ≥ 0
     ·rw [if_pos t3] at H
      have d3 : decide (0 ≤ (rd_T58 l1 i).f0) = true := dT t3
      clear t3
      by_cases t4 : x5.length < 2932031007402
      ·rw [if_pos t4] at H
       have LM := aM t4
       clear t4
       go_upto_region 8 with (fail)
       go_cut [7] (fun v_ wc_ => ∃ g_, v_ = .pointer (some ⟨g_, 0, none⟩) ∧ Aside0 (g_ = wr.heap.size) ∧ Aside0 (wc_.heap[g_]? = some (.cells #[.int .i64 ((rd_T58 l1 i).f0), .int .i64 ((rd_T58 l1 i).f1), .string ((rd_T58 l1 i).f2), .int .i64 ((rd_T58 l1 i).f3), .int .i64 ((rd_T58 l1 i).f4)] 58 (0, 0))) ∧ Aside0 (Below wr.heap.size wr wc_))
       case first =>
        go_wp2_with (fail)
        go_meet
        exact ⟨_, rfl, ⟨rfl⟩, ⟨blk_new _ _⟩, ⟨bA (Below.refl _ _) _⟩⟩
       case rest =>
        obtain ⟨gx, rfl, hg_, BK_gx, hb_⟩ := hcut
        have bc := aM (ag (Kd.R_elderB fH.out gx (Nat.le_of_eq hg_.out.symm)) hb_.out); have bd := aM (aA HB.out hb_.out); have GE_gx : Aside0 (w.heap.size ≤ gx) := ⟨by rw [hg_.out]; exact HB.out.size⟩
        clear fH HB; have fH := bc; have HB := bd; clear bc bd hg_ hb_
        have hcgx_0 : wc.cell? ⟨gx, 0, none⟩ = some (.int .i64 ((rd_T58 l1 i).f0)) := (bC BK_gx.out 0).trans rfl; have hfgx_0 := bF BK_gx.out 0; have hcgx_1 : wc.cell? ⟨gx, 1, none⟩ = some (.int .i64 ((rd_T58 l1 i).f1)) := (bC BK_gx.out 1).trans rfl; have hfgx_1 := bF BK_gx.out 1; have hcgx_2 : wc.cell? ⟨gx, 2, none⟩ = some (.string ((rd_T58 l1 i).f2)) := (bC BK_gx.out 2).trans rfl; have hfgx_2 := bF BK_gx.out 2; have hcgx_3 : wc.cell? ⟨gx, 3, none⟩ = some (.int .i64 ((rd_T58 l1 i).f3)) := (bC BK_gx.out 3).trans rfl; have hfgx_3 := bF BK_gx.out 3; have hcgx_4 : wc.cell? ⟨gx, 4, none⟩ = some (.int .i64 ((rd_T58 l1 i).f4)) := (bC BK_gx.out 4).trans rfl; have hfgx_4 := bF BK_gx.out 4
        clear hx0 hx1 hx2 hx3 hx4
        go_upto_region 11 with (fail)
        go_cut [] (fun wd_ => Aside0 (wd_.heap[gx]? = some (.cells #[.int .i64 (wrap64 ((rd_T58 l1 i).f0 + (l0.length : Int))), .int .i64 (wrap64 ((rd_T58 l1 i).f1 + (l0.length : Int))), .string ((rd_T58 l1 i).f2), .int .i64 ((rd_T58 l1 i).f3), .int .i64 ((rd_T58 l1 i).f4)] 58 (0, 0))) ∧ Aside0 (Kd.R k58 58 wd_ w.heap.size (fun k_ => True ∧ k_ ≠ gx) (.slice sv x5.length sb) x5) ∧ Aside0 (Below w.heap.size w wd_))
        case first =>
         go_wp2_with (fail)
         go_meet
         exact ⟨⟨by (with_reducible repeat (first | refine au ?_ _ | refine ar ?_ | refine av ?_ _)); refine ax (cs := #[.int .i64 (wrap64 ((rd_T58 l1 i).f0 + (l0.length : Int))), .int .i64 ((rd_T58 l1 i).f1), .string ((rd_T58 l1 i).f2), .int .i64 ((rd_T58 l1 i).f3), .int .i64 ((rd_T58 l1 i).f4)]) ?_ 1 _ rfl; (with_reducible repeat (first | refine au ?_ _ | refine ar ?_ | refine av ?_ _)); refine ax (cs := #[.int .i64 ((rd_T58 l1 i).f0), .int .i64 ((rd_T58 l1 i).f1), .string ((rd_T58 l1 i).f2), .int .i64 ((rd_T58 l1 i).f3), .int .i64 ((rd_T58 l1 i).f4)]) ?_ 0 _ rfl; (with_reducible repeat (first | refine au ?_ _ | refine ar ?_ | refine av ?_ _)); exact BK_gx.out⟩, ⟨by (with_reducible repeat (first | apply ae | apply ac | apply aa)); exact (ap (p := ⟨gx, 1, none⟩) (ap (p := ⟨gx, 0, none⟩) fH.out (fun _ hk => hk.2) (.int .i64 (wrap64 ((rd_T58 l1 i).f0 + (l0.length : Int))))) (fun _ hk => hk.2) (.int .i64 (wrap64 ((rd_T58 l1 i).f1 + (l0.length : Int)))))⟩, ⟨by repeat (first | (with_reducible first | exact HB.out | apply bA | apply pD | apply bD | refine az ?_ GE_gx.out) | exact HB.out)⟩⟩
        case rest =>
         obtain ⟨CB_, CO_, CL_⟩ := hcut
         clear fH HB BK_gx hcgx_0 hfgx_0 hcgx_1 hfgx_1 hcgx_2 hfgx_2 hcgx_3 hfgx_3 hcgx_4 hfgx_4; have fH := CO_; have HB := CL_; have BK_gx := CB_; clear CO_ CL_ CB_
         have hcgx_0 : wc.cell? ⟨gx, 0, none⟩ = some (.int .i64 (wrap64 ((rd_T58 l1 i).f0 + (l0.length : Int)))) := (bC BK_gx.out 0).trans rfl; have hfgx_0 := bF BK_gx.out 0; have hcgx_1 : wc.cell? ⟨gx, 1, none⟩ = some (.int .i64 (wrap64 ((rd_T58 l1 i).f1 + (l0.length : Int)))) := (bC BK_gx.out 1).trans rfl; have hfgx_1 := bF BK_gx.out 1; have hcgx_2 : wc.cell? ⟨gx, 2, none⟩ = some (.string ((rd_T58 l1 i).f2)) := (bC BK_gx.out 2).trans rfl; have hfgx_2 := bF BK_gx.out 2; have hcgx_3 : wc.cell? ⟨gx, 3, none⟩ = some (.int .i64 ((rd_T58 l1 i).f3)) := (bC BK_gx.out 3).trans rfl; have hfgx_3 := bF BK_gx.out 3; have hcgx_4 : wc.cell? ⟨gx, 4, none⟩ = some (.int .i64 ((rd_T58 l1 i).f4)) := (bC BK_gx.out 4).trans rfl; have hfgx_4 := bF BK_gx.out 4
         go_wp2_with (first | ((with_reducible refine gate_builtin (b := .append) (xs := #[.tmp 43, .tmp 45]) rfl ?_); at_builtin; refine Kd.R_append k58 (w0 := w) w.heap.size rfl (.tmp 43) (.tmp 45) 27 58 (.agg #[(.int .i64 0), (.int .i64 0), (.string ⟨#[]⟩), (.int .i64 0), (.int .i64 0)]) 48 rfl Try.underlying27 info58 rfl z0 (by omega) (.slice sv x5.length sb) x5 (⟨wrap64 ((rd_T58 l1 i).f0 + (l0.length : Int)), wrap64 ((rd_T58 l1 i).f1 + (l0.length : Int)), (rd_T58 l1 i).f2, (rd_T58 l1 i).f3, (rd_T58 l1 i).f4⟩ : S58) [.int .i64 (wrap64 ((rd_T58 l1 i).f0 + (l0.length : Int))), .int .i64 (wrap64 ((rd_T58 l1 i).f1 + (l0.length : Int))), .string ((rd_T58 l1 i).f2), .int .i64 ((rd_T58 l1 i).f3), .int .i64 ((rd_T58 l1 i).f4)] (fun k_ => k_ ≠ gx) (fun _ => False) rfl (by first | (go_simp; done) | (go_simp; rfl)) ?aP (fun _ hk => hk.elim) ?aF ?aO ?aB ?aS ?aL ?_; (case aP => exact k58_mkM _ _ _ (⟨wrap64 ((rd_T58 l1 i).f0 + (l0.length : Int)), wrap64 ((rd_T58 l1 i).f1 + (l0.length : Int)), (rd_T58 l1 i).f2, (rd_T58 l1 i).f3, (rd_T58 l1 i).f4⟩ : S58)); (case aB => exact z20); (case aF => exact (fun k_ hk => Kd.freshB (g := gx) (kB_ BK_gx.out) k_ hk)); (case aO => exact (kM_ fH.out (fun _ hk => hk.2))); (case aS => exact (aC z20)); (case aL => have := LM.out; omega);  intro v9 w9 ho hb hg hat; have bc := aM ho; have bd := aM hb; clear fH HB; have fH := bc; have HB := bd; clear bc bd ho hb hg hat))
         go_roundg k1
         case measure => have := HK1.out; omega
         case rel => exact ⟨_, wrap64 (i + 1), (by first | rfl | (simp; done)), ⟨H⟩, ⟨y0⟩, ⟨kM_ fH.out (fun _ _ => trivial)⟩, ⟨y5⟩⟩
      ·rw [if_neg t4] at H
       exact absurd H (by simp)
     ·rw [if_neg t3] at H
      have d3 : decide (0 ≤ (rd_T58 l1 i).f0) = false := dF t3
      clear t3
      by_cases t4 : x5.length < 2932031007402
      ·rw [if_pos t4] at H
       have LM := aM t4
       clear t4
       go_upto_region 8 with (fail)
       go_cut [7] (fun v_ wc_ => ∃ g_, v_ = .pointer (some ⟨g_, 0, none⟩) ∧ Aside0 (g_ = wr.heap.size) ∧ Aside0 (wc_.heap[g_]? = some (.cells #[.int .i64 ((rd_T58 l1 i).f0), .int .i64 ((rd_T58 l1 i).f1), .string ((rd_T58 l1 i).f2), .int .i64 ((rd_T58 l1 i).f3), .int .i64 ((rd_T58 l1 i).f4)] 58 (0, 0))) ∧ Aside0 (Below wr.heap.size wr wc_))
       case first =>
        go_wp2_with (fail)
        go_meet
        exact ⟨_, rfl, ⟨rfl⟩, ⟨blk_new _ _⟩, ⟨bA (Below.refl _ _) _⟩⟩
       case rest =>
        obtain ⟨gx, rfl, hg_, BK_gx, hb_⟩ := hcut
        have bc := aM (ag (Kd.R_elderB fH.out gx (Nat.le_of_eq hg_.out.symm)) hb_.out); have bd := aM (aA HB.out hb_.out); have GE_gx : Aside0 (w.heap.size ≤ gx) := ⟨by rw [hg_.out]; exact HB.out.size⟩
        clear fH HB; have fH := bc; have HB := bd; clear bc bd hg_ hb_
        have hcgx_0 : wc.cell? ⟨gx, 0, none⟩ = some (.int .i64 ((rd_T58 l1 i).f0)) := (bC BK_gx.out 0).trans rfl; have hfgx_0 := bF BK_gx.out 0; have hcgx_1 : wc.cell? ⟨gx, 1, none⟩ = some (.int .i64 ((rd_T58 l1 i).f1)) := (bC BK_gx.out 1).trans rfl; have hfgx_1 := bF BK_gx.out 1; have hcgx_2 : wc.cell? ⟨gx, 2, none⟩ = some (.string ((rd_T58 l1 i).f2)) := (bC BK_gx.out 2).trans rfl; have hfgx_2 := bF BK_gx.out 2; have hcgx_3 : wc.cell? ⟨gx, 3, none⟩ = some (.int .i64 ((rd_T58 l1 i).f3)) := (bC BK_gx.out 3).trans rfl; have hfgx_3 := bF BK_gx.out 3; have hcgx_4 : wc.cell? ⟨gx, 4, none⟩ = some (.int .i64 ((rd_T58 l1 i).f4)) := (bC BK_gx.out 4).trans rfl; have hfgx_4 := bF BK_gx.out 4
        clear hx0 hx1 hx2 hx3 hx4
        go_wp2_with (first | ((with_reducible refine gate_builtin (b := .append) (xs := #[.tmp 43, .tmp 45]) rfl ?_); at_builtin; refine Kd.R_append k58 (w0 := w) w.heap.size rfl (.tmp 43) (.tmp 45) 27 58 (.agg #[(.int .i64 0), (.int .i64 0), (.string ⟨#[]⟩), (.int .i64 0), (.int .i64 0)]) 48 rfl Try.underlying27 info58 rfl z0 (by omega) (.slice sv x5.length sb) x5 (⟨(rd_T58 l1 i).f0, (rd_T58 l1 i).f1, (rd_T58 l1 i).f2, (rd_T58 l1 i).f3, (rd_T58 l1 i).f4⟩ : S58) [.int .i64 ((rd_T58 l1 i).f0), .int .i64 ((rd_T58 l1 i).f1), .string ((rd_T58 l1 i).f2), .int .i64 ((rd_T58 l1 i).f3), .int .i64 ((rd_T58 l1 i).f4)] (fun k_ => k_ ≠ gx) (fun _ => False) rfl (by first | (go_simp; done) | (go_simp; rfl)) ?aP (fun _ hk => hk.elim) ?aF ?aO ?aB ?aS ?aL ?_; (case aP => exact k58_mkM _ _ _ (⟨(rd_T58 l1 i).f0, (rd_T58 l1 i).f1, (rd_T58 l1 i).f2, (rd_T58 l1 i).f3, (rd_T58 l1 i).f4⟩ : S58)); (case aB => exact z20); (case aF => exact (fun k_ hk => Kd.freshB (g := gx) (kB_ BK_gx.out) k_ hk)); (case aO => exact (kM_ fH.out (fun _ hk => hk.2))); (case aS => exact (aC z20)); (case aL => have := LM.out; omega);  intro v9 w9 ho hb hg hat; have bc := aM ho; have bd := aM hb; clear fH HB; have fH := bc; have HB := bd; clear bc bd ho hb hg hat))
        go_roundg k1
        case measure => have := HK1.out; omega
        case rel => exact ⟨_, wrap64 (i + 1), (by first | rfl | (simp; done)), ⟨H⟩, ⟨y0⟩, ⟨kM_ fH.out (fun _ _ => trivial)⟩, ⟨y5⟩⟩
      ·rw [if_neg t4] at H
       exact absurd H (by simp)
    ·rw [if_neg t2] at H
     exact absurd H (by simp)
   ·rw [if_neg t1] at H
    have d1 : decide (i < (l1.length : Int)) = false := dF t1
    clear t1
    obtain ⟨a, ha⟩ : ∃ j : Int, wrap64 ((l0.length : Int) - 1) = j := ⟨_, rfl⟩
    obtain ⟨b, hb⟩ : ∃ j : Int, wrap64 ((l1.length : Int) - 1) = j := ⟨_, rfl⟩
    have haw : IntKind.i64.wrap ((l0.length : Int) - 1) = a := (i64_w _).trans ha
    have hbw : IntKind.i64.wrap ((l1.length : Int) - 1) = b := (i64_w _).trans hb
    rw [ha, hb] at H
    clear ha hb
    by_cases t5 : 0 ≤ a
    ·by_cases t6 : a < (l0.length : Int)
     ·rw [if_pos t5, if_pos t6] at H
      by_cases t7 : 0 ≤ b
      ·by_cases t8 : b < (l1.length : Int)
       ·rw [if_pos t7, if_pos t8] at H
        obtain ⟨ada, ea_, ha0, ha1, ha2, ha3, ha4⟩ := at_T58 (aG em.out HB.out) a t5 t6
        cases ea_
        replace t5 := eq_true t5
        replace t6 := eq_true t6
        go_upto_region 14 with (fail)
        go_cut [8] (fun v_ wc_ => ∃ g_, v_ = .pointer (some ⟨g_, 0, none⟩) ∧ Aside0 (g_ = wr.heap.size) ∧ Aside0 (wc_.heap[g_]? = some (.cells #[.int .i64 ((rd_T58 l0 a).f0), .int .i64 ((rd_T58 l0 a).f1), .string ((rd_T58 l0 a).f2), .int .i64 ((rd_T58 l0 a).f3), .int .i64 ((rd_T58 l0 a).f4)] 58 (0, 0))) ∧ Aside0 (Below wr.heap.size wr wc_))
        case first =>
         go_wp2_with (fail)
         go_meet
         exact ⟨_, rfl, ⟨rfl⟩, ⟨blk_new _ _⟩, ⟨bA (Below.refl _ _) _⟩⟩
        case rest =>
         obtain ⟨gl, rfl, hg_, BK_gl, hb_⟩ := hcut
         have bc := aM (ag (Kd.R_elderB fH.out gl (Nat.le_of_eq hg_.out.symm)) hb_.out); have bd := aM (aA HB.out hb_.out); have GE_gl : Aside0 (w.heap.size ≤ gl) := ⟨by rw [hg_.out]; exact HB.out.size⟩
         clear fH HB; have fH := bc; have HB := bd; clear bc bd hg_ hb_
         have hcgl_0 : wc.cell? ⟨gl, 0, none⟩ = some (.int .i64 ((rd_T58 l0 a).f0)) := (bC BK_gl.out 0).trans rfl; have hfgl_0 := bF BK_gl.out 0; have hcgl_1 : wc.cell? ⟨gl, 1, none⟩ = some (.int .i64 ((rd_T58 l0 a).f1)) := (bC BK_gl.out 1).trans rfl; have hfgl_1 := bF BK_gl.out 1; have hcgl_2 : wc.cell? ⟨gl, 2, none⟩ = some (.string ((rd_T58 l0 a).f2)) := (bC BK_gl.out 2).trans rfl; have hfgl_2 := bF BK_gl.out 2; have hcgl_3 : wc.cell? ⟨gl, 3, none⟩ = some (.int .i64 ((rd_T58 l0 a).f3)) := (bC BK_gl.out 3).trans rfl; have hfgl_3 := bF BK_gl.out 3; have hcgl_4 : wc.cell? ⟨gl, 4, none⟩ = some (.int .i64 ((rd_T58 l0 a).f4)) := (bC BK_gl.out 4).trans rfl; have hfgl_4 := bF BK_gl.out 4
         clear ha0 ha1 ha2 ha3 ha4
         obtain ⟨adb, eb_, hb0, hb1, hb2, hb3, hb4⟩ := at_T58 (aG iK.out HB.out) b t7 t8
         cases eb_
         replace t7 := eq_true t7
         replace t8 := eq_true t8
         go_upto_region 15 with (fail)
         go_cut [9] (fun v_ wc_ => ∃ g_, v_ = .pointer (some ⟨g_, 0, none⟩) ∧ Aside0 (g_ = wc.heap.size) ∧ Aside0 (wc_.heap[g_]? = some (.cells #[.int .i64 ((rd_T58 l1 b).f0), .int .i64 ((rd_T58 l1 b).f1), .string ((rd_T58 l1 b).f2), .int .i64 ((rd_T58 l1 b).f3), .int .i64 ((rd_T58 l1 b).f4)] 58 (0, 0))) ∧ Aside0 (Below wc.heap.size wc wc_))
         case first =>
          go_wp2_with (fail)
          go_meet
          exact ⟨_, rfl, ⟨rfl⟩, ⟨blk_new _ _⟩, ⟨bA (Below.refl _ _) _⟩⟩
         case rest =>
          obtain ⟨gr, rfl, hg_, BK_gr, hb_⟩ := hcut
          have bc := aM (ag (Kd.R_elderB fH.out gr (Nat.le_of_eq hg_.out.symm)) hb_.out); have bd := aM (aA HB.out hb_.out); have GE_gr : Aside0 (w.heap.size ≤ gr) := ⟨by rw [hg_.out]; exact HB.out.size⟩
          have mgl_ := aM (af BK_gl.out hb_.out); have NE_gl : Aside0 (gl ≠ gr) := ⟨fun e_ => by have := ay BK_gl.out; rw [hg_.out] at e_; omega⟩
          clear fH HB; have fH := bc; have HB := bd; clear bc bd hg_ hb_; clear BK_gl hcgl_0 hfgl_0 hcgl_1 hfgl_1 hcgl_2 hfgl_2 hcgl_3 hfgl_3 hcgl_4 hfgl_4; have BK_gl := mgl_; clear mgl_
          have hcgr_0 : wc.cell? ⟨gr, 0, none⟩ = some (.int .i64 ((rd_T58 l1 b).f0)) := (bC BK_gr.out 0).trans rfl; have hfgr_0 := bF BK_gr.out 0; have hcgr_1 : wc.cell? ⟨gr, 1, none⟩ = some (.int .i64 ((rd_T58 l1 b).f1)) := (bC BK_gr.out 1).trans rfl; have hfgr_1 := bF BK_gr.out 1; have hcgr_2 : wc.cell? ⟨gr, 2, none⟩ = some (.string ((rd_T58 l1 b).f2)) := (bC BK_gr.out 2).trans rfl; have hfgr_2 := bF BK_gr.out 2; have hcgr_3 : wc.cell? ⟨gr, 3, none⟩ = some (.int .i64 ((rd_T58 l1 b).f3)) := (bC BK_gr.out 3).trans rfl; have hfgr_3 := bF BK_gr.out 3; have hcgr_4 : wc.cell? ⟨gr, 4, none⟩ = some (.int .i64 ((rd_T58 l1 b).f4)) := (bC BK_gr.out 4).trans rfl; have hfgr_4 := bF BK_gr.out 4
          have hcgl_0 : wc.cell? ⟨gl, 0, none⟩ = some (.int .i64 ((rd_T58 l0 a).f0)) := (bC BK_gl.out 0).trans rfl; have hfgl_0 := bF BK_gl.out 0; have hcgl_1 : wc.cell? ⟨gl, 1, none⟩ = some (.int .i64 ((rd_T58 l0 a).f1)) := (bC BK_gl.out 1).trans rfl; have hfgl_1 := bF BK_gl.out 1; have hcgl_2 : wc.cell? ⟨gl, 2, none⟩ = some (.string ((rd_T58 l0 a).f2)) := (bC BK_gl.out 2).trans rfl; have hfgl_2 := bF BK_gl.out 2; have hcgl_3 : wc.cell? ⟨gl, 3, none⟩ = some (.int .i64 ((rd_T58 l0 a).f3)) := (bC BK_gl.out 3).trans rfl; have hfgl_3 := bF BK_gl.out 3; have hcgl_4 : wc.cell? ⟨gl, 4, none⟩ = some (.int .i64 ((rd_T58 l0 a).f4)) := (bC BK_gl.out 4).trans rfl; have hfgl_4 := bF BK_gl.out 4
          clear hb0 hb1 hb2 hb3 hb4
          by_cases t9 : (rd_T58 l1 b).f4 > (rd_T58 l0 a).f4
          ·rw [if_pos t9] at H
           have d9 : decide ((rd_T58 l0 a).f4 < (rd_T58 l1 b).f4) = true := dT t9
           clear t9
           by_cases t4 : x5.length < 2932031007402
           ·rw [if_pos t4] at H
            have LM := aM t4
            clear t4
            obtain rfl := sI H
            go_wp2_with (first | ((with_reducible refine gate_builtin (b := .append) (xs := #[.tmp 68, .tmp 83]) rfl ?_); at_builtin; refine Kd.R_append k58 (w0 := w) w.heap.size rfl (.tmp 68) (.tmp 83) 27 58 (.agg #[(.int .i64 0), (.int .i64 0), (.string ⟨#[]⟩), (.int .i64 0), (.int .i64 0)]) 48 rfl Try.underlying27 info58 rfl z0 (by omega) (.slice sv x5.length sb) x5 (⟨a, wrap64 ((x5.length : Int) - 1), (⟨#[]⟩ : ByteArray), wrap64 ((rd_T58 l0 a).f3 + (rd_T58 l1 b).f3), wrap64 ((rd_T58 l1 b).f4 + 1)⟩ : S58) [.int .i64 a, .int .i64 (wrap64 ((x5.length : Int) - 1)), .string ⟨#[]⟩, .int .i64 (wrap64 ((rd_T58 l0 a).f3 + (rd_T58 l1 b).f3)), .int .i64 (wrap64 ((rd_T58 l1 b).f4 + 1))] (fun k_ => k_ ≠ gl ∧ k_ ≠ gr) (fun _ => False) rfl (by first | (go_simp; done) | (go_simp; rfl)) ?aP (fun _ hk => hk.elim) ?aF ?aO ?aB ?aS ?aL ?_; (case aP => exact k58_mkM _ _ _ (⟨a, wrap64 ((x5.length : Int) - 1), (⟨#[]⟩ : ByteArray), wrap64 ((rd_T58 l0 a).f3 + (rd_T58 l1 b).f3), wrap64 ((rd_T58 l1 b).f4 + 1)⟩ : S58)); (case aB => exact z20); (case aF => exact (fun k_ hk => ⟨Kd.freshB (g := gl) (kB_ BK_gl.out) k_ hk, Kd.freshB (g := gr) (kB_ BK_gr.out) k_ hk⟩)); (case aO => exact (kM_ fH.out (fun _ hk => ⟨hk.1.2, hk.2⟩))); (case aS => exact (aC z20)); (case aL => have := LM.out; omega);  intro v9 w9 ho hb hg hat; have st := aM ho; have HB9 := aM hb; clear ho hb hg hat))
            go_ret
            obtain ⟨A9, c9, eo9⟩ := Kd.R_slice st.out
            subst eo9
            exact ⟨A9, c9, rfl, .inr (.inr (ah st.out (fun _ _ => trivial))), HB9.out⟩
           ·rw [if_neg t4] at H
            exact absurd H (by simp)
          ·rw [if_neg t9] at H
           have d9 : decide ((rd_T58 l0 a).f4 < (rd_T58 l1 b).f4) = false := dF t9
           clear t9
           by_cases t4 : x5.length < 2932031007402
           ·rw [if_pos t4] at H
            have LM := aM t4
            clear t4
            obtain rfl := sI H
            go_wp2_with (first | ((with_reducible refine gate_builtin (b := .append) (xs := #[.tmp 68, .tmp 83]) rfl ?_); at_builtin; refine Kd.R_append k58 (w0 := w) w.heap.size rfl (.tmp 68) (.tmp 83) 27 58 (.agg #[(.int .i64 0), (.int .i64 0), (.string ⟨#[]⟩), (.int .i64 0), (.int .i64 0)]) 48 rfl Try.underlying27 info58 rfl z0 (by omega) (.slice sv x5.length sb) x5 (⟨a, wrap64 ((x5.length : Int) - 1), (⟨#[]⟩ : ByteArray), wrap64 ((rd_T58 l0 a).f3 + (rd_T58 l1 b).f3), wrap64 ((rd_T58 l0 a).f4 + 1)⟩ : S58) [.int .i64 a, .int .i64 (wrap64 ((x5.length : Int) - 1)), .string ⟨#[]⟩, .int .i64 (wrap64 ((rd_T58 l0 a).f3 + (rd_T58 l1 b).f3)), .int .i64 (wrap64 ((rd_T58 l0 a).f4 + 1))] (fun k_ => k_ ≠ gl ∧ k_ ≠ gr) (fun _ => False) rfl (by first | (go_simp; done) | (go_simp; rfl)) ?aP (fun _ hk => hk.elim) ?aF ?aO ?aB ?aS ?aL ?_; (case aP => exact k58_mkM _ _ _ (⟨a, wrap64 ((x5.length : Int) - 1), (⟨#[]⟩ : ByteArray), wrap64 ((rd_T58 l0 a).f3 + (rd_T58 l1 b).f3), wrap64 ((rd_T58 l0 a).f4 + 1)⟩ : S58)); (case aB => exact z20); (case aF => exact (fun k_ hk => ⟨Kd.freshB (g := gl) (kB_ BK_gl.out) k_ hk, Kd.freshB (g := gr) (kB_ BK_gr.out) k_ hk⟩)); (case aO => exact (kM_ fH.out (fun _ hk => ⟨hk.1.2, hk.2⟩))); (case aS => exact (aC z20)); (case aL => have := LM.out; omega);  intro v9 w9 ho hb hg hat; have st := aM ho; have HB9 := aM hb; clear ho hb hg hat))
            go_ret
            obtain ⟨A9, c9, eo9⟩ := Kd.R_slice st.out
            subst eo9
            exact ⟨A9, c9, rfl, .inr (.inr (ah st.out (fun _ _ => trivial))), HB9.out⟩
           ·rw [if_neg t4] at H
            exact absurd H (by simp)
       ·rw [if_pos t7, if_neg t8] at H
        exact absurd H (by simp)
      ·rw [if_neg t7] at H
       exact absurd H (by simp)
     ·rw [if_pos t5, if_neg t6] at H
      exact absurd H (by simp)
    ·rw [if_neg t5] at H
     exact absurd H (by simp)
theorem join_rd (k : Nat) (l0 : List S58) (A0 : Option Addr) (c0 : Nat) (l1 : List S58) (A1 : Option Addr) (c1 : Nat) (r : List S58) (w : World) (hr0 : Kd.C k58 w A0 l0.length l0) (hc0 : l0.length ≤ c0) (hr1 : Kd.C k58 w A1 l1.length l1) (hc1 : l1.length ≤ c1) (h : spec_l12Join.f k l0 l1 = some r) :
  Calls Try.prog 68 #[.slice A0 l0.length c0, .slice A1 l1.length c1] w (RdAt w r) := by
 refine (join_own k l0 A0 c0 l1 A1 c1 r w hr0 hc0 hr1 hc1 h).mono ?_
 rintro e w' ⟨A, c, rfl, h, hb⟩
 rcases h with ⟨rfl, rfl, rfl⟩ | ⟨rfl, rfl, rfl⟩ | h
 ·exact ⟨_, _, rfl, aG hr1 hb, hc1, hb⟩
 ·exact ⟨_, _, rfl, aG hr0 hb, hc0, hb⟩
 ·exact ⟨_, _, rfl, (ai h).2.2, (ai h).2.1, hb⟩

/-! ### spec_l12Piece: function 80 -/
def spec_l12Piece.f (a0 : ByteArray) : Option ((List (S58))) := some (([(⟨(-1), (-1), a0, (a0.size : Int), 0⟩ : S58)] : List (S58)))
set_option maxHeartbeats 8000000 in
set_option maxRecDepth 100000 in
theorem spec_l12Piece.calls (a0 : ByteArray) (r : List (S58)) (w : World) (h : spec_l12Piece.f a0 = some r) :
  Calls Try.prog 80 #[.string a0] w fun e w' => ∃ v0_ : Value, e = .returned (v0_) ∧ Kd.R k58 58 w' w.heap.size (fun _ => True) v0_ r ∧ Below w.heap.size w w' := by
 have hu58 := Try.underlying58
 have HB := aM (Below.refl w.heap.size w)
 have H : (some (([(⟨(-1), (-1), a0, (a0.size : Int), 0⟩ : S58)] : List (S58)))) = some r := h
 clear h
 obtain ⟨y123, hy123⟩ : ∃ y_ : List (S58), y_ = (([(⟨(-1), (-1), a0, (a0.size : Int), 0⟩ : S58)] : List (S58))) := ⟨_, rfl⟩
 replace H : (some y123) = some r := by first | (rw [hy123]; with_reducible exact H) | (have H2_ := (Option.bind_some _ _).symm.trans H; rw [hy123]; with_reducible exact H2_) | (have H2_ := (Option.bind_some _ _).symm.trans H; with_reducible exact H2_) | with_reducible exact H | (rw [hy123]; exact H) | exact H
 have Ny123 := aM hy123
 clear hy123
 obtain rfl := sI H
 go_enter Try.func80, Try.ntmps80
 go_wp2_with (first | ((with_reducible refine aN (N := 7) rfl ?_); refine Kd.R_lit k58 _ 58 ?hg (N := 7) ?hd (xs := ([(⟨(-1), (-1), a0, (a0.size : Int), 0⟩ : S58)] : List (S58))) (inner := [.int .i64 (-1), .int .i64 (-1), .string a0, .int .i64 (a0.size : Int), .int .i64 0]) (ok := fun _ => True) (okp := fun _ => True) ?hr ?hp (fun _ hk => hk) trivial (Below.refl _ _) (Nat.le_refl _) (by simp) ?_; (case hd => rfl); (case hg => rfl); (case hr => first | (go_simp; done) | (go_simp; rfl)); (case hp => exact (Reps.c5 (show Kd.M k58 _ _ _ (⟨(-1), (-1), a0, (a0.size : Int), 0⟩ : S58) [.int .i64 (-1), .int .i64 (-1), .string a0, .int .i64 (a0.size : Int), .int .i64 0] from (k58_mkM _ _ _ (⟨(-1), (-1), a0, (a0.size : Int), 0⟩ : S58) )) (Reps.none _ _))); intro v124 w2 ho3 hb hg_ hnew_; clear hg_ hnew_; (first | rw [← Ny123.out] at ho3 | (simp only [Int.reduceToNat] at ho3; rw [← Ny123.out] at ho3)); have HO125 := aM (aW ho3 (aC z20)); replace HB := aM (aA z20 hb); clear hb ho3))
 go_ret
 exact ⟨_, y4, by (with_reducible repeat (first | apply ae | apply ac | apply aa)); exact HO125.out, y5⟩

/-! ### spec_l12Build: function 57, by hand -/
def spec_l12Build.f : Nat → List ByteArray → Option ((List (S58)))
 | 0, _ => none
 | k + 1, l0 => if (l0.length : Int) = 0 then (some ([] : List (S58))) else (if (l0.length : Int) = 1 then (if 0 < (l0.length : Int) then ((spec_l12Piece.f (rdOf ByteArray.empty l0 0)).bind fun ki => (some ki)) else (none)) else (if 0 ≤ (wrap64 (Int.tdiv (wrap64 ((l0.length : Int) + 1)) 2)) then (if (wrap64 (Int.tdiv (wrap64 ((l0.length : Int) + 1)) 2)) ≤ (l0.length : Int) then ((spec_l12Build.f k (l0.take ((wrap64 (Int.tdiv (wrap64 ((l0.length : Int) + 1)) 2)) : Int).toNat)).bind fun iS => ((spec_l12Build.f k (l0.drop ((wrap64 (Int.tdiv (wrap64 ((l0.length : Int) + 1)) 2)) : Int).toNat)).bind fun kg => ((spec_l12Join.f k iS kg).bind fun iR => (some iR)))) else (none)) else (none)))
theorem spec_l12Build.mono_l : ∀ k, (∀ y0, LeO (spec_l12Build.f k y0) (spec_l12Build.f (k + 1) y0))
 | 0 => fun _ r h => by simp [spec_l12Build.f] at h
 | k + 1 => by
  have ih0 := spec_l12Build.mono_l k
  ·intro y0
   unfold spec_l12Build.f
   repeat' first
   | (with_reducible exact ih0 _)
   | (with_reducible exact spec_l12Join.mono _ _ _)
   | (with_reducible exact LeO.refl _)
   | (with_reducible exact LeO.none _)
   | (with_reducible refine LeO.ite ?_ ?_)
   | (with_reducible refine LeO.bind ?_ (fun _ => ?_))
theorem spec_l12Build.mono : ∀ a0 k, LeO (spec_l12Build.f k a0) (spec_l12Build.f (k + 1) a0) := by
 intro a0 k
 have ih0 := spec_l12Build.mono_l k
 exact ih0 a0
def spec_l12Build.T7 : Bool × List (List Nat × List Nat) := (true, [([], []), ([], []), ([0, 1], [0, 1]), ([2], [2]), ([], []), ([], []), ([4, 5], [4, 5]), ([6, 3], [6]), ([3, 7, 7], [3, 7]), ([8, 8, 0, 1, 2, 3, 4, 5, 6, 7, 8], [8])])
def spec_l12Build.B7 : List Nat := [0, 0, 3, 7, 0, 0, 48, 127, 255, 511]
theorem spec_l12Build.tab7 : rtab .any (opsOf Try.f57 7) = spec_l12Build.T7 := by kernel_rfl
theorem spec_l12Build.bits7 : waitsOk spec_l12Build.T7.2 spec_l12Build.B7 = true := by kernel_rfl
set_option maxHeartbeats 8000000 in
set_option maxRecDepth 100000 in
theorem spec_l12Build.calls (k : Nat) : ∀ (A0 : Option Addr) (c0 : Nat) (l0 : List ByteArray) (r : List (S58)) (w : World) (hr0 : Kd.C Kd.string w A0 l0.length l0) (hc0 : l0.length ≤ c0) (h : spec_l12Build.f k l0 = some r),
  Calls Try.prog 57 #[.slice A0 l0.length c0] w fun e w' => ∃ v0_ : Value, e = .returned (v0_) ∧ Kd.R k58 58 w' w.heap.size (fun _ => True) v0_ r ∧ Below w.heap.size w w' := by
 induction k using Nat.strongRecOn with
 | _ k ih =>
 intro A0 c0 l0 r w hr0 hc0 h
 cases k with
 | zero => exact absurd h (by simp [spec_l12Build.f])
 | succ k =>
 simp only [spec_l12Build.f] at h
 have em := aM hr0
 have eV := aM hc0
 clear hr0 hc0
 have HB := aM (Below.refl w.heap.size w)
 have H : (if (l0.length : Int) = 0 then (some ([] : List (S58))) else (if (l0.length : Int) = 1 then (if 0 < (l0.length : Int) then ((spec_l12Piece.f (rdOf ByteArray.empty l0 0)).bind fun ki => (some ki)) else (none)) else (if 0 ≤ (wrap64 (Int.tdiv (wrap64 ((l0.length : Int) + 1)) 2)) then (if (wrap64 (Int.tdiv (wrap64 ((l0.length : Int) + 1)) 2)) ≤ (l0.length : Int) then ((spec_l12Build.f k (l0.take ((wrap64 (Int.tdiv (wrap64 ((l0.length : Int) + 1)) 2)) : Int).toNat)).bind fun iS => ((spec_l12Build.f k (l0.drop ((wrap64 (Int.tdiv (wrap64 ((l0.length : Int) + 1)) 2)) : Int).toNat)).bind fun kg => ((spec_l12Join.f k iS kg).bind fun iR => (some iR)))) else (none)) else (none)))) = some r := h
 clear h
 by_cases c2 : (l0.length : Int) = 0
 ·rw [if_pos c2] at H
  have c2b0 : ((l0.length : Int) == 0) = true := qT c2
  have c2b1 : ((l0.length : Int) != 0) = false := nF c2
  clear c2
  obtain rfl := sI H
  go_enter Try.func57, Try.ntmps57
  go_wp2
  go_ret
  exact ⟨_, y4, y12, y5⟩
 ·rw [if_neg c2] at H
  have c2b0 : ((l0.length : Int) == 0) = false := qF c2
  have c2b1 : ((l0.length : Int) != 0) = true := nT c2
  have c2b2 : ¬ (l0 = []) := fun h_ => c2 (by rw [h_]; rfl)
  by_cases c3 : (l0.length : Int) = 1
  ·rw [if_pos c3] at H
   have c3b0 : ((l0.length : Int) == 1) = true := qT c3
   have c3b1 : ((l0.length : Int) != 1) = false := nF c3
   clear c3
   by_cases c4 : 0 < (l0.length : Int)
   ·rw [if_pos c4] at H
    have c4b0 : decide (0 < (l0.length : Int)) = true := dT c4
    have c4b1 : decide (0 < l0.length) = true := dT (by omega)
    clear c4
    obtain ⟨ki, A5, H⟩ := oA_ H
    try dsimp only at H
    obtain rfl := sI H
    have p139 : 0 ≤ (0 : Int) := (by omega)
    have q139 : 0 < (l0.length : Int) := oD z3
    obtain ⟨ad139, e139, hx139_0⟩ := Kd.at_string em.out 0 p139 q139
    cases e139
    have qi139 : (0 < l0.length) = True := eq_true (by omega)
    (try rw [show ((0 : Int)).toNat = 0 from rfl] at hx139_0)
    (try rw [Addr.add_zero'] at hx139_0)
    replace p139 := eq_true p139
    replace q139 := eq_true q139
    go_enter Try.func57, Try.ntmps57
    go_wp2_with (first | ((with_reducible refine aK (f := 80) rfl ?_); refine aT (some 13) rfl rfl Try.func80 z1 rfl #[.string (rdOf ByteArray.empty l0 0)] rfl z21 ?_; (with_reducible refine (spec_l12Piece.calls (rdOf ByteArray.empty l0 0) ki _ A5.out).mono ?_); rintro e w6 ⟨v141, rfl, ho0, hb⟩; refine ⟨_, rfl, ?_⟩; have HO142 := aM (aW ho0 (aC z20)); replace HB := aM (aA z20 hb); (try clear hb); (try clear ho0)))
    go_ret
    exact ⟨_, y4, by (with_reducible repeat (first | apply ae | apply ac | apply aa)); exact HO142.out, y5⟩
   ·rw [if_neg c4] at H
    exact absurd H (by simp)
  ·rw [if_neg c3] at H
   have c3b0 : ((l0.length : Int) == 1) = false := qF c3
   have c3b1 : ((l0.length : Int) != 1) = true := nT c3
   obtain ⟨iU, nQ⟩ : ∃ j_ : Int, (wrap64 (Int.tdiv (wrap64 ((l0.length : Int) + 1)) 2)) = j_ := ⟨_, rfl⟩
   replace H : (if 0 ≤ (iU) then (if (iU) ≤ (l0.length : Int) then ((spec_l12Build.f k (l0.take ((iU) : Int).toNat)).bind fun iS => ((spec_l12Build.f k (l0.drop ((iU) : Int).toNat)).bind fun kg => ((spec_l12Join.f k iS kg).bind fun iR => (some iR)))) else (none)) else (none)) = some r := by first | (rw [nQ] at H; exact H) | (simp only [nQ] at H ⊢; exact H)
   have hji7w : (IntKind.i64.wrap (Int.tdiv (wrap64 ((l0.length : Int) + 1)) 2)) = iU := (i64_w _).trans nQ
   by_cases c8 : 0 ≤ (iU)
   ·rw [if_pos c8] at H
    have c8b0 := eq_true c8
    have c8b1 : decide (0 ≤ (iU)) = true := dT c8
    clear c8
    by_cases c9 : (iU) ≤ (l0.length : Int)
    ·rw [if_pos c9] at H
     have c9b0 := eq_true c9
     have c9b1 : decide ((iU) ≤ (l0.length : Int)) = true := dT c9
     clear c9
     obtain ⟨iS, lK, H⟩ := oA_ H
     try dsimp only at H
     have c11b0 := eq_true (oD z3 : 0 ≤ (iU))
     have c12b0 := eq_true (oD z3 : (iU) ≤ (l0.length : Int))
     obtain ⟨kg, tf, H⟩ := oA_ H
     try dsimp only at H
     obtain ⟨iR, g9, H⟩ := oA_ H
     try dsimp only at H
     obtain rfl := sI H
     go_enter Try.func57, Try.ntmps57
     try go_wp2
     replace HB := aM (bD HB.out)
     obtain ⟨i016, hi016, _, hsz16, _⟩ := info_parts info9
     obtain ⟨hcut16, hA16, hC16⟩ := print_take_of (P := Try.prog) Value.string ⟨#[]⟩ 44 9 .i64 Try.underlying44 hi016 hsz16 A0 c0 l0 (iU) (oD z3) (oD z3) eV.out
     have qh := aM (Kd.C_of_reads (h1 := fun _ => rfl) (hA16 _ (Kd.reads_of_C em.out)))
     have HC143 := aM hC16
     clear hA16 hC16 hi016 hsz16
     obtain ⟨i017, hi017, _, hsz17, _⟩ := info_parts info9
     obtain ⟨rC, hcut17, hA17, hC17⟩ := print_drop_of (P := Try.prog) Value.string ⟨#[]⟩ 44 9 .i64 Try.underlying44 hi017 hsz17 A0 c0 l0 (iU) (oD z3) (oD z3) eV.out
     have qg := aM (Kd.C_of_reads (h1 := fun _ => rfl) (hA17 _ (Kd.reads_of_C em.out)))
     have HC147 := aM hC17
     clear hA17 hC17 hi017 hsz17
     refine start_ (n := 10) (S := fun w' => True) (ds := []) #[false, false, false, false, false, false, false, false, false, false] z1 rfl rfl trivial (fun hHeld => ?_); refine with_tabW spec_l12Build.tab7 spec_l12Build.bits7 (fun HT_ HW_ => ?_)
     generalize w.drew = w15 at HB qh qg hHeld ⊢
     refine pA 0 18 ?_
     refine pA 1 19 ?_
     refine pA 2 20 ?_
     refine pA 4 22 ?_
     refine pA 5 23 ?_
     refine pA 6 24 ?_
     refine one_ (i := 3) (N := some 21) #[true, true, true, true, true, true, true, false, false, false] rfl rfl (one_of HT_.out z1) z0 (fun K hK => ?_)
     refine goes_ Try.func57 z1 rfl #[.slice A0 (l0.take ((iU) : Int).toNat).length c0] (by rfl) rfl rfl (by (try simp only [List.map_toArray, List.map_cons, List.map_nil]); first | done | (rw [show (l0.take ((iU) : Int).toNat).length = (iU).toNat from (by rw [List.length_take]; have h_ : ((iU) : Int) ≤ (l0.length : Int) := oD z3; omega)] <;> rfl) | (simp only [nQ]; rfl) | rfl | (simp only [List.length_drop, List.length_take]; rfl)) ?_
     with_reducible refine (ih k (by omega) _ _ (l0.take ((iU) : Int).toNat) iS _ ?side1 ?side2 lK.out).mono ?_
     (case side1 => repeat (first | exact (aG qh.out HB.out) | (with_reducible refine aH ?_ _) | (with_reducible refine aI ?_ _) | (with_reducible refine aJ ?_)))
     (case side2 => exact HC143.out)
     rintro e w18 ⟨v145, rfl, ho0, hb⟩
     refine ⟨_, rfl, ?_⟩
     have g5 := aM (aW ho0 (aC z20))
     replace HB := aM (aA z20 hb)
     (try clear hb)
     skip
     skip
     skip
     (try clear ho0)
     refine hK.out _ _ trivial (fun hHeld => ?_)
     clear hK K
     refine norm_ (a' := ?_) ?_ ?_
     rotate_left
     ·show Act.put _ (some 21) _ = _
      simp only [Act.put, sA, sB, sC, i64_w, i32_w]
      rfl
     refine one_ (i := 7) (N := some 25) #[true, true, true, true, true, true, true, true, false, false] rfl rfl (one_of HT_.out z1) z0 (fun K hK => ?_)
     refine goes_ Try.func57 z1 rfl #[.slice rC (l0.drop ((iU) : Int).toNat).length (c0 - (iU).toNat)] (by rfl) rfl rfl (by (try simp only [List.map_toArray, List.map_cons, List.map_nil]); first | done | (rw [show (l0.drop ((iU) : Int).toNat).length = (l0.length - (iU).toNat) from List.length_drop] <;> rfl) | (simp only [nQ]; rfl) | rfl | (simp only [List.length_drop, List.length_take]; rfl)) ?_
     with_reducible refine (ih k (by omega) _ _ (l0.drop ((iU) : Int).toNat) kg _ ?side1 ?side2 tf.out).mono ?_
     (case side1 => repeat (first | exact (aG qg.out HB.out) | (with_reducible refine aH ?_ _) | (with_reducible refine aI ?_ _) | (with_reducible refine aJ ?_)))
     (case side2 => exact HC147.out)
     rintro e w19 ⟨v149, rfl, ho0, hb⟩
     refine ⟨_, rfl, ?_⟩
     have lD := aM (aW (ak ho0 (am (kR_ g5.out))) (aC z20))
     replace g5 := aM (aj (kR_ g5.out) (al ho0) hb)
     replace HB := aM (aA z20 hb)
     (try clear hb)
     skip
     skip
     skip
     (try clear ho0)
     obtain ⟨sx, sd, eo20⟩ := Kd.R_slice g5.out
     (first | subst eo20 | (injection eo20 with f1_ f2_ f3_; have f4_ := f1_.symm; have f5_ := f3_.symm; clear f1_ f2_ f3_; subst f4_; subst f5_))
     obtain ⟨sw, sc, eo21⟩ := Kd.R_slice lD.out
     (first | subst eo21 | (injection eo21 with f1_ f2_ f3_; have f4_ := f1_.symm; have f5_ := f3_.symm; clear f1_ f2_ f3_; subst f4_; subst f5_))
     refine hK.out _ _ trivial (fun hHeld => ?_)
     clear hK K
     refine norm_ (a' := ?_) ?_ ?_
     rotate_left
     ·show Act.put _ (some 25) _ = _
      simp only [Act.put, sA, sB, sC, i64_w, i32_w]
      rfl
     refine one_ (i := 8) (N := some 26) #[true, true, true, true, true, true, true, true, true, false] rfl rfl (one_of HT_.out z1) z0 (fun K hK => ?_)
     refine goes_ Try.func68 z1 rfl #[.slice sx iS.length sd, .slice sw kg.length sc] (by rfl) rfl rfl z21 ?_
     with_reducible refine (join_own k iS sx sd kg sw sc iR _ ?side1 ?side2 ?side3 ?side4 g9.out).mono ?_
     (case side1 => repeat (first | exact (ai g5.out).2.2 | (with_reducible refine aH ?_ _) | (with_reducible refine aI ?_ _) | (with_reducible refine aJ ?_)))
     (case side2 => exact (ai g5.out).2.1)
     (case side3 => repeat (first | exact (ai lD.out).2.2 | (with_reducible refine aH ?_ _) | (with_reducible refine aI ?_ _) | (with_reducible refine aJ ?_)))
     (case side4 => exact (ai lD.out).2.1)
     rintro e w22 ⟨A22, ri, rfl, hcase, hb⟩
     refine ⟨_, rfl, ?_⟩
     have bc : Aside0 (Kd.R k58 58 w22 w.heap.size (fun _ => True) (.slice A22 iR.length ri) iR) := ⟨by
      rcases hcase with ⟨rfl, rfl, rfl⟩ | ⟨rfl, rfl, rfl⟩ | h_
      ·exact ah (ag (kR_ lD.out) hb) (fun _ _ => trivial)
      ·exact ah (ag (kR_ g5.out) hb) (fun _ _ => trivial)
      ·exact aW h_ (aC z20)⟩
     have bd := aM (aA z20 hb)
     clear HB g5 lD hcase hb
     have HO153 := bc
     have HB := bd
     clear bc bd
     refine hK.out _ _ trivial (fun hHeld => ?_)
     clear hK K
     refine norm_ (a' := ?_) ?_ ?_
     rotate_left
     ·show Act.put _ (some 26) _ = _
      simp only [Act.put, sA, sB, sC, i64_w, i32_w]
      rfl
     refine pA 9 2 ?_
     refine done_ (done_of HT_.out z1) ?_
     try go_wp2
     go_ret
     exact ⟨_, by first | rfl | (simp [errW_none, errW_some] <;> rfl) | (simp only [← nQ]; first | rfl | (simp [errW_none, errW_some] <;> rfl)) | (simp [*, errW_none, errW_some] <;> rfl), by (with_reducible repeat (first | apply ae | apply ac | apply aa)); exact HO153.out, y5⟩
    ·rw [if_neg c9] at H
     exact absurd H (by simp)
   ·rw [if_neg c8] at H
    exact absurd H (by simp)

/-! ### spec_l12Cut: function 58 -/
def spec_l12Cut.l0 : Nat → ByteArray → List ByteArray → Option (List ByteArray)
 | 0, _, _ => none
 | k + 1, x0, x3 => if (x0.size : Int) > 8 then (if 0 ≤ 8 then (if 8 ≤ (x0.size : Int) then (if x3.length < 8796093022208 then (spec_l12Cut.l0 k (x0.extract 8 x0.size) (x3 ++ [x0.extract 0 8])) else (none)) else (none)) else (none)) else (if x0.toList = ([] : List UInt8) then (some x3) else (if x3.length < 8796093022208 then (some (x3 ++ [x0])) else (none)))
def spec_l12Cut.f (k : Nat) (a0 : ByteArray) : Option (List ByteArray) := spec_l12Cut.l0 k a0 ([] : List ByteArray)
theorem spec_l12Cut.mono_l : ∀ k, (∀ y0 y1, LeO (spec_l12Cut.l0 k y0 y1) (spec_l12Cut.l0 (k + 1) y0 y1))
 | 0 => fun _ _ r h => by simp [spec_l12Cut.l0] at h
 | k + 1 => by
  have ih0 := spec_l12Cut.mono_l k
  ·intro y0 y1
   unfold spec_l12Cut.l0
   repeat' first
   | (with_reducible exact ih0 _ _)
   | (with_reducible exact LeO.refl _)
   | (with_reducible exact LeO.none _)
   | (with_reducible refine LeO.ite ?_ ?_)
   | (with_reducible refine LeO.bind ?_ (fun _ => ?_))
theorem spec_l12Cut.mono : ∀ a0 k, LeO (spec_l12Cut.f k a0) (spec_l12Cut.f (k + 1) a0) := by
 intro a0 k
 have ih0 := spec_l12Cut.mono_l k
 unfold spec_l12Cut.f
 repeat' first
   | (with_reducible exact ih0 _ _)
   | (with_reducible exact LeO.refl _)
   | (with_reducible exact LeO.none _)
   | (with_reducible refine LeO.ite ?_ ?_)
   | (with_reducible refine LeO.bind ?_ (fun _ => ?_))
set_option maxHeartbeats 8000000 in
set_option maxRecDepth 100000 in
theorem spec_l12Cut.calls (k : Nat) (a0 : ByteArray) (r : List ByteArray) (w : World) (h : spec_l12Cut.f k a0 = some r) :
  Calls Try.prog 58 #[.string a0] w fun e w' => ∃ v0_ : Value, e = .returned (v0_) ∧ Kd.R Kd.string 9 w' w.heap.size (fun _ => True) v0_ r ∧ Below w.heap.size w w' := by
 have HB := aM (Below.refl w.heap.size w)
 have H : (spec_l12Cut.l0 k a0 ([] : List ByteArray)) = some r := h
 clear h
 have H' := aM H
 clear H
 go_enter Try.func58, Try.ntmps58
 go_wp2
 go_loopg [0, 3] k (fun kq v0 v3 w' => ∃ (x0_1 : ByteArray) (x3_1 : List ByteArray), v0 = .string x0_1 ∧ Aside0 (spec_l12Cut.l0 kq x0_1 x3_1 = some r) ∧ Aside0 (kq ≤ k) ∧ Aside0 (Kd.R Kd.string 9 w' w.heap.size (fun _ => True) v3 x3_1) ∧ Aside0 (Below w.heap.size w w'))
 case atStart => exact ⟨(a0), (([] : List ByteArray)), z2, H', ⟨Nat.le_refl _⟩, ⟨y12⟩, ⟨y5⟩⟩
 case round =>
  clear H'
  obtain ⟨x0_1, x3_1, rfl, HA, HK1, fg, HB⟩ := hrel
  cases gk with
  | zero => exact absurd HA.out (by simp [spec_l12Cut.l0])
  | succ k1 =>
   have H := HA.out
   clear HA
   simp only [spec_l12Cut.l0] at H
   by_cases c2 : (x0_1.size : Int) > 8
   ·rw [if_pos c2] at H
    have c2b0 : decide (8 < (x0_1.size : Int)) = true := dT c2
    have c2b1 : decide (8 < x0_1.size) = true := dT (by omega)
    clear c2
    by_cases c3 : 0 ≤ 8
    ·rw [if_pos c3] at H
     have c3b0 := eq_true c3
     have c3b1 : decide (0 ≤ 8) = true := dT c3
     clear c3
     by_cases c4 : 8 ≤ (x0_1.size : Int)
     ·rw [if_pos c4] at H
      have c4b0 := eq_true c4
      have c4b1 : decide (8 ≤ (x0_1.size : Int)) = true := dT c4
      clear c4
      by_cases c5 : x3_1.length < 8796093022208
      ·rw [if_pos c5] at H
       have LMc5 := aM c5
       clear c5
       obtain ⟨y126, hy126⟩ : ∃ y_ : List ByteArray, y_ = (x3_1 ++ [x0_1.extract 0 8]) := ⟨_, rfl⟩
       replace H : (spec_l12Cut.l0 k1 (x0_1.extract 8 x0_1.size) y126) = some r := by first | (rw [hy126]; with_reducible exact H) | (have H2_ := (Option.bind_some _ _).symm.trans H; rw [hy126]; with_reducible exact H2_) | (have H2_ := (Option.bind_some _ _).symm.trans H; with_reducible exact H2_) | with_reducible exact H | (rw [hy126]; exact H) | exact H
       have Ny126 := aM hy126
       clear hy126
       have c6b0 := eq_true (oD z3 : 8 ≤ (x0_1.size : Int))
       have H' := aM H
       clear H
       go_wp2_with (first | ((with_reducible refine gate_builtin (b := .append) (xs := #[.tmp 7, .tmp 10]) rfl ?_); at_builtin; refine Kd.R_append Kd.string (w0 := w) w.heap.size rfl (.tmp 7) (.tmp 10) 44 9 (.string ⟨#[]⟩) 16 rfl Try.underlying44 info9 rfl z0 (by omega) u3 x3_1 (x0_1.extract 0 8) [.string (x0_1.extract 0 8)] (fun _ => True) (fun _ => False) rfl rfl ?aP (fun _ hk => hk.elim) ?aF ?aO ?aB ?aS ?aL ?_; (case aP => exact rfl); (case aB => exact z20); (case aF => exact (fun _ _ => trivial)); (case aO => exact (kR_ fg.out)); (case aS => exact (aC z20)); (case aL => have := LMc5.out; omega); intro v127 w7 ho hb hg hat; rw [← Ny126.out] at ho; replace HB := aM (hb); have HO128 := aM (ho); clear fg; clear ho hb hg hat))
       go_roundg k1
       case measure => have := HK1.out; omega
       case rel => exact ⟨(x0_1.extract 8 x0_1.size), (y126), z2, H', ⟨y0⟩, ⟨kR_ HO128.out⟩, ⟨y5⟩⟩
      ·rw [if_neg c5] at H
       exact absurd H (by simp)
     ·rw [if_neg c4] at H
      exact absurd H (by simp)
    ·exact absurd z0 c3
   ·rw [if_neg c2] at H
    have c2b0 : decide (8 < (x0_1.size : Int)) = false := dF c2
    have c2b1 : decide (8 < x0_1.size) = false := dF (by omega)
    clear c2
    by_cases c8 : x0_1.toList = ([] : List UInt8)
    ·rw [if_pos c8] at H
     have c8b0 : (x0_1.toList == ([] : List UInt8)) = true := qT c8
     have c8b1 : (x0_1.toList != ([] : List UInt8)) = false := nF c8
     clear c8
     obtain rfl := sI H
     go_wp2
     all_goals (try (exfalso; rename_i h_; rw [c8b0] at h_; cases h_; done))
     go_ret
     exact ⟨_, y4, by (with_reducible repeat (first | apply ae | apply ac | apply aa)); exact fg.out, y5⟩
    ·rw [if_neg c8] at H
     have c8b0 : (x0_1.toList == ([] : List UInt8)) = false := qF c8
     have c8b1 : (x0_1.toList != ([] : List UInt8)) = true := nT c8
     by_cases c9 : x3_1.length < 8796093022208
     ·rw [if_pos c9] at H
      have LMc9 := aM c9
      clear c9
      obtain ⟨y129, hy129⟩ : ∃ y_ : List ByteArray, y_ = (x3_1 ++ [x0_1]) := ⟨_, rfl⟩
      replace H : (some y129) = some r := by first | (rw [hy129]; with_reducible exact H) | (have H2_ := (Option.bind_some _ _).symm.trans H; rw [hy129]; with_reducible exact H2_) | (have H2_ := (Option.bind_some _ _).symm.trans H; with_reducible exact H2_) | with_reducible exact H | (rw [hy129]; exact H) | exact H
      have Ny129 := aM hy129
      clear hy129
      obtain rfl := sI H
      go_wp2_with (first | ((with_reducible refine gate_builtin (b := .append) (xs := #[.tmp 16, .tmp 18]) rfl ?_); at_builtin; refine Kd.R_append Kd.string (w0 := w) w.heap.size rfl (.tmp 16) (.tmp 18) 44 9 (.string ⟨#[]⟩) 16 rfl Try.underlying44 info9 rfl z0 (by omega) u3 x3_1 x0_1 [.string x0_1] (fun _ => True) (fun _ => False) rfl rfl ?aP (fun _ hk => hk.elim) ?aF ?aO ?aB ?aS ?aL ?_; (case aP => exact rfl); (case aB => exact z20); (case aF => exact (fun _ _ => trivial)); (case aO => exact (kR_ fg.out)); (case aS => exact (aC z20)); (case aL => have := LMc9.out; omega); intro v130 w10 ho hb hg hat; rw [← Ny129.out] at ho; replace HB := aM (hb); have HO131 := aM (ho); clear fg; clear ho hb hg hat))
      all_goals (try (exfalso; rename_i h_; rw [c8b0] at h_; cases h_; done))
      go_ret
      exact ⟨_, y4, by (with_reducible repeat (first | apply ae | apply ac | apply aa)); exact HO131.out, y5⟩
     ·rw [if_neg c9] at H
      exact absurd H (by simp)

end Go.Proofs.Ytmkenlejdaphnaa.AFnRopes
