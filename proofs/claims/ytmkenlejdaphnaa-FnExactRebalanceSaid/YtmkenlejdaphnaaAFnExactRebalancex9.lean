-- this session's own text: written by wip/tools/ownprint.py over the kit's print
import Derived.Test.YtmkenlejdaphnaaAFnExactRebalancex0
import Derived.Test.YtmkenlejdaphnaaAFnExactRebalancex7
import Derived.Test.YtmkenlejdaphnaaAFnExactRebalancex8
namespace Go.Proofs.Ytmkenlejdaphnaa.AFnExactRebalance
open Go.RowKit Go.Proofs.YtmkenlejdaphnaaW.PrintWords Go.Proofs.YtmkenlejdaphnaaW.PrintLast Go.Proofs.YtmkenlejdaphnaaW.PrintMore
attribute [local go_sem] max2_int min2_int max_two min_two max_three min_three max_four min_four   -- for this text's walks alone
set_option linter.unusedVariables false
set_option linter.unusedSimpArgs false

/-! ### impl_limb_rope: function 62, by hand -/
def ropeF (t : Limb) : Option (List S58 × Bool) :=
 if cnt t ≤ 10000000 then (if 200 < cnt t then some ([], false) else (if t.isNil = true then some (bgs t [], true) else (if 300 < t.size then some ([], false) else some (bgs t [], true)))) else none
set_option maxHeartbeats 4000000 in
theorem rope_any (t : Limb) (A : Option Addr) (ok : Nat → Prop) (w : World) (r1 : List S58) (r2 : Bool) (hA : LmAt w ok t A) (h : ropeF t = some (r1, r2)) :
  Calls Try.prog 62 #[.pointer A] w fun e w' => ∃ v0_ : Value, e = .returned (.tuple #[.agg #[v0_], .bool r2]) ∧ Kd.R k58 58 w' w.heap.size (fun _ => True) v0_ r1 ∧ Below w.heap.size w w' := by
 unfold ropeF at h
 split at h
 case isFalse => cases h
 case isTrue hc =>
 have HN : Aside0 (([] : List S58).length + cnt t ≤ 100000000) := ⟨by show 0 + _ ≤ _; omega⟩
 have HA := Aside0.mk hA
 have HV : Aside0 (Kd.R k58 58 w w.heap.size (fun _ => True) (.slice none 0 0) ([] : List S58)) := ⟨Kd.R_nil _ _ _ _ _⟩
 obtain ⟨B, hB⟩ : ∃ B, bgs t [] = B := ⟨_, rfl⟩
 have HZ : Aside0 (bgs t [] = B) := ⟨hB⟩
 have hl : B.length = cnt t := by rw [← hB, bgs_length]; simp
 rw [hB] at h
 rw [← hl] at h
 clear hB hc hl
 by_cases hq : 200 < B.length
 ·rw [if_pos hq] at h
  obtain ⟨rfl, rfl⟩ := Prod.mk.inj (Option.some.inj h)
  have q1 : decide ((200 : Int) < (B.length : Int)) = true := decide_eq_true (by omega)
  clear h hA hq
  go_enter Try.func62, Try.ntmps62
  go_wp2_with (first | (go_at_call 83; refine (boughs_any _ _ ok w _ _ [] (HA.out.alloc _) (Kd.R_alloc HV.out _) (below_alloc (Below.refl _ _) _) HN.out).mono ?_; rintro e w1 ⟨v1, rfl, ho, hb, ht⟩; rw [HZ.out] at ho; obtain ⟨A1, k1, eo, -, -⟩ := Kd.R_reads ho; subst eo; have HV1 := Aside0.mk ho; have HB1 := Aside0.mk hb; have HT1 := Aside0.mk ht; have HC1 := Aside0.mk (blk_kept (W := w.alloc (.cells #[.slice none 0 0] 29)) (blk_new _ _) HT1.out.1 (by simp [Value.ownBlock])); have e0 : ∀ o, (w1.alloc o).cell? ⟨w.heap.size, 0, none⟩ = some (.slice none 0 0) := fun o => (blk_cell (blk_alloc HC1.out o) 0).trans rfl; have e1 : ∀ o, (w1.alloc o).frozen? ⟨w.heap.size, 0, none⟩ = false := fun o => blk_frozen (blk_alloc HC1.out o) 0;  clear ho hb ht))
  refine bodyPost_ret (results_ct rfl _ _ w.heap.size 29 #[.slice none 0 0] (0, 0) _ rfl (by refine blk_put (cs := #[.slice none 0 0]) (blk_alloc HC1.out _) 0 _ rfl) Try.underlying29 rfl z0) rfl ?_
  exact ⟨_, rfl, Kd.R_nil _ _ _ _ _, below_set (below_alloc HB1.out _) (Nat.le_refl _)⟩
 ·rw [if_neg hq] at h
  have q1 : decide ((200 : Int) < (B.length : Int)) = false := decide_eq_false (by omega)
  clear hq
  cases t with
  | nil =>
   obtain rfl : A = none := hA
   obtain ⟨rfl, rfl⟩ := Prod.mk.inj (Option.some.inj h)
   clear h
   go_enter Try.func62, Try.ntmps62
   go_wp2_with (first | (go_at_call 83; refine (boughs_any _ _ ok w _ _ [] (HA.out.alloc _) (Kd.R_alloc HV.out _) (below_alloc (Below.refl _ _) _) HN.out).mono ?_; rintro e w1 ⟨v1, rfl, ho, hb, ht⟩; rw [HZ.out] at ho; obtain ⟨A1, k1, eo, -, -⟩ := Kd.R_reads ho; subst eo; have HV1 := Aside0.mk ho; have HB1 := Aside0.mk hb; have HT1 := Aside0.mk ht; have HC1 := Aside0.mk (blk_kept (W := w.alloc (.cells #[.slice none 0 0] 29)) (blk_new _ _) HT1.out.1 (by simp [Value.ownBlock])); have e0 : ∀ o, (w1.alloc o).cell? ⟨w.heap.size, 0, none⟩ = some (.slice none 0 0) := fun o => (blk_cell (blk_alloc HC1.out o) 0).trans rfl; have e1 : ∀ o, (w1.alloc o).frozen? ⟨w.heap.size, 0, none⟩ = false := fun o => blk_frozen (blk_alloc HC1.out o) 0;  clear ho hb ht))
   refine bodyPost_ret (results_ct rfl _ _ w.heap.size 29 #[.slice A1 B.length k1] (0, 0) _ rfl (by refine blk_put (cs := #[.slice none 0 0]) (blk_alloc HC1.out _) 0 _ rfl) Try.underlying29 rfl z0) rfl ?_
   exact ⟨_, rfl, Kd.R_set (Kd.R_alloc HV1.out _) (blk_alloc HC1.out _) (by decide) 0 _, below_set (below_alloc HB1.out _) (Nat.le_refl _)⟩
  | node l r s n d =>
   obtain ⟨b, L, R, rfl, hb, hc, -, -⟩ := hA
   have HD := Aside0.mk hc
   clear hb hc
   have h' : (if 300 < n then some ([], false) else some (B, true)) = some (r1, r2) := h
   clear h
   by_cases hn : 300 < n
   ·rw [if_pos hn] at h'
    obtain ⟨rfl, rfl⟩ := Prod.mk.inj (Option.some.inj h')
    have q2 : decide (300 < n) = true := decide_eq_true hn
    clear h' hn
    go_enter Try.func62, Try.ntmps62
    go_wp2_with (first | (go_at_call 83; refine (boughs_any _ _ ok w _ _ [] (HA.out.alloc _) (Kd.R_alloc HV.out _) (below_alloc (Below.refl _ _) _) HN.out).mono ?_; rintro e w1 ⟨v1, rfl, ho, hb, ht⟩; rw [HZ.out] at ho; obtain ⟨A1, k1, eo, -, -⟩ := Kd.R_reads ho; subst eo; have HV1 := Aside0.mk ho; have HB1 := Aside0.mk hb; have HT1 := Aside0.mk ht; have HC1 := Aside0.mk (blk_kept (W := w.alloc (.cells #[.slice none 0 0] 29)) (blk_new _ _) HT1.out.1 (by simp [Value.ownBlock])); have e0 : ∀ o, (w1.alloc o).cell? ⟨w.heap.size, 0, none⟩ = some (.slice none 0 0) := fun o => (blk_cell (blk_alloc HC1.out o) 0).trans rfl; have e1 : ∀ o, (w1.alloc o).frozen? ⟨w.heap.size, 0, none⟩ = false := fun o => blk_frozen (blk_alloc HC1.out o) 0; have HA1 := Aside0.mk ((HA.out.alloc (.cells #[.slice none 0 0] 29)).rowTo (Kd.R_alloc HV.out _) (by decide) HT1.out); have HD1 := Aside0.mk (blk_kept (W := w.alloc (.cells #[.slice none 0 0] 29)) (blk_alloc HD.out _) HT1.out.1 (by simp [Value.ownBlock])); have d3 : ∀ o, (w1.alloc o).cell? ⟨b, 3, none⟩ = some (.int .i64 n) := fun o => (blk_cell (blk_alloc HD1.out o) 3).trans rfl; clear ho hb ht))
    refine bodyPost_ret (results_ct rfl _ _ w.heap.size 29 #[.slice none 0 0] (0, 0) _ rfl (by refine blk_put (cs := #[.slice none 0 0]) (blk_alloc HC1.out _) 0 _ rfl) Try.underlying29 rfl z0) rfl ?_
    exact ⟨_, rfl, Kd.R_nil _ _ _ _ _, below_set (below_alloc HB1.out _) (Nat.le_refl _)⟩
   ·rw [if_neg hn] at h'
    obtain ⟨rfl, rfl⟩ := Prod.mk.inj (Option.some.inj h')
    have q2 : decide (300 < n) = false := decide_eq_false hn
    clear h' hn
    go_enter Try.func62, Try.ntmps62
    go_wp2_with (first | (go_at_call 83; refine (boughs_any _ _ ok w _ _ [] (HA.out.alloc _) (Kd.R_alloc HV.out _) (below_alloc (Below.refl _ _) _) HN.out).mono ?_; rintro e w1 ⟨v1, rfl, ho, hb, ht⟩; rw [HZ.out] at ho; obtain ⟨A1, k1, eo, -, -⟩ := Kd.R_reads ho; subst eo; have HV1 := Aside0.mk ho; have HB1 := Aside0.mk hb; have HT1 := Aside0.mk ht; have HC1 := Aside0.mk (blk_kept (W := w.alloc (.cells #[.slice none 0 0] 29)) (blk_new _ _) HT1.out.1 (by simp [Value.ownBlock])); have e0 : ∀ o, (w1.alloc o).cell? ⟨w.heap.size, 0, none⟩ = some (.slice none 0 0) := fun o => (blk_cell (blk_alloc HC1.out o) 0).trans rfl; have e1 : ∀ o, (w1.alloc o).frozen? ⟨w.heap.size, 0, none⟩ = false := fun o => blk_frozen (blk_alloc HC1.out o) 0; have HA1 := Aside0.mk ((HA.out.alloc (.cells #[.slice none 0 0] 29)).rowTo (Kd.R_alloc HV.out _) (by decide) HT1.out); have HD1 := Aside0.mk (blk_kept (W := w.alloc (.cells #[.slice none 0 0] 29)) (blk_alloc HD.out _) HT1.out.1 (by simp [Value.ownBlock])); have d3 : ∀ o, (w1.alloc o).cell? ⟨b, 3, none⟩ = some (.int .i64 n) := fun o => (blk_cell (blk_alloc HD1.out o) 3).trans rfl; clear ho hb ht))
    refine bodyPost_ret (results_ct rfl _ _ w.heap.size 29 #[.slice A1 B.length k1] (0, 0) _ rfl (by refine blk_put (cs := #[.slice none 0 0]) (blk_alloc HC1.out _) 0 _ rfl) Try.underlying29 rfl z0) rfl ?_
    exact ⟨_, rfl, Kd.R_set (Kd.R_alloc HV1.out _) (blk_alloc HC1.out _) (by decide) 0 _, below_set (below_alloc HB1.out _) (Nat.le_refl _)⟩

/-! ### impl_limb_pieces: function 66, by hand -/
/-- The texts of the pieces. -/
def pcs : Limb → List ByteArray
 | .nil => []
 | .node l r s _ _ => if l.isNil = true then [s] else pcs l ++ pcs r
def PcAt (w0 w : World) (v : Value) (xs : List ByteArray) (e : Ending) (w' : World) : Prop := ∃ v', e = .returned v' ∧ Kd.R Kd.string 9 w' w0.heap.size (fun _ => True) v' xs ∧ Below w0.heap.size w0 w' ∧ RowTo w w' v v'
set_option maxHeartbeats 4000000 in
theorem pieces_any (t : Limb) : ∀ (A : Option Addr) (ok : Nat → Prop) (w0 w : World) (v : Value) (xs : List ByteArray), LmAt w ok t A → Kd.R Kd.string 9 w w0.heap.size (fun _ => True) v xs → Below w0.heap.size w0 w → xs.length + (pcs t).length ≤ 100000000 →
  Calls Try.prog 66 #[.pointer A, v] w (PcAt w0 w v (xs ++ pcs t)) := by
 induction t with
 | nil =>
  intro A ok w0 w v xs hA hv hB hn
  obtain rfl : A = none := hA
  have HV := Aside0.mk hv
  have HB := Aside0.mk hB
  obtain ⟨Av, cv, rfl, -, -⟩ := Kd.R_reads hv
  have HX : Aside0 (xs ++ pcs .nil = xs) := ⟨List.append_nil _⟩
  rw [HX.out]
  clear hv hB hn HX
  go_enter Try.func66, Try.ntmps66
  go_wp2
  go_ret
  exact ⟨_, rfl, HV.out, HB.out, RowTo.refl _ _⟩
 | node l r s n d ihl ihr =>
  intro A ok w0 w v xs hA hv hB hn
  have HA := Aside0.mk hA
  have HV := Aside0.mk hv
  have HB := Aside0.mk hB
  have HN := Aside0.mk hn
  obtain ⟨b, L, R, rfl, hb, hc, hl, hr⟩ := hA
  have HC := Aside0.mk hc
  have c0 : w.cell? ⟨b, 0, none⟩ = some (.pointer L) := (blk_cell hc 0).trans rfl
  have c1 : w.cell? ⟨b, 1, none⟩ = some (.pointer R) := (blk_cell hc 1).trans rfl
  have c2 : w.cell? ⟨b, 2, none⟩ = some (.string s) := (blk_cell hc 2).trans rfl
  have HL := Aside0.mk hl
  have HR := Aside0.mk hr
  obtain ⟨Av, cv, rfl, -, -⟩ := Kd.R_reads hv
  cases l with
  | nil =>
   obtain rfl : L = none := hl
   have HN1 : Aside0 (xs.length + 1 ≤ 100000000) := ⟨hn⟩
   have HX : Aside0 (xs ++ pcs (.node .nil r s n d) = xs ++ [s]) := ⟨rfl⟩
   rw [HX.out]
   clear hr hb hc hv hB hn ihl ihr HX HN
   go_enter Try.func66, Try.ntmps66
   go_wp2_with (first | (at_builtin; refine Kd.R_append Kd.string (w0 := w0) w0.heap.size rfl (.tmp 15) (.tmp 20) 44 9 (.string ⟨#[]⟩) 16 rfl Try.underlying44 info9 rfl (by decide) (by omega) (.slice Av xs.length cv) xs s [.string s] (fun _ => True) (fun _ => False) rfl (by first | (go_simp; done) | (go_simp; rfl)) ?aP (fun _ hk => hk.elim) (fun _ _ => trivial) ?aO ?aB ?aS ?aL ?_; (case aP => exact rfl); (case aO => exact HV.out); (case aB => exact HB.out); (case aS => exact HB.out.size); (case aL => have := HN1.out; omega); intro v1 w1 ho hb hg hat; obtain ⟨A1, c1, eo, -, -⟩ := Kd.R_reads ho; rw [List.length_append, List.length_singleton] at eo; subst eo; have HO := Aside0.mk ho; have HB1 := Aside0.mk hb; have HT : Aside0 (RowTo w w1 (.slice Av xs.length cv) (.slice A1 (xs.length + 1) c1)) := ⟨⟨Kept.of_grown hg (Kept.refl w _) (fun k hk => .inl hk.symm), hat⟩⟩; clear ho hb hg hat))
   go_ret
   exact ⟨_, rfl, HO.out, HB1.out, HT.out⟩
  | node l' r' s' n' d' =>
   have hl2 := hl
   obtain ⟨bl, L2, R2, rfl, -⟩ := hl2
   have HN1 : Aside0 (xs.length + (pcs (.node l' r' s' n' d')).length ≤ 100000000) := ⟨by have : pcs (.node (.node l' r' s' n' d') r s n d) = pcs (.node l' r' s' n' d') ++ pcs r := rfl; rw [this, List.length_append] at hn; omega⟩
   have HN2 : Aside0 ((xs ++ pcs (.node l' r' s' n' d')).length + (pcs r).length ≤ 100000000) := ⟨by have : pcs (.node (.node l' r' s' n' d') r s n d) = pcs (.node l' r' s' n' d') ++ pcs r := rfl; rw [this, List.length_append] at hn; rw [List.length_append]; omega⟩
   have HX : Aside0 (xs ++ pcs (.node (.node l' r' s' n' d') r s n d) = (xs ++ pcs (.node l' r' s' n' d')) ++ pcs r) := ⟨(List.append_assoc _ _ _).symm⟩
   rw [HX.out]
   clear hr hb hc hv hB hn hl HN HX
   generalize (Limb.node l' r' s' n' d') = l at *
   go_enter Try.func66, Try.ntmps66
   go_wp2
   go_region_held3 (fun w' => w'.cell? ⟨b, 0, none⟩ = some (.pointer (some ⟨bl, 0, none⟩)) ∧ w'.cell? ⟨b, 1, none⟩ = some (.pointer R)) (first | go_keep | exact HS1.out | exact HS2.out)
    (first | (go_at_call_of 66 (Value.pointer (some ⟨bl, 0, none⟩)); refine (ihl (some ⟨bl, 0, none⟩) ok w0 _ _ xs ?g1 ?g2 ?g3 HN1.out).mono ?_; (case g1 => (first | exact HL.out | exact HL.out.drewN _ | exact HL.out.drew)); (case g2 => (first | exact HV.out | exact Kd.R_drewN HV.out _ | exact Kd.R_drew HV.out)); (case g3 => (first | exact HB.out | exact pw_below_drewN HB.out _ | exact below_drew HB.out)); rintro e w1 ⟨v1, rfl, ho, hb, ht⟩; obtain ⟨A1, k1, eo, -, -⟩ := Kd.R_reads ho; rw [List.length_append] at eo; subst eo; have HV1 := Aside0.mk ho; have HB1 := Aside0.mk hb; have HT1 : Aside0 (RowTo w w1 (.slice Av xs.length cv) _) := ⟨ht⟩; have hc1 := blk_kept (W := w) HC.out HT1.out.1 (fun e => Kd.R_ne HV.out HC.out (by decide) e); have HS1 : Aside0 (w1.cell? ⟨b, 0, none⟩ = some (.pointer (some ⟨bl, 0, none⟩)) ∧ w1.cell? ⟨b, 1, none⟩ = some (.pointer R)) := ⟨⟨(blk_cell hc1 0).trans rfl, (blk_cell hc1 1).trans rfl⟩⟩; have HR1 := Aside0.mk (HR.out.rowTo HV.out (by decide) HT1.out); clear ho hb ht hc1) | (go_at_call_of 66 (Value.pointer R); refine (ihr R ok w0 _ _ (xs ++ pcs l) ?g1 ?g2 ?g3 HN2.out).mono ?_; (case g1 => (first | exact HR1.out | exact HR1.out.drewN _ | exact HR1.out.drew)); (case g2 => (first | exact HV1.out | exact Kd.R_drewN HV1.out _ | exact Kd.R_drew HV1.out)); (case g3 => (first | exact HB1.out | exact pw_below_drewN HB1.out _ | exact below_drew HB1.out)); rintro e w2 ⟨v2, rfl, ho, hb, ht⟩; obtain ⟨A2, k2, eo, -, -⟩ := Kd.R_reads ho; rw [List.length_append, List.length_append] at eo; subst eo; have HV2 := Aside0.mk ho; have HB2 := Aside0.mk hb; have HT2 : Aside0 (RowTo w1 w2 _ _) := ⟨ht⟩; have hc2 := blk_kept (W := w1) ((blk_kept (W := w) HC.out HT1.out.1 (fun e => Kd.R_ne HV.out HC.out (by decide) e))) HT2.out.1 (fun e => Kd.R_ne HV1.out ((blk_kept (W := w) HC.out HT1.out.1 (fun e => Kd.R_ne HV.out HC.out (by decide) e))) (by decide) e); have HS2 : Aside0 (w2.cell? ⟨b, 0, none⟩ = some (.pointer (some ⟨bl, 0, none⟩)) ∧ w2.cell? ⟨b, 1, none⟩ = some (.pointer R)) := ⟨⟨(blk_cell hc2 0).trans rfl, (blk_cell hc2 1).trans rfl⟩⟩; clear ho hb ht hc2))
   go_wp2
   go_ret
   exact ⟨_, rfl, HV2.out, HB2.out, HT1.out.trans HT2.out⟩

/-! ### impl_Rebalance: function 37, by hand -/
def impl_Rebalance.f (k : Nat) (l0_0 : List S58) : Option (List S58 × Bool) := (opnF k l0_0).bind fun p => if p.2 = true then (if (pcs p.1).length ≤ 100000000 then ropeF (bal (pcs p.1).length (pcs p.1)) else none) else some ([], false)
theorem impl_Rebalance.mono : ∀ a0 k, LeO (impl_Rebalance.f k a0) (impl_Rebalance.f (k + 1) a0) := fun a0 k => open_drop (fun _ => LeO.refl _)
set_option maxHeartbeats 1000000 in
theorem impl_Rebalance.calls (k : Nat) (A0_0 : Option Addr) (c0_0 : Nat) (l0_0 : List S58) (r1 : List S58) (r2 : Bool) (w : World) (hr0_0 : Kd.C k58 w A0_0 l0_0.length l0_0) (hc0_0 : l0_0.length ≤ c0_0) (h : impl_Rebalance.f k l0_0 = some (r1, r2)) :
  Calls Try.prog 37 #[.agg #[.slice A0_0 l0_0.length c0_0]] w fun e w' => ∃ v0_ : Value, e = .returned (.tuple #[.agg #[v0_], .bool r2]) ∧ Kd.R k58 58 w' w.heap.size (fun _ => True) v0_ r1 ∧ Below w.heap.size w w' := by
 obtain ⟨⟨t, b⟩, h1, h2⟩ := Option.bind_eq_some_iff.mp h
 have HO := Aside0.mk (fun (w' : World) (hC : Kd.C k58 w' A0_0 l0_0.length l0_0) => open_any k l0_0 A0_0 c0_0 t b w' hC hc0_0 h1)
 have HC := Aside0.mk hr0_0
 have HW : Aside0 (((w.alloc (.cells #[.slice A0_0 l0_0.length c0_0] 29)).alloc (.cells #[.slice none 0 0] 29)).heap[w.heap.size + 1]? = some (.cells #[.slice none 0 0] 29 (0, 0))) := ⟨by have := blk_new (w.alloc (.cells #[.slice A0_0 l0_0.length c0_0] 29)) (.cells #[.slice none 0 0] 29); simpa using this⟩
 have HWB : Aside0 (Below w.heap.size w ((w.alloc (.cells #[.slice A0_0 l0_0.length c0_0] 29)).alloc (.cells #[.slice none 0 0] 29))) := ⟨below_alloc (below_alloc (Below.refl _ _) _) _⟩
 clear h h1 hr0_0 hc0_0
 cases b with
 | false =>
  rw [if_neg (by simp)] at h2
  obtain ⟨rfl, rfl⟩ := Prod.mk.inj (Option.some.inj h2)
  clear h2
  go_enter Try.func37, Try.ntmps37
  go_wp2_with (first | (go_at_call 48; refine (HO.out _ (Kd.C_alloc (Kd.C_alloc HC.out _) _)).mono ?_; rintro e w1 ⟨P, rfl, hl, hb⟩; have HB := Aside0.mk hb; have HX3 := Aside0.mk (blk_below HW.out hb); have e0 : w1.cell? ⟨w.heap.size + 1, 0, none⟩ = some (.slice none 0 0) := (blk_cell HX3.out 0).trans rfl; have e1 := blk_frozen HX3.out 0; clear hl hb))
  refine bodyPost_ret (results_ct rfl _ _ (w.heap.size + 1) 29 #[.slice none 0 0] (0, 0) _ rfl (by exact blk_put (cs := #[.slice none 0 0]) HX3.out 0 _ rfl) Try.underlying29 rfl z0) rfl ?_
  exact ⟨_, rfl, Kd.R_nil _ _ _ _ _, below_set (below_step HWB.out HB.out) (by omega)⟩
 | true =>
  rw [if_pos rfl] at h2
  split at h2
  case isFalse => cases h2
  case isTrue hn =>
  have hn2 : (pcs t).length ≤ 100000000 := hn
  have HN : Aside0 (([] : List ByteArray).length + (pcs t).length ≤ 100000000) := ⟨by show 0 + _ ≤ _; omega⟩
  have HN2 := Aside0.mk hn2
  have HR : Aside0 (ropeF (bal (pcs t).length (pcs t)) = some (r1, r2)) := ⟨h2⟩
  clear h2 hn hn2
  go_enter Try.func37, Try.ntmps37
  go_wp2_with (first | (go_at_call 48; refine (HO.out _ (Kd.C_alloc (Kd.C_alloc HC.out _) _)).mono ?_; rintro e w1 ⟨P, rfl, hl, hb⟩; have HB1 : Aside0 (Below w.heap.size w w1) := ⟨below_step HWB.out hb⟩; have HL1 := Aside0.mk hl; have HX1 := Aside0.mk (blk_below HW.out hb); clear hl hb) | (go_at_call 66; refine (pieces_any t P _ w1 w1 _ [] HL1.out (Kd.R_nil _ _ _ _ _) (Below.refl _ _) HN.out).mono ?_; rintro e w2 ⟨v2, rfl, ho, hb, ht⟩; rw [List.nil_append] at ho; obtain ⟨A1, c1, rfl, HBA⟩ := balanced_row ho HN2.out; have HBL := Aside0.mk HBA; have HB2 := Aside0.mk hb; have HX2 := Aside0.mk (blk_below HX1.out hb); clear ho hb ht HBA) | (go_at_call 60; refine HBL.out.mono ?_; rintro e w3 ⟨P3, rfl, hl, hb⟩; have HL3 := Aside0.mk hl; have HB3 := Aside0.mk hb; have HX3 := Aside0.mk (blk_below HX2.out hb); clear hl hb) | (go_at_call 62; refine (rope_any _ P3 _ _ r1 r2 HL3.out HR.out).mono ?_; rintro e w4 ⟨v4, rfl, ho, hb⟩; obtain ⟨A4, c4, eo, -, -⟩ := Kd.R_reads ho; subst eo; have HO4 := Aside0.mk ho; have HB4 := Aside0.mk hb; have HX4 := Aside0.mk (blk_below HX3.out hb); have e0 : w4.cell? ⟨w.heap.size + 1, 0, none⟩ = some (.slice none 0 0) := (blk_cell HX4.out 0).trans rfl; have e1 := blk_frozen HX4.out 0; clear ho hb))
  refine bodyPost_ret (results_ct rfl _ _ (w.heap.size + 1) 29 #[.slice A4 r1.length c4] (0, 0) _ rfl (by exact blk_put (cs := #[.slice none 0 0]) HX4.out 0 _ rfl) Try.underlying29 rfl z0) rfl ?_
  have HBB : Below w.heap.size w w4 := below_step (below_step (below_step HB1.out HB2.out) HB3.out) HB4.out
  have HB23 : Below w.heap.size w w3 := below_step (below_step HB1.out HB2.out) HB3.out
  exact ⟨_, rfl, Kd.R_set (Kd.R_lower HO4.out HB23.size) HX4.out (by decide) 0 _, below_set HBB (by omega)⟩

end Go.Proofs.Ytmkenlejdaphnaa.AFnExactRebalance
