-- this session's own text: written by wip/tools/ownprint.py over the kit's print
import Derived.Test.YtmkenlejdaphnaaAFnExactSplitRopex0
import Derived.Test.YtmkenlejdaphnaaAFnExactSplitRopex8
import Derived.Test.YtmkenlejdaphnaaAFnExactSplitRopex9
namespace Go.Proofs.Ytmkenlejdaphnaa.AFnExactSplitRope
open Go.RowKit Go.Proofs.YtmkenlejdaphnaaW.PrintWords Go.Proofs.YtmkenlejdaphnaaW.PrintLast Go.Proofs.YtmkenlejdaphnaaW.PrintMore
attribute [local go_sem] max2_int min2_int max_two min_two max_three min_three max_four min_four   -- for this text's walks alone
set_option linter.unusedVariables false
set_option linter.unusedSimpArgs false

/-! ### impl_limb_split: function 71, by hand -/
/-- Both parts of a rope; none where Go would panic. -/
def spl : Limb → Int → Option (Limb × Limb)
 | .nil, _ => some (.nil, .nil)
 | .node l r s n d, at_ =>
  if at_ = 0 then some (.nil, .node l r s n d)
  else if at_ = n then some (.node l r s n d, .nil)
  else if l.isNil = true then (if 0 ≤ at_ ∧ at_ ≤ (s.size : Int) then some (lf (s.extract 0 at_.toNat), lf (s.extract at_.toNat s.size)) else none)
  else if at_ ≤ l.size then (spl l at_).bind fun p => some (p.1, fk p.2 r)
  else (spl r (wrap64 (at_ - l.size))).bind fun p => some (fk l p.1, p.2)
def SpAt (w : World) (ok : Nat → Prop) (p : Limb × Limb) (e : Ending) (w' : World) : Prop := ∃ A B, e = .returned (.tuple #[.pointer A, .pointer B]) ∧ LmAt w' ok p.1 A ∧ LmAt w' ok p.2 B ∧ Below w.heap.size w w'
set_option maxHeartbeats 4000000 in
set_option maxRecDepth 100000 in
theorem split_any (t : Limb) : ∀ (A : Option Addr) (at_ : Int) (ok : Nat → Prop) (w : World) (p : Limb × Limb), LmAt w ok t A → (∀ k, w.heap.size ≤ k → ok k) → spl t at_ = some p →
  Calls Try.prog 71 #[.pointer A, .int .i64 at_] w (SpAt w ok p) := by
 induction t with
 | nil =>
  intro A at_ ok w p hA hok h
  obtain rfl : A = none := hA
  obtain rfl := sI h
  clear h hok
  go_enter Try.func71, Try.ntmps71
  go_wp2
  go_ret2
  exact ⟨none, none, rfl, rfl, rfl, Below.refl _ _⟩
 | node l r s n d ihl ihr =>
  intro A at_ ok w p hA hok h
  have HA := aM hA
  have HK := aM hok
  obtain ⟨b, L, R, rfl, hb, hc, hl, hr⟩ := hA
  have HC := aM hc
  have HL := aM hl
  have HR := aM hr
  have c0 : w.cell? ⟨b, 0, none⟩ = some (.pointer L) := (bC hc 0).trans rfl
  have c1 : w.cell? ⟨b, 1, none⟩ = some (.pointer R) := (bC hc 1).trans rfl
  have c2 : w.cell? ⟨b, 2, none⟩ = some (.string s) := (bC hc 2).trans rfl
  have c3 : w.cell? ⟨b, 3, none⟩ = some (.int .i64 n) := (bC hc 3).trans rfl
  unfold spl at h
  by_cases h0 : at_ = 0
  ·rw [if_pos h0] at h
   obtain rfl := sI h
   have q0 : (at_ == 0) = true := qT h0
   clear h h0 hok hb hc hl hr ihl ihr
   go_enter Try.func71, Try.ntmps71
   go_wp2
   go_ret2
   exact ⟨none, _, rfl, rfl, HA.out, Below.refl _ _⟩
  rw [if_neg h0] at h
  have q0 : (at_ == 0) = false := qF h0
  by_cases h1 : at_ = n
  ·rw [if_pos h1] at h
   obtain rfl := sI h
   have q1 : (at_ == n) = true := qT h1
   clear h h0 h1 hok hb hc hl hr ihl ihr
   go_enter Try.func71, Try.ntmps71
   go_wp2
   go_ret2
   exact ⟨_, none, rfl, HA.out, rfl, Below.refl _ _⟩
  rw [if_neg h1] at h
  have q1 : (at_ == n) = false := qF h1
  cases l with
  | nil =>
   obtain rfl : L = none := hl
   rw [if_pos (show Limb.nil.isNil = true from rfl)] at h
   split at h
   case isFalse => cases h
   case isTrue hat =>
   obtain rfl := sI h
   obtain ⟨a0, a1⟩ := hat
   have z0 : (0 ≤ at_) = True := eq_true a0
   have z1 : (at_ ≤ (s.size : Int)) = True := eq_true a1
   clear h h0 h1 hok hb hc hr ihl ihr a0 a1
   go_enter Try.func71, Try.ntmps71
   go_wp2
   go_region_held3 (fun w' => w'.cell? ⟨b, 2, none⟩ = some (.string s)) (first | go_keep | exact HS1.out | exact HS2.out) (first | (go_at_call_of 78 (Value.string (s.extract 0 at_.toNat)); refine (leaf_any _ _).mono ?_; rintro e w1 ⟨P1, rfl, hl, hb⟩; have HL1 := aM hl; have HB1 := aM hb; have hc1 := ae (ap HC.out) hb; have HS1 : Aside0 (w1.cell? ⟨b, 2, none⟩ = some (.string s)) := ⟨(bC hc1 2).trans rfl⟩; clear hc1 hl hb) | (go_at_call 78; refine (leaf_any _ _).mono ?_; rintro e w2 ⟨P2, rfl, hl, hb⟩; have HL2 := aM hl; have HB2 := aM hb; have hc1 := ae (ae (ap HC.out) HB1.out) hb; have HS2 : Aside0 (w2.cell? ⟨b, 2, none⟩ = some (.string s)) := ⟨(bC hc1 2).trans rfl⟩; clear hc1 hl hb))
   go_wp2
   go_ret2
   exact ⟨P1, P2, rfl, (HL1.out.below HB2.out).mono HK.out, HL2.out.mono (fun k hk => HK.out k (by have h1 := HB1.out.size; simp at h1 hk; omega)), ay (ay (below_drew (Below.refl _ _)) HB1.out) HB2.out⟩
  | node l1 l2 l3 l4 l5 =>
   have hl2 := hl
   obtain ⟨bl, L2, R2, rfl, -, hcl, -, -⟩ := hl2
   have HCL := aM hcl
   have d3 : w.cell? ⟨bl, 3, none⟩ = some (.int .i64 l4) := (bC hcl 3).trans rfl
   rw [if_neg (show ¬ Limb.isNil (.node l1 l2 l3 l4 l5) = true by simp [Limb.isNil])] at h
   have hsz : Limb.size (.node l1 l2 l3 l4 l5) = l4 := rfl
   rw [hsz] at h
   clear hsz
   generalize (Limb.node l1 l2 l3 l4 l5) = l at *
   by_cases hle : at_ ≤ l4
   ·rw [if_pos hle] at h
    obtain ⟨⟨x, y⟩, h2, h3⟩ := oB h
    obtain rfl := sI h3
    have HI := aM (ihl (some ⟨bl, 0, none⟩) at_ ok w (x, y) hl hok h2)
    clear h h0 h1 hok hb hc hl hr ihl ihr h2 h3 hcl
    go_enter Try.func71, Try.ntmps71
    go_wp2_with (first | (go_at_call 71; refine HI.out.mono ?_; rintro e w1 ⟨P1, P2, rfl, hl, hr, hb⟩; have HL1 := aM hl; have my := aM hr; have HB1 := aM hb; have HRR := aM (HR.out.below hb); have gV := aM (ae HC.out hb); have e1 : w1.cell? ⟨b, 1, none⟩ = some (.pointer R) := (bC gV.out 1).trans rfl; clear hl hr hb) | (go_at_call 69; refine (fork_any _ _ P2 R ok _ my.out HRR.out ?g1).mono ?_; (case g1 => exact fun k hk => HK.out k (by have h1 := HB1.out.size; omega)); rintro e w2 ⟨P3, rfl, hl, hb⟩; have HL2 := aM hl; have HB2 := aM hb; clear hl hb))
    go_ret2
    exact ⟨P1, P3, rfl, HL1.out.below HB2.out, HL2.out, ay HB1.out HB2.out⟩
   ·rw [if_neg hle] at h
    obtain ⟨⟨x, y⟩, h2, h3⟩ := oB h
    obtain rfl := sI h3
    obtain ⟨j, hj⟩ : ∃ j, wrap64 (at_ - l4) = j := ⟨_, rfl⟩
    rw [hj] at h2
    have hjw : IntKind.i64.wrap (at_ - l4) = j := (i64_w _).trans hj
    have HI : Aside0 (∀ w', LmAt w' ok r R → (∀ k, w'.heap.size ≤ k → ok k) → Calls Try.prog 71 #[.pointer R, .int .i64 j] w' (SpAt w' ok (x, y))) := ⟨fun w' ha hb => ihr R j ok w' (x, y) ha hb h2⟩
    clear h h0 h1 hok hb hc hr ihl ihr h2 h3 hcl hj hl
    go_enter Try.func71, Try.ntmps71
    go_wp2
    go_region_held3 (fun w' => w'.cell? ⟨b, 0, none⟩ = some (.pointer (some ⟨bl, 0, none⟩)) ∧ w'.cell? ⟨b, 1, none⟩ = some (.pointer R) ∧ w'.cell? ⟨bl, 3, none⟩ = some (.int .i64 l4)) (first | go_keep | exact HS1.out) (first | (go_at_call 71; refine (HI.out _ ?g1 ?g2).mono ?_; (case g1 => first | exact HR.out.drew | exact HR.out.drewN _ | exact HR.out); (case g2 => exact HK.out); rintro e w1 ⟨P1, P2, rfl, hl, hr, hb⟩; have HL1 := aM hl; have my := aM hr; have HB1 := aM hb; have HLL := aM (HL.out.drew.below hb); have gV := aM (ae (ap HC.out) hb); have HS1 : Aside0 (w1.cell? ⟨b, 0, none⟩ = some (.pointer (some ⟨bl, 0, none⟩)) ∧ w1.cell? ⟨b, 1, none⟩ = some (.pointer R) ∧ w1.cell? ⟨bl, 3, none⟩ = some (.int .i64 l4)) := ⟨⟨(bC gV.out 0).trans rfl, (bC gV.out 1).trans rfl, (bC (ae (ap HCL.out) hb) 3).trans rfl⟩⟩; clear hl hr hb))
    go_wp2_with (first | (go_at_call 69; refine (fork_any _ _ (some ⟨bl, 0, none⟩) P1 ok _ HLL.out HL1.out ?g1).mono ?_; (case g1 => exact fun k hk => HK.out k (by have h1 := HB1.out.size; simp at h1; omega)); rintro e w2 ⟨P3, rfl, hl, hb⟩; have HL2 := aM hl; have HB2 := aM hb; clear hl hb))
    go_ret2
    exact ⟨P3, P2, rfl, HL2.out, my.out.below HB2.out, ay (ay (below_drew (Below.refl _ _)) HB1.out) HB2.out⟩

/-! ### impl_SplitRope: function 39, by hand -/
def impl_SplitRope.f (k : Nat) (l0_0 : List S58) (a1 : Int) : Option (List S58 × List S58 × Bool) := (opnF k l0_0).bind fun p => if p.2 = true then (if a1 < 0 then some ([], [], false) else (if p.1.isNil = true then (if 0 < a1 then some ([], [], false) else some ([], [], true)) else (if p.1.size < a1 then some ([], [], false) else
 (spl p.1 a1).bind fun q => (ropeF q.1).bind fun x => (ropeF q.2).bind fun y => if x.2 = true then (if y.2 = true then some (x.1, y.1, true) else some ([], [], false)) else some ([], [], false)))) else some ([], [], false)
theorem impl_SplitRope.mono : ∀ a0 a1 k, LeO (impl_SplitRope.f k a0 a1) (impl_SplitRope.f (k + 1) a0 a1) := fun a0 a1 k => open_drop (fun _ => LeO.refl _)
/-- What SplitRope leaves. -/
def SpPost (w : World) (r1 r2 : List S58) (r3 : Bool) (e : Ending) (w' : World) : Prop := ∃ v0_ v1_ : Value, e = .returned (.tuple #[.agg #[v0_], .agg #[v1_], .bool r3]) ∧ Kd.R k58 58 w' w.heap.size (fun k_ => some k_ ≠ (v1_ : Value).ownBlock) v0_ r1 ∧ Kd.R k58 58 w' w.heap.size (fun k_ => some k_ ≠ (v0_ : Value).ownBlock) v1_ r2 ∧ Below w.heap.size w w'
theorem sp_nil (w w' : World) (h : Below w.heap.size w w') : SpPost w [] [] false (.returned (.tuple #[.agg #[.slice none 0 0], .agg #[.slice none 0 0], .bool false])) w' := ⟨_, _, rfl, Kd.R_nil _ _ _ _ _, Kd.R_nil _ _ _ _ _, h⟩
theorem sp_nil' (w w' : World) (h : Below w.heap.size w w') : SpPost w [] [] true (.returned (.tuple #[.agg #[.slice none 0 0], .agg #[.slice none 0 0], .bool true])) w' := ⟨_, _, rfl, Kd.R_nil _ _ _ _ _, Kd.R_nil _ _ _ _ _, h⟩
set_option maxHeartbeats 4000000 in
set_option maxRecDepth 100000 in
theorem split_rope_any (k : Nat) (bu : Option Addr) (bx : Nat) (l0_0 : List S58) (a1 : Int) (r1 : List S58) (r2 : List S58) (r3 : Bool) (w : World) (hr0_0 : Kd.C k58 w bu l0_0.length l0_0) (hc0_0 : l0_0.length ≤ bx) (h : impl_SplitRope.f k l0_0 a1 = some (r1, r2, r3)) :
  Calls Try.prog 39 #[.agg #[.slice bu l0_0.length bx], .int .i64 a1] w (SpPost w r1 r2 r3) := by
 obtain ⟨⟨t, b⟩, h1, h2⟩ := oB h
 have HO := aM (fun (w' : World) (hC : Kd.C k58 w' bu l0_0.length l0_0) => open_any k l0_0 bu bx t b w' hC hc0_0 h1)
 obtain ⟨W3, hW3⟩ : ∃ W3, ((w.alloc (.cells #[.slice bu l0_0.length bx] 29)).alloc (.cells #[.slice none 0 0] 29)).alloc (.cells #[.slice none 0 0] 29) = W3 := ⟨_, rfl⟩
 have HWB : Aside0 (Below w.heap.size w W3) := ⟨by rw [← hW3]; exact bA (bA (bA (Below.refl _ _) _) _) _⟩
 have HW2 : Aside0 (W3.heap[w.heap.size + 1 + 1]? = some (.cells #[.slice none 0 0] 29 (0, 0))) := ⟨by rw [← hW3]; have := blk_new ((w.alloc (.cells #[.slice bu l0_0.length bx] 29)).alloc (.cells #[.slice none 0 0] 29)) (.cells #[.slice none 0 0] 29); simpa using this⟩
 have HW1 : Aside0 (W3.heap[w.heap.size + 1]? = some (.cells #[.slice none 0 0] 29 (0, 0))) := ⟨by rw [← hW3]; have := ar (blk_new (w.alloc (.cells #[.slice bu l0_0.length bx] 29)) (.cells #[.slice none 0 0] 29)) (.cells #[.slice none 0 0] 29); simpa using this⟩
 have g6 := aM (aD hr0_0 HWB.out)
 have HWE := aM hW3
 clear h h1 hr0_0 hc0_0 hW3
 cases b with
 | false =>
  rw [if_neg (by simp)] at h2
  obtain ⟨rfl, h3⟩ := Prod.mk.inj (sI h2)
  obtain ⟨rfl, rfl⟩ := Prod.mk.inj h3
  clear h2 h3 
  go_enter Try.func39, Try.ntmps39
  go_wp2_with (first | (go_at_call 48; (try rw [HWE.out]); refine (HO.out _ g6.out).mono ?_; rintro e w1 ⟨P, rfl, hl, hb⟩; have HB1 := aM hb; have HX1 := aM (ae HW1.out hb); have HY1 := aM (ae HW2.out hb); have e1 : w1.cell? ⟨w.heap.size + 1, 0, none⟩ = some (.slice none 0 0) := (bC HX1.out 0).trans rfl; have e2 : w1.cell? ⟨w.heap.size + 1 + 1, 0, none⟩ = some (.slice none 0 0) := (bC HY1.out 0).trans rfl; have f1 := bF HX1.out 0; have f2 := bF HY1.out 0;  clear hl hb))
  refine aT (results_list (rs := [.cell 4 29, .cell 5 29, .tmp 6]) rfl (by simp) (.cell (w.heap.size + 1) 29 #[.slice none 0 0] (0, 0) _ rfl (by exact au (av (cs := #[.slice none 0 0]) HX1.out 0 _ rfl) (by simp) _) Try.underlying29 rfl z1 (.cell (w.heap.size + 1 + 1) 29 #[.slice none 0 0] (0, 0) _ rfl (by exact av (cs := #[.slice none 0 0]) (au HY1.out (by simp) _) 0 _ rfl) Try.underlying29 rfl z1 (.tmp .nil)))) rfl ?_
  exact sp_nil _ _ (ax (ax (ay HWB.out HB1.out) (by omega)) (by omega))
 | true =>
  rw [if_pos rfl] at h2
  by_cases n1 : a1 < 0
  ·rw [if_pos n1] at h2
   have m1 : decide (a1 < 0) = true := dT n1
   obtain ⟨rfl, h3⟩ := Prod.mk.inj (sI h2)
   obtain ⟨rfl, rfl⟩ := Prod.mk.inj h3
   clear h2 h3 n1
   go_enter Try.func39, Try.ntmps39
   go_wp2_with (first | (go_at_call 48; (try rw [HWE.out]); refine (HO.out _ g6.out).mono ?_; rintro e w1 ⟨P, rfl, hl, hb⟩; have HB1 := aM hb; have HX1 := aM (ae HW1.out hb); have HY1 := aM (ae HW2.out hb); have e1 : w1.cell? ⟨w.heap.size + 1, 0, none⟩ = some (.slice none 0 0) := (bC HX1.out 0).trans rfl; have e2 : w1.cell? ⟨w.heap.size + 1 + 1, 0, none⟩ = some (.slice none 0 0) := (bC HY1.out 0).trans rfl; have f1 := bF HX1.out 0; have f2 := bF HY1.out 0;  clear hl hb))
   refine aT (results_list (rs := [.cell 4 29, .cell 5 29, .tmp 6]) rfl (by simp) (.cell (w.heap.size + 1) 29 #[.slice none 0 0] (0, 0) _ rfl (by exact au (av (cs := #[.slice none 0 0]) HX1.out 0 _ rfl) (by simp) _) Try.underlying29 rfl z1 (.cell (w.heap.size + 1 + 1) 29 #[.slice none 0 0] (0, 0) _ rfl (by exact av (cs := #[.slice none 0 0]) (au HY1.out (by simp) _) 0 _ rfl) Try.underlying29 rfl z1 (.tmp .nil)))) rfl ?_
   exact sp_nil _ _ (ax (ax (ay HWB.out HB1.out) (by omega)) (by omega))
  rw [if_neg n1] at h2
  have m1 : decide (a1 < 0) = false := dF n1
  cases t with
  | nil =>
   rw [if_pos (show Limb.isNil .nil = true from rfl)] at h2
   by_cases n2 : 0 < a1
   ·rw [if_pos n2] at h2
    have m2 : decide (0 < a1) = true := dT n2
    obtain ⟨rfl, h3⟩ := Prod.mk.inj (sI h2)
    obtain ⟨rfl, rfl⟩ := Prod.mk.inj h3
    clear h2 h3 n1 n2
    go_enter Try.func39, Try.ntmps39
    go_wp2_with (first | (go_at_call 48; (try rw [HWE.out]); refine (HO.out _ g6.out).mono ?_; rintro e w1 ⟨P, rfl, hl, hb⟩; have HB1 := aM hb; have HX1 := aM (ae HW1.out hb); have HY1 := aM (ae HW2.out hb); have e1 : w1.cell? ⟨w.heap.size + 1, 0, none⟩ = some (.slice none 0 0) := (bC HX1.out 0).trans rfl; have e2 : w1.cell? ⟨w.heap.size + 1 + 1, 0, none⟩ = some (.slice none 0 0) := (bC HY1.out 0).trans rfl; have f1 := bF HX1.out 0; have f2 := bF HY1.out 0; have hpn : P = none := hl; subst hpn; clear hl hb))
    refine aT (results_list (rs := [.cell 4 29, .cell 5 29, .tmp 6]) rfl (by simp) (.cell (w.heap.size + 1) 29 #[.slice none 0 0] (0, 0) _ rfl (by exact au (av (cs := #[.slice none 0 0]) HX1.out 0 _ rfl) (by simp) _) Try.underlying29 rfl z1 (.cell (w.heap.size + 1 + 1) 29 #[.slice none 0 0] (0, 0) _ rfl (by exact av (cs := #[.slice none 0 0]) (au HY1.out (by simp) _) 0 _ rfl) Try.underlying29 rfl z1 (.tmp .nil)))) rfl ?_
    exact sp_nil _ _ (ax (ax (ay HWB.out HB1.out) (by omega)) (by omega))
   ·rw [if_neg n2] at h2
    have m2 : decide (0 < a1) = false := dF n2
    obtain rfl : a1 = 0 := by omega
    obtain ⟨x1, hx1⟩ : ∃ x : List S58, x = [] := ⟨_, rfl⟩
    obtain ⟨y1, hy1⟩ : ∃ x : List S58, x = [] := ⟨_, rfl⟩
    obtain ⟨q1, hq1⟩ : ∃ x : Limb, x = .nil := ⟨_, rfl⟩
    obtain ⟨q2, hq2⟩ : ∃ x : Limb, x = .nil := ⟨_, rfl⟩
    have HS : Aside0 (spl .nil 0 = some (q1, q2)) := ⟨by rw [hq1, hq2]; rfl⟩
    have my : Aside0 (ropeF q1 = some (x1, true)) := ⟨by rw [hq1, hx1]; rfl⟩
    have mQ : Aside0 (ropeF q2 = some (y1, true)) := ⟨by rw [hq2, hy1]; rfl⟩
    obtain ⟨rfl, rfl, rfl⟩ := show x1 = r1 ∧ y1 = r2 ∧ r3 = true from by have := h2; simp at this; exact ⟨hx1.trans this.1.symm, hy1.trans this.2.1.symm, this.2.2⟩
    clear h2 n1 n2 m2 hx1 hy1 hq1 hq2
    have m2 : decide ((0 : Int) < 0) = false := rfl
    go_enter Try.func39, Try.ntmps39
    go_wp2_with (first | (go_at_call 48; (try rw [HWE.out]); refine (HO.out _ g6.out).mono ?_; rintro e w1 ⟨P, rfl, hl, hb⟩; have HB1 := aM hb; have HX1 := aM (ae HW1.out hb); have HY1 := aM (ae HW2.out hb); have HL1 := aM hl; have hpn : P = none := hl; subst hpn; clear hl hb) | (go_at_call 71; refine (split_any _ _ 0 (fun _ => True) w1 (q1, q2) (HL1.out.mono (fun _ _ => trivial)) (fun _ _ => trivial) HS.out).mono ?_; rintro e w2 ⟨Pa, Pb, rfl, hl, hr, hb⟩; have HB2 := aM hb; have HX2 := aM (ae HX1.out hb); have HY2 := aM (ae HY1.out hb); have HLa := aM hl; have HLb := aM hr; clear hl hr hb) | (go_at_call_of 62 (Value.pointer Pa); refine (rope_any q1 Pa _ w2 _ _ HLa.out my.out).mono ?_; rintro e w3 ⟨v3, rfl, ho, hb⟩; obtain ⟨A3, c3, eo, -, -⟩ := Kd.R_reads ho; subst eo; have fa := aM ho; have HB3 := aM hb; have HX3 := aM (ae HX2.out hb); have HY3 := aM (ae HY2.out hb); have HLb3 := aM (HLb.out.below hb); clear ho hb) | (go_at_call_of 62 (Value.pointer Pb); refine (rope_any q2 Pb _ _ _ _ (HLb3.out.alloc _) mQ.out).mono ?_; rintro e w4 ⟨v4, rfl, ho, hb⟩; obtain ⟨A4, c4, eo, -, -⟩ := Kd.R_reads ho; subst eo; have eW := aM ho; have HB4 := aM hb; have HX4 := aM (ae (ar HX3.out _) hb); have HY4 := aM (ae (ar HY3.out _) hb); have HZ4 := aM (ae (blk_new w3 (.cells #[.slice A3 x1.length c3] 29)) hb); have e1 : ∀ o, (w4.alloc o).cell? ⟨w.heap.size + 1, 0, none⟩ = some (.slice none 0 0) := fun o => (bC (ar HX4.out o) 0).trans rfl; have e2 : ∀ o, (w4.alloc o).cell? ⟨w.heap.size + 1 + 1, 0, none⟩ = some (.slice none 0 0) := fun o => (bC (ar HY4.out o) 0).trans rfl; have e3 : ∀ o, (w4.alloc o).cell? ⟨w3.heap.size, 0, none⟩ = some (.slice A3 x1.length c3) := fun o => (bC (ar HZ4.out o) 0).trans rfl; have f1 : ∀ o, (w4.alloc o).frozen? ⟨w.heap.size + 1, 0, none⟩ = false := fun o => bF (ar HX4.out o) 0; have f2 : ∀ o, (w4.alloc o).frozen? ⟨w.heap.size + 1 + 1, 0, none⟩ = false := fun o => bF (ar HY4.out o) 0; clear ho hb))
    have HBB : Aside0 (Below w.heap.size w w4) := ⟨ay (ay (ay (ay HWB.out HB1.out) HB2.out) HB3.out |> fun h => bA h _) HB4.out⟩
    have hsz : w.heap.size + 3 ≤ w3.heap.size ∧ w3.heap.size < w4.heap.size := by
     have g0 : W3.heap.size = w.heap.size + 3 := by rw [← HWE.out]; simp
     have g1 := HB1.out.size
     have g2 := HB2.out.size
     have g3 := HB3.out.size
     have g4 := HB4.out.size
     simp at g4
     omega
    have u1 : ¬ w.heap.size + 1 = w4.heap.size := by omega
    have u2 : ¬ w4.heap.size = w.heap.size + 1 := by omega
    have u3 : ¬ w.heap.size + 1 + 1 = w4.heap.size := by omega
    have u4 : ¬ w4.heap.size = w.heap.size + 1 + 1 := by omega
    have u5 : ¬ w.heap.size + 1 = w3.heap.size := by omega
    have u6 : ¬ w3.heap.size = w.heap.size + 1 := by omega
    have u7 : ¬ w.heap.size + 1 + 1 = w3.heap.size := by omega
    have u8 : ¬ w3.heap.size = w.heap.size + 1 + 1 := by omega
    have HSZ := aM hsz
    clear hsz
    go_region
    go_wp2
    refine aT (results_list (rs := [.cell 4 29, .cell 5 29, .tmp 6]) rfl (by simp) (.cell (w.heap.size + 1) 29 #[.slice A3 x1.length c3] (0, 0) _ rfl (by exact ap (au (av (cs := #[.slice none 0 0]) (ar HX4.out _) 0 _ rfl) (by simp) _)) Try.underlying29 rfl z1 (.cell (w.heap.size + 1 + 1) 29 #[.slice A4 y1.length c4] (0, 0) _ rfl (by exact ap (av (cs := #[.slice none 0 0]) (au (ar HY4.out _) (by simp) _) 0 _ rfl)) Try.underlying29 rfl z1 (.tmp .nil)))) rfl ?_
    have g4 := HB4.out
    have k0 := Kd.R_elder (ac fa.out (.cells #[.slice A3 x1.length c3] 29)) eW.out g4
    have k1 := Kd.R_newR eW.out (ac fa.out (.cells #[.slice A3 x1.length c3] 29))
    have b1 := ar HX4.out (.cells #[.slice A4 y1.length c4] 29)
    have b2 := au (p := ⟨w.heap.size + 1, 0, none⟩) (ar HY4.out (.cells #[.slice A4 y1.length c4] 29)) (by simp) (.slice A3 x1.length c3)
    have HB12 : Below w.heap.size w w2 := ay (ay HWB.out HB1.out) HB2.out
    have s0 := aa (Kd.R_set (Kd.R_set (ac (aU k0 HB12.size) (.cells #[.slice A4 y1.length c4] 29)) b1 z0 0 (.slice A3 x1.length c3)) b2 z0 0 (.slice A4 y1.length c4))
    have s1 := aa (Kd.R_set (Kd.R_set (ac (aU k1 (base' := w.heap.size) (by have := HSZ.out; simp; omega)) (.cells #[.slice A4 y1.length c4] 29)) b1 z0 0 (.slice A3 x1.length c3)) b2 z0 0 (.slice A4 y1.length c4))
    exact ⟨_, _, rfl, ag s0 (fun _ hk => hk.2), ag s1 (fun _ hk => hk.2), below_drew (ax (ax (bA HBB.out _) (by omega)) (by omega))⟩
  | node xl xr xs xn xd =>
   rw [if_neg (show ¬ Limb.isNil (.node xl xr xs xn xd) = true by simp [Limb.isNil])] at h2
   by_cases n2 : xn < a1
   ·rw [if_pos (show Limb.size (.node xl xr xs xn xd) < a1 from n2)] at h2
    have m2 : decide (xn < a1) = true := dT n2
    obtain ⟨rfl, h3⟩ := Prod.mk.inj (sI h2)
    obtain ⟨rfl, rfl⟩ := Prod.mk.inj h3
    clear h2 h3 n1 n2
    go_enter Try.func39, Try.ntmps39
    go_wp2_with (first | (go_at_call 48; (try rw [HWE.out]); refine (HO.out _ g6.out).mono ?_; rintro e w1 ⟨P, rfl, hl, hb⟩; have HB1 := aM hb; have HX1 := aM (ae HW1.out hb); have HY1 := aM (ae HW2.out hb); have e1 : w1.cell? ⟨w.heap.size + 1, 0, none⟩ = some (.slice none 0 0) := (bC HX1.out 0).trans rfl; have e2 : w1.cell? ⟨w.heap.size + 1 + 1, 0, none⟩ = some (.slice none 0 0) := (bC HY1.out 0).trans rfl; have f1 := bF HX1.out 0; have f2 := bF HY1.out 0; obtain ⟨bp, Lp, Rp, rfl, -, hcp, -, -⟩ := id hl; have z3 : w1.cell? ⟨bp, 3, none⟩ = some (.int .i64 xn) := (bC hcp 3).trans rfl; clear hcp;  clear hl hb))
    refine aT (results_list (rs := [.cell 4 29, .cell 5 29, .tmp 6]) rfl (by simp) (.cell (w.heap.size + 1) 29 #[.slice none 0 0] (0, 0) _ rfl (by exact au (av (cs := #[.slice none 0 0]) HX1.out 0 _ rfl) (by simp) _) Try.underlying29 rfl z1 (.cell (w.heap.size + 1 + 1) 29 #[.slice none 0 0] (0, 0) _ rfl (by exact av (cs := #[.slice none 0 0]) (au HY1.out (by simp) _) 0 _ rfl) Try.underlying29 rfl z1 (.tmp .nil)))) rfl ?_
    exact sp_nil _ _ (ax (ax (ay HWB.out HB1.out) (by omega)) (by omega))
   rw [if_neg (show ¬ Limb.size (.node xl xr xs xn xd) < a1 from n2)] at h2
   have m2 : decide (xn < a1) = false := dF n2
   obtain ⟨⟨q1, q2⟩, hs, h3⟩ := oB h2
   obtain ⟨⟨x1, x2⟩, hx, h4⟩ := oB h3
   obtain ⟨⟨y1, y2⟩, hy, h5⟩ := oB h4
   have HS := aM hs
   have my := aM hx
   have mQ := aM hy
   have H5 := aM h5
   clear h2 h3 h4 h5 hs hx hy n1 n2
   cases x2 with
   | false =>
    obtain ⟨rfl, rfl, rfl⟩ := show r1 = [] ∧ r2 = [] ∧ r3 = false from by simpa using H5.out
    clear H5
    go_enter Try.func39, Try.ntmps39
    go_wp2_with (first | (go_at_call 48; (try rw [HWE.out]); refine (HO.out _ g6.out).mono ?_; rintro e w1 ⟨P, rfl, hl, hb⟩; have HB1 := aM hb; have HX1 := aM (ae HW1.out hb); have HY1 := aM (ae HW2.out hb); have HL1 := aM hl; obtain ⟨bp, Lp, Rp, rfl, -, hcp, -, -⟩ := id hl; have z3 : w1.cell? ⟨bp, 3, none⟩ = some (.int .i64 xn) := (bC hcp 3).trans rfl; clear hcp; clear hl hb) | (go_at_call 71; refine (split_any _ _ a1 (fun _ => True) w1 (q1, q2) (HL1.out.mono (fun _ _ => trivial)) (fun _ _ => trivial) HS.out).mono ?_; rintro e w2 ⟨Pa, Pb, rfl, hl, hr, hb⟩; have HB2 := aM hb; have HX2 := aM (ae HX1.out hb); have HY2 := aM (ae HY1.out hb); have HLa := aM hl; have HLb := aM hr; clear hl hr hb) | (go_at_call_of 62 (Value.pointer Pa); refine (rope_any q1 Pa _ w2 _ _ HLa.out my.out).mono ?_; rintro e w3 ⟨v3, rfl, ho, hb⟩; obtain ⟨A3, c3, eo, -, -⟩ := Kd.R_reads ho; subst eo; have fa := aM ho; have HB3 := aM hb; have HX3 := aM (ae HX2.out hb); have HY3 := aM (ae HY2.out hb); have HLb3 := aM (HLb.out.below hb); clear ho hb) | (go_at_call_of 62 (Value.pointer Pb); refine (rope_any q2 Pb _ _ _ _ (HLb3.out.alloc _) mQ.out).mono ?_; rintro e w4 ⟨v4, rfl, ho, hb⟩; obtain ⟨A4, c4, eo, -, -⟩ := Kd.R_reads ho; subst eo; have eW := aM ho; have HB4 := aM hb; have HX4 := aM (ae (ar HX3.out _) hb); have HY4 := aM (ae (ar HY3.out _) hb); have HZ4 := aM (ae (blk_new w3 (.cells #[.slice A3 x1.length c3] 29)) hb); have e1 : ∀ o, (w4.alloc o).cell? ⟨w.heap.size + 1, 0, none⟩ = some (.slice none 0 0) := fun o => (bC (ar HX4.out o) 0).trans rfl; have e2 : ∀ o, (w4.alloc o).cell? ⟨w.heap.size + 1 + 1, 0, none⟩ = some (.slice none 0 0) := fun o => (bC (ar HY4.out o) 0).trans rfl; have e3 : ∀ o, (w4.alloc o).cell? ⟨w3.heap.size, 0, none⟩ = some (.slice A3 x1.length c3) := fun o => (bC (ar HZ4.out o) 0).trans rfl; have f1 : ∀ o, (w4.alloc o).frozen? ⟨w.heap.size + 1, 0, none⟩ = false := fun o => bF (ar HX4.out o) 0; have f2 : ∀ o, (w4.alloc o).frozen? ⟨w.heap.size + 1 + 1, 0, none⟩ = false := fun o => bF (ar HY4.out o) 0; clear ho hb))
    have HBB : Aside0 (Below w.heap.size w w4) := ⟨ay (ay (ay (ay HWB.out HB1.out) HB2.out) HB3.out |> fun h => bA h _) HB4.out⟩
    refine aT (results_list (rs := [.cell 4 29, .cell 5 29, .tmp 6]) rfl (by simp) (.cell (w.heap.size + 1) 29 #[.slice none 0 0] (0, 0) _ rfl (by exact au (av (cs := #[.slice none 0 0]) (ar HX4.out _) 0 _ rfl) (by simp) _) Try.underlying29 rfl z1 (.cell (w.heap.size + 1 + 1) 29 #[.slice none 0 0] (0, 0) _ rfl (by exact av (cs := #[.slice none 0 0]) (au (ar HY4.out _) (by simp) _) 0 _ rfl) Try.underlying29 rfl z1 (.tmp .nil)))) rfl ?_
    exact sp_nil _ _ (ax (ax (bA HBB.out _) (by omega)) (by omega))
   | true =>
   cases y2 with
   | false =>
    obtain ⟨rfl, rfl, rfl⟩ := show r1 = [] ∧ r2 = [] ∧ r3 = false from by simpa using H5.out
    clear H5
    go_enter Try.func39, Try.ntmps39
    go_wp2_with (first | (go_at_call 48; (try rw [HWE.out]); refine (HO.out _ g6.out).mono ?_; rintro e w1 ⟨P, rfl, hl, hb⟩; have HB1 := aM hb; have HX1 := aM (ae HW1.out hb); have HY1 := aM (ae HW2.out hb); have HL1 := aM hl; obtain ⟨bp, Lp, Rp, rfl, -, hcp, -, -⟩ := id hl; have z3 : w1.cell? ⟨bp, 3, none⟩ = some (.int .i64 xn) := (bC hcp 3).trans rfl; clear hcp; clear hl hb) | (go_at_call 71; refine (split_any _ _ a1 (fun _ => True) w1 (q1, q2) (HL1.out.mono (fun _ _ => trivial)) (fun _ _ => trivial) HS.out).mono ?_; rintro e w2 ⟨Pa, Pb, rfl, hl, hr, hb⟩; have HB2 := aM hb; have HX2 := aM (ae HX1.out hb); have HY2 := aM (ae HY1.out hb); have HLa := aM hl; have HLb := aM hr; clear hl hr hb) | (go_at_call_of 62 (Value.pointer Pa); refine (rope_any q1 Pa _ w2 _ _ HLa.out my.out).mono ?_; rintro e w3 ⟨v3, rfl, ho, hb⟩; obtain ⟨A3, c3, eo, -, -⟩ := Kd.R_reads ho; subst eo; have fa := aM ho; have HB3 := aM hb; have HX3 := aM (ae HX2.out hb); have HY3 := aM (ae HY2.out hb); have HLb3 := aM (HLb.out.below hb); clear ho hb) | (go_at_call_of 62 (Value.pointer Pb); refine (rope_any q2 Pb _ _ _ _ (HLb3.out.alloc _) mQ.out).mono ?_; rintro e w4 ⟨v4, rfl, ho, hb⟩; obtain ⟨A4, c4, eo, -, -⟩ := Kd.R_reads ho; subst eo; have eW := aM ho; have HB4 := aM hb; have HX4 := aM (ae (ar HX3.out _) hb); have HY4 := aM (ae (ar HY3.out _) hb); have HZ4 := aM (ae (blk_new w3 (.cells #[.slice A3 x1.length c3] 29)) hb); have e1 : ∀ o, (w4.alloc o).cell? ⟨w.heap.size + 1, 0, none⟩ = some (.slice none 0 0) := fun o => (bC (ar HX4.out o) 0).trans rfl; have e2 : ∀ o, (w4.alloc o).cell? ⟨w.heap.size + 1 + 1, 0, none⟩ = some (.slice none 0 0) := fun o => (bC (ar HY4.out o) 0).trans rfl; have e3 : ∀ o, (w4.alloc o).cell? ⟨w3.heap.size, 0, none⟩ = some (.slice A3 x1.length c3) := fun o => (bC (ar HZ4.out o) 0).trans rfl; have f1 : ∀ o, (w4.alloc o).frozen? ⟨w.heap.size + 1, 0, none⟩ = false := fun o => bF (ar HX4.out o) 0; have f2 : ∀ o, (w4.alloc o).frozen? ⟨w.heap.size + 1 + 1, 0, none⟩ = false := fun o => bF (ar HY4.out o) 0; clear ho hb))
    have HBB : Aside0 (Below w.heap.size w w4) := ⟨ay (ay (ay (ay HWB.out HB1.out) HB2.out) HB3.out |> fun h => bA h _) HB4.out⟩
    refine aT (results_list (rs := [.cell 4 29, .cell 5 29, .tmp 6]) rfl (by simp) (.cell (w.heap.size + 1) 29 #[.slice none 0 0] (0, 0) _ rfl (by exact au (av (cs := #[.slice none 0 0]) (ar HX4.out _) 0 _ rfl) (by simp) _) Try.underlying29 rfl z1 (.cell (w.heap.size + 1 + 1) 29 #[.slice none 0 0] (0, 0) _ rfl (by exact av (cs := #[.slice none 0 0]) (au (ar HY4.out _) (by simp) _) 0 _ rfl) Try.underlying29 rfl z1 (.tmp .nil)))) rfl ?_
    exact sp_nil _ _ (ax (ax (bA HBB.out _) (by omega)) (by omega))
   | true =>
    obtain ⟨rfl, rfl, rfl⟩ := show x1 = r1 ∧ y1 = r2 ∧ r3 = true from by have := H5.out; simp at this; exact ⟨this.1, this.2.1, this.2.2⟩
    clear H5
    go_enter Try.func39, Try.ntmps39
    go_wp2_with (first | (go_at_call 48; (try rw [HWE.out]); refine (HO.out _ g6.out).mono ?_; rintro e w1 ⟨P, rfl, hl, hb⟩; have HB1 := aM hb; have HX1 := aM (ae HW1.out hb); have HY1 := aM (ae HW2.out hb); have HL1 := aM hl; obtain ⟨bp, Lp, Rp, rfl, -, hcp, -, -⟩ := id hl; have z3 : w1.cell? ⟨bp, 3, none⟩ = some (.int .i64 xn) := (bC hcp 3).trans rfl; clear hcp; clear hl hb) | (go_at_call 71; refine (split_any _ _ a1 (fun _ => True) w1 (q1, q2) (HL1.out.mono (fun _ _ => trivial)) (fun _ _ => trivial) HS.out).mono ?_; rintro e w2 ⟨Pa, Pb, rfl, hl, hr, hb⟩; have HB2 := aM hb; have HX2 := aM (ae HX1.out hb); have HY2 := aM (ae HY1.out hb); have HLa := aM hl; have HLb := aM hr; clear hl hr hb) | (go_at_call_of 62 (Value.pointer Pa); refine (rope_any q1 Pa _ w2 _ _ HLa.out my.out).mono ?_; rintro e w3 ⟨v3, rfl, ho, hb⟩; obtain ⟨A3, c3, eo, -, -⟩ := Kd.R_reads ho; subst eo; have fa := aM ho; have HB3 := aM hb; have HX3 := aM (ae HX2.out hb); have HY3 := aM (ae HY2.out hb); have HLb3 := aM (HLb.out.below hb); clear ho hb) | (go_at_call_of 62 (Value.pointer Pb); refine (rope_any q2 Pb _ _ _ _ (HLb3.out.alloc _) mQ.out).mono ?_; rintro e w4 ⟨v4, rfl, ho, hb⟩; obtain ⟨A4, c4, eo, -, -⟩ := Kd.R_reads ho; subst eo; have eW := aM ho; have HB4 := aM hb; have HX4 := aM (ae (ar HX3.out _) hb); have HY4 := aM (ae (ar HY3.out _) hb); have HZ4 := aM (ae (blk_new w3 (.cells #[.slice A3 x1.length c3] 29)) hb); have e1 : ∀ o, (w4.alloc o).cell? ⟨w.heap.size + 1, 0, none⟩ = some (.slice none 0 0) := fun o => (bC (ar HX4.out o) 0).trans rfl; have e2 : ∀ o, (w4.alloc o).cell? ⟨w.heap.size + 1 + 1, 0, none⟩ = some (.slice none 0 0) := fun o => (bC (ar HY4.out o) 0).trans rfl; have e3 : ∀ o, (w4.alloc o).cell? ⟨w3.heap.size, 0, none⟩ = some (.slice A3 x1.length c3) := fun o => (bC (ar HZ4.out o) 0).trans rfl; have f1 : ∀ o, (w4.alloc o).frozen? ⟨w.heap.size + 1, 0, none⟩ = false := fun o => bF (ar HX4.out o) 0; have f2 : ∀ o, (w4.alloc o).frozen? ⟨w.heap.size + 1 + 1, 0, none⟩ = false := fun o => bF (ar HY4.out o) 0; clear ho hb))
    have HBB : Aside0 (Below w.heap.size w w4) := ⟨ay (ay (ay (ay HWB.out HB1.out) HB2.out) HB3.out |> fun h => bA h _) HB4.out⟩
    have hsz : w.heap.size + 3 ≤ w3.heap.size ∧ w3.heap.size < w4.heap.size := by
     have g0 : W3.heap.size = w.heap.size + 3 := by rw [← HWE.out]; simp
     have g1 := HB1.out.size
     have g2 := HB2.out.size
     have g3 := HB3.out.size
     have g4 := HB4.out.size
     simp at g4
     omega
    have u1 : ¬ w.heap.size + 1 = w4.heap.size := by omega
    have u2 : ¬ w4.heap.size = w.heap.size + 1 := by omega
    have u3 : ¬ w.heap.size + 1 + 1 = w4.heap.size := by omega
    have u4 : ¬ w4.heap.size = w.heap.size + 1 + 1 := by omega
    have u5 : ¬ w.heap.size + 1 = w3.heap.size := by omega
    have u6 : ¬ w3.heap.size = w.heap.size + 1 := by omega
    have u7 : ¬ w.heap.size + 1 + 1 = w3.heap.size := by omega
    have u8 : ¬ w3.heap.size = w.heap.size + 1 + 1 := by omega
    have HSZ := aM hsz
    clear hsz
    go_region
    go_wp2
    refine aT (results_list (rs := [.cell 4 29, .cell 5 29, .tmp 6]) rfl (by simp) (.cell (w.heap.size + 1) 29 #[.slice A3 x1.length c3] (0, 0) _ rfl (by exact ap (au (av (cs := #[.slice none 0 0]) (ar HX4.out _) 0 _ rfl) (by simp) _)) Try.underlying29 rfl z1 (.cell (w.heap.size + 1 + 1) 29 #[.slice A4 y1.length c4] (0, 0) _ rfl (by exact ap (av (cs := #[.slice none 0 0]) (au (ar HY4.out _) (by simp) _) 0 _ rfl)) Try.underlying29 rfl z1 (.tmp .nil)))) rfl ?_
    have g4 := HB4.out
    have k0 := Kd.R_elder (ac fa.out (.cells #[.slice A3 x1.length c3] 29)) eW.out g4
    have k1 := Kd.R_newR eW.out (ac fa.out (.cells #[.slice A3 x1.length c3] 29))
    have b1 := ar HX4.out (.cells #[.slice A4 y1.length c4] 29)
    have b2 := au (p := ⟨w.heap.size + 1, 0, none⟩) (ar HY4.out (.cells #[.slice A4 y1.length c4] 29)) (by simp) (.slice A3 x1.length c3)
    have HB12 : Below w.heap.size w w2 := ay (ay HWB.out HB1.out) HB2.out
    have s0 := aa (Kd.R_set (Kd.R_set (ac (aU k0 HB12.size) (.cells #[.slice A4 y1.length c4] 29)) b1 z0 0 (.slice A3 x1.length c3)) b2 z0 0 (.slice A4 y1.length c4))
    have s1 := aa (Kd.R_set (Kd.R_set (ac (aU k1 (base' := w.heap.size) (by have := HSZ.out; simp; omega)) (.cells #[.slice A4 y1.length c4] 29)) b1 z0 0 (.slice A3 x1.length c3)) b2 z0 0 (.slice A4 y1.length c4))
    exact ⟨_, _, rfl, ag s0 (fun _ hk => hk.2), ag s1 (fun _ hk => hk.2), below_drew (ax (ax (bA HBB.out _) (by omega)) (by omega))⟩
theorem impl_SplitRope.calls (k : Nat) (bu : Option Addr) (bx : Nat) (l0_0 : List S58) (a1 : Int) (r1 : List S58) (r2 : List S58) (r3 : Bool) (w : World) (hr0_0 : Kd.C k58 w bu l0_0.length l0_0) (hc0_0 : l0_0.length ≤ bx) (h : impl_SplitRope.f k l0_0 a1 = some (r1, r2, r3)) :
  Calls Try.prog 39 #[.agg #[.slice bu l0_0.length bx], .int .i64 a1] w fun e w' => ∃ v0_ v1_ : Value, e = .returned (.tuple #[.agg #[v0_], .agg #[v1_], .bool r3]) ∧ Kd.R k58 58 w' w.heap.size (fun k_ => some k_ ≠ (v1_ : Value).ownBlock) v0_ r1 ∧ Kd.R k58 58 w' w.heap.size (fun k_ => some k_ ≠ (v0_ : Value).ownBlock) v1_ r2 ∧ Below w.heap.size w w' :=
 split_rope_any k bu bx l0_0 a1 r1 r2 r3 w hr0_0 hc0_0 h

end Go.Proofs.Ytmkenlejdaphnaa.AFnExactSplitRope
