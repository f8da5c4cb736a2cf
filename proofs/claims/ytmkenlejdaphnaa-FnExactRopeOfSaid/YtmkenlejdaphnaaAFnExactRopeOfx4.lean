-- this session's own text: written by wip/tools/ownprint.py over the kit's print
import Derived.Test.YtmkenlejdaphnaaAFnExactRopeOfx0
import Derived.Test.YtmkenlejdaphnaaAFnExactRopeOfx3
namespace Go.Proofs.Ytmkenlejdaphnaa.AFnExactRopeOf
open Go.RowKit Go.Proofs.YtmkenlejdaphnaaW.PrintWords Go.Proofs.YtmkenlejdaphnaaW.PrintLast Go.Proofs.YtmkenlejdaphnaaW.PrintMore
attribute [local go_sem] max2_int min2_int max_two min_two max_three min_three max_four min_four   -- for this text's walks alone
set_option linter.unusedVariables false
set_option linter.unusedSimpArgs false

/-! ### impl_chunks: function 61 -/
def impl_chunks.l0 : Nat → ByteArray → List ByteArray → Option (List ByteArray)
 | 0, _, _ => none
 | k + 1, x0, x3 => if (x0.size : Int) > 8 then (if 0 ≤ 8 then (if 8 ≤ (x0.size : Int) then (if x3.length < 8796093022208 then (impl_chunks.l0 k (x0.extract 8 x0.size) (x3 ++ [x0.extract 0 8])) else (none)) else (none)) else (none)) else (if x0.toList = ([] : List UInt8) then (some x3) else (if x3.length < 8796093022208 then (some (x3 ++ [x0])) else (none)))
def impl_chunks.f (k : Nat) (a0 : ByteArray) : Option (List ByteArray) := impl_chunks.l0 k a0 ([] : List ByteArray)
theorem impl_chunks.mono_l : ∀ k, (∀ y0 y1, LeO (impl_chunks.l0 k y0 y1) (impl_chunks.l0 (k + 1) y0 y1))
 | 0 => fun _ _ r h => by simp [impl_chunks.l0] at h
 | k + 1 => by
  have ih0 := impl_chunks.mono_l k
  ·intro y0 y1
   unfold impl_chunks.l0
   repeat' first
   | (with_reducible exact ih0 _ _)
   | (with_reducible exact LeO.refl _)
   | (with_reducible exact LeO.none _)
   | (with_reducible refine LeO.ite ?_ ?_)
   | (with_reducible refine LeO.bind ?_ (fun _ => ?_))
   | exact ih0 _ _
   | exact LeO.none _
   | refine LeO.ite ?_ ?_
   | refine LeO.bind ?_ (fun _ => ?_)
theorem impl_chunks.mono : ∀ a0 k, LeO (impl_chunks.f k a0) (impl_chunks.f (k + 1) a0) := by
 intro a0 k
 have ih0 := impl_chunks.mono_l k
 unfold impl_chunks.f
 repeat' first
   | (with_reducible exact ih0 _ _)
   | (with_reducible exact LeO.refl _)
   | (with_reducible exact LeO.none _)
   | (with_reducible refine LeO.ite ?_ ?_)
   | (with_reducible refine LeO.bind ?_ (fun _ => ?_))
   | exact ih0 _ _
   | exact LeO.none _
   | refine LeO.ite ?_ ?_
   | refine LeO.bind ?_ (fun _ => ?_)
set_option maxHeartbeats 8000000 in
set_option maxRecDepth 100000 in
theorem impl_chunks.calls (k : Nat) (a0 : ByteArray) (r : List ByteArray) (w : World) (h : impl_chunks.f k a0 = some r) :
  Calls Try.prog 61 #[.string a0] w fun e w' => ∃ v0_ : Value, e = .returned (v0_) ∧ Kd.R Kd.string 9 w' w.heap.size (fun _ => True) v0_ r ∧ Below w.heap.size w w' := by
 have HB := Aside0.mk (Below.refl w.heap.size w)
 have H : (impl_chunks.l0 k a0 ([] : List ByteArray)) = some r := h
 clear h
 have H' := Aside0.mk H
 clear H
 go_enter Try.func61, Try.ntmps61
 go_wp2
 go_loopg [0, 3] k (fun kq v0 v3 w' => ∃ (x0_1 : ByteArray) (x3_1 : List ByteArray), v0 = .string x0_1 ∧ Aside0 (impl_chunks.l0 kq x0_1 x3_1 = some r) ∧ Aside0 (kq ≤ k) ∧ Aside0 (Kd.R Kd.string 9 w' w.heap.size (fun _ => True) v3 x3_1) ∧ Aside0 (Below w.heap.size w w'))
 case atStart => exact ⟨(a0), (([] : List ByteArray)), (by first | rfl | (simp; done) | (simp [*]; done)), H', ⟨Nat.le_refl _⟩, ⟨by first | exact Kd.R_nil _ _ _ _ _ | exact Kd.N_nil _ _ _ _ _ | exact Kd.V_nil _ _ _ _ _ | exact Kd.Q_nil _ _ _ _ _ | exact Kd.S_nil _ _ _ _ _⟩, ⟨by repeat (first | (with_reducible first | exact HB.out | apply below_alloc | apply pw_below_drewN | apply below_drew1) | exact HB.out)⟩⟩
 case round =>
  clear H'
  obtain ⟨x0_1, x3_1, rfl, HA, HK1, HO_3, HB⟩ := hrel
  cases gk with
  | zero => exact absurd HA.out (by simp [impl_chunks.l0])
  | succ k1 =>
   have H := HA.out
   clear HA
   simp only [impl_chunks.l0] at H
   by_cases c2 : (x0_1.size : Int) > 8
   ·rw [if_pos c2] at H
    have c2b0 : decide (8 < (x0_1.size : Int)) = true := decide_eq_true c2
    have c2b1 : decide (8 < x0_1.size) = true := decide_eq_true (by omega)
    clear c2
    by_cases c3 : 0 ≤ 8
    ·rw [if_pos c3] at H
     have c3b0 := eq_true c3
     have c3b1 : decide (0 ≤ 8) = true := decide_eq_true c3
     clear c3
     by_cases c4 : 8 ≤ (x0_1.size : Int)
     ·rw [if_pos c4] at H
      have c4b0 := eq_true c4
      have c4b1 : decide (8 ≤ (x0_1.size : Int)) = true := decide_eq_true c4
      clear c4
      by_cases c5 : x3_1.length < 8796093022208
      ·rw [if_pos c5] at H
       have LMc5 := Aside0.mk c5
       clear c5
       obtain ⟨y170, hy170⟩ : ∃ y_ : List ByteArray, y_ = (x3_1 ++ [x0_1.extract 0 8]) := ⟨_, rfl⟩
       replace H : (impl_chunks.l0 k1 (x0_1.extract 8 x0_1.size) y170) = some r := by first | (rw [hy170]; with_reducible exact H) | (have H2_ := (Option.bind_some _ _).symm.trans H; rw [hy170]; with_reducible exact H2_) | (have H2_ := (Option.bind_some _ _).symm.trans H; with_reducible exact H2_) | with_reducible exact H | (rw [hy170]; exact H) | exact H
       have Ny170 := Aside0.mk hy170
       clear hy170
       have c6b0 := eq_true (of_decide_eq_true z1 : 8 ≤ (x0_1.size : Int))
       have H' := Aside0.mk H
       clear H
       go_wp2_with (first | ((with_reducible refine gate_builtin (b := .append) (xs := #[.tmp 7, .tmp 10]) rfl ?_); at_builtin; refine Kd.R_append Kd.string (w0 := w) w.heap.size rfl (.tmp 7) (.tmp 10) 44 9 (.string ⟨#[]⟩) 16 rfl Try.underlying44 info9 rfl (by decide) (by omega) u3 x3_1 (x0_1.extract 0 8) [.string (x0_1.extract 0 8)] (fun _ => True) (fun _ => False) rfl rfl ?aP (fun _ hk => hk.elim) ?aF ?aO ?aB ?aS ?aL ?_; (case aP => exact rfl); (case aB => exact z6); (case aF => exact (fun _ _ => trivial)); (case aO => exact (by (with_reducible repeat (first | apply Kd.R_alloc | apply Kd.R_drewN | apply Kd.R_drew)); exact HO_3.out)); (case aS => exact (below_size z6)); (case aL => have := LMc5.out; omega); intro v171 w7 ho hb hg hat; rw [← Ny170.out] at ho; have n0_ := Aside0.mk (hb); have n1_ := Aside0.mk (ho); clear HB; clear HO_3; have HB := n0_; have HO172 := n1_; clear n0_ n1_; clear ho hb hg hat))
       go_roundg k1
       case measure => have := HK1.out; omega
       case rel => exact ⟨(x0_1.extract 8 x0_1.size), (y170), (by first | rfl | (simp; done) | (simp [*]; done)), H', ⟨by have := HK1.out; omega⟩, ⟨by (with_reducible repeat (first | apply Kd.R_alloc | apply Kd.R_drewN | apply Kd.R_drew)); exact HO172.out⟩, ⟨by repeat (first | (with_reducible first | exact HB.out | apply below_alloc | apply pw_below_drewN | apply below_drew1) | exact HB.out)⟩⟩
      ·rw [if_neg c5] at H
       exact absurd H (by simp)
     ·rw [if_neg c4] at H
      exact absurd H (by simp)
    ·exact absurd (by decide) c3
   ·rw [if_neg c2] at H
    have c2b0 : decide (8 < (x0_1.size : Int)) = false := decide_eq_false c2
    have c2b1 : decide (8 < x0_1.size) = false := decide_eq_false (by omega)
    clear c2
    by_cases c8 : x0_1.toList = ([] : List UInt8)
    ·rw [if_pos c8] at H
     have c8b0 : (x0_1.toList == ([] : List UInt8)) = true := beq_iff_eq.mpr c8
     have c8b1 : (x0_1.toList != ([] : List UInt8)) = false := bne_eq_false_iff_eq.mpr c8
     clear c8
     obtain rfl := Option.some.inj H
     go_wp2
     all_goals (try (exfalso; rename_i h_; rw [c8b0] at h_; cases h_; done))
     go_ret
     exact ⟨_, by first | rfl | (simp [errW_none, errW_some] <;> rfl) | (simp [*, errW_none, errW_some] <;> rfl), by (with_reducible repeat (first | apply Kd.R_alloc | apply Kd.R_drewN | apply Kd.R_drew)); exact HO_3.out, by repeat (first | (with_reducible first | exact HB.out | apply below_alloc | apply pw_below_drewN | apply below_drew1) | exact HB.out)⟩
    ·rw [if_neg c8] at H
     have c8b0 : (x0_1.toList == ([] : List UInt8)) = false := beq_eq_false_iff_ne.mpr c8
     have c8b1 : (x0_1.toList != ([] : List UInt8)) = true := bne_iff_ne.mpr c8
     by_cases c9 : x3_1.length < 8796093022208
     ·rw [if_pos c9] at H
      have LMc9 := Aside0.mk c9
      clear c9
      obtain ⟨y173, hy173⟩ : ∃ y_ : List ByteArray, y_ = (x3_1 ++ [x0_1]) := ⟨_, rfl⟩
      replace H : (some y173) = some r := by first | (rw [hy173]; with_reducible exact H) | (have H2_ := (Option.bind_some _ _).symm.trans H; rw [hy173]; with_reducible exact H2_) | (have H2_ := (Option.bind_some _ _).symm.trans H; with_reducible exact H2_) | with_reducible exact H | (rw [hy173]; exact H) | exact H
      have Ny173 := Aside0.mk hy173
      clear hy173
      obtain rfl := Option.some.inj H
      go_wp2_with (first | ((with_reducible refine gate_builtin (b := .append) (xs := #[.tmp 16, .tmp 18]) rfl ?_); at_builtin; refine Kd.R_append Kd.string (w0 := w) w.heap.size rfl (.tmp 16) (.tmp 18) 44 9 (.string ⟨#[]⟩) 16 rfl Try.underlying44 info9 rfl (by decide) (by omega) u3 x3_1 x0_1 [.string x0_1] (fun _ => True) (fun _ => False) rfl rfl ?aP (fun _ hk => hk.elim) ?aF ?aO ?aB ?aS ?aL ?_; (case aP => exact rfl); (case aB => exact z6); (case aF => exact (fun _ _ => trivial)); (case aO => exact (by (with_reducible repeat (first | apply Kd.R_alloc | apply Kd.R_drewN | apply Kd.R_drew)); exact HO_3.out)); (case aS => exact (below_size z6)); (case aL => have := LMc9.out; omega); intro v174 w10 ho hb hg hat; rw [← Ny173.out] at ho; have n0_ := Aside0.mk (hb); have n1_ := Aside0.mk (ho); clear HB; clear HO_3; have HB := n0_; have HO175 := n1_; clear n0_ n1_; clear ho hb hg hat))
      all_goals (try (exfalso; rename_i h_; rw [c8b0] at h_; cases h_; done))
      go_ret
      exact ⟨_, by first | rfl | (simp [errW_none, errW_some] <;> rfl) | (simp [*, errW_none, errW_some] <;> rfl), by (with_reducible repeat (first | apply Kd.R_alloc | apply Kd.R_drewN | apply Kd.R_drew)); exact HO175.out, by repeat (first | (with_reducible first | exact HB.out | apply below_alloc | apply pw_below_drewN | apply below_drew1) | exact HB.out)⟩
     ·rw [if_neg c9] at H
      exact absurd H (by simp)

/-! ### impl_limb_boughs: function 83, by hand -/
/-- The boughs of a tree, behind others. -/
def bgs : Limb → List S58 → List S58
 | .nil, out => out
 | .node l r s n d, out => if l.isNil = true then out ++ [⟨-1, -1, s, n, 0⟩] else bgs r (bgs l out) ++ [⟨((bgs l out).length : Int) - 1, ((bgs r (bgs l out)).length : Int) - 1, ⟨#[]⟩, n, d⟩]
theorem bgs_length (t : Limb) : ∀ out, (bgs t out).length = out.length + cnt t := by
 induction t with
 | nil => intro out; rfl
 | node l r s n d ihl ihr =>
  intro out
  unfold bgs cnt
  split
  ·simp
  ·rw [List.length_append, ihr, ihl]; simp; omega
def BgAt (w0 w : World) (v : Value) (xs : List S58) (e : Ending) (w' : World) : Prop := ∃ v', e = .returned v' ∧ Kd.R k58 58 w' w0.heap.size (fun _ => True) v' xs ∧ Below w0.heap.size w0 w' ∧ RowTo w w' v v'
set_option maxHeartbeats 4000000 in
theorem boughs_any (t : Limb) : ∀ (A : Option Addr) (ok : Nat → Prop) (w0 w : World) (v : Value) (xs : List S58), LmAt w ok t A → Kd.R k58 58 w w0.heap.size (fun _ => True) v xs → Below w0.heap.size w0 w → xs.length + cnt t ≤ 100000000 →
  Calls Try.prog 83 #[.pointer A, v] w (BgAt w0 w v (bgs t xs)) := by
 induction t with
 | nil =>
  intro A ok w0 w v xs hA hv hB hn
  obtain rfl : A = none := hA
  have HV := Aside0.mk hv
  have HB := Aside0.mk hB
  obtain ⟨Av, cv, rfl, -, -⟩ := Kd.R_reads hv
  have HX : Aside0 (bgs .nil xs = xs) := ⟨rfl⟩
  rw [HX.out]
  clear hv hB hn HX
  go_enter Try.func83, Try.ntmps83
  go_wp2
  go_ret
  exact ⟨_, rfl, HV.out, HB.out, RowTo.refl _ _⟩
 | node l r s n d ihl ihr =>
  intro A ok w0 w v xs hA hv hB hn
  have HA := Aside0.mk hA
  have HV := Aside0.mk hv
  have HB := Aside0.mk hB
  obtain ⟨b, L, R, rfl, hb, hc, hl, hr⟩ := hA
  have HC := Aside0.mk hc
  have c0 : w.cell? ⟨b, 0, none⟩ = some (.pointer L) := (blk_cell hc 0).trans rfl
  have HL := Aside0.mk hl
  have HR := Aside0.mk hr
  obtain ⟨Av, cv, rfl, -, -⟩ := Kd.R_reads hv
  cases l with
  | nil =>
   obtain rfl : L = none := hl
   have c2 : w.cell? ⟨b, 2, none⟩ = some (.string s) := (blk_cell hc 2).trans rfl
   have c3 : w.cell? ⟨b, 3, none⟩ = some (.int .i64 n) := (blk_cell hc 3).trans rfl
   have HN1 : Aside0 (xs.length + 1 ≤ 100000000) := ⟨hn⟩
   have HX : Aside0 (bgs (.node .nil r s n d) xs = xs ++ [⟨-1, -1, s, n, 0⟩]) := ⟨rfl⟩
   rw [HX.out]
   clear hr hb hc hv hB hn ihl ihr HX
   go_enter Try.func83, Try.ntmps83
   go_wp2
   go_region_law (refine Kd.R_append_step k58 (w0 := w0) (W := w.drew) w0.heap.size ?hw (.tmp 16) (.tmp 26) 27 58 (.agg #[(.int .i64 0), (.int .i64 0), (.string ⟨#[]⟩), (.int .i64 0), (.int .i64 0)]) 48 ?ho Try.underlying27 info58 rfl (by decide) (by decide) (.slice Av xs.length cv) xs (⟨-1, -1, s, n, 0⟩ : S58) [.int .i64 (-1), .int .i64 (-1), .string s, .int .i64 n, .int .i64 0] (fun _ => True) (fun _ => False) ?hs ?hx ?aP (fun _ h => h.elim) (fun _ _ => trivial) ?aO ?aB ?aS ?aL ?_; (case aL => have := HN1.out; omega); (case hw => rfl); (case ho => rfl); (case hs => rfl); (case hx => rfl); (case aP => exact k58_mkM _ _ _ _); (case aB => exact below_drew HB.out); (case aO => exact Kd.R_drew HV.out); (case aS => exact HB.out.size); intro v1 w1 ho hb hg hat; obtain ⟨A1, c1, eo, -, -⟩ := Kd.R_reads ho; rw [List.length_append, List.length_singleton] at eo; subst eo; have HO := Aside0.mk ho; have HB1 := Aside0.mk hb; have HT : Aside0 (RowTo w w1 (.slice Av xs.length cv) (.slice A1 (xs.length + 1) c1)) := ⟨⟨Kept.of_grown hg (Kept.refl w _) (fun k hk => .inl hk.symm), hat⟩⟩; clear ho hb hg hat)
   all_goals
    go_wp2
    go_ret
    exact ⟨_, rfl, HO.out, HB1.out, HT.out⟩
  | node l' r' s' n' d' =>
   have hl2 := hl
   obtain ⟨bl, L2, R2, rfl, -⟩ := hl2
   have c1 : w.cell? ⟨b, 1, none⟩ = some (.pointer R) := (blk_cell hc 1).trans rfl
   have HN1 : Aside0 (xs.length + cnt (.node l' r' s' n' d') + cnt r + 1 ≤ 100000000) := ⟨by have : cnt (.node (.node l' r' s' n' d') r s n d) = cnt (.node l' r' s' n' d') + cnt r + 1 := rfl; rw [this] at hn; omega⟩
   have HX : Aside0 (bgs (.node (.node l' r' s' n' d') r s n d) xs = bgs r (bgs (.node l' r' s' n' d') xs) ++ [⟨((bgs (.node l' r' s' n' d') xs).length : Int) - 1, ((bgs r (bgs (.node l' r' s' n' d') xs)).length : Int) - 1, ⟨#[]⟩, n, d⟩]) := ⟨rfl⟩
   rw [HX.out]
   clear hr hb hc hv hB hn hl HX
   generalize (Limb.node l' r' s' n' d') = l at *
   obtain ⟨o1, ho1⟩ : ∃ o, bgs l xs = o := ⟨_, rfl⟩
   have HZ1 : Aside0 (bgs l xs = o1) := ⟨ho1⟩
   obtain ⟨o2, ho2⟩ : ∃ o, bgs r o1 = o := ⟨_, rfl⟩
   have HZ2 : Aside0 (bgs r o1 = o2) := ⟨ho2⟩
   have HE1 : Aside0 (o1.length = xs.length + cnt l) := ⟨by rw [← ho1, bgs_length]⟩
   have HE2 : Aside0 (o2.length = o1.length + cnt r) := ⟨by rw [← ho2, bgs_length]⟩
   rw [ho1, ho2]
   clear ho1 ho2
   go_enter Try.func83, Try.ntmps83
   go_wp2_with (first | (go_at_call_of 83 (Value.pointer (some ⟨bl, 0, none⟩)); refine (ihl (some ⟨bl, 0, none⟩) ok w0 _ _ xs HL.out HV.out HB.out ?g4).mono ?_; (case g4 => have := HN1.out; omega); rintro e w1 ⟨v1, rfl, ho, hb, ht⟩; rw [HZ1.out] at ho; obtain ⟨A1, k1, eo, -, -⟩ := Kd.R_reads ho; subst eo; have HV1 := Aside0.mk ho; have HB1 := Aside0.mk hb; have HT1 := Aside0.mk ht; have HC1 := Aside0.mk (blk_kept (W := w) HC.out HT1.out.1 (fun e => Kd.R_ne HV.out HC.out (by decide) e)); have d1 : w1.cell? ⟨b, 1, none⟩ = some (.pointer R) := (blk_cell HC1.out 1).trans rfl; have HR1 := Aside0.mk (HR.out.rowTo HV.out (by decide) HT1.out); clear ho hb ht) | (go_at_call_of 83 (Value.pointer R); refine (ihr R ok w0 _ _ o1 HR1.out HV1.out HB1.out ?g4).mono ?_; (case g4 => have := HN1.out; have := HE1.out; omega); rintro e w2 ⟨v2, rfl, ho, hb, ht⟩; rw [HZ2.out] at ho; obtain ⟨A2, k2, eo, -, -⟩ := Kd.R_reads ho; subst eo; have HV2 := Aside0.mk ho; have HB2 := Aside0.mk hb; have HT2 := Aside0.mk ht; have HC2 := Aside0.mk (blk_kept (W := w1) HC1.out HT2.out.1 (fun e => Kd.R_ne HV1.out HC1.out (by decide) e)); have d3 : w2.cell? ⟨b, 3, none⟩ = some (.int .i64 n) := (blk_cell HC2.out 3).trans rfl; have d4 : w2.cell? ⟨b, 4, none⟩ = some (.int .i64 d) := (blk_cell HC2.out 4).trans rfl; clear ho hb ht))
   have HW1 : Aside0 (wrap64 ((o1.length : Int) - 1) = (o1.length : Int) - 1) := ⟨by have := HN1.out; have := HE1.out; unfold wrap64; omega⟩
   have HW2 : Aside0 (wrap64 ((o2.length : Int) - 1) = (o2.length : Int) - 1) := ⟨by have := HN1.out; have := HE1.out; have := HE2.out; unfold wrap64; omega⟩
   rw [HW1.out]
   clear c0 c1 d1 ihl ihr
   go_region_law (refine Kd.R_append_step k58 (w0 := w0) (W := w2.drew) w0.heap.size ?hw (.tmp 43) (.tmp 57) 27 58 (.agg #[(.int .i64 0), (.int .i64 0), (.string ⟨#[]⟩), (.int .i64 0), (.int .i64 0)]) 48 ?ho Try.underlying27 info58 rfl (by decide) (by decide) (.slice A2 o2.length k2) o2 (⟨(o1.length : Int) - 1, IntKind.i64.wrap ((o2.length : Int) - 1), ⟨#[]⟩, n, d⟩ : S58) [.int .i64 ((o1.length : Int) - 1), .int .i64 (IntKind.i64.wrap ((o2.length : Int) - 1)), .string ⟨#[]⟩, .int .i64 n, .int .i64 d] (fun _ => True) (fun _ => False) ?hs ?hx ?aP (fun _ h => h.elim) (fun _ _ => trivial) ?aO ?aB ?aS ?aL ?_; (case aL => have := HN1.out; have := HE1.out; have := HE2.out; omega); (case hw => rfl); (case ho => rfl); (case hs => rfl); (case hx => rfl); (case aP => exact k58_mkM _ _ _ _); (case aB => exact below_drew HB2.out); (case aO => exact Kd.R_drew HV2.out); (case aS => exact HB2.out.size); intro v3 w3 ho hb hg hat; obtain ⟨A3, k3, eo, -, -⟩ := Kd.R_reads ho; rw [List.length_append, List.length_singleton] at eo; subst eo; have HO := Aside0.mk ho; have HB3 := Aside0.mk hb; have HT3 : Aside0 (RowTo w2 w3 (.slice A2 o2.length k2) (.slice A3 (o2.length + 1) k3)) := ⟨⟨Kept.of_grown hg (Kept.refl w2 _) (fun k hk => .inl hk.symm), hat⟩⟩; clear ho hb hg hat)
   all_goals
    go_wp2
    go_ret
    refine ⟨_, rfl, ?_, HB3.out, (HT1.out.trans HT2.out).trans HT3.out⟩
    have := HO.out
    rw [i64_w, HW2.out] at this
    exact this

/-! ### impl_limb_rope: function 62, by hand -/
def ropeF (t : Limb) : Option (List S58 × Bool) :=
 if cnt t ≤ 10000000 then (if 200 < cnt t then some ([], false) else (if t.isNil = true then some (bgs t [], true) else (if 300 < t.size then some ([], false) else some (bgs t [], true)))) else none
set_option maxHeartbeats 4000000 in
theorem rope_any (t : Limb) (A : Option Addr) (ok : Nat → Prop) (w : World) (r1 : List S58) (r2 : Bool) (hA : LmAt w ok t A) (h : ropeF t = some (r1, r2)) :
  Calls Try.prog 62 #[.pointer A] w fun e w' => ∃ v0_ : Value, e = .returned (.tuple #[.agg #[v0_], .bool r2]) ∧ Kd.R k58 58 w' w.heap.size (fun _ => True) v0_ r1 ∧ Below w.heap.size w w' := by
 unfold ropeF at h
 split at h
 case isFalse => cases h
 case isTrue hc =>
 have HN : Aside0 (([] : List S58).length + cnt t ≤ 100000000) := ⟨by show 0 + _ ≤ _; omega⟩
 have HA := Aside0.mk hA
 have HV : Aside0 (Kd.R k58 58 w w.heap.size (fun _ => True) (.slice none 0 0) ([] : List S58)) := ⟨Kd.R_nil _ _ _ _ _⟩
 obtain ⟨B, hB⟩ : ∃ B, bgs t [] = B := ⟨_, rfl⟩
 have HZ : Aside0 (bgs t [] = B) := ⟨hB⟩
 have hl : B.length = cnt t := by rw [← hB, bgs_length]; simp
 rw [hB] at h
 rw [← hl] at h
 clear hB hc hl
 by_cases hq : 200 < B.length
 ·rw [if_pos hq] at h
  obtain ⟨rfl, rfl⟩ := Prod.mk.inj (Option.some.inj h)
  have q1 : decide ((200 : Int) < (B.length : Int)) = true := decide_eq_true (by omega)
  clear h hA hq
  go_enter Try.func62, Try.ntmps62
  go_wp2_with (first | (go_at_call 83; refine (boughs_any _ _ ok w _ _ [] (HA.out.alloc _) (Kd.R_alloc HV.out _) (below_alloc (Below.refl _ _) _) HN.out).mono ?_; rintro e w1 ⟨v1, rfl, ho, hb, ht⟩; rw [HZ.out] at ho; obtain ⟨A1, k1, eo, -, -⟩ := Kd.R_reads ho; subst eo; have HV1 := Aside0.mk ho; have HB1 := Aside0.mk hb; have HT1 := Aside0.mk ht; have HC1 := Aside0.mk (blk_kept (W := w.alloc (.cells #[.slice none 0 0] 29)) (blk_new _ _) HT1.out.1 (by simp [Value.ownBlock])); have e0 : ∀ o, (w1.alloc o).cell? ⟨w.heap.size, 0, none⟩ = some (.slice none 0 0) := fun o => (blk_cell (blk_alloc HC1.out o) 0).trans rfl; have e1 : ∀ o, (w1.alloc o).frozen? ⟨w.heap.size, 0, none⟩ = false := fun o => blk_frozen (blk_alloc HC1.out o) 0;  clear ho hb ht))
  refine bodyPost_ret (results_ct rfl _ _ w.heap.size 29 #[.slice none 0 0] (0, 0) _ rfl (by refine blk_put (cs := #[.slice none 0 0]) (blk_alloc HC1.out _) 0 _ rfl) Try.underlying29 rfl z0) rfl ?_
  exact ⟨_, rfl, Kd.R_nil _ _ _ _ _, below_set (below_alloc HB1.out _) (Nat.le_refl _)⟩
 ·rw [if_neg hq] at h
  have q1 : decide ((200 : Int) < (B.length : Int)) = false := decide_eq_false (by omega)
  clear hq
  cases t with
  | nil =>
   obtain rfl : A = none := hA
   obtain ⟨rfl, rfl⟩ := Prod.mk.inj (Option.some.inj h)
   clear h
   go_enter Try.func62, Try.ntmps62
   go_wp2_with (first | (go_at_call 83; refine (boughs_any _ _ ok w _ _ [] (HA.out.alloc _) (Kd.R_alloc HV.out _) (below_alloc (Below.refl _ _) _) HN.out).mono ?_; rintro e w1 ⟨v1, rfl, ho, hb, ht⟩; rw [HZ.out] at ho; obtain ⟨A1, k1, eo, -, -⟩ := Kd.R_reads ho; subst eo; have HV1 := Aside0.mk ho; have HB1 := Aside0.mk hb; have HT1 := Aside0.mk ht; have HC1 := Aside0.mk (blk_kept (W := w.alloc (.cells #[.slice none 0 0] 29)) (blk_new _ _) HT1.out.1 (by simp [Value.ownBlock])); have e0 : ∀ o, (w1.alloc o).cell? ⟨w.heap.size, 0, none⟩ = some (.slice none 0 0) := fun o => (blk_cell (blk_alloc HC1.out o) 0).trans rfl; have e1 : ∀ o, (w1.alloc o).frozen? ⟨w.heap.size, 0, none⟩ = false := fun o => blk_frozen (blk_alloc HC1.out o) 0;  clear ho hb ht))
   refine bodyPost_ret (results_ct rfl _ _ w.heap.size 29 #[.slice A1 B.length k1] (0, 0) _ rfl (by refine blk_put (cs := #[.slice none 0 0]) (blk_alloc HC1.out _) 0 _ rfl) Try.underlying29 rfl z0) rfl ?_
   exact ⟨_, rfl, Kd.R_set (Kd.R_alloc HV1.out _) (blk_alloc HC1.out _) (by decide) 0 _, below_set (below_alloc HB1.out _) (Nat.le_refl _)⟩
  | node l r s n d =>
   obtain ⟨b, L, R, rfl, hb, hc, -, -⟩ := hA
   have HD := Aside0.mk hc
   clear hb hc
   have h' : (if 300 < n then some ([], false) else some (B, true)) = some (r1, r2) := h
   clear h
   by_cases hn : 300 < n
   ·rw [if_pos hn] at h'
    obtain ⟨rfl, rfl⟩ := Prod.mk.inj (Option.some.inj h')
    have q2 : decide (300 < n) = true := decide_eq_true hn
    clear h' hn
    go_enter Try.func62, Try.ntmps62
    go_wp2_with (first | (go_at_call 83; refine (boughs_any _ _ ok w _ _ [] (HA.out.alloc _) (Kd.R_alloc HV.out _) (below_alloc (Below.refl _ _) _) HN.out).mono ?_; rintro e w1 ⟨v1, rfl, ho, hb, ht⟩; rw [HZ.out] at ho; obtain ⟨A1, k1, eo, -, -⟩ := Kd.R_reads ho; subst eo; have HV1 := Aside0.mk ho; have HB1 := Aside0.mk hb; have HT1 := Aside0.mk ht; have HC1 := Aside0.mk (blk_kept (W := w.alloc (.cells #[.slice none 0 0] 29)) (blk_new _ _) HT1.out.1 (by simp [Value.ownBlock])); have e0 : ∀ o, (w1.alloc o).cell? ⟨w.heap.size, 0, none⟩ = some (.slice none 0 0) := fun o => (blk_cell (blk_alloc HC1.out o) 0).trans rfl; have e1 : ∀ o, (w1.alloc o).frozen? ⟨w.heap.size, 0, none⟩ = false := fun o => blk_frozen (blk_alloc HC1.out o) 0; have HA1 := Aside0.mk ((HA.out.alloc (.cells #[.slice none 0 0] 29)).rowTo (Kd.R_alloc HV.out _) (by decide) HT1.out); have HD1 := Aside0.mk (blk_kept (W := w.alloc (.cells #[.slice none 0 0] 29)) (blk_alloc HD.out _) HT1.out.1 (by simp [Value.ownBlock])); have d3 : ∀ o, (w1.alloc o).cell? ⟨b, 3, none⟩ = some (.int .i64 n) := fun o => (blk_cell (blk_alloc HD1.out o) 3).trans rfl; clear ho hb ht))
    refine bodyPost_ret (results_ct rfl _ _ w.heap.size 29 #[.slice none 0 0] (0, 0) _ rfl (by refine blk_put (cs := #[.slice none 0 0]) (blk_alloc HC1.out _) 0 _ rfl) Try.underlying29 rfl z0) rfl ?_
    exact ⟨_, rfl, Kd.R_nil _ _ _ _ _, below_set (below_alloc HB1.out _) (Nat.le_refl _)⟩
   ·rw [if_neg hn] at h'
    obtain ⟨rfl, rfl⟩ := Prod.mk.inj (Option.some.inj h')
    have q2 : decide (300 < n) = false := decide_eq_false hn
    clear h' hn
    go_enter Try.func62, Try.ntmps62
    go_wp2_with (first | (go_at_call 83; refine (boughs_any _ _ ok w _ _ [] (HA.out.alloc _) (Kd.R_alloc HV.out _) (below_alloc (Below.refl _ _) _) HN.out).mono ?_; rintro e w1 ⟨v1, rfl, ho, hb, ht⟩; rw [HZ.out] at ho; obtain ⟨A1, k1, eo, -, -⟩ := Kd.R_reads ho; subst eo; have HV1 := Aside0.mk ho; have HB1 := Aside0.mk hb; have HT1 := Aside0.mk ht; have HC1 := Aside0.mk (blk_kept (W := w.alloc (.cells #[.slice none 0 0] 29)) (blk_new _ _) HT1.out.1 (by simp [Value.ownBlock])); have e0 : ∀ o, (w1.alloc o).cell? ⟨w.heap.size, 0, none⟩ = some (.slice none 0 0) := fun o => (blk_cell (blk_alloc HC1.out o) 0).trans rfl; have e1 : ∀ o, (w1.alloc o).frozen? ⟨w.heap.size, 0, none⟩ = false := fun o => blk_frozen (blk_alloc HC1.out o) 0; have HA1 := Aside0.mk ((HA.out.alloc (.cells #[.slice none 0 0] 29)).rowTo (Kd.R_alloc HV.out _) (by decide) HT1.out); have HD1 := Aside0.mk (blk_kept (W := w.alloc (.cells #[.slice none 0 0] 29)) (blk_alloc HD.out _) HT1.out.1 (by simp [Value.ownBlock])); have d3 : ∀ o, (w1.alloc o).cell? ⟨b, 3, none⟩ = some (.int .i64 n) := fun o => (blk_cell (blk_alloc HD1.out o) 3).trans rfl; clear ho hb ht))
    refine bodyPost_ret (results_ct rfl _ _ w.heap.size 29 #[.slice A1 B.length k1] (0, 0) _ rfl (by refine blk_put (cs := #[.slice none 0 0]) (blk_alloc HC1.out _) 0 _ rfl) Try.underlying29 rfl z0) rfl ?_
    exact ⟨_, rfl, Kd.R_set (Kd.R_alloc HV1.out _) (blk_alloc HC1.out _) (by decide) 0 _, below_set (below_alloc HB1.out _) (Nat.le_refl _)⟩

/-! ### impl_RopeOf: function 26, by hand -/
def impl_RopeOf.f (k : Nat) (a0 : ByteArray) : Option (List S58 × Bool) := (impl_GoodText.f k a0).bind fun g => if g = true then ((impl_chunks.f k a0).bind fun ps => if ps.length ≤ 100000000 then ropeF (bal ps.length ps) else none) else some ([], false)
theorem impl_RopeOf.mono : ∀ a0 k, LeO (impl_RopeOf.f k a0) (impl_RopeOf.f (k + 1) a0) := by
 intro a0 k
 unfold impl_RopeOf.f
 repeat' first
  | (with_reducible exact impl_GoodText.mono _ _)
  | (with_reducible exact impl_chunks.mono _ _)
  | (with_reducible exact LeO.refl _)
  | (with_reducible exact LeO.none _)
  | (with_reducible refine LeO.ite ?_ ?_)
  | (with_reducible refine LeO.bind ?_ (fun _ => ?_))
set_option maxHeartbeats 1000000 in
theorem impl_RopeOf.calls (k : Nat) (a0 : ByteArray) (r1 : List S58) (r2 : Bool) (w : World) (h : impl_RopeOf.f k a0 = some (r1, r2)) :
  Calls Try.prog 26 #[.string a0] w fun e w' => ∃ v0_ : Value, e = .returned (.tuple #[.agg #[v0_], .bool r2]) ∧ Kd.R k58 58 w' w.heap.size (fun _ => True) v0_ r1 ∧ Below w.heap.size w w' := by
 obtain ⟨g, h1, h2⟩ := Option.bind_eq_some_iff.mp h
 have HG := Aside0.mk h1
 clear h h1
 cases g with
 | false =>
  rw [if_neg (by simp)] at h2
  obtain ⟨rfl, rfl⟩ := Prod.mk.inj (Option.some.inj h2)
  clear h2
  go_enter Try.func26, Try.ntmps26
  go_wp2_with (first | (go_at_call 59; refine (impl_GoodText.calls k a0 false _ HG.out).mono ?_; rintro e w' ⟨rfl, ⟨nd, rfl⟩⟩))
  refine bodyPost_ret (results_ct rfl _ _ w.heap.size 29 #[.slice none 0 0] (0, 0) _ rfl (by first | exact blk_drewN (blk_new w _) _ | exact blk_put (cs := #[.slice none 0 0]) (blk_drewN (blk_new w _) _) 0 _ rfl) Try.underlying29 rfl z0) rfl ?_
  exact ⟨_, rfl, Kd.R_nil _ _ _ _ _, by first | exact pw_below_drewN (below_alloc (Below.refl _ _) _) _ | exact below_set (pw_below_drewN (below_alloc (Below.refl _ _) _) _) (Nat.le_refl _)⟩
 | true =>
  rw [if_pos rfl] at h2
  obtain ⟨ps, h3, h4⟩ := Option.bind_eq_some_iff.mp h2
  split at h4
  case isFalse => cases h4
  case isTrue hn =>
  have HP := Aside0.mk h3
  have HN := Aside0.mk hn
  have HR := Aside0.mk h4
  clear h2 h3 h4 hn
  go_enter Try.func26, Try.ntmps26
  go_wp2_with (first | (go_at_call 59; refine (impl_GoodText.calls k a0 true _ HG.out).mono ?_; rintro e w' ⟨rfl, ⟨nd, rfl⟩⟩) | (go_at_call 61; refine (impl_chunks.calls k a0 ps _ HP.out).mono ?_; rintro e w1 ⟨v1, rfl, ho, hb⟩; obtain ⟨A1, c1, rfl, HBA⟩ := balanced_row ho HN.out; have HB1 := Aside0.mk hb; have HB2 := Aside0.mk HBA; clear ho hb HBA) | (go_at_call 60; refine HB2.out.mono ?_; rintro e w2 ⟨P, rfl, hl, hb⟩; have HL2 := Aside0.mk hl; have HB3 := Aside0.mk hb; clear hl hb) | (go_at_call 62; refine (rope_any _ P _ _ r1 r2 HL2.out HR.out).mono ?_; rintro e w3 ⟨v3, rfl, ho, hb⟩; obtain ⟨A3, c3, eo, -, -⟩ := Kd.R_reads ho; subst eo; have HO3 := Aside0.mk ho; have HB4 := Aside0.mk hb; have HX3 : Aside0 (w3.heap[w.heap.size]? = some (.cells #[.slice none 0 0] 29 (0, 0))) := ⟨blk_below (blk_below (blk_below (blk_drewN (blk_new w _) nd) HB1.out) HB3.out) hb⟩; have e0 : w3.cell? ⟨w.heap.size, 0, none⟩ = some (.slice none 0 0) := (blk_cell HX3.out 0).trans rfl; have e1 := blk_frozen HX3.out 0; clear ho hb))
  refine bodyPost_ret (results_ct rfl _ _ w.heap.size 29 #[.slice A3 r1.length c3] (0, 0) _ rfl (by exact blk_put (cs := #[.slice none 0 0]) HX3.out 0 _ rfl) Try.underlying29 rfl z0) rfl ?_
  have HBB : Below w.heap.size w w3 := below_step (below_step (below_step (pw_below_drewN (below_alloc (Below.refl _ _) _) _) HB1.out) HB3.out) HB4.out
  refine ⟨_, rfl, Kd.R_set (Kd.R_lower HO3.out ?_) HX3.out (by decide) 0 _, below_set HBB (Nat.le_refl _)⟩
  have h1 := HB1.out.size
  have h3 := HB3.out.size
  simp at h1
  omega

/-! ### laws_markText: function 67 -/
def laws_markText.l0 : Nat → Int → ByteArray → Option (ByteArray)
 | 0, _, _ => none
 | k + 1, x0, x3 => if x0 > 0 then ((some (([(wrap64 (48 + (Int.tmod x0 10))) % 256] : List Int) : List Int)).bind fun y176 => (if (strOfNums y176).size + x3.size ≤ 9223372036854775807 then (laws_markText.l0 k (wrap64 (Int.tdiv x0 10)) ((strOfNums y176) ++ x3)) else (none))) else (if 1 + x3.size ≤ 9223372036854775807 then (some ((⟨#[109]⟩ : ByteArray) ++ x3)) else (none))
def laws_markText.f (k : Nat) (a0 : Int) : Option (ByteArray) := if a0 ≤ 0 then (some (⟨#[109, 48]⟩ : ByteArray)) else (laws_markText.l0 k a0 (⟨#[]⟩ : ByteArray))
theorem laws_markText.mono_l : ∀ k, (∀ y0 y1, LeO (laws_markText.l0 k y0 y1) (laws_markText.l0 (k + 1) y0 y1))
 | 0 => fun _ _ r h => by simp [laws_markText.l0] at h
 | k + 1 => by
  have ih0 := laws_markText.mono_l k
  ·intro y0 y1
   unfold laws_markText.l0
   repeat' first
   | (with_reducible exact ih0 _ _)
   | (with_reducible exact LeO.refl _)
   | (with_reducible exact LeO.none _)
   | (with_reducible refine LeO.ite ?_ ?_)
   | (with_reducible refine LeO.bind ?_ (fun _ => ?_))
   | exact ih0 _ _
   | exact LeO.none _
   | refine LeO.ite ?_ ?_
   | refine LeO.bind ?_ (fun _ => ?_)
theorem laws_markText.mono : ∀ a0 k, LeO (laws_markText.f k a0) (laws_markText.f (k + 1) a0) := by
 intro a0 k
 have ih0 := laws_markText.mono_l k
 unfold laws_markText.f
 repeat' first
   | (with_reducible exact ih0 _ _)
   | (with_reducible exact LeO.refl _)
   | (with_reducible exact LeO.none _)
   | (with_reducible refine LeO.ite ?_ ?_)
   | (with_reducible refine LeO.bind ?_ (fun _ => ?_))
   | exact ih0 _ _
   | exact LeO.none _
   | refine LeO.ite ?_ ?_
   | refine LeO.bind ?_ (fun _ => ?_)
set_option maxHeartbeats 8000000 in
set_option maxRecDepth 100000 in
theorem laws_markText.calls (k : Nat) (a0 : Int) (r : ByteArray) (w : World) (h : laws_markText.f k a0 = some r) :
  Calls Try.prog 67 #[.int .i64 a0] w fun e w' => e = .returned (.string r) ∧ Below w.heap.size w w' := by
 have HB := Aside0.mk (Below.refl w.heap.size w)
 have H : (if a0 ≤ 0 then (some (⟨#[109, 48]⟩ : ByteArray)) else (laws_markText.l0 k a0 (⟨#[]⟩ : ByteArray))) = some r := h
 clear h
 by_cases c2 : a0 ≤ 0
 ·rw [if_pos c2] at H
  have c2b0 : decide (a0 ≤ 0) = true := decide_eq_true c2
  clear c2
  obtain rfl := Option.some.inj H
  go_enter Try.func67, Try.ntmps67
  go_wp2
  go_ret
  exact ⟨by first | rfl | (simp [errW_none, errW_some] <;> rfl) | (simp [*, errW_none, errW_some] <;> rfl), by repeat (first | (with_reducible first | exact HB.out | apply below_alloc | apply pw_below_drewN | apply below_drew1) | exact HB.out)⟩
 ·rw [if_neg c2] at H
  have c2b0 : decide (a0 ≤ 0) = false := decide_eq_false c2
  clear c2
  have H' := Aside0.mk H
  clear H
  go_enter Try.func67, Try.ntmps67
  go_wp2
  go_loopg [0, 3] k (fun kq v0 v3 w' => ∃ (x0_1 : Int) (x3_1 : ByteArray), v0 = .int .i64 x0_1 ∧ v3 = .string x3_1 ∧ Aside0 (laws_markText.l0 kq x0_1 x3_1 = some r) ∧ Aside0 (kq ≤ k) ∧ Aside0 (Below w.heap.size w w'))
  case atStart => exact ⟨(a0), ((⟨#[]⟩ : ByteArray)), (by first | rfl | (simp; done) | (simp [*]; done)), (by first | rfl | (simp; done) | (simp [*]; done)), H', ⟨Nat.le_refl _⟩, ⟨by repeat (first | (with_reducible first | exact HB.out | apply below_alloc | apply pw_below_drewN | apply below_drew1) | exact HB.out)⟩⟩
  case round =>
   clear H'
   try clear c2
   try clear c2b0
   try clear p2
   obtain ⟨x0_1, x3_1, rfl, rfl, HA, HK1, HB⟩ := hrel
   cases gk with
   | zero => exact absurd HA.out (by simp [laws_markText.l0])
   | succ k1 =>
    have H := HA.out
    clear HA
    simp only [laws_markText.l0] at H
    by_cases c3 : x0_1 > 0
    ·rw [if_pos c3] at H
     have c3b0 : decide (0 < x0_1) = true := decide_eq_true c3
     clear c3
     obtain ⟨y176, hy176⟩ : ∃ y_ : List Int, y_ = (([(wrap64 (48 + (Int.tmod x0_1 10))) % 256] : List Int)) := ⟨_, rfl⟩
     replace H : (if (strOfNums y176).size + x3_1.size ≤ 9223372036854775807 then (laws_markText.l0 k1 (wrap64 (Int.tdiv x0_1 10)) ((strOfNums y176) ++ x3_1)) else (none)) = some r := by first | (rw [hy176]; with_reducible exact H) | (have H2_ := (Option.bind_some _ _).symm.trans H; rw [hy176]; with_reducible exact H2_) | (have H2_ := (Option.bind_some _ _).symm.trans H; with_reducible exact H2_) | with_reducible exact H | (rw [hy176]; exact H) | exact H
     have Ny176 := Aside0.mk hy176
     clear hy176
     by_cases c4 : (strOfNums y176).size + x3_1.size ≤ 9223372036854775807
     ·rw [if_pos c4] at H
      have c4b0 := eq_true c4
      have c4b1 : decide ((strOfNums y176).size + x3_1.size ≤ 9223372036854775807) = true := decide_eq_true c4
      try have c4b2 : (9223372036854775807 < (strOfNums y176).size + x3_1.size) = False := eq_false (Nat.not_lt.2 c4)
      have H' := Aside0.mk H
      clear H
      go_wp2_with (first | ((with_reducible refine gate_dst (N := 12) rfl ?_); refine Kd.R_lit (Kd.int .u8) _ 5 ?hg (N := 12) ?hd (xs := ([(wrap64 (48 + (Int.tmod x0_1 10))) % 256] : List Int)) (inner := [.int .u8 ((wrap64 (48 + (Int.tmod x0_1 10))) % 256)]) (ok := fun _ => True) (okp := fun _ => True) ?hr ?hp (fun _ hk => hk) trivial (Below.refl _ _) (Nat.le_refl _) (by simp) ?_; (case hd => rfl); (case hg => rfl); (case hr => first | (go_simp; done) | (go_simp; rfl)); (case hp => exact (Reps.one (show Kd.M (Kd.int .u8) _ _ _ ((wrap64 (48 + (Int.tmod x0_1 10))) % 256) [.int .u8 ((wrap64 (48 + (Int.tmod x0_1 10))) % 256)] from rfl) (Reps.none _ _))); intro v177 w5 ho6 hb hg_ hnew_; clear hg_ hnew_; (first | rw [← Ny176.out] at ho6 | (simp only [Int.reduceToNat] at ho6; rw [← Ny176.out] at ho6)); have n0_ := Aside0.mk (Kd.R_lower ho6 (below_size z6)); have n1_ := Aside0.mk (below_step z6 hb); clear HB; have HO178 := n0_; have HB := n1_; clear n0_ n1_; clear hb ho6; have hcv7 := own_string (P := Try.prog) Try.underlying54 Try.underlying5 Try.underlying9 (Kd.own_of_R HO178.out)))
      go_roundg k1
      case measure => have := HK1.out; omega
      case rel => exact ⟨(wrap64 (Int.tdiv x0_1 10)), ((strOfNums y176) ++ x3_1), (by first | rfl | (simp; done) | (simp [*]; done)), (by first | rfl | (simp; done) | (simp [*]; done)), H', ⟨by have := HK1.out; omega⟩, ⟨by repeat (first | (with_reducible first | exact HB.out | apply below_alloc | apply pw_below_drewN | apply below_drew1) | exact HB.out)⟩⟩
     ·rw [if_neg c4] at H
      exact absurd H (by simp)
    ·rw [if_neg c3] at H
     have c3b0 : decide (0 < x0_1) = false := decide_eq_false c3
     clear c3
     by_cases c8 : 1 + x3_1.size ≤ 9223372036854775807
     ·rw [if_pos c8] at H
      have c8b0 := eq_true c8
      have c8b1 : decide (1 + x3_1.size ≤ 9223372036854775807) = true := decide_eq_true c8
      try have c8b2 : (9223372036854775807 < 1 + x3_1.size) = False := eq_false (Nat.not_lt.2 c8)
      obtain rfl := Option.some.inj H
      go_wp2
      go_ret
      exact ⟨by first | rfl | (simp [errW_none, errW_some] <;> rfl) | (simp [*, errW_none, errW_some] <;> rfl), by repeat (first | (with_reducible first | exact HB.out | apply below_alloc | apply pw_below_drewN | apply below_drew1) | exact HB.out)⟩
     ·rw [if_neg c8] at H
      exact absurd H (by simp)

/-! ### laws_markBoughS: function 63 -/
def laws_markBoughS.l0 : Nat → List (S58) → Int → Int → Option (Int × (List (S58)))
 | 0, _, _, _ => none
 | k + 1, x0, x1, x5 => if x5 < (x0.length : Int) then (if 0 ≤ x5 then ((some (x0.set (x5 : Int).toNat (⟨x1, (rd_T58 x0 x5).f1, (rd_T58 x0 x5).f2, (rd_T58 x0 x5).f3, (rd_T58 x0 x5).f4⟩ : S58) : List (S58))).bind fun y179 => ((some (y179.set (x5 : Int).toNat (⟨(rd_T58 y179 x5).f0, wrap64 (x1 + 1), (rd_T58 y179 x5).f2, (rd_T58 y179 x5).f3, (rd_T58 y179 x5).f4⟩ : S58) : List (S58))).bind fun y180 => ((laws_markText.f k (wrap64 ((wrap64 (x1 + 1)) + 1))).bind fun t181 => ((some (y180.set (x5 : Int).toNat (⟨(rd_T58 y180 x5).f0, (rd_T58 y180 x5).f1, t181, (rd_T58 y180 x5).f3, (rd_T58 y180 x5).f4⟩ : S58) : List (S58))).bind fun y182 => ((some (y182.set (x5 : Int).toNat (⟨(rd_T58 y182 x5).f0, (rd_T58 y182 x5).f1, (rd_T58 y182 x5).f2, wrap64 ((wrap64 ((wrap64 (x1 + 1)) + 1)) + 1), (rd_T58 y182 x5).f4⟩ : S58) : List (S58))).bind fun y183 => (laws_markBoughS.l0 k (y183.set (x5 : Int).toNat (⟨(rd_T58 y183 x5).f0, (rd_T58 y183 x5).f1, (rd_T58 y183 x5).f2, (rd_T58 y183 x5).f3, wrap64 ((wrap64 ((wrap64 ((wrap64 (x1 + 1)) + 1)) + 1)) + 1)⟩ : S58)) (wrap64 ((wrap64 ((wrap64 ((wrap64 ((wrap64 (x1 + 1)) + 1)) + 1)) + 1)) + 1)) (wrap64 (x5 + 1)))))))) else (none)) else (some (x1, x0))
def laws_markBoughS.f (k : Nat) (l0 : List (S58)) (a1 : Int) : Option (Int × (List (S58))) := laws_markBoughS.l0 k l0 a1 0
theorem laws_markBoughS.mono_l : ∀ k, (∀ y0 y1 y2, LeO (laws_markBoughS.l0 k y0 y1 y2) (laws_markBoughS.l0 (k + 1) y0 y1 y2))
 | 0 => fun _ _ _ r h => by simp [laws_markBoughS.l0] at h
 | k + 1 => by
  have ih0 := laws_markBoughS.mono_l k
  ·intro y0 y1 y2
   unfold laws_markBoughS.l0
   repeat' first
   | (with_reducible exact ih0 _ _ _)
   | (with_reducible exact laws_markText.mono _ _)
   | (with_reducible exact LeO.refl _)
   | (with_reducible exact LeO.none _)
   | (with_reducible refine LeO.ite ?_ ?_)
   | (with_reducible refine LeO.bind ?_ (fun _ => ?_))
   | exact ih0 _ _ _
   | exact laws_markText.mono _ _
   | exact LeO.none _
   | refine LeO.ite ?_ ?_
   | refine LeO.bind ?_ (fun _ => ?_)
theorem laws_markBoughS.mono : ∀ a0 a1 k, LeO (laws_markBoughS.f k a0 a1) (laws_markBoughS.f (k + 1) a0 a1) := by
 intro a0 a1 k
 have ih0 := laws_markBoughS.mono_l k
 unfold laws_markBoughS.f
 repeat' first
   | (with_reducible exact ih0 _ _ _)
   | (with_reducible exact laws_markText.mono _ _)
   | (with_reducible exact LeO.refl _)
   | (with_reducible exact LeO.none _)
   | (with_reducible refine LeO.ite ?_ ?_)
   | (with_reducible refine LeO.bind ?_ (fun _ => ?_))
   | exact ih0 _ _ _
   | exact laws_markText.mono _ _
   | exact LeO.none _
   | refine LeO.ite ?_ ?_
   | refine LeO.bind ?_ (fun _ => ?_)
set_option maxHeartbeats 8000000 in
set_option maxRecDepth 100000 in
theorem laws_markBoughS.calls (k : Nat) (P0_ : Nat → Prop) (u9000_ : Value) (l0 : List (S58)) (a1 : Int) (r1 : Int) (r2 : List (S58)) (w0 w : World) (hB : Below w0.heap.size w0 w) (ho0 : Kd.R k58 58 w w0.heap.size P0_ u9000_ l0) (h : laws_markBoughS.f k l0 a1 = some (r1, r2)) :
  Calls Try.prog 63 #[u9000_, .int .i64 a1] w fun e w' => e = .returned (.int .i64 r1) ∧ Kd.R k58 58 w' w0.heap.size (fun k_ => (P0_ k_ ∨ w.heap.size ≤ k_)) u9000_ r2 ∧ Below w0.heap.size w0 w' ∧ Kept w w' (fun k_ => P0_ k_) := by
 have HO0 := Aside0.mk (show Kd.R k58 58 w w0.heap.size (fun k_ => (P0_ k_ ∨ w.heap.size ≤ k_)) u9000_ l0 from Kd.R_mono ho0 (fun k_ hk => (.inl hk)))
 have HK := Aside0.mk (Kept.refl w (fun k_ => P0_ k_))
 have HW0 := Aside0.mk hB.size
 have HB := Aside0.mk hB
 clear hB
 have H : (laws_markBoughS.l0 k l0 a1 0) = some (r1, r2) := h
 clear h
 have H' := Aside0.mk H
 clear H
 go_enter Try.func63, Try.ntmps63
 go_wp2
 go_loopg [1, 5] k (fun kq v1 v5 w' => ∃ (x0_1 : List (S58)) (x1_1 : Int) (x5_1 : Int), v1 = .int .i64 x1_1 ∧ v5 = .int .i64 x5_1 ∧ Aside0 (laws_markBoughS.l0 kq x0_1 x1_1 x5_1 = some (r1, r2)) ∧ Aside0 (kq ≤ k) ∧ Aside0 (Kd.R k58 58 w' w0.heap.size (fun k_ => (P0_ k_ ∨ w.heap.size ≤ k_)) u9000_ x0_1) ∧ Aside0 (Kept w w' (fun k_ => P0_ k_)) ∧ Aside0 (Below w0.heap.size w0 w'))
 case atStart => exact ⟨(l0), (a1), (0), (by first | rfl | (simp; done) | (simp [*]; done)), (by first | rfl | (simp; done) | (simp [*]; done)), H', ⟨Nat.le_refl _⟩, ⟨by (with_reducible repeat (first | apply Kd.R_alloc | apply Kd.R_drewN | apply Kd.R_drew)); exact HO0.out⟩, ⟨by repeat (first | (with_reducible first | exact HK.out | apply Kept.alloc | apply Kept.drewN | apply Kept.drew) | exact HK.out)⟩, ⟨by repeat (first | (with_reducible first | exact HB.out | apply below_alloc | apply pw_below_drewN | apply below_drew1) | exact HB.out)⟩⟩
 case round =>
  clear H'
  try clear p2
  obtain ⟨x0_1, x1_1, x5_1, rfl, rfl, HA, HK1, HO_0, HK, HB⟩ := hrel
  cases gk with
  | zero => exact absurd HA.out (by simp [laws_markBoughS.l0])
  | succ k1 =>
   have H := HA.out
   clear HA
   simp only [laws_markBoughS.l0] at H
   by_cases c3 : x5_1 < (x0_1.length : Int)
   ·rw [if_pos c3] at H
    have c3b0 : decide (x5_1 < (x0_1.length : Int)) = true := decide_eq_true c3
    clear c3
    by_cases c4 : 0 ≤ x5_1
    ·rw [if_pos c4] at H
     have c4b0 : decide (0 ≤ x5_1) = true := decide_eq_true c4
     clear c4
     obtain ⟨y179, hy179⟩ : ∃ y_ : List (S58), y_ = (x0_1.set (x5_1 : Int).toNat (⟨x1_1, (rd_T58 x0_1 x5_1).f1, (rd_T58 x0_1 x5_1).f2, (rd_T58 x0_1 x5_1).f3, (rd_T58 x0_1 x5_1).f4⟩ : S58)) := ⟨_, rfl⟩
     replace H : ((some (y179.set (x5_1 : Int).toNat (⟨(rd_T58 y179 x5_1).f0, wrap64 (x1_1 + 1), (rd_T58 y179 x5_1).f2, (rd_T58 y179 x5_1).f3, (rd_T58 y179 x5_1).f4⟩ : S58) : List (S58))).bind fun y180 => ((laws_markText.f k1 (wrap64 ((wrap64 (x1_1 + 1)) + 1))).bind fun t181 => ((some (y180.set (x5_1 : Int).toNat (⟨(rd_T58 y180 x5_1).f0, (rd_T58 y180 x5_1).f1, t181, (rd_T58 y180 x5_1).f3, (rd_T58 y180 x5_1).f4⟩ : S58) : List (S58))).bind fun y182 => ((some (y182.set (x5_1 : Int).toNat (⟨(rd_T58 y182 x5_1).f0, (rd_T58 y182 x5_1).f1, (rd_T58 y182 x5_1).f2, wrap64 ((wrap64 ((wrap64 (x1_1 + 1)) + 1)) + 1), (rd_T58 y182 x5_1).f4⟩ : S58) : List (S58))).bind fun y183 => (laws_markBoughS.l0 k1 (y183.set (x5_1 : Int).toNat (⟨(rd_T58 y183 x5_1).f0, (rd_T58 y183 x5_1).f1, (rd_T58 y183 x5_1).f2, (rd_T58 y183 x5_1).f3, wrap64 ((wrap64 ((wrap64 ((wrap64 (x1_1 + 1)) + 1)) + 1)) + 1)⟩ : S58)) (wrap64 ((wrap64 ((wrap64 ((wrap64 ((wrap64 (x1_1 + 1)) + 1)) + 1)) + 1)) + 1)) (wrap64 (x5_1 + 1))))))) = some (r1, r2) := by first | (rw [hy179]; with_reducible exact H) | (have H2_ := (Option.bind_some _ _).symm.trans H; rw [hy179]; with_reducible exact H2_) | (have H2_ := (Option.bind_some _ _).symm.trans H; with_reducible exact H2_) | with_reducible exact H | (rw [hy179]; exact H) | exact H
     have Ny179 := Aside0.mk hy179
     clear hy179
     obtain ⟨y180, hy180⟩ : ∃ y_ : List (S58), y_ = (y179.set (x5_1 : Int).toNat (⟨(rd_T58 y179 x5_1).f0, wrap64 (x1_1 + 1), (rd_T58 y179 x5_1).f2, (rd_T58 y179 x5_1).f3, (rd_T58 y179 x5_1).f4⟩ : S58)) := ⟨_, rfl⟩
     replace H : ((laws_markText.f k1 (wrap64 ((wrap64 (x1_1 + 1)) + 1))).bind fun t181 => ((some (y180.set (x5_1 : Int).toNat (⟨(rd_T58 y180 x5_1).f0, (rd_T58 y180 x5_1).f1, t181, (rd_T58 y180 x5_1).f3, (rd_T58 y180 x5_1).f4⟩ : S58) : List (S58))).bind fun y182 => ((some (y182.set (x5_1 : Int).toNat (⟨(rd_T58 y182 x5_1).f0, (rd_T58 y182 x5_1).f1, (rd_T58 y182 x5_1).f2, wrap64 ((wrap64 ((wrap64 (x1_1 + 1)) + 1)) + 1), (rd_T58 y182 x5_1).f4⟩ : S58) : List (S58))).bind fun y183 => (laws_markBoughS.l0 k1 (y183.set (x5_1 : Int).toNat (⟨(rd_T58 y183 x5_1).f0, (rd_T58 y183 x5_1).f1, (rd_T58 y183 x5_1).f2, (rd_T58 y183 x5_1).f3, wrap64 ((wrap64 ((wrap64 ((wrap64 (x1_1 + 1)) + 1)) + 1)) + 1)⟩ : S58)) (wrap64 ((wrap64 ((wrap64 ((wrap64 ((wrap64 (x1_1 + 1)) + 1)) + 1)) + 1)) + 1)) (wrap64 (x5_1 + 1)))))) = some (r1, r2) := by first | (rw [hy180]; with_reducible exact H) | (have H2_ := (Option.bind_some _ _).symm.trans H; rw [hy180]; with_reducible exact H2_) | (have H2_ := (Option.bind_some _ _).symm.trans H; with_reducible exact H2_) | with_reducible exact H | (rw [hy180]; exact H) | exact H
     have Ny180 := Aside0.mk hy180
     clear hy180
     replace H := Option.bind_eq_some_iff.mp H
     obtain ⟨t181, A70, H⟩ := H
     try dsimp only at H
     have A7 := Aside0.mk A70
     clear A70
     obtain ⟨y182, hy182⟩ : ∃ y_ : List (S58), y_ = (y180.set (x5_1 : Int).toNat (⟨(rd_T58 y180 x5_1).f0, (rd_T58 y180 x5_1).f1, t181, (rd_T58 y180 x5_1).f3, (rd_T58 y180 x5_1).f4⟩ : S58)) := ⟨_, rfl⟩
     replace H : ((some (y182.set (x5_1 : Int).toNat (⟨(rd_T58 y182 x5_1).f0, (rd_T58 y182 x5_1).f1, (rd_T58 y182 x5_1).f2, wrap64 ((wrap64 ((wrap64 (x1_1 + 1)) + 1)) + 1), (rd_T58 y182 x5_1).f4⟩ : S58) : List (S58))).bind fun y183 => (laws_markBoughS.l0 k1 (y183.set (x5_1 : Int).toNat (⟨(rd_T58 y183 x5_1).f0, (rd_T58 y183 x5_1).f1, (rd_T58 y183 x5_1).f2, (rd_T58 y183 x5_1).f3, wrap64 ((wrap64 ((wrap64 ((wrap64 (x1_1 + 1)) + 1)) + 1)) + 1)⟩ : S58)) (wrap64 ((wrap64 ((wrap64 ((wrap64 ((wrap64 (x1_1 + 1)) + 1)) + 1)) + 1)) + 1)) (wrap64 (x5_1 + 1)))) = some (r1, r2) := by first | (rw [hy182]; with_reducible exact H) | (have H2_ := (Option.bind_some _ _).symm.trans H; rw [hy182]; with_reducible exact H2_) | (have H2_ := (Option.bind_some _ _).symm.trans H; with_reducible exact H2_) | with_reducible exact H | (rw [hy182]; exact H) | exact H
     have Ny182 := Aside0.mk hy182
     clear hy182
     obtain ⟨y183, hy183⟩ : ∃ y_ : List (S58), y_ = (y182.set (x5_1 : Int).toNat (⟨(rd_T58 y182 x5_1).f0, (rd_T58 y182 x5_1).f1, (rd_T58 y182 x5_1).f2, wrap64 ((wrap64 ((wrap64 (x1_1 + 1)) + 1)) + 1), (rd_T58 y182 x5_1).f4⟩ : S58)) := ⟨_, rfl⟩
     replace H : (laws_markBoughS.l0 k1 (y183.set (x5_1 : Int).toNat (⟨(rd_T58 y183 x5_1).f0, (rd_T58 y183 x5_1).f1, (rd_T58 y183 x5_1).f2, (rd_T58 y183 x5_1).f3, wrap64 ((wrap64 ((wrap64 ((wrap64 (x1_1 + 1)) + 1)) + 1)) + 1)⟩ : S58)) (wrap64 ((wrap64 ((wrap64 ((wrap64 ((wrap64 (x1_1 + 1)) + 1)) + 1)) + 1)) + 1)) (wrap64 (x5_1 + 1))) = some (r1, r2) := by first | (rw [hy183]; with_reducible exact H) | (have H2_ := (Option.bind_some _ _).symm.trans H; rw [hy183]; with_reducible exact H2_) | (have H2_ := (Option.bind_some _ _).symm.trans H; with_reducible exact H2_) | with_reducible exact H | (rw [hy183]; exact H) | exact H
     have Ny183 := Aside0.mk hy183
     clear hy183
     obtain ⟨y184, hy184⟩ : ∃ y_ : List (S58), y_ = (y183.set (x5_1 : Int).toNat (⟨(rd_T58 y183 x5_1).f0, (rd_T58 y183 x5_1).f1, (rd_T58 y183 x5_1).f2, (rd_T58 y183 x5_1).f3, wrap64 ((wrap64 ((wrap64 ((wrap64 (x1_1 + 1)) + 1)) + 1)) + 1)⟩ : S58)) := ⟨_, rfl⟩
     replace H : (laws_markBoughS.l0 k1 y184 (wrap64 ((wrap64 ((wrap64 ((wrap64 ((wrap64 (x1_1 + 1)) + 1)) + 1)) + 1)) + 1)) (wrap64 (x5_1 + 1))) = some (r1, r2) := by first | (rw [hy184]; with_reducible exact H) | (have H2_ := (Option.bind_some _ _).symm.trans H; rw [hy184]; with_reducible exact H2_) | (have H2_ := (Option.bind_some _ _).symm.trans H; with_reducible exact H2_) | with_reducible exact H | (rw [hy184]; exact H) | exact H
     have Ny184 := Aside0.mk hy184
     clear hy184
     have H' := Aside0.mk H
     clear H
     obtain ⟨Ao11, co11, eo11⟩ := Kd.R_slice HO_0.out
     subst eo11
     have p5 : 0 ≤ (x5_1 : Int) := of_decide_eq_true z1
     have q5 : (x5_1 : Int) < ((x0_1.length : Int) : Int) := of_decide_eq_true z1
     obtain ⟨go5, co5, eo5, gb5, gl5, cl5, HG5⟩ := Kd.R_form HO_0.out (by omega)
     (first | cases eo5 | (injection eo5 with ea_ en_ ec_; (first | subst ea_ | (injection ea_ with ea_; subst ea_)); subst ec_; clear en_))
     have GB5 := Aside0.mk gb5
     have GG5 := Aside0.mk HG5
     clear gb5 gl5 HG5
     have HMgo5 := Aside0.mk (show (P0_ go5 ∨ w.heap.size ≤ go5) from (HO_0.out.1 _ rfl))
     obtain ⟨ce5, hcl5, hM5, hcc5, hfr5⟩ := Kd.R_elem HO_0.out z58 (x5_1 : Int) p5 q5
     obtain rfl := k58_openM hM5
     have hx5_0 : wr.cell? ⟨go5, (x5_1 : Int).toNat * 5, none⟩ = some (.int .i64 ((rd_T58 x0_1 x5_1).f0)) := hcc5 0 _ rfl
     have hx5_1 : wr.cell? ⟨go5, (x5_1 : Int).toNat * 5 + 1, none⟩ = some (.int .i64 ((rd_T58 x0_1 x5_1).f1)) := hcc5 1 _ rfl
     have hx5_2 : wr.cell? ⟨go5, (x5_1 : Int).toNat * 5 + 2, none⟩ = some (.string ((rd_T58 x0_1 x5_1).f2)) := hcc5 2 _ rfl
     have hx5_3 : wr.cell? ⟨go5, (x5_1 : Int).toNat * 5 + 3, none⟩ = some (.int .i64 ((rd_T58 x0_1 x5_1).f3)) := hcc5 3 _ rfl
     have hx5_4 : wr.cell? ⟨go5, (x5_1 : Int).toNat * 5 + 4, none⟩ = some (.int .i64 ((rd_T58 x0_1 x5_1).f4)) := hcc5 4 _ rfl
     have hf5_0 : wr.frozen? ⟨go5, (x5_1 : Int).toNat * 5, none⟩ = false := hfr5 0
     have hf5_1 : wr.frozen? ⟨go5, (x5_1 : Int).toNat * 5 + 1, none⟩ = false := hfr5 1
     have hf5_2 : wr.frozen? ⟨go5, (x5_1 : Int).toNat * 5 + 2, none⟩ = false := hfr5 2
     have hf5_3 : wr.frozen? ⟨go5, (x5_1 : Int).toNat * 5 + 3, none⟩ = false := hfr5 3
     have hf5_4 : wr.frozen? ⟨go5, (x5_1 : Int).toNat * 5 + 4, none⟩ = false := hfr5 4
     clear hcl5 hcc5 hfr5; (try clear hM5)
     replace p5 := eq_true p5
     replace q5 := eq_true q5
     have HX12 := Aside0.mk (show Kd.R k58 58 wr w0.heap.size (fun k_ => (P0_ k_ ∨ w.heap.size ≤ k_)) (.slice (some ⟨go5, 0, none⟩) x0_1.length co11) x0_1 from (by (with_reducible repeat (first | apply Kd.R_alloc | apply Kd.R_drewN | apply Kd.R_drew)); exact HO_0.out))
     obtain ⟨ce12, hcl12, hM12, hcc12, hfr12⟩ := Kd.R_elem HX12.out z58 (x5_1 : Int) (of_decide_eq_true z1) (by have h_ : (x5_1 : Int) < ((x0_1.length : Int) : Int) := of_decide_eq_true z1; first | exact h_ | (have e_ := (Kd.R_reads' HO_0.out).1; omega) | simpa using h_)
     obtain rfl := k58_openM hM12
     have HP12 := Kd.R_seg HX12.out (x5_1 : Int) (of_decide_eq_true z1) (by have h_ : (x5_1 : Int) < ((x0_1.length : Int) : Int) := of_decide_eq_true z1; first | exact h_ | (have e_ := (Kd.R_reads' HO_0.out).1; omega) | simpa using h_) (seg := [.int .i64 x1_1]) (j := 0) hcl12 hcc12 (show 1 ≤ 5 from by decide) (x' := (⟨x1_1, (rd_T58 x0_1 x5_1).f1, (rd_T58 x0_1 x5_1).f2, (rd_T58 x0_1 x5_1).f3, (rd_T58 x0_1 x5_1).f4⟩ : S58)) (k58_mkM _ _ _ (⟨x1_1, (rd_T58 x0_1 x5_1).f1, (rd_T58 x0_1 x5_1).f2, (rd_T58 x0_1 x5_1).f3, (rd_T58 x0_1 x5_1).f4⟩ : S58) ) (fun _ hk => hk)
     have hx12_0 := hcc12 0 _ rfl
     (try simp only [show (k58).sz = 5 from rfl, Nat.mul_one, Nat.add_zero] at hx12_0)
     have hf12_0 := hfr12 0
     (try simp only [show (k58).sz = 5 from rfl, Nat.mul_one, Nat.add_zero] at hf12_0)
     clear hcl12 hcc12 hfr12; (try clear hM12)
     go_wp2_with (first | ((with_reducible refine gate_store (t := 3) (p := 16) rfl ?_); refine store_event (t := 3) (p := 16) (v := ?vo_w13) (w1 := (wr.setCell ⟨go5, (x5_1 : Int).toNat * 5, none⟩ (.int .i64 x1_1))) ?hg ?ho ?hn ?hr ?_; (case ho => rfl); (case hg => rfl); (case hn => rfl); (case hr => first | (go_simp; done) | (go_simp; rfl) | ((try simp only [Int.toNat_natCast] at *); go_simp; first | done | rfl)); intro w13 hw; have hg : wr.grownBy w13 (some go5) := (by rw [hw]; exact HP12.2); have hp_ : Kd.R k58 58 w13 w0.heap.size (fun k_ => (P0_ k_ ∨ w.heap.size ≤ k_)) (.slice (some ⟨go5, 0, none⟩) x0_1.length co11) y179 := (by rw [hw, Ny179.out]; exact HP12.1); clear HP12; have n0_ := Aside0.mk (hp_); have n1_ := Aside0.mk ((by rw [hw]; exact below_set (HB.out) GB5.out : Below w0.heap.size w0 w13)); have n2_ := Aside0.mk (Kept.of_grown (S := (fun k_ => P0_ k_)) hg z5 (fun k_ e_ => (HO_0.out.1 k_ e_))); clear HO_0; clear HB; clear HK; have HO_0 := n0_; have HB := n1_; have HK := n2_; clear n0_ n1_ n2_; clear hg hw hp_; have p6 : 0 ≤ (x5_1 : Int) := of_decide_eq_true z1; have q6 : (x5_1 : Int) < ((x0_1.length : Int) : Int) := of_decide_eq_true z1; obtain ⟨ce6, hcl6, hM6, hcc6, hfr6⟩ := Kd.R_elem HO_0.out z58 (x5_1 : Int) p6 q6; obtain rfl := k58_openM hM6; have hx6_0 : w13.cell? ⟨go5, (x5_1 : Int).toNat * 5, none⟩ = some (.int .i64 ((rd_T58 y179 x5_1).f0)) := hcc6 0 _ rfl; have hx6_1 : w13.cell? ⟨go5, (x5_1 : Int).toNat * 5 + 1, none⟩ = some (.int .i64 ((rd_T58 y179 x5_1).f1)) := hcc6 1 _ rfl; have hx6_2 : w13.cell? ⟨go5, (x5_1 : Int).toNat * 5 + 2, none⟩ = some (.string ((rd_T58 y179 x5_1).f2)) := hcc6 2 _ rfl; have hx6_3 : w13.cell? ⟨go5, (x5_1 : Int).toNat * 5 + 3, none⟩ = some (.int .i64 ((rd_T58 y179 x5_1).f3)) := hcc6 3 _ rfl; have hx6_4 : w13.cell? ⟨go5, (x5_1 : Int).toNat * 5 + 4, none⟩ = some (.int .i64 ((rd_T58 y179 x5_1).f4)) := hcc6 4 _ rfl; have hf6_0 : w13.frozen? ⟨go5, (x5_1 : Int).toNat * 5, none⟩ = false := hfr6 0; have hf6_1 : w13.frozen? ⟨go5, (x5_1 : Int).toNat * 5 + 1, none⟩ = false := hfr6 1; have hf6_2 : w13.frozen? ⟨go5, (x5_1 : Int).toNat * 5 + 2, none⟩ = false := hfr6 2; have hf6_3 : w13.frozen? ⟨go5, (x5_1 : Int).toNat * 5 + 3, none⟩ = false := hfr6 3; have hf6_4 : w13.frozen? ⟨go5, (x5_1 : Int).toNat * 5 + 4, none⟩ = false := hfr6 4; clear hcl6 hcc6 hfr6; (try clear hM6); replace p6 := eq_true p6; replace q6 := eq_true q6; have HX14 := Aside0.mk (show Kd.R k58 58 w13 w0.heap.size (fun k_ => (P0_ k_ ∨ w.heap.size ≤ k_)) (.slice (some ⟨go5, 0, none⟩) x0_1.length co11) y179 from (by (with_reducible repeat (first | apply Kd.R_alloc | apply Kd.R_drewN | apply Kd.R_drew)); exact HO_0.out)); obtain ⟨ce14, hcl14, hM14, hcc14, hfr14⟩ := Kd.R_elem HX14.out z58 (x5_1 : Int) (of_decide_eq_true z1) (by have h_ : (x5_1 : Int) < ((x0_1.length : Int) : Int) := of_decide_eq_true z1; first | exact h_ | (have e_ := (Kd.R_reads' HO_0.out).1; omega) | simpa using h_); obtain rfl := k58_openM hM14; have HP14 := Kd.R_seg HX14.out (x5_1 : Int) (of_decide_eq_true z1) (by have h_ : (x5_1 : Int) < ((x0_1.length : Int) : Int) := of_decide_eq_true z1; first | exact h_ | (have e_ := (Kd.R_reads' HO_0.out).1; omega) | simpa using h_) (seg := [.int .i64 (wrap64 (x1_1 + 1))]) (j := 1) hcl14 hcc14 (show 2 ≤ 5 from by decide) (x' := (⟨(rd_T58 y179 x5_1).f0, wrap64 (x1_1 + 1), (rd_T58 y179 x5_1).f2, (rd_T58 y179 x5_1).f3, (rd_T58 y179 x5_1).f4⟩ : S58)) (k58_mkM _ _ _ (⟨(rd_T58 y179 x5_1).f0, wrap64 (x1_1 + 1), (rd_T58 y179 x5_1).f2, (rd_T58 y179 x5_1).f3, (rd_T58 y179 x5_1).f4⟩ : S58) ) (fun _ hk => hk); have hx14_1 := hcc14 1 _ rfl; (try simp only [show (k58).sz = 5 from rfl, Nat.mul_one, Nat.add_zero] at hx14_1); have hf14_1 := hfr14 1; (try simp only [show (k58).sz = 5 from rfl, Nat.mul_one, Nat.add_zero] at hf14_1); clear hcl14 hcc14 hfr14; (try clear hM14)) | ((with_reducible refine gate_store (t := 3) (p := 23) rfl ?_); refine store_event (t := 3) (p := 23) (v := ?vo_w15) (w1 := (w13.setCell ⟨go5, (x5_1 : Int).toNat * 5 + 1, none⟩ (.int .i64 (wrap64 (x1_1 + 1))))) ?hg ?ho ?hn ?hr ?_; (case ho => rfl); (case hg => rfl); (case hn => rfl); (case hr => first | (go_simp; done) | (go_simp; rfl) | ((try simp only [Int.toNat_natCast] at *); go_simp; first | done | rfl)); intro w15 hw; have hg : w13.grownBy w15 (some go5) := (by rw [hw]; exact HP14.2); have hp_ : Kd.R k58 58 w15 w0.heap.size (fun k_ => (P0_ k_ ∨ w.heap.size ≤ k_)) (.slice (some ⟨go5, 0, none⟩) x0_1.length co11) y180 := (by rw [hw, Ny180.out]; exact HP14.1); clear HP14; have n0_ := Aside0.mk (hp_); have n1_ := Aside0.mk ((by rw [hw]; exact below_set (HB.out) GB5.out : Below w0.heap.size w0 w15)); have n2_ := Aside0.mk (Kept.of_grown (S := (fun k_ => P0_ k_)) hg z5 (fun k_ e_ => (HO_0.out.1 k_ e_))); clear HO_0; clear HB; clear HK; have HO_0 := n0_; have HB := n1_; have HK := n2_; clear n0_ n1_ n2_; clear hg hw hp_) | ((with_reducible refine gate_callee (f := 67) rfl ?_); refine goesL_ (some 29) rfl rfl Try.func67 z0 rfl #[.int .i64 (wrap64 ((wrap64 (x1_1 + 1)) + 1))] rfl z7 ?_; (with_reducible refine (laws_markText.calls k1 (wrap64 ((wrap64 (x1_1 + 1)) + 1)) t181 _ A7.out).mono ?_); rintro e w16 ⟨rfl, hb⟩; refine ⟨_, rfl, ?_⟩; have n0_ := Aside0.mk (Kd.R_below (by (with_reducible repeat (first | apply Kd.R_alloc | apply Kd.R_drewN | apply Kd.R_drew)); exact HO_0.out) hb); have n1_ := Aside0.mk (Kept.below (S := (fun k_ => P0_ k_)) z5 hb); have n2_ := Aside0.mk (below_step z6 hb); clear HO_0; clear HK; clear HB; have HO_0 := n0_; have HK := n1_; have HB := n2_; clear n0_ n1_ n2_; (try clear hb); (try clear hb2); (try clear hk); (try clear hi); have p8 : 0 ≤ (x5_1 : Int) := of_decide_eq_true z1; have q8 : (x5_1 : Int) < ((x0_1.length : Int) : Int) := of_decide_eq_true z1; obtain ⟨ce8, hcl8, hM8, hcc8, hfr8⟩ := Kd.R_elem HO_0.out z58 (x5_1 : Int) p8 q8; obtain rfl := k58_openM hM8; have hx8_0 : w16.cell? ⟨go5, (x5_1 : Int).toNat * 5, none⟩ = some (.int .i64 ((rd_T58 y180 x5_1).f0)) := hcc8 0 _ rfl; have hx8_1 : w16.cell? ⟨go5, (x5_1 : Int).toNat * 5 + 1, none⟩ = some (.int .i64 ((rd_T58 y180 x5_1).f1)) := hcc8 1 _ rfl; have hx8_2 : w16.cell? ⟨go5, (x5_1 : Int).toNat * 5 + 2, none⟩ = some (.string ((rd_T58 y180 x5_1).f2)) := hcc8 2 _ rfl; have hx8_3 : w16.cell? ⟨go5, (x5_1 : Int).toNat * 5 + 3, none⟩ = some (.int .i64 ((rd_T58 y180 x5_1).f3)) := hcc8 3 _ rfl; have hx8_4 : w16.cell? ⟨go5, (x5_1 : Int).toNat * 5 + 4, none⟩ = some (.int .i64 ((rd_T58 y180 x5_1).f4)) := hcc8 4 _ rfl; have hf8_0 : w16.frozen? ⟨go5, (x5_1 : Int).toNat * 5, none⟩ = false := hfr8 0; have hf8_1 : w16.frozen? ⟨go5, (x5_1 : Int).toNat * 5 + 1, none⟩ = false := hfr8 1; have hf8_2 : w16.frozen? ⟨go5, (x5_1 : Int).toNat * 5 + 2, none⟩ = false := hfr8 2; have hf8_3 : w16.frozen? ⟨go5, (x5_1 : Int).toNat * 5 + 3, none⟩ = false := hfr8 3; have hf8_4 : w16.frozen? ⟨go5, (x5_1 : Int).toNat * 5 + 4, none⟩ = false := hfr8 4; clear hcl8 hcc8 hfr8; (try clear hM8); replace p8 := eq_true p8; replace q8 := eq_true q8; have HX17 := Aside0.mk (show Kd.R k58 58 w16 w0.heap.size (fun k_ => (P0_ k_ ∨ w.heap.size ≤ k_)) (.slice (some ⟨go5, 0, none⟩) x0_1.length co11) y180 from (by (with_reducible repeat (first | apply Kd.R_alloc | apply Kd.R_drewN | apply Kd.R_drew)); exact HO_0.out)); obtain ⟨ce17, hcl17, hM17, hcc17, hfr17⟩ := Kd.R_elem HX17.out z58 (x5_1 : Int) (of_decide_eq_true z1) (by have h_ : (x5_1 : Int) < ((x0_1.length : Int) : Int) := of_decide_eq_true z1; first | exact h_ | (have e_ := (Kd.R_reads' HO_0.out).1; omega) | simpa using h_); obtain rfl := k58_openM hM17; have HP17 := Kd.R_seg HX17.out (x5_1 : Int) (of_decide_eq_true z1) (by have h_ : (x5_1 : Int) < ((x0_1.length : Int) : Int) := of_decide_eq_true z1; first | exact h_ | (have e_ := (Kd.R_reads' HO_0.out).1; omega) | simpa using h_) (seg := [.string t181]) (j := 2) hcl17 hcc17 (show 3 ≤ 5 from by decide) (x' := (⟨(rd_T58 y180 x5_1).f0, (rd_T58 y180 x5_1).f1, t181, (rd_T58 y180 x5_1).f3, (rd_T58 y180 x5_1).f4⟩ : S58)) (k58_mkM _ _ _ (⟨(rd_T58 y180 x5_1).f0, (rd_T58 y180 x5_1).f1, t181, (rd_T58 y180 x5_1).f3, (rd_T58 y180 x5_1).f4⟩ : S58) ) (fun _ hk => hk); have hx17_2 := hcc17 2 _ rfl; (try simp only [show (k58).sz = 5 from rfl, Nat.mul_one, Nat.add_zero] at hx17_2); have hf17_2 := hfr17 2; (try simp only [show (k58).sz = 5 from rfl, Nat.mul_one, Nat.add_zero] at hf17_2); clear hcl17 hcc17 hfr17; (try clear hM17)) | ((with_reducible refine gate_store (t := 9) (p := 31) rfl ?_); refine store_event (t := 9) (p := 31) (v := ?vo_w18) (w1 := (w16.setCell ⟨go5, (x5_1 : Int).toNat * 5 + 2, none⟩ (.string t181))) ?hg ?ho ?hn ?hr ?_; (case ho => rfl); (case hg => rfl); (case hn => rfl); (case hr => first | (go_simp; done) | (go_simp; rfl) | ((try simp only [Int.toNat_natCast] at *); go_simp; first | done | rfl)); intro w18 hw; have hg : w16.grownBy w18 (some go5) := (by rw [hw]; exact HP17.2); have hp_ : Kd.R k58 58 w18 w0.heap.size (fun k_ => (P0_ k_ ∨ w.heap.size ≤ k_)) (.slice (some ⟨go5, 0, none⟩) x0_1.length co11) y182 := (by rw [hw, Ny182.out]; exact HP17.1); clear HP17; have n0_ := Aside0.mk (hp_); have n1_ := Aside0.mk ((by rw [hw]; exact below_set (HB.out) GB5.out : Below w0.heap.size w0 w18)); have n2_ := Aside0.mk (Kept.of_grown (S := (fun k_ => P0_ k_)) hg z5 (fun k_ e_ => (HO_0.out.1 k_ e_))); clear HO_0; clear HB; clear HK; have HO_0 := n0_; have HB := n1_; have HK := n2_; clear n0_ n1_ n2_; clear hg hw hp_; have p9 : 0 ≤ (x5_1 : Int) := of_decide_eq_true z1; have q9 : (x5_1 : Int) < ((x0_1.length : Int) : Int) := of_decide_eq_true z1; obtain ⟨ce9, hcl9, hM9, hcc9, hfr9⟩ := Kd.R_elem HO_0.out z58 (x5_1 : Int) p9 q9; obtain rfl := k58_openM hM9; have hx9_0 : w18.cell? ⟨go5, (x5_1 : Int).toNat * 5, none⟩ = some (.int .i64 ((rd_T58 y182 x5_1).f0)) := hcc9 0 _ rfl; have hx9_1 : w18.cell? ⟨go5, (x5_1 : Int).toNat * 5 + 1, none⟩ = some (.int .i64 ((rd_T58 y182 x5_1).f1)) := hcc9 1 _ rfl; have hx9_2 : w18.cell? ⟨go5, (x5_1 : Int).toNat * 5 + 2, none⟩ = some (.string ((rd_T58 y182 x5_1).f2)) := hcc9 2 _ rfl; have hx9_3 : w18.cell? ⟨go5, (x5_1 : Int).toNat * 5 + 3, none⟩ = some (.int .i64 ((rd_T58 y182 x5_1).f3)) := hcc9 3 _ rfl; have hx9_4 : w18.cell? ⟨go5, (x5_1 : Int).toNat * 5 + 4, none⟩ = some (.int .i64 ((rd_T58 y182 x5_1).f4)) := hcc9 4 _ rfl; have hf9_0 : w18.frozen? ⟨go5, (x5_1 : Int).toNat * 5, none⟩ = false := hfr9 0; have hf9_1 : w18.frozen? ⟨go5, (x5_1 : Int).toNat * 5 + 1, none⟩ = false := hfr9 1; have hf9_2 : w18.frozen? ⟨go5, (x5_1 : Int).toNat * 5 + 2, none⟩ = false := hfr9 2; have hf9_3 : w18.frozen? ⟨go5, (x5_1 : Int).toNat * 5 + 3, none⟩ = false := hfr9 3; have hf9_4 : w18.frozen? ⟨go5, (x5_1 : Int).toNat * 5 + 4, none⟩ = false := hfr9 4; clear hcl9 hcc9 hfr9; (try clear hM9); replace p9 := eq_true p9; replace q9 := eq_true q9; have HX19 := Aside0.mk (show Kd.R k58 58 w18 w0.heap.size (fun k_ => (P0_ k_ ∨ w.heap.size ≤ k_)) (.slice (some ⟨go5, 0, none⟩) x0_1.length co11) y182 from (by (with_reducible repeat (first | apply Kd.R_alloc | apply Kd.R_drewN | apply Kd.R_drew)); exact HO_0.out)); obtain ⟨ce19, hcl19, hM19, hcc19, hfr19⟩ := Kd.R_elem HX19.out z58 (x5_1 : Int) (of_decide_eq_true z1) (by have h_ : (x5_1 : Int) < ((x0_1.length : Int) : Int) := of_decide_eq_true z1; first | exact h_ | (have e_ := (Kd.R_reads' HO_0.out).1; omega) | simpa using h_); obtain rfl := k58_openM hM19; have HP19 := Kd.R_seg HX19.out (x5_1 : Int) (of_decide_eq_true z1) (by have h_ : (x5_1 : Int) < ((x0_1.length : Int) : Int) := of_decide_eq_true z1; first | exact h_ | (have e_ := (Kd.R_reads' HO_0.out).1; omega) | simpa using h_) (seg := [.int .i64 (wrap64 ((wrap64 ((wrap64 (x1_1 + 1)) + 1)) + 1))]) (j := 3) hcl19 hcc19 (show 4 ≤ 5 from by decide) (x' := (⟨(rd_T58 y182 x5_1).f0, (rd_T58 y182 x5_1).f1, (rd_T58 y182 x5_1).f2, wrap64 ((wrap64 ((wrap64 (x1_1 + 1)) + 1)) + 1), (rd_T58 y182 x5_1).f4⟩ : S58)) (k58_mkM _ _ _ (⟨(rd_T58 y182 x5_1).f0, (rd_T58 y182 x5_1).f1, (rd_T58 y182 x5_1).f2, wrap64 ((wrap64 ((wrap64 (x1_1 + 1)) + 1)) + 1), (rd_T58 y182 x5_1).f4⟩ : S58) ) (fun _ hk => hk); have hx19_3 := hcc19 3 _ rfl; (try simp only [show (k58).sz = 5 from rfl, Nat.mul_one, Nat.add_zero] at hx19_3); have hf19_3 := hfr19 3; (try simp only [show (k58).sz = 5 from rfl, Nat.mul_one, Nat.add_zero] at hf19_3); clear hcl19 hcc19 hfr19; (try clear hM19)) | ((with_reducible refine gate_store (t := 3) (p := 38) rfl ?_); refine store_event (t := 3) (p := 38) (v := ?vo_w20) (w1 := (w18.setCell ⟨go5, (x5_1 : Int).toNat * 5 + 3, none⟩ (.int .i64 (wrap64 ((wrap64 ((wrap64 (x1_1 + 1)) + 1)) + 1))))) ?hg ?ho ?hn ?hr ?_; (case ho => rfl); (case hg => rfl); (case hn => rfl); (case hr => first | (go_simp; done) | (go_simp; rfl) | ((try simp only [Int.toNat_natCast] at *); go_simp; first | done | rfl)); intro w20 hw; have hg : w18.grownBy w20 (some go5) := (by rw [hw]; exact HP19.2); have hp_ : Kd.R k58 58 w20 w0.heap.size (fun k_ => (P0_ k_ ∨ w.heap.size ≤ k_)) (.slice (some ⟨go5, 0, none⟩) x0_1.length co11) y183 := (by rw [hw, Ny183.out]; exact HP19.1); clear HP19; have n0_ := Aside0.mk (hp_); have n1_ := Aside0.mk ((by rw [hw]; exact below_set (HB.out) GB5.out : Below w0.heap.size w0 w20)); have n2_ := Aside0.mk (Kept.of_grown (S := (fun k_ => P0_ k_)) hg z5 (fun k_ e_ => (HO_0.out.1 k_ e_))); clear HO_0; clear HB; clear HK; have HO_0 := n0_; have HB := n1_; have HK := n2_; clear n0_ n1_ n2_; clear hg hw hp_; have p10 : 0 ≤ (x5_1 : Int) := of_decide_eq_true z1; have q10 : (x5_1 : Int) < ((x0_1.length : Int) : Int) := of_decide_eq_true z1; obtain ⟨ce10, hcl10, hM10, hcc10, hfr10⟩ := Kd.R_elem HO_0.out z58 (x5_1 : Int) p10 q10; obtain rfl := k58_openM hM10; have hx10_0 : w20.cell? ⟨go5, (x5_1 : Int).toNat * 5, none⟩ = some (.int .i64 ((rd_T58 y183 x5_1).f0)) := hcc10 0 _ rfl; have hx10_1 : w20.cell? ⟨go5, (x5_1 : Int).toNat * 5 + 1, none⟩ = some (.int .i64 ((rd_T58 y183 x5_1).f1)) := hcc10 1 _ rfl; have hx10_2 : w20.cell? ⟨go5, (x5_1 : Int).toNat * 5 + 2, none⟩ = some (.string ((rd_T58 y183 x5_1).f2)) := hcc10 2 _ rfl; have hx10_3 : w20.cell? ⟨go5, (x5_1 : Int).toNat * 5 + 3, none⟩ = some (.int .i64 ((rd_T58 y183 x5_1).f3)) := hcc10 3 _ rfl; have hx10_4 : w20.cell? ⟨go5, (x5_1 : Int).toNat * 5 + 4, none⟩ = some (.int .i64 ((rd_T58 y183 x5_1).f4)) := hcc10 4 _ rfl; have hf10_0 : w20.frozen? ⟨go5, (x5_1 : Int).toNat * 5, none⟩ = false := hfr10 0; have hf10_1 : w20.frozen? ⟨go5, (x5_1 : Int).toNat * 5 + 1, none⟩ = false := hfr10 1; have hf10_2 : w20.frozen? ⟨go5, (x5_1 : Int).toNat * 5 + 2, none⟩ = false := hfr10 2; have hf10_3 : w20.frozen? ⟨go5, (x5_1 : Int).toNat * 5 + 3, none⟩ = false := hfr10 3; have hf10_4 : w20.frozen? ⟨go5, (x5_1 : Int).toNat * 5 + 4, none⟩ = false := hfr10 4; clear hcl10 hcc10 hfr10; (try clear hM10); replace p10 := eq_true p10; replace q10 := eq_true q10; have HX21 := Aside0.mk (show Kd.R k58 58 w20 w0.heap.size (fun k_ => (P0_ k_ ∨ w.heap.size ≤ k_)) (.slice (some ⟨go5, 0, none⟩) x0_1.length co11) y183 from (by (with_reducible repeat (first | apply Kd.R_alloc | apply Kd.R_drewN | apply Kd.R_drew)); exact HO_0.out)); obtain ⟨ce21, hcl21, hM21, hcc21, hfr21⟩ := Kd.R_elem HX21.out z58 (x5_1 : Int) (of_decide_eq_true z1) (by have h_ : (x5_1 : Int) < ((x0_1.length : Int) : Int) := of_decide_eq_true z1; first | exact h_ | (have e_ := (Kd.R_reads' HO_0.out).1; omega) | simpa using h_); obtain rfl := k58_openM hM21; have HP21 := Kd.R_seg HX21.out (x5_1 : Int) (of_decide_eq_true z1) (by have h_ : (x5_1 : Int) < ((x0_1.length : Int) : Int) := of_decide_eq_true z1; first | exact h_ | (have e_ := (Kd.R_reads' HO_0.out).1; omega) | simpa using h_) (seg := [.int .i64 (wrap64 ((wrap64 ((wrap64 ((wrap64 (x1_1 + 1)) + 1)) + 1)) + 1))]) (j := 4) hcl21 hcc21 (show 5 ≤ 5 from by decide) (x' := (⟨(rd_T58 y183 x5_1).f0, (rd_T58 y183 x5_1).f1, (rd_T58 y183 x5_1).f2, (rd_T58 y183 x5_1).f3, wrap64 ((wrap64 ((wrap64 ((wrap64 (x1_1 + 1)) + 1)) + 1)) + 1)⟩ : S58)) (k58_mkM _ _ _ (⟨(rd_T58 y183 x5_1).f0, (rd_T58 y183 x5_1).f1, (rd_T58 y183 x5_1).f2, (rd_T58 y183 x5_1).f3, wrap64 ((wrap64 ((wrap64 ((wrap64 (x1_1 + 1)) + 1)) + 1)) + 1)⟩ : S58) ) (fun _ hk => hk); have hx21_4 := hcc21 4 _ rfl; (try simp only [show (k58).sz = 5 from rfl, Nat.mul_one, Nat.add_zero] at hx21_4); have hf21_4 := hfr21 4; (try simp only [show (k58).sz = 5 from rfl, Nat.mul_one, Nat.add_zero] at hf21_4); clear hcl21 hcc21 hfr21; (try clear hM21)) | ((with_reducible refine gate_store (t := 3) (p := 45) rfl ?_); refine store_event (t := 3) (p := 45) (v := ?vo_w22) (w1 := (w20.setCell ⟨go5, (x5_1 : Int).toNat * 5 + 4, none⟩ (.int .i64 (wrap64 ((wrap64 ((wrap64 ((wrap64 (x1_1 + 1)) + 1)) + 1)) + 1))))) ?hg ?ho ?hn ?hr ?_; (case ho => rfl); (case hg => rfl); (case hn => rfl); (case hr => first | (go_simp; done) | (go_simp; rfl) | ((try simp only [Int.toNat_natCast] at *); go_simp; first | done | rfl)); intro w22 hw; have hg : w20.grownBy w22 (some go5) := (by rw [hw]; exact HP21.2); have hp_ : Kd.R k58 58 w22 w0.heap.size (fun k_ => (P0_ k_ ∨ w.heap.size ≤ k_)) (.slice (some ⟨go5, 0, none⟩) x0_1.length co11) y184 := (by rw [hw, Ny184.out]; exact HP21.1); clear HP21; have n0_ := Aside0.mk (hp_); have n1_ := Aside0.mk ((by rw [hw]; exact below_set (HB.out) GB5.out : Below w0.heap.size w0 w22)); have n2_ := Aside0.mk (Kept.of_grown (S := (fun k_ => P0_ k_)) hg z5 (fun k_ e_ => (HO_0.out.1 k_ e_))); clear HO_0; clear HB; clear HK; have HO_0 := n0_; have HB := n1_; have HK := n2_; clear n0_ n1_ n2_; clear hg hw hp_))
     go_roundg k1
     case measure => have := HK1.out; omega
     case rel => exact ⟨(y184), (wrap64 ((wrap64 ((wrap64 ((wrap64 ((wrap64 (x1_1 + 1)) + 1)) + 1)) + 1)) + 1)), (wrap64 (x5_1 + 1)), (by first | rfl | (simp; done) | (simp [*]; done)), (by first | rfl | (simp; done) | (simp [*]; done)), H', ⟨by have := HK1.out; omega⟩, ⟨by (with_reducible repeat (first | apply Kd.R_alloc | apply Kd.R_drewN | apply Kd.R_drew)); exact HO_0.out⟩, ⟨by repeat (first | (with_reducible first | exact HK.out | apply Kept.alloc | apply Kept.drewN | apply Kept.drew) | exact HK.out)⟩, ⟨by repeat (first | (with_reducible first | exact HB.out | apply below_alloc | apply pw_below_drewN | apply below_drew1) | exact HB.out)⟩⟩
    ·rw [if_neg c4] at H
     exact absurd H (by simp)
   ·rw [if_neg c3] at H
    have c3b0 : decide (x5_1 < (x0_1.length : Int)) = false := decide_eq_false c3
    clear c3
    simp only [Option.some.injEq, Prod.mk.injEq] at H
    obtain ⟨rfl, rfl⟩ := H
    obtain ⟨Ao23, co23, eo23⟩ := Kd.R_slice HO_0.out
    subst eo23
    go_wp2
    go_ret
    exact ⟨by first | rfl | (simp [errW_none, errW_some] <;> rfl) | (simp [*, errW_none, errW_some] <;> rfl), by (with_reducible repeat (first | apply Kd.R_alloc | apply Kd.R_drewN | apply Kd.R_drew)); exact HO_0.out, by repeat (first | (with_reducible first | exact HB.out | apply below_alloc | apply pw_below_drewN | apply below_drew1) | exact HB.out), by repeat (first | (with_reducible first | exact HK.out | apply Kept.alloc | apply Kept.drewN | apply Kept.drew) | exact HK.out)⟩

/-! ### laws_markRope: function 27 -/
def laws_markRope.f (k : Nat) (l0_0 : List (S58)) (a1 : Int) : Option (Int × (List (S58))) := (laws_markBoughS.f k l0_0 a1).bind fun bt186 => (some (bt186.1, bt186.2))
theorem laws_markRope.mono : ∀ a0 a1 k, LeO (laws_markRope.f k a0 a1) (laws_markRope.f (k + 1) a0 a1) := by
 intro a0 a1 k
 unfold laws_markRope.f
 repeat' first
   | (with_reducible exact laws_markBoughS.mono _ _ _)
   | (with_reducible exact LeO.refl _)
   | (with_reducible exact LeO.none _)
   | (with_reducible refine LeO.ite ?_ ?_)
   | (with_reducible refine LeO.bind ?_ (fun _ => ?_))
   | exact laws_markBoughS.mono _ _ _
   | exact LeO.none _
   | refine LeO.ite ?_ ?_
   | refine LeO.bind ?_ (fun _ => ?_)
set_option maxHeartbeats 8000000 in
set_option maxRecDepth 100000 in
theorem laws_markRope.calls (k : Nat) (P0_0_ : Nat → Prop) (u9000_ : Value) (l0_0 : List (S58)) (a1 : Int) (r1 : Int) (r2 : List (S58)) (w0 w : World) (hB : Below w0.heap.size w0 w) (ho0_0 : Kd.R k58 58 w w0.heap.size P0_0_ u9000_ l0_0) (h : laws_markRope.f k l0_0 a1 = some (r1, r2)) :
  Calls Try.prog 27 #[.agg #[u9000_], .int .i64 a1] w fun e w' => e = .returned (.int .i64 r1) ∧ Kd.R k58 58 w' w0.heap.size (fun k_ => (P0_0_ k_ ∨ w.heap.size ≤ k_)) u9000_ r2 ∧ Below w0.heap.size w0 w' ∧ Kept w w' (fun k_ => P0_0_ k_) := by
 have hu29 := Try.underlying29
 have HO0_0 := Aside0.mk (show Kd.R k58 58 w w0.heap.size (fun k_ => (P0_0_ k_ ∨ w.heap.size ≤ k_)) u9000_ l0_0 from Kd.R_mono ho0_0 (fun k_ hk => (.inl hk)))
 have HK := Aside0.mk (Kept.refl w (fun k_ => P0_0_ k_))
 have HW0 := Aside0.mk hB.size
 have HB := Aside0.mk hB
 clear hB
 have H : ((laws_markBoughS.f k l0_0 a1).bind fun bt186 => (some (bt186.1, bt186.2))) = some (r1, r2) := h
 clear h
 replace H := Option.bind_eq_some_iff.mp H
 obtain ⟨⟨t186, t187⟩, A30, H⟩ := H
 try dsimp only at H
 have A3 := Aside0.mk A30
 clear A30
 simp only [Option.some.injEq, Prod.mk.injEq] at H
 obtain ⟨rfl, rfl⟩ := H
 obtain ⟨Ao4, co4, eo4⟩ := Kd.R_slice HO0_0.out
 subst eo4
 go_enter Try.func27, Try.ntmps27
 go_wp2_with (first | ((with_reducible refine gate_dst (N := 2) rfl ?_); refine box_event ?hg (N := 2) ?hd (cs := #[.slice Ao4 l0_0.length co4]) (t := 29) ?hr ?_; (case hd => rfl); (case hg => rfl); (case hr => first | (go_simp; done) | (go_simp; rfl)); intro gb185 hg w5 hbox hb; have n0_ := Aside0.mk (Kd.R_below (by (with_reducible repeat (first | apply Kd.R_alloc | apply Kd.R_drewN | apply Kd.R_drew)); exact HO0_0.out) hb); have n1_ := Aside0.mk (Kept.below (S := (fun k_ => P0_0_ k_)) z5 hb); have n2_ := Aside0.mk (below_step z6 hb); have n3_ := Aside0.mk (hbox); have n4_ := Aside0.mk ((by rw [hg]; exact (by first | exact HK.out.1 | exact (show Kept w _ (fun k_ => P0_0_ k_) from by repeat (first | (with_reducible first | exact HK.out | apply Kept.alloc | apply Kept.drewN | apply Kept.drew) | exact HK.out)).1) : w.heap.size ≤ gb185)); have n5_ := Aside0.mk ((by rw [hg]; exact (below_size z6) : w0.heap.size ≤ gb185)); clear HO0_0; clear HK; clear HB; have HO0_0 := n0_; have HK := n1_; have HB := n2_; have BK185 := n3_; have GW185 := n4_; have GE185 := n5_; clear n0_ n1_ n2_ n3_ n4_ n5_; clear hb hbox hg; have hcz6_0 : w5.cell? ⟨gb185, 0, none⟩ = some (.slice Ao4 l0_0.length co4) := (blk_cell BK185.out 0).trans rfl; have hfz6_0 := blk_frozen BK185.out 0) | ((with_reducible refine gate_callee (f := 63) rfl ?_); refine goesL_ (some 8) rfl rfl Try.func63 z0 rfl #[.slice Ao4 l0_0.length co4, .int .i64 a1] rfl z7 ?_; (with_reducible refine (laws_markBoughS.calls k (fun k_ => some k_ = (.slice Ao4 l0_0.length co4 : Value).ownBlock) (.slice Ao4 l0_0.length co4) l0_0 a1 t186 t187 w0 _ ?side1 ?side2 A3.out).mono ?_); (case side1 => repeat (first | (with_reducible first | exact HB.out | apply below_alloc | apply pw_below_drewN | apply below_drew1 | refine below_set ?_ GE185.out) | exact HB.out)); (case side2 => exact Kd.R_tight rfl HO0_0.out); rintro e w7 ⟨rfl, hy0, hb, hkp⟩; refine ⟨_, rfl, ?_⟩; have n0_ := Aside0.mk (Kd.R_reok rfl hy0 (fun k_ e_ => HO0_0.out.1 k_ e_)); have n1_ := Aside0.mk (blk_kept (by (with_reducible repeat (first | refine blk_drewN ?_ _ | refine blk_drew ?_ | refine blk_alloc ?_ _)); exact BK185.out) hkp (fun hs_ => (fun e_ => (Kd.R_ne HO0_0.out BK185.out (by decide)) e_) hs_)); have n2_ := Aside0.mk (Kept.then_ (S := (fun k_ => P0_0_ k_)) (by repeat (first | (with_reducible first | exact HK.out | apply Kept.alloc | apply Kept.drewN | apply Kept.drew | refine Kept.setCell ?_ (.inr GW185.out) _) | exact HK.out)) hkp (fun k_ hs_ => (fun e_ => (HO0_0.out.1 k_ e_.symm)) hs_)); have n3_ := Aside0.mk (hb); clear HO0_0; clear BK185; clear HK; clear HB; have HO0_0 := n0_; have BK185 := n1_; have HK := n2_; have HB := n3_; clear n0_ n1_ n2_ n3_; (try clear hb); (try clear hkp); (try clear hy0)))
 go_ret
 exact ⟨by first | rfl | (simp [errW_none, errW_some] <;> rfl) | (simp [*, errW_none, errW_some] <;> rfl), by (with_reducible repeat (first | apply Kd.R_alloc | apply Kd.R_drewN | apply Kd.R_drew)); exact HO0_0.out, by repeat (first | (with_reducible first | exact HB.out | apply below_alloc | apply pw_below_drewN | apply below_drew1 | refine below_set ?_ GE185.out) | exact HB.out), by repeat (first | (with_reducible first | exact HK.out | apply Kept.alloc | apply Kept.drewN | apply Kept.drew | refine Kept.setCell ?_ (.inr GW185.out) _) | exact HK.out)⟩

end Go.Proofs.Ytmkenlejdaphnaa.AFnExactRopeOf
