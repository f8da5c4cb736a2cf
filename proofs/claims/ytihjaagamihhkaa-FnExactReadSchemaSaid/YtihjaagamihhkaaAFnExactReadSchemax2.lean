-- this session's own text: written by wip/tools/ownprint.py over the kit's print
import Derived.Laws.Externs
import Derived.Lib.Bytealg
import Derived.Deep.RegionLaw
import Derived.Outline
import Derived.Deep.DeepCutAuto
import Derived.Deep.CutBlock
import Derived.BigRegion
import Derived.Test.YtihjaagamihhkaaAFnExactReadSchemax0
import Derived.Test.YtihjaagamihhkaaAFnExactReadSchemax1
namespace Go.Proofs.Ytihjaagamihhkaa.AFnExactReadSchema
open Go.RowKit Go.Proofs.YtihjaagamihhkaaW.PrintWords Go.Proofs.YtihjaagamihhkaaW.PrintLast Go.Proofs.YtihjaagamihhkaaW.PrintMore
attribute [local go_sem] max2_int min2_int max_two min_two max_three min_three max_four min_four   -- for this text's walks alone
set_option linter.unusedVariables false
set_option linter.unusedSimpArgs false

/-! ### spec_GoodExpr: function 19, by hand -/
theorem snext_sN {s : ByteArray} (a : Int) (b : Bool) (d : Int) (h : 0 ≤ a) : spec_l6R_next.f s a b d = some (sN s a, s, a, b, d) := by
 unfold spec_l6R_next.f sN
 by_cases c : a < (s.size : Int)
 ·rw [if_pos c, if_pos h, if_pos c]
 ·rw [if_neg c, if_neg c]
theorem snext_any (g : Nat) (s : ByteArray) (a : Int) (b : Bool) (d : Int) (h : 0 ≤ a) (w0 w : World) (hI : IsS57 w0 w g s a b d) (hB : Below w0.heap.size w0 w) :
  Calls Try.prog 37 #[.pointer (some ⟨g, 0, none⟩)] w fun e w' => e = .returned (.int .u8 (sN s a)) ∧ IsS57 w0 w' g s a b d ∧ Below w0.heap.size w0 w' ∧ KeepBut w w' g none :=
 spec_l6R_next.calls g s a b d _ _ _ _ _ w0 w hI hB (snext_sN a b d h)
theorem ssym_any (c : Int) (w : World) : Calls Try.prog 49 #[.int .u8 c] w fun e w' => e = .returned (.bool (symB c)) ∧ Drawn0 w w' := by
 refine (spec_l6Symbol.calls c (symB c) w ?_)
 unfold spec_l6Symbol.f spec_l1Open.f symB
 by_cases h : c ≥ 65
 ·rw [if_pos h, Option.bind_some]
  by_cases h2 : c ≤ 70
  ·rw [dT h2, if_pos rfl, dT ⟨h, h2⟩]; rfl
  ·rw [dF h2, if_neg (by simp), dF (fun q => h2 q.2), Bool.false_or]
   rfl
 ·rw [if_neg h, Option.bind_some, if_neg (by simp), dF (fun q => h q.1), Bool.false_or]
  rfl
def isE (v : Value) : Prop := ∃ (x y : Int) (A : Option Addr) (n c : Nat), v = .agg #[.int .u8 x, .int .u8 y, .slice A n c]
def bxE (W : World) (u : Nat) : Prop := ∃ (x y : Int) (A : Option Addr) (n c : Nat), W.heap[u]? = some (.cells #[.int .u8 x, .int .u8 y, .slice A n c] 48 (0, 0))
structure Sp (w0 w W : World) (g : Nat) (bs : List Nat) (s : ByteArray) (a : Int) (b : Bool) (d : Int) : Prop where mk ::
 I : IsS57 w0 W g s a b d
 B : Below w0.heap.size w0 W
 K : KeepBut w W g none
 X : ∀ u ∈ bs, w.heap.size ≤ u ∧ bxE W u
 G : w0.heap.size ≤ g ∧ g < w.heap.size
theorem Sp.start {w0 w : World} {g : Nat} {s : ByteArray} {a : Int} {b : Bool} {d : Int} (h : IsS57 w0 w g s a b d) (hB : Below w0.heap.size w0 w) : Sp w0 w w g [] s a b d :=
 ⟨h, hB, KeepBut.refl _ _ _, fun u hu => (by cases hu), h.ge, h.lt⟩
section
variable {w0 w W : World} {g : Nat} {bs : List Nat} {s : ByteArray} {a : Int} {b : Bool} {d : Int}
theorem Sp.below {W1 : World} (h : Sp w0 w W g bs s a b d) (hb : Below W.heap.size W W1) : Sp w0 w W1 g bs s a b d :=
 ⟨h.I.below hb, al h.B hb, h.K.trans (KeepBut.of_below hb g none) (.inl rfl), fun u hu => ⟨(h.X u hu).1, by obtain ⟨x, y, A, n, c, e⟩ := (h.X u hu).2; exact ⟨x, y, A, n, c, ae e hb⟩⟩, h.G⟩
theorem Sp.alloc (h : Sp w0 w W g bs s a b d) (o : Obj) : Sp w0 w (W.alloc o) g bs s a b d := h.below (bA (Below.refl _ _) o)
theorem Sp.drewN (h : Sp w0 w W g bs s a b d) (n : Nat) : Sp w0 w (W.drewN n) g bs s a b d := h.below (pD (Below.refl _ _) n)
theorem Sp.drew (h : Sp w0 w W g bs s a b d) : Sp w0 w W.drew g bs s a b d := h.below (below_drew (Below.refl _ _))
theorem Sp.ne (h : Sp w0 w W g bs s a b d) {u : Nat} (hu : u ∈ bs) : u ≠ g := by have := (h.X u hu).1; have := h.G.2; omega
theorem Sp.step {W1 : World} {s1 : ByteArray} {a1 : Int} {b1 : Bool} {d1 : Int} (h : Sp w0 w W g bs s a b d) (hi : IsS57 w0 W1 g s1 a1 b1 d1) (hb : Below w0.heap.size w0 W1) (hk : KeepBut W W1 g none) : Sp w0 w W1 g bs s1 a1 b1 d1 :=
 ⟨hi, hb, h.K.trans hk (.inl rfl), fun u hu => ⟨(h.X u hu).1, by obtain ⟨x, y, A, n, c, e⟩ := (h.X u hu).2; exact ⟨x, y, A, n, c, hk.blk e (h.ne hu) (by simp)⟩⟩, h.G⟩
theorem Sp.gset (h : Sp w0 w W g bs s a b d) (j : Nat) (v : Value) {a1 : Int} {b1 : Bool} {d1 : Int} (hi : IsS57 w0 (W.setCell ⟨g, j, none⟩ v) g s a1 b1 d1) : Sp w0 w (W.setCell ⟨g, j, none⟩ v) g bs s a1 b1 d1 :=
 ⟨hi, ak h.B h.G.1, h.K.set_ j v, fun u hu => ⟨(h.X u hu).1, by obtain ⟨x, y, A, n, c, e⟩ := (h.X u hu).2; exact ⟨x, y, A, n, c, blk_far e (h.ne hu) v⟩⟩, h.G⟩
theorem Sp.set1 (h : Sp w0 w W g bs s a b d) (x : Int) : Sp w0 w (W.setCell ⟨g, 1, none⟩ (.int .i64 x)) g bs s x b d := h.gset 1 _ (h.I.set_1 x)
theorem Sp.set2 (h : Sp w0 w W g bs s a b d) (x : Bool) : Sp w0 w (W.setCell ⟨g, 2, none⟩ (.bool x)) g bs s a x d := h.gset 2 _ (h.I.set_2 x)
theorem Sp.set3 (h : Sp w0 w W g bs s a b d) (x : Int) : Sp w0 w (W.setCell ⟨g, 3, none⟩ (.int .i64 x)) g bs s a b x := h.gset 3 _ (h.I.set_3 x)
theorem Sp.box {W1 : World} {u : Nat} {x y : Int} {A : Option Addr} {n c : Nat} (h : Sp w0 w W g bs s a b d) (hu : u = W.heap.size) (hx : W1.heap[u]? = some (.cells #[.int .u8 x, .int .u8 y, .slice A n c] 48 (0, 0))) (hb : Below W.heap.size W W1) : Sp w0 w W1 g (u :: bs) s a b d := by
 have h1 := h.below hb
 refine ⟨h1.I, h1.B, h1.K, fun v hv => ?_, h1.G⟩
 rcases List.mem_cons.1 hv with rfl | hv
 ·exact ⟨by rw [hu]; exact h.K.1, x, y, A, n, c, hx⟩
 ·exact h1.X v hv
theorem blk48_put {W : World} {u : Nat} {x y : Int} {A : Option Addr} {n c : Nat} (h : bxE W u) : (((W.setCell ⟨u, 0, none⟩ (.int .u8 x)).setCell ⟨u, 1, none⟩ (.int .u8 y)).setCell ⟨u, 2, none⟩ (.slice A n c)).heap[u]? = some (.cells #[.int .u8 x, .int .u8 y, .slice A n c] 48 (0, 0)) := by
 obtain ⟨x0, y0, A0, n0, c0, e⟩ := h
 exact blk_put (blk_put (blk_put e 0 _ rfl) 1 _ rfl) 2 _ rfl
theorem Sp.put (h : Sp w0 w W g bs s a b d) {u : Nat} (hu : u ∈ bs) (x y : Int) (A : Option Addr) (n c : Nat) : Sp w0 w (((W.setCell ⟨u, 0, none⟩ (.int .u8 x)).setCell ⟨u, 1, none⟩ (.int .u8 y)).setCell ⟨u, 2, none⟩ (.slice A n c)) g bs s a b d := by
 have hne : g ≠ u := (h.ne hu).symm
 have hle := (h.X u hu).1
 have hw0 : w0.heap.size ≤ u := by have := h.G; omega
 refine ⟨((h.I.far hne _).far hne _).far hne _, ak (ak (ak h.B hw0) hw0) hw0, keep_far (keep_far (keep_far h.K hle _) hle _) hle _, fun v hv => ⟨(h.X v hv).1, ?_⟩, h.G⟩
 by_cases e : v = u
 ·subst e
  exact ⟨x, y, A, n, c, blk48_put (h.X v hv).2⟩
 ·obtain ⟨x0, y0, A0, n0, c0, e0⟩ := (h.X v hv).2
  exact ⟨x0, y0, A0, n0, c0, blk_far (blk_far (blk_far e0 e _) e _) e _⟩
theorem Sp.cells (h : Sp w0 w W g bs s a b d) {u : Nat} (hu : u ∈ bs) : ∃ (x y : Int) (A : Option Addr) (n c : Nat), W.cell? ⟨u, 0, none⟩ = some (.int .u8 x) ∧ W.cell? ⟨u, 1, none⟩ = some (.int .u8 y) ∧ W.cell? ⟨u, 2, none⟩ = some (.slice A n c) ∧ W.frozen? ⟨u, 0, none⟩ = false ∧ W.frozen? ⟨u, 1, none⟩ = false ∧ W.frozen? ⟨u, 2, none⟩ = false := by
 obtain ⟨x, y, A, n, c, e⟩ := (h.X u hu).2
 exact ⟨x, y, A, n, c, (bC e 0).trans rfl, (bC e 1).trans rfl, (bC e 2).trans rfl, bF e 0, bF e 1, bF e 2⟩
theorem Sp.gcells (h : Sp w0 w W g bs s a b d) : W.cell? ⟨g, 0, none⟩ = some (.string s) ∧ W.cell? ⟨g, 1, none⟩ = some (.int .i64 a) ∧ W.cell? ⟨g, 2, none⟩ = some (.bool b) ∧ W.cell? ⟨g, 3, none⟩ = some (.int .i64 d) ∧ W.frozen? ⟨g, 1, none⟩ = false ∧ W.frozen? ⟨g, 2, none⟩ = false ∧ W.frozen? ⟨g, 3, none⟩ = false :=
 ⟨(bC h.I.1 0).trans rfl, (bC h.I.1 1).trans rfl, (bC h.I.1 2).trans rfl, (bC h.I.1 3).trans rfl, bF h.I.1 1, bF h.I.1 2, bF h.I.1 3⟩
end
/-- What a method of the reference's reader leaves. -/
def SpP (w0 w : World) (g : Nat) (s : ByteArray) (o : Int × Bool × Int) (e : Ending) (w' : World) : Prop := ∃ (x y : Int) (A : Option Addr) (n c : Nat), e = .returned (.agg #[.int .u8 x, .int .u8 y, .slice A n c]) ∧ IsS57 w0 w' g s o.1 o.2.1 o.2.2 ∧ Below w0.heap.size w0 w' ∧ KeepBut w w' g none
def SpC (f : Nat) (g : Nat) (s : ByteArray) (a : Int) (b : Bool) (d : Int) (o : Int × Bool × Int) : Prop := ∀ w0 w : World, IsS57 w0 w g s a b d → Below w0.heap.size w0 w → Calls Try.prog f #[.pointer (some ⟨g, 0, none⟩)] w (SpP w0 w g s o)
theorem Sp.fin {w0 w W : World} {g : Nat} {bs : List Nat} {s : ByteArray} {o : Int × Bool × Int} (h : Sp w0 w W g bs s o.1 o.2.1 o.2.2) (x y : Int) (A : Option Addr) (n c : Nat) : SpP w0 w g s o (.returned (.agg #[.int .u8 x, .int .u8 y, .slice A n c])) W := ⟨x, y, A, n, c, rfl, h.I, h.B, h.K⟩
set_option maxHeartbeats 1000000 in
theorem snext_dr (g : Nat) (s : ByteArray) (a : Int) (b : Bool) (d : Int) (h0 : 0 ≤ a) (w0 w : World) (hI : IsS57 w0 w g s a b d) :
  Calls Try.prog 37 #[.pointer (some ⟨g, 0, none⟩)] w fun e w' => e = .returned (.int .u8 (sN s a)) ∧ Drawn0 w w' := by
 have c0 : w.cell? ⟨g, 0, none⟩ = some (.string s) := (bC hI.1 0).trans rfl
 have c1 : w.cell? ⟨g, 1, none⟩ = some (.int .i64 a) := (bC hI.1 1).trans rfl
 have HS : Aside0 (sN s a = if a < (s.size : Int) then bt s a else 0) := ⟨rfl⟩
 by_cases h : a < (s.size : Int)
 ·obtain ⟨n, rfl⟩ : ∃ n : Nat, a = (n : Int) := ⟨a.toNat, by omega⟩
  have hn : n < s.size := by omega
  have e1 : decide ((n : Int) < (s.size : Int)) = true := dT h
  have q1 : (0 ≤ (n : Int)) = True := eq_true h0
  have q2 : ((n : Int) < (s.size : Int)) = True := eq_true h
  have q3 : (n < s.size) = True := eq_true hn
  have hx : ∀ h : n < s.size, ((s[n]'h).toNat : Int) = bt s (n : Int) := bt_at s (n : Int)
  have HS2 : Aside0 (sN s (n : Int) = bt s (n : Int)) := ⟨by rw [HS.out, if_pos h]⟩
  rw [HS2.out]
  clear h h0 hI HS
  go_enter Try.func37, Try.ntmps37
  go_wp2
  repeat (go_quiet (fail); try go_wp2)
  go_ret
  exact ⟨by first | rfl | (simp [*] <;> rfl), y1⟩
 ·have e1 : decide (a < (s.size : Int)) = false := dF h
  have HS2 : Aside0 (sN s a = 0) := ⟨by rw [HS.out, if_neg h]⟩
  rw [HS2.out]
  clear h h0 hI HS
  go_enter Try.func37, Try.ntmps37
  go_wp2
  repeat (go_quiet (fail); try go_wp2)
  go_ret
  exact ⟨rfl, y1⟩
section
variable {P : Program} {ops : Array Oper} {rest : List Oper} {o : Oper} {a : Act} {Q : Exit → Act → World → Prop}
theorem lit_event {W : World} (hgd : o.guard = none) {v : Value} {cs : Array Value} {t : TypeId} (hrun : (execOp a.eval o).run P W = .ok (.value v) (W.alloc (.cells cs t (0, 0)))) (h : ∀ w1, Below W.heap.size W w1 → wpList P ops Q rest (a.put o.dst v) w1) : wpList P ops Q (o :: rest) a W :=
 Kd.event_run hgd hrun (h _ (bA (Below.refl _ _) _))
theorem lit_step {W : World} {Kc : Act → World → Prop} (hw : Region.wanted o (yielded ops a.tmps) = true) {N : Tmp} (_hd : o.dst = some N) {v : Value} {cs : Array Value} {t : TypeId} (hrun : (execOp a.eval o).run P W = .ok (.value v) (W.alloc (.cells cs t (0, 0)))) (h : ∀ w1, Below W.heap.size W w1 → Kc (a.put o.dst v) w1) : if Region.wanted o (yielded ops a.tmps) = true then Oper.wp P o a W Kc Q else Kc (a.put o.dst undef) W :=
 event_step hw hrun (h _ (bA (Below.refl _ _) _))
end
theorem sSuf_bad0 {s : ByteArray} {a x : Int} {b : Bool} (h : sSuf 0 s a b = some x) : False := by simp [sSuf] at h
set_option maxHeartbeats 4000000 in
set_option maxRecDepth 100000 in
theorem one_any (k : Nat) (g : Nat) (s : ByteArray) (a : Int) (b : Bool) (d : Int) (o : Int × Bool × Int) (ih : ∀ q, sEither k s (wrap64 (a + 1)) b d = some q → SpC 32 g s (wrap64 (a + 1)) b d q) (h : sOne (k + 1) s a b d = some o) : SpC 44 g s a b d o := by
 intro w0 w hI hB
 have S0 := aM (Sp.start hI hB)
 clear hI hB
 simp only [sOne] at h
 by_cases ha0 : 0 ≤ a
 case neg => rw [if_neg ha0] at h; cases h
 rw [if_pos ha0] at h
 have HA0 := aM ha0
 have HH := aM h
 have HIH := aM ih
 obtain ⟨c, hc⟩ : ∃ c, sN s a = c := ⟨_, rfl⟩
 have HC := aM hc
 clear h ha0 ih hc
 go_enter Try.func44, Try.ntmps44
 go_upto_block 0 with (first | ((with_reducible refine ar (N := 2) rfl ?_); refine au ?hg (N := 2) ?hd (cs := #[.int .u8 0, .int .u8 0, .slice none 0 0]) (t := 48) ?hr ?_; (case hd => rfl); (case hg => rfl); (case hr => first | (go_simp; done) | (go_simp; rfl)); intro rb hgb w1 hbox hb; have S1 : Aside0 (Sp w0 w w1 g [rb] s _ _ _) := ⟨Sp.box (bs := []) (by repeat (first | (with_reducible first | exact S0.out | apply Sp.alloc | apply Sp.drewN | apply Sp.drew | apply Sp.set1 | apply Sp.set2 | apply Sp.set3 | (refine Sp.put ?_ (by simp) _ _ _ _ _)) | exact S0.out)) hgb hbox hb⟩; obtain ⟨xx1, yy1, AA1, nn1, cc1, z0_1, z1_1, z2_1, k0_1, k1_1, k2_1⟩ := Sp.cells S1.out (u := rb) (by simp); obtain ⟨g0_1, g1_1, g2_1, g3_1, f1_1, f2_1, f3_1⟩ := Sp.gcells S1.out; have ne_1 : ¬ rb = g := Sp.ne S1.out (by simp); have nf_1 : ¬ g = rb := fun e => ne_1 e.symm; clear hgb hbox hb) | (go_at_call 37; refine (snext_any g s a b d HA0.out w0 _ (Sp.I (w := w) (bs := [rb]) (by repeat (first | (with_reducible first | exact S1.out | apply Sp.alloc | apply Sp.drewN | apply Sp.drew | apply Sp.set1 | apply Sp.set2 | apply Sp.set3 | (refine Sp.put ?_ (by simp) _ _ _ _ _)) | exact S1.out))) (Sp.B (w := w) (g := g) (bs := [rb]) (s := s) (a := a) (b := b) (d := d) (by repeat (first | (with_reducible first | exact S1.out | apply Sp.alloc | apply Sp.drewN | apply Sp.drew | apply Sp.set1 | apply Sp.set2 | apply Sp.set3 | (refine Sp.put ?_ (by simp) _ _ _ _ _)) | exact S1.out)))).mono ?_; rintro e w2 ⟨rfl, hi, hb, hk⟩; have S2 : Aside0 (Sp w0 w w2 g [rb] s a b d) := ⟨Sp.step (s := s) (a := a) (b := b) (d := d) (by repeat (first | (with_reducible first | exact S1.out | apply Sp.alloc | apply Sp.drewN | apply Sp.drew | apply Sp.set1 | apply Sp.set2 | apply Sp.set3 | (refine Sp.put ?_ (by simp) _ _ _ _ _)) | exact S1.out)) hi hb hk⟩; obtain ⟨g0_2, g1_2, g2_2, g3_2, f1_2, f2_2, f3_2⟩ := Sp.gcells S2.out; rw [HC.out]; clear hi hb hk) | ((with_reducible refine ar (N := 4) rfl ?_); refine au ?hg (N := 4) ?hd (cs := #[.int .u8 0, .int .u8 0, .slice none 0 0]) (t := 48) ?hr ?_; (case hd => rfl); (case hg => rfl); (case hr => first | (go_simp; done) | (go_simp; rfl)); intro xb hgb w3 hbox hb; have S3 : Aside0 (Sp w0 w w3 g [xb, rb] s _ _ _) := ⟨Sp.box (bs := [rb]) (by repeat (first | (with_reducible first | exact S2.out | apply Sp.alloc | apply Sp.drewN | apply Sp.drew | apply Sp.set1 | apply Sp.set2 | apply Sp.set3 | (refine Sp.put ?_ (by simp) _ _ _ _ _)) | exact S2.out)) hgb hbox hb⟩; obtain ⟨xx3, yy3, AA3, nn3, cc3, z0_3, z1_3, z2_3, k0_3, k1_3, k2_3⟩ := Sp.cells S3.out (u := xb) (by simp); obtain ⟨g0_3, g1_3, g2_3, g3_3, f1_3, f2_3, f3_3⟩ := Sp.gcells S3.out; have ne_3 : ¬ xb = g := Sp.ne S3.out (by simp); have nf_3 : ¬ g = xb := fun e => ne_3 e.symm; clear hgb hbox hb) | (go_at_call 49; refine (ssym_any c _).mono ?_; rintro e w4 ⟨rfl, ⟨nd, rfl⟩⟩))
 go_cut [] (fun wc => ∃ a1 b1 d1 j x, Sp w0 w wc g [xb, rb] s a1 b1 d1 ∧ sSuf j s a1 b1 = some x ∧ o = (x, b1, d1))
 case first =>
  have h := HH.out
  rw [HC.out] at h
  cases hsy : symB c with
  | true =>
   rw [hsy, Bool.true_or, if_pos rfl] at h
   obtain ⟨x, hx, ho⟩ := oB h
   have HX := aM hx
   have HO := aM (sI ho).symm
   clear h hx ho
   go_wp2_with (first | (go_at_call 49; refine (ssym_any _ _).mono ?_; rintro e w4 ⟨rfl, ⟨nd, rfl⟩⟩; rw [hsy]))
   go_meet
   exact ⟨_, _, _, k, x, y16, HX.out, HO.out⟩
  | false =>
   rw [hsy, Bool.false_or] at h
   by_cases c1 : c = 46
   ·subst c1
    rw [if_pos (by decide)] at h
    obtain ⟨x, hx, ho⟩ := oB h
    have HX := aM hx
    have HO := aM (sI ho).symm
    clear h hx ho
    go_wp2_with (first | (go_at_call 49; refine (ssym_any _ _).mono ?_; rintro e w4 ⟨rfl, ⟨nd, rfl⟩⟩; rw [hsy]))
    go_meet
    exact ⟨_, _, _, k, x, y16, HX.out, HO.out⟩
   by_cases c2 : c = 45
   ·subst c2
    rw [if_pos (by decide)] at h
    obtain ⟨x, hx, ho⟩ := oB h
    have HX := aM hx
    have HO := aM (sI ho).symm
    clear h hx ho c1
    go_wp2_with (first | (go_at_call 49; refine (ssym_any _ _).mono ?_; rintro e w4 ⟨rfl, ⟨nd, rfl⟩⟩; rw [hsy]))
    go_meet
    exact ⟨_, _, _, k, x, y16, HX.out, HO.out⟩
   by_cases c3 : c = 33
   ·subst c3
    rw [if_pos (by decide)] at h
    obtain ⟨x, hx, ho⟩ := oB h
    have HX := aM hx
    have HO := aM (sI ho).symm
    clear h hx ho c1 c2
    go_wp2_with (first | (go_at_call 49; refine (ssym_any _ _).mono ?_; rintro e w4 ⟨rfl, ⟨nd, rfl⟩⟩; rw [hsy]))
    go_meet
    exact ⟨_, _, _, k, x, y16, HX.out, HO.out⟩
   
   by_cases c4 : c = 40
   ·subst c4
    rw [if_neg (by decide), if_pos rfl] at h
    obtain ⟨q, hq, h⟩ := oB h
    have HE := aM (HIH.out q hq)
    by_cases hq0 : 0 ≤ q.1
    case neg => rw [if_neg hq0] at h; cases h
    rw [if_pos hq0] at h
    have HQ0 := aM hq0
    obtain ⟨x, hx, ho⟩ := oB h
    have HO := aM (sI ho).symm
    obtain ⟨c5, hc5⟩ : ∃ c, sN s q.1 = c := ⟨_, rfl⟩
    have dc := aM hc5
    rw [hc5] at hx
    have dM : Aside0 (o = (x, q.2.1 || decide (c5 ≠ 41), q.2.2)) := ⟨by have := HO.out; rw [hc5] at this; exact this⟩
    by_cases c6 : c5 = 41
    ·subst c6
     rw [show (q.2.1 || decide ((41 : Int) ≠ 41)) = q.2.1 from by simp] at hx
     have dP : Aside0 (o = (x, q.2.1, q.2.2)) := ⟨by have := dM.out; rw [show (q.2.1 || decide ((41 : Int) ≠ 41)) = q.2.1 from by simp] at this; exact this⟩
     have HX := aM hx
     clear h hx ho hq hc5 c1 c2 c3 hq0 HO dM
     go_wp2_with (first | (go_at_call 49; refine (ssym_any _ _).mono ?_; rintro e w4 ⟨rfl, ⟨nd, rfl⟩⟩; rw [hsy]) | (go_at_call 32; refine (HE.out w0 _ (Sp.I (w := w) (bs := [xb, rb]) (by repeat (first | (with_reducible first | exact S3.out | apply Sp.alloc | apply Sp.drewN | apply Sp.drew | apply Sp.set1 | apply Sp.set2 | apply Sp.set3 | (refine Sp.put ?_ (by simp) _ _ _ _ _)) | exact S3.out))) (Sp.B (w := w) (g := g) (bs := [xb, rb]) (s := s) (a := wrap64 (a + 1)) (b := b) (d := d) (by repeat (first | (with_reducible first | exact S3.out | apply Sp.alloc | apply Sp.drewN | apply Sp.drew | apply Sp.set1 | apply Sp.set2 | apply Sp.set3 | (refine Sp.put ?_ (by simp) _ _ _ _ _)) | exact S3.out)))).mono ?_; rintro e w5 ⟨xe, ye, Ae, ne, ce, rfl, hi, hb, hk⟩; have S5 : Aside0 (Sp w0 w w5 g [xb, rb] s q.1 q.2.1 q.2.2) := ⟨Sp.step (s := s) (a := wrap64 (a + 1)) (b := b) (d := d) (by repeat (first | (with_reducible first | exact S3.out | apply Sp.alloc | apply Sp.drewN | apply Sp.drew | apply Sp.set1 | apply Sp.set2 | apply Sp.set3 | (refine Sp.put ?_ (by simp) _ _ _ _ _)) | exact S3.out)) hi hb hk⟩; obtain ⟨j0, j1, j2, j3, i1, i2, i3⟩ := Sp.gcells S5.out; obtain ⟨xx5, yy5, AA5, nn5, cc5, z0_5, z1_5, z2_5, k0_5, k1_5, k2_5⟩ := Sp.cells S5.out (u := xb) (by simp); clear hi hb hk) | (go_at_call 37; refine (snext_any g s q.1 q.2.1 q.2.2 HQ0.out w0 _ (Sp.I (w := w) (bs := [xb, rb]) z22) (Sp.B (w := w) (g := g) (bs := [xb, rb]) (s := s) (a := q.1) (b := q.2.1) (d := q.2.2) z22)).mono ?_; rintro e w6 ⟨rfl, hi, hb, hk⟩; have S6 : Aside0 (Sp w0 w w6 g [xb, rb] s q.1 q.2.1 q.2.2) := ⟨Sp.step (s := s) (a := q.1) (b := q.2.1) (d := q.2.2) z22 hi hb hk⟩; obtain ⟨g0_6, g1_6, g2_6, g3_6, f1_6, f2_6, f3_6⟩ := Sp.gcells S6.out; rw [dc.out]; clear hi hb hk))
     go_meet
     exact ⟨_, _, _, k, x, by repeat (first | (with_reducible first | exact S6.out | apply Sp.alloc | apply Sp.drewN | apply Sp.drew | apply Sp.set1 | apply Sp.set2 | apply Sp.set3 | (refine Sp.put ?_ (by simp) _ _ _ _ _)) | exact S6.out), HX.out, dP.out⟩
    ·have e5 : (c5 != 41) = true := nT c6
     rw [dT c6, Bool.or_true] at hx
     have dP : Aside0 (o = (x, true, q.2.2)) := ⟨by have := dM.out; rw [dT c6, Bool.or_true] at this; exact this⟩
     have HX := aM hx
     clear h hx ho hq hc5 c1 c2 c3 hq0 HO dM c6
     go_wp2_with (first | (go_at_call 49; refine (ssym_any _ _).mono ?_; rintro e w4 ⟨rfl, ⟨nd, rfl⟩⟩; rw [hsy]) | (go_at_call 32; refine (HE.out w0 _ (Sp.I (w := w) (bs := [xb, rb]) (by repeat (first | (with_reducible first | exact S3.out | apply Sp.alloc | apply Sp.drewN | apply Sp.drew | apply Sp.set1 | apply Sp.set2 | apply Sp.set3 | (refine Sp.put ?_ (by simp) _ _ _ _ _)) | exact S3.out))) (Sp.B (w := w) (g := g) (bs := [xb, rb]) (s := s) (a := wrap64 (a + 1)) (b := b) (d := d) (by repeat (first | (with_reducible first | exact S3.out | apply Sp.alloc | apply Sp.drewN | apply Sp.drew | apply Sp.set1 | apply Sp.set2 | apply Sp.set3 | (refine Sp.put ?_ (by simp) _ _ _ _ _)) | exact S3.out)))).mono ?_; rintro e w5 ⟨xe, ye, Ae, ne, ce, rfl, hi, hb, hk⟩; have S5 : Aside0 (Sp w0 w w5 g [xb, rb] s q.1 q.2.1 q.2.2) := ⟨Sp.step (s := s) (a := wrap64 (a + 1)) (b := b) (d := d) (by repeat (first | (with_reducible first | exact S3.out | apply Sp.alloc | apply Sp.drewN | apply Sp.drew | apply Sp.set1 | apply Sp.set2 | apply Sp.set3 | (refine Sp.put ?_ (by simp) _ _ _ _ _)) | exact S3.out)) hi hb hk⟩; obtain ⟨j0, j1, j2, j3, i1, i2, i3⟩ := Sp.gcells S5.out; obtain ⟨xx5, yy5, AA5, nn5, cc5, z0_5, z1_5, z2_5, k0_5, k1_5, k2_5⟩ := Sp.cells S5.out (u := xb) (by simp); clear hi hb hk) | (go_at_call 37; refine (snext_any g s q.1 q.2.1 q.2.2 HQ0.out w0 _ (Sp.I (w := w) (bs := [xb, rb]) z22) (Sp.B (w := w) (g := g) (bs := [xb, rb]) (s := s) (a := q.1) (b := q.2.1) (d := q.2.2) z22)).mono ?_; rintro e w6 ⟨rfl, hi, hb, hk⟩; have S6 : Aside0 (Sp w0 w w6 g [xb, rb] s q.1 q.2.1 q.2.2) := ⟨Sp.step (s := s) (a := q.1) (b := q.2.1) (d := q.2.2) z22 hi hb hk⟩; obtain ⟨g0_6, g1_6, g2_6, g3_6, f1_6, f2_6, f3_6⟩ := Sp.gcells S6.out; rw [dc.out]; clear hi hb hk))
     go_meet
     exact ⟨_, _, _, k, x, by repeat (first | (with_reducible first | exact S6.out | apply Sp.alloc | apply Sp.drewN | apply Sp.drew | apply Sp.set1 | apply Sp.set2 | apply Sp.set3 | (refine Sp.put ?_ (by simp) _ _ _ _ _)) | exact S6.out), HX.out, dP.out⟩
   ·rw [dF c1, dF c2, dF c3, if_neg (by simp), if_neg c4] at h
    have HO := aM (sI h).symm
    have e1 : (c == 46) = false := qF c1
    have e2 : (c == 45) = false := qF c2
    have e3 : (c == 33) = false := qF c3
    have e4 : (c == 40) = false := qF c4
    clear h c1 c2 c3 c4
    go_wp2_with (first | (go_at_call 49; refine (ssym_any _ _).mono ?_; rintro e w4 ⟨rfl, ⟨nd, rfl⟩⟩; rw [hsy]))
    go_meet
    exact ⟨wrap64 (a + 1), true, d, 1, wrap64 (a + 1), Sp.set2 (b := b) (by repeat (first | (with_reducible first | exact S3.out | apply Sp.alloc | apply Sp.drewN | apply Sp.drew | apply Sp.set1 | apply Sp.set2 | apply Sp.set3 | (refine Sp.put ?_ (by simp) _ _ _ _ _)) | exact S3.out)) true, by simp [sSuf], HO.out⟩
 case rest =>
  obtain ⟨a1, b1, d1, J, x, hs, hx, ho⟩ := hcut
  have S8 := aM hs
  have HX := aM hx
  have HO := aM ho
  clear hs hx ho S3 S2 S1 S0 HH HIH HC HA0
  go_wp2
  go_loopg [] J (fun d' w' => ∃ a2, sSuf d' s a2 b1 = some x ∧ Sp w0 w w' g [xb, rb] s a2 b1 d1)
  case atStart => exact ⟨a1, HX.out, S8.out⟩
  case round =>
   obtain ⟨a2, hx, hs⟩ := hrel
   have HX := aM hx
   have S9 := aM hs
   obtain ⟨g0_9, g1_9, g2_9, g3_9, f1_9, f2_9, f3_9⟩ := Sp.gcells hs
   obtain ⟨xx9, yy9, AA9, nn9, cc9, z0_9, z1_9, z2_9, k0_9, k1_9, k2_9⟩ := Sp.cells S9.out (u := xb) (by simp)
   obtain ⟨rx9, ry9, rA9, rn9, rc9, rz0_9, rz1_9, rz2_9, rk0_9, rk1_9, rk2_9⟩ := Sp.cells S9.out (u := rb) (by simp)
   clear hs
   cases gk with
   | zero => exact (sSuf_bad0 hx).elim
   | succ G =>
    simp only [sSuf] at hx
    cases b1 with
    | true =>
     rw [if_pos rfl] at hx
     obtain rfl := sI hx
     clear hx
     go_wp2
     refine bodyPost_ret (results_cell_row rfl _ _ rb 48 #[.int .u8 xx9, .int .u8 yy9, .slice AA9 nn9 cc9] (0, 0) _ rfl (blk48_put (Sp.X (w0 := w0) (w := w) (g := g) (bs := [xb, rb]) (s := s) (a := a2) (b := true) (d := d1) z23 rb (by simp)).2) Try.underlying48 rfl z0) rfl ?_
     rw [HO.out]
     exact Sp.fin (w := w) (bs := [xb, rb]) (o := (a2, true, d1)) z23 _ _ _ _ _
    | false =>
     rw [if_neg (by simp)] at hx
     by_cases ha2 : 0 ≤ a2
     case neg => rw [if_neg ha2] at hx; cases hx
     rw [if_pos ha2] at hx
     have HA2 := aM ha2
     obtain ⟨c2, hc2⟩ : ∃ c, sN s a2 = c := ⟨_, rfl⟩
     have bT := aM hc2
     rw [hc2] at hx
     clear ha2 hc2 HX
     by_cases q42 : c2 = 42
     ·subst q42
      rw [if_pos (by decide)] at hx
      have HX2 := aM hx
      clear hx
      go_upto_block 3 with (first | (go_at_call 37; refine (snext_any g s a2 false d1 HA2.out w0 _ (Sp.I (w := w) (bs := [xb, rb]) z23) (Sp.B (w := w) (g := g) (bs := [xb, rb]) (s := s) (a := a2) (b := false) (d := d1) z23)).mono ?_; rintro e w10 ⟨rfl, hi, hb, hk⟩; have S10 : Aside0 (Sp w0 w w10 g [xb, rb] s a2 false d1) := ⟨Sp.step (s := s) (a := a2) (b := false) (d := d1) z23 hi hb hk⟩; obtain ⟨g0_10, g1_10, g2_10, g3_10, f1_10, f2_10, f3_10⟩ := Sp.gcells S10.out; rw [bT.out]; obtain ⟨xx10, yy10, AA10, nn10, cc10, z0_10, z1_10, z2_10, k0_10, k1_10, k2_10⟩ := Sp.cells S10.out (u := xb) (by simp); obtain ⟨rx10, ry10, rA10, rn10, rc10, rz0_10, rz1_10, rz2_10, rk0_10, rk1_10, rk2_10⟩ := Sp.cells S10.out (u := rb) (by simp); clear hi hb hk))
      go_cut [] (fun wc => Sp w0 w wc g [xb, rb] s a2 false d1)
      case first =>
       go_wp2_with (first | ((with_reducible refine ar (N := 64) rfl ?_); refine lit_event (v := .slice (some ⟨w10.heap.size, 0, none⟩) 1 1) (cs := #[.int .u8 xx10, .int .u8 yy10, .slice AA10 nn10 cc10]) (t := 48) ?hg ?hr ?_; (case hg => rfl); (case hr => first | (go_simp; done) | (go_simp; rfl)); intro w12 hb; have S12 : Aside0 (Sp w0 w w12 g [xb, rb] s a2 false d1) := ⟨Sp.below (by repeat (first | (with_reducible first | exact S10.out | apply Sp.alloc | apply Sp.drewN | apply Sp.drew | apply Sp.set1 | apply Sp.set2 | apply Sp.set3 | (refine Sp.put ?_ (by simp) _ _ _ _ _)) | exact S10.out)) hb⟩; obtain ⟨xx12, yy12, AA12, nn12, cc12, z0_12, z1_12, z2_12, k0_12, k1_12, k2_12⟩ := Sp.cells S12.out (u := xb) (by simp); clear hb) | (go_at_call 37; refine (snext_any g s a2 false d1 HA2.out w0 _ (Sp.I (w := w) (bs := [xb, rb]) z23) (Sp.B (w := w) (g := g) (bs := [xb, rb]) (s := s) (a := a2) (b := false) (d := d1) z23)).mono ?_; rintro e w10 ⟨rfl, hi, hb, hk⟩; have S10 : Aside0 (Sp w0 w w10 g [xb, rb] s a2 false d1) := ⟨Sp.step (s := s) (a := a2) (b := false) (d := d1) z23 hi hb hk⟩; obtain ⟨g0_10, g1_10, g2_10, g3_10, f1_10, f2_10, f3_10⟩ := Sp.gcells S10.out; rw [bT.out]; obtain ⟨xx10, yy10, AA10, nn10, cc10, z0_10, z1_10, z2_10, k0_10, k1_10, k2_10⟩ := Sp.cells S10.out (u := xb) (by simp); obtain ⟨rx10, ry10, rA10, rn10, rc10, rz0_10, rz1_10, rz2_10, rk0_10, rk1_10, rk2_10⟩ := Sp.cells S10.out (u := rb) (by simp); clear hi hb hk))
       go_meet
       exact by repeat (first | (with_reducible first | exact S12.out | apply Sp.alloc | apply Sp.drewN | apply Sp.drew | apply Sp.set1 | apply Sp.set2 | apply Sp.set3 | (refine Sp.put ?_ (by simp) _ _ _ _ _)) | exact S12.out)
      case rest =>
       have S11 := aM hcut
       obtain ⟨g0_11, g1_11, g2_11, g3_11, f1_11, f2_11, f3_11⟩ := Sp.gcells hcut
       clear hcut
       go_wp2
       go_roundg G
       case measure => omega
       case rel => exact ⟨wrap64 (a2 + 1), HX2.out, by repeat (first | (with_reducible first | exact S11.out | apply Sp.alloc | apply Sp.drewN | apply Sp.drew | apply Sp.set1 | apply Sp.set2 | apply Sp.set3 | (refine Sp.put ?_ (by simp) _ _ _ _ _)) | exact S11.out)⟩
     by_cases q63 : c2 = 63
     ·subst q63
      rw [if_pos (by decide)] at hx
      have HX2 := aM hx
      clear hx
      go_upto_block 3 with (first | (go_at_call 37; refine (snext_any g s a2 false d1 HA2.out w0 _ (Sp.I (w := w) (bs := [xb, rb]) z23) (Sp.B (w := w) (g := g) (bs := [xb, rb]) (s := s) (a := a2) (b := false) (d := d1) z23)).mono ?_; rintro e w10 ⟨rfl, hi, hb, hk⟩; have S10 : Aside0 (Sp w0 w w10 g [xb, rb] s a2 false d1) := ⟨Sp.step (s := s) (a := a2) (b := false) (d := d1) z23 hi hb hk⟩; obtain ⟨g0_10, g1_10, g2_10, g3_10, f1_10, f2_10, f3_10⟩ := Sp.gcells S10.out; rw [bT.out]; obtain ⟨xx10, yy10, AA10, nn10, cc10, z0_10, z1_10, z2_10, k0_10, k1_10, k2_10⟩ := Sp.cells S10.out (u := xb) (by simp); obtain ⟨rx10, ry10, rA10, rn10, rc10, rz0_10, rz1_10, rz2_10, rk0_10, rk1_10, rk2_10⟩ := Sp.cells S10.out (u := rb) (by simp); clear hi hb hk))
      go_cut [] (fun wc => Sp w0 w wc g [xb, rb] s a2 false d1)
      case first =>
       go_wp2_with (first | ((with_reducible refine ar (N := 70) rfl ?_); refine lit_event (v := .slice (some ⟨w10.heap.size, 0, none⟩) 2 2) (cs := #[.int .u8 45, .int .u8 0, .slice none 0 0, .int .u8 xx10, .int .u8 yy10, .slice AA10 nn10 cc10]) (t := 48) ?hg ?hr ?_; (case hg => rfl); (case hr => first | (go_simp; done) | (go_simp; rfl)); intro w12 hb; have S12 : Aside0 (Sp w0 w w12 g [xb, rb] s a2 false d1) := ⟨Sp.below (by repeat (first | (with_reducible first | exact S10.out | apply Sp.alloc | apply Sp.drewN | apply Sp.drew | apply Sp.set1 | apply Sp.set2 | apply Sp.set3 | (refine Sp.put ?_ (by simp) _ _ _ _ _)) | exact S10.out)) hb⟩; obtain ⟨xx12, yy12, AA12, nn12, cc12, z0_12, z1_12, z2_12, k0_12, k1_12, k2_12⟩ := Sp.cells S12.out (u := xb) (by simp); clear hb) | (go_at_call 37; refine (snext_any g s a2 false d1 HA2.out w0 _ (Sp.I (w := w) (bs := [xb, rb]) z23) (Sp.B (w := w) (g := g) (bs := [xb, rb]) (s := s) (a := a2) (b := false) (d := d1) z23)).mono ?_; rintro e w10 ⟨rfl, hi, hb, hk⟩; have S10 : Aside0 (Sp w0 w w10 g [xb, rb] s a2 false d1) := ⟨Sp.step (s := s) (a := a2) (b := false) (d := d1) z23 hi hb hk⟩; obtain ⟨g0_10, g1_10, g2_10, g3_10, f1_10, f2_10, f3_10⟩ := Sp.gcells S10.out; rw [bT.out]; obtain ⟨xx10, yy10, AA10, nn10, cc10, z0_10, z1_10, z2_10, k0_10, k1_10, k2_10⟩ := Sp.cells S10.out (u := xb) (by simp); obtain ⟨rx10, ry10, rA10, rn10, rc10, rz0_10, rz1_10, rz2_10, rk0_10, rk1_10, rk2_10⟩ := Sp.cells S10.out (u := rb) (by simp); clear hi hb hk))
       go_meet
       exact by repeat (first | (with_reducible first | exact S12.out | apply Sp.alloc | apply Sp.drewN | apply Sp.drew | apply Sp.set1 | apply Sp.set2 | apply Sp.set3 | (refine Sp.put ?_ (by simp) _ _ _ _ _)) | exact S12.out)
      case rest =>
       have S11 := aM hcut
       obtain ⟨g0_11, g1_11, g2_11, g3_11, f1_11, f2_11, f3_11⟩ := Sp.gcells hcut
       clear hcut
       go_wp2
       go_roundg G
       case measure => omega
       case rel => exact ⟨wrap64 (a2 + 1), HX2.out, by repeat (first | (with_reducible first | exact S11.out | apply Sp.alloc | apply Sp.drewN | apply Sp.drew | apply Sp.set1 | apply Sp.set2 | apply Sp.set3 | (refine Sp.put ?_ (by simp) _ _ _ _ _)) | exact S11.out)⟩
     by_cases q43 : c2 = 43
     ·subst q43
      rw [if_pos (by decide)] at hx
      have HX2 := aM hx
      clear hx
      go_upto_block 3 with (first | (go_at_call 37; refine (snext_any g s a2 false d1 HA2.out w0 _ (Sp.I (w := w) (bs := [xb, rb]) z23) (Sp.B (w := w) (g := g) (bs := [xb, rb]) (s := s) (a := a2) (b := false) (d := d1) z23)).mono ?_; rintro e w10 ⟨rfl, hi, hb, hk⟩; have S10 : Aside0 (Sp w0 w w10 g [xb, rb] s a2 false d1) := ⟨Sp.step (s := s) (a := a2) (b := false) (d := d1) z23 hi hb hk⟩; obtain ⟨g0_10, g1_10, g2_10, g3_10, f1_10, f2_10, f3_10⟩ := Sp.gcells S10.out; rw [bT.out]; obtain ⟨xx10, yy10, AA10, nn10, cc10, z0_10, z1_10, z2_10, k0_10, k1_10, k2_10⟩ := Sp.cells S10.out (u := xb) (by simp); obtain ⟨rx10, ry10, rA10, rn10, rc10, rz0_10, rz1_10, rz2_10, rk0_10, rk1_10, rk2_10⟩ := Sp.cells S10.out (u := rb) (by simp); clear hi hb hk))
      go_cut [] (fun wc => Sp w0 w wc g [xb, rb] s a2 false d1)
      case first =>
       go_wp2_with (first | ((with_reducible refine ar (N := 78) rfl ?_); refine lit_event (v := .slice (some ⟨w12.heap.size, 0, none⟩) 2 2) (cs := #[.int .u8 xx10, .int .u8 yy10, .slice AA10 nn10 cc10, .int .u8 42, .int .u8 0, .slice (some ⟨w10.heap.size, 0, none⟩) 1 1]) (t := 48) ?hg ?hr ?_; (case hg => rfl); (case hr => first | (go_simp; done) | (go_simp; rfl)); intro w13 hb; have S13 : Aside0 (Sp w0 w w13 g [xb, rb] s a2 false d1) := ⟨Sp.below (by repeat (first | (with_reducible first | exact S12.out | apply Sp.alloc | apply Sp.drewN | apply Sp.drew | apply Sp.set1 | apply Sp.set2 | apply Sp.set3 | (refine Sp.put ?_ (by simp) _ _ _ _ _)) | exact S12.out)) hb⟩; obtain ⟨xx13, yy13, AA13, nn13, cc13, z0_13, z1_13, z2_13, k0_13, k1_13, k2_13⟩ := Sp.cells S13.out (u := xb) (by simp); clear hb) | ((with_reducible refine ar (N := 76) rfl ?_); refine lit_event (v := .slice (some ⟨w10.heap.size, 0, none⟩) 1 1) (cs := #[.int .u8 xx10, .int .u8 yy10, .slice AA10 nn10 cc10]) (t := 48) ?hg ?hr ?_; (case hg => rfl); (case hr => first | (go_simp; done) | (go_simp; rfl)); intro w12 hb; have S12 : Aside0 (Sp w0 w w12 g [xb, rb] s a2 false d1) := ⟨Sp.below (by repeat (first | (with_reducible first | exact S10.out | apply Sp.alloc | apply Sp.drewN | apply Sp.drew | apply Sp.set1 | apply Sp.set2 | apply Sp.set3 | (refine Sp.put ?_ (by simp) _ _ _ _ _)) | exact S10.out)) hb⟩; obtain ⟨xx12, yy12, AA12, nn12, cc12, z0_12, z1_12, z2_12, k0_12, k1_12, k2_12⟩ := Sp.cells S12.out (u := xb) (by simp); clear hb) | (go_at_call 37; refine (snext_any g s a2 false d1 HA2.out w0 _ (Sp.I (w := w) (bs := [xb, rb]) z23) (Sp.B (w := w) (g := g) (bs := [xb, rb]) (s := s) (a := a2) (b := false) (d := d1) z23)).mono ?_; rintro e w10 ⟨rfl, hi, hb, hk⟩; have S10 : Aside0 (Sp w0 w w10 g [xb, rb] s a2 false d1) := ⟨Sp.step (s := s) (a := a2) (b := false) (d := d1) z23 hi hb hk⟩; obtain ⟨g0_10, g1_10, g2_10, g3_10, f1_10, f2_10, f3_10⟩ := Sp.gcells S10.out; rw [bT.out]; obtain ⟨xx10, yy10, AA10, nn10, cc10, z0_10, z1_10, z2_10, k0_10, k1_10, k2_10⟩ := Sp.cells S10.out (u := xb) (by simp); obtain ⟨rx10, ry10, rA10, rn10, rc10, rz0_10, rz1_10, rz2_10, rk0_10, rk1_10, rk2_10⟩ := Sp.cells S10.out (u := rb) (by simp); clear hi hb hk))
       go_meet
       exact by repeat (first | (with_reducible first | exact S13.out | apply Sp.alloc | apply Sp.drewN | apply Sp.drew | apply Sp.set1 | apply Sp.set2 | apply Sp.set3 | (refine Sp.put ?_ (by simp) _ _ _ _ _)) | exact S13.out)
      case rest =>
       have S11 := aM hcut
       obtain ⟨g0_11, g1_11, g2_11, g3_11, f1_11, f2_11, f3_11⟩ := Sp.gcells hcut
       clear hcut
       go_wp2
       go_roundg G
       case measure => omega
       case rel => exact ⟨wrap64 (a2 + 1), HX2.out, by repeat (first | (with_reducible first | exact S11.out | apply Sp.alloc | apply Sp.drewN | apply Sp.drew | apply Sp.set1 | apply Sp.set2 | apply Sp.set3 | (refine Sp.put ?_ (by simp) _ _ _ _ _)) | exact S11.out)⟩
     ·rw [if_neg (by unfold sufB; rw [dF q42, dF q63, dF q43]; simp)] at hx
      obtain rfl := sI hx
      have e1 : (c2 == 42) = false := qF q42
      have e2 : (c2 == 63) = false := qF q63
      have e3 : (c2 == 43) = false := qF q43
      clear hx q42 q63 q43
      go_wp2_with (first | (go_at_call 37; refine (snext_any g s a2 false d1 HA2.out w0 _ (Sp.I (w := w) (bs := [xb, rb]) z23) (Sp.B (w := w) (g := g) (bs := [xb, rb]) (s := s) (a := a2) (b := false) (d := d1) z23)).mono ?_; rintro e w10 ⟨rfl, hi, hb, hk⟩; have S10 : Aside0 (Sp w0 w w10 g [xb, rb] s a2 false d1) := ⟨Sp.step (s := s) (a := a2) (b := false) (d := d1) z23 hi hb hk⟩; obtain ⟨g0_10, g1_10, g2_10, g3_10, f1_10, f2_10, f3_10⟩ := Sp.gcells S10.out; rw [bT.out]; obtain ⟨xx10, yy10, AA10, nn10, cc10, z0_10, z1_10, z2_10, k0_10, k1_10, k2_10⟩ := Sp.cells S10.out (u := xb) (by simp); obtain ⟨rx10, ry10, rA10, rn10, rc10, rz0_10, rz1_10, rz2_10, rk0_10, rk1_10, rk2_10⟩ := Sp.cells S10.out (u := rb) (by simp); clear hi hb hk))
      refine bodyPost_ret (results_cell_row rfl _ _ rb 48 #[.int .u8 xx10, .int .u8 yy10, .slice AA10 nn10 cc10] (0, 0) _ rfl (blk48_put (Sp.X (w0 := w0) (w := w) (g := g) (bs := [xb, rb]) (s := s) (a := a2) (b := false) (d := d1) (by repeat (first | (with_reducible first | exact S10.out | apply Sp.alloc | apply Sp.drewN | apply Sp.drew | apply Sp.set1 | apply Sp.set2 | apply Sp.set3 | (refine Sp.put ?_ (by simp) _ _ _ _ _)) | exact S10.out)) rb (by simp)).2) Try.underlying48 rfl z0) rfl ?_
      rw [HO.out]
      exact Sp.fin (w := w) (bs := [xb, rb]) (o := (a2, false, d1)) (by repeat (first | (with_reducible first | exact S10.out | apply Sp.alloc | apply Sp.drewN | apply Sp.drew | apply Sp.set1 | apply Sp.set2 | apply Sp.set3 | (refine Sp.put ?_ (by simp) _ _ _ _ _)) | exact S10.out)) _ _ _ _ _
def kE : Kd Unit where
 sz := 3
 E := []
 K := fun w x cs => ∃ (a b : Int) (A : Option Addr) (n c : Nat), cs = [.int .u8 a, .int .u8 b, .slice A n c]
 M := fun w base ok x cs => ∃ (a b : Int) (A : Option Addr) (n c : Nat), cs = [.int .u8 a, .int .u8 b, .slice A n c]
 K_len := by rintro w x cs ⟨a, b, A, n, c, rfl⟩; rfl
 K_one := by rintro w x cs ⟨a, b, A, n, c, rfl⟩ u hu; simp only [List.mem_cons, List.not_mem_nil, or_false] at hu; rcases hu with rfl | rfl | rfl <;> rfl
 K_below := by rintro w w1 x cs hb h; exact h
 K_of_M := by rintro w base ok x cs h; exact h
 M_mono := by rintro w base ok ok' x cs hok h; exact h
 M_bound := by rintro w base ok x cs h; exact h
 M_move := by rintro w w1 base ok x cs hm h; exact h
 M_lower := by rintro w base base' ok x cs hb h; exact h
theorem inf48h : (Try.prog.info? 48).map (fun i => (i.zero, i.size, i.bytes)) = some (some (.agg #[.int .u8 0, .int .u8 0, .slice none 0 0]), 3, 32) := by kernel_rfl
theorem kE_at {w : World} {A : Option Addr} {n : Nat} {xs : List Unit} (h : Kd.C kE w A n xs) (h1 : 0 < n) : ∃ (ad : Addr) (x y : Int) (B : Option Addr) (m c : Nat), A = some ad ∧ w.cell? ad = some (.int .u8 x) ∧ w.cell? ⟨ad.block, ad.off + 1, none⟩ = some (.int .u8 y) ∧ w.cell? ⟨ad.block, ad.off + 2, none⟩ = some (.slice B m c) ∧ w.cell? (ad.add 0) = some (.int .u8 x) := by
 obtain ⟨ad, cs, e, _, hK, hc0⟩ := Kd.C_get h () 0 (Int.le_refl _) (by omega)
 obtain ⟨x, y, B, m, c, rfl⟩ := hK
 have hc : ∀ j u, ([.int .u8 x, .int .u8 y, .slice B m c] : List Value)[j]? = some u → w.cell? (ad.add (0 * 3 + j)) = some u := hc0
 have h1 : w.cell? ⟨(ad.add (0 * 3)).block, (ad.add (0 * 3)).off + 1, none⟩ = some (.int .u8 y) := by rw [← add_field _ _ 1 (by omega)]; exact hc 1 _ rfl
 have h2 : w.cell? ⟨(ad.add (0 * 3)).block, (ad.add (0 * 3)).off + 2, none⟩ = some (.slice B m c) := by rw [← add_field _ _ 2 (by omega)]; exact hc 2 _ rfl
 have h0 := hc 0 _ rfl
 rw [show 0 * 3 = 0 from rfl, Addr.add_zero'] at h1 h2
 refine ⟨ad, x, y, B, m, c, e, ?_, h1, h2, h0⟩
 rw [show 0 * 3 + 0 = 0 from rfl, Addr.add_zero'] at h0
 exact h0
theorem Sp.app {w0 w W w1 : World} {g rb : Nat} {s : ByteArray} {a : Int} {b : Bool} {d : Int} {v : Value} {m : Nat} (h : Sp w0 w W g [rb] s a b d) (hR : Kd.R kE 48 W w0.heap.size (fun k => w.heap.size ≤ k ∧ k ≠ g ∧ k ≠ rb) v (rU m)) (hb : Below w0.heap.size w0 w1) (hg : W.grownBy w1 v.ownBlock) : Sp w0 w w1 g [rb] s a b d := by
 refine ⟨h.I.grown hg (h.I.own_ne hR (by decide)), hb, h.K.trans (KeepBut.of_grown hg g) ?_, fun u hu => ⟨(h.X u hu).1, ?_⟩, h.G⟩
 ·cases e : v.ownBlock with
  | none => exact .inl rfl
  | some b => exact .inr ⟨b, rfl, (hR.1 b e).1⟩
 ·obtain ⟨x, y, A, n, c, e⟩ := (h.X u hu).2
  refine ⟨x, y, A, n, c, (hg.block u (blk_lt e) (fun e2 => ?_)).trans e⟩
  have := (hR.1 u e2.symm).2.2
  exact this (by simpa using hu)
def rc (s : ByteArray) (a : Int) (b : Bool) : Bool := !b && (decide (a < (s.size : Int)) && (decide (sN s a ≠ 124) && decide (sN s a ≠ 41)))
theorem sRow_bad0 {s : ByteArray} {a : Int} {b : Bool} {d : Int} {m : Nat} {o : Int × Bool × Int} (h : sRow 0 s a b d m = some o) : False := by simp [sRow] at h
theorem sRow_cond {k : Nat} {s : ByteArray} {a : Int} {b : Bool} {d : Int} {m : Nat} {o : Int × Bool × Int} (h : sRow (k + 1) s a b d m = some o) : (b = false → a < (s.size : Int) → 0 ≤ a) ∧ (rc s a b = false → o = (a, b || decide (m = 0), d)) ∧ (rc s a b = true → b = false ∧ ∃ q, sOne k s a false d = some q ∧ m < 1000000000000 ∧ sRow k s q.1 q.2.1 q.2.2 (m + 1) = some o) := by
 simp only [sRow] at h
 by_cases c1 : b = false ∧ a < (s.size : Int)
 ·rw [if_pos c1] at h
  by_cases c2 : 0 ≤ a
  ·rw [if_pos c2] at h
   by_cases c3 : sN s a ≠ 124 ∧ sN s a ≠ 41
   ·rw [if_pos c3] at h
    refine ⟨fun _ _ => c2, fun e => ?_, fun _ => ⟨c1.1, ?_⟩⟩
    ·unfold rc at e
     rw [c1.1, dT c1.2, dT c3.1, dT c3.2] at e
     cases e
    ·rw [c1.1] at h
     obtain ⟨q, h1, h2⟩ := oB h
     by_cases hm : m < 1000000000000
     ·rw [if_pos hm] at h2
      exact ⟨q, h1, hm, h2⟩
     ·rw [if_neg hm] at h2; cases h2
   ·rw [if_neg c3] at h
    refine ⟨fun _ _ => c2, fun _ => (sI h).symm, fun e => ?_⟩
    unfold rc at e
    simp only [Bool.and_eq_true, decide_eq_true_eq] at e
    exact absurd ⟨e.2.2.1, e.2.2.2⟩ c3
  ·rw [if_neg c2] at h; cases h
 ·rw [if_neg c1] at h
  refine ⟨fun e1 e2 => absurd ⟨e1, e2⟩ c1, fun _ => (sI h).symm, fun e => ?_⟩
  unfold rc at e
  simp only [Bool.and_eq_true, decide_eq_true_eq, Bool.not_eq_true'] at e
  exact absurd ⟨e.1, e.2.1⟩ c1
set_option maxHeartbeats 4000000 in
set_option maxRecDepth 100000 in
theorem srow_any (k : Nat) (g : Nat) (s : ByteArray) (a : Int) (b : Bool) (d : Int) (o : Int × Bool × Int) (ih : ∀ j, j < k → ∀ a d q, sOne j s a false d = some q → SpC 44 g s a false d q) (h : sRow k s a b d 0 = some o) : SpC 36 g s a b d o := by
 intro w0 w hI hB
 have S0 := aM (Sp.start hI hB)
 have HH := aM h
 have HG : Aside0 (w0.heap.size ≤ g ∧ g < w.heap.size) := ⟨hI.ge, hI.lt⟩
 clear hI hB h
 go_enter Try.func36, Try.ntmps36
 go_wp2_with (first | ((with_reducible refine ar (N := 2) rfl ?_); refine au ?hg (N := 2) ?hd (cs := #[.int .u8 0, .int .u8 0, .slice none 0 0]) (t := 48) ?hr ?_; (case hd => rfl); (case hg => rfl); (case hr => first | (go_simp; done) | (go_simp; rfl)); intro rb hgb w1 hbox hb; have S1 : Aside0 (Sp w0 w w1 g [rb] s _ _ _) := ⟨Sp.box (bs := []) (by repeat (first | (with_reducible first | exact S0.out | apply Sp.alloc | apply Sp.drewN | apply Sp.drew | apply Sp.set1 | apply Sp.set2 | apply Sp.set3 | (refine Sp.put ?_ (by simp) _ _ _ _ _)) | exact S0.out)) hgb hbox hb⟩; obtain ⟨xx1, yy1, AA1, nn1, cc1, z0_1, z1_1, z2_1, k0_1, k1_1, k2_1⟩ := Sp.cells S1.out (u := rb) (by simp); obtain ⟨g0_1, g1_1, g2_1, g3_1, f1_1, f2_1, f3_1⟩ := Sp.gcells S1.out; have ne_1 : ¬ rb = g := Sp.ne S1.out (by simp); have nf_1 : ¬ g = rb := fun e => ne_1 e.symm; clear hgb hbox hb))
 go_loopg [3] k (fun j v3 w' => j ≤ k ∧ ∃ a b d m, sRow j s a b d m = some o ∧ Sp w0 w w' g [rb] s a b d ∧ Kd.R kE 48 w' w0.heap.size (fun k => w.heap.size ≤ k ∧ k ≠ g ∧ k ≠ rb) v3 (rU m))
 case atStart => exact ⟨Nat.le_refl _, a, b, d, 0, HH.out, by repeat (first | (with_reducible first | exact S1.out | apply Sp.alloc | apply Sp.drewN | apply Sp.drew | apply Sp.set1 | apply Sp.set2 | apply Sp.set3 | (refine Sp.put ?_ (by simp) _ _ _ _ _)) | exact S1.out), Kd.R_nil _ _ _ _ _⟩
 case round =>
  obtain ⟨hj, a, b, d, m, hr, hs, hR⟩ := hrel
  have S4 := aM hs
  have R4 := aM hR
  obtain ⟨g0_4, g1_4, g2_4, g3_4, f1_4, f2_4, f3_4⟩ := Sp.gcells hs
  obtain ⟨Av, cv, rfl, -, -⟩ := Kd.R_reads hR
  clear hs hR S0 S1 HH
  cases gk with
  | zero => exact (sRow_bad0 hr).elim
  | succ G =>
   obtain ⟨hA0, hstop, hgo⟩ := sRow_cond hr
   clear hr
   go_upto_region 2 with (fail)
   go_cut [30] (fun v30 wc => v30 = .bool (rc s a b) ∧ Sp w0 w wc g [rb] s a b d ∧ Kd.R kE 48 wc w0.heap.size (fun k => w.heap.size ≤ k ∧ k ≠ g ∧ k ≠ rb) (.slice Av (rU m).length cv) (rU m))
   case first =>
    clear hstop hgo ih
    cases b with
    | true =>
     have hv : rc s a true = false := rfl
     clear hA0
     go_wp2_with (first | (go_at_call 37; refine (snext_dr g s a false d HA0.out w0 _ (Sp.I (w := w) (bs := [rb]) z24)).mono ?_; rintro e w2 ⟨rfl, ⟨nd, rfl⟩⟩; rw [HC.out]; (try first | exact ⟨rfl, _, World.drewN_drewN _ _ _⟩ | exact ⟨rfl, _, Eq.trans (World.drewN_drewN _ _ _) (congrArg (World.drewN _) (Nat.add_assoc _ _ _))⟩)))
     repeat (go_quiet (first | (go_at_call 37; refine (snext_dr g s a false d HA0.out w0 _ (Sp.I (w := w) (bs := [rb]) z24)).mono ?_; rintro e w2 ⟨rfl, ⟨nd, rfl⟩⟩; rw [HC.out]; (try first | exact ⟨rfl, _, World.drewN_drewN _ _ _⟩ | exact ⟨rfl, _, Eq.trans (World.drewN_drewN _ _ _) (congrArg (World.drewN _) (Nat.add_assoc _ _ _))⟩))); try go_wp2_with (first | (go_at_call 37; refine (snext_dr g s a false d HA0.out w0 _ (Sp.I (w := w) (bs := [rb]) z24)).mono ?_; rintro e w2 ⟨rfl, ⟨nd, rfl⟩⟩; rw [HC.out]; (try first | exact ⟨rfl, _, World.drewN_drewN _ _ _⟩ | exact ⟨rfl, _, Eq.trans (World.drewN_drewN _ _ _) (congrArg (World.drewN _) (Nat.add_assoc _ _ _))⟩))))
     go_meet
     exact ⟨by rw [hv], y17, y5⟩
    | false =>
    by_cases h1 : a < (s.size : Int)
    case neg =>
     have hv : rc s a false = false := by unfold rc; rw [dF h1]; rfl
     have e1 : decide (a < (s.size : Int)) = false := dF h1
     clear hA0 h1
     go_wp2_with (first | (go_at_call 37; refine (snext_dr g s a false d HA0.out w0 _ (Sp.I (w := w) (bs := [rb]) z24)).mono ?_; rintro e w2 ⟨rfl, ⟨nd, rfl⟩⟩; rw [HC.out]; (try first | exact ⟨rfl, _, World.drewN_drewN _ _ _⟩ | exact ⟨rfl, _, Eq.trans (World.drewN_drewN _ _ _) (congrArg (World.drewN _) (Nat.add_assoc _ _ _))⟩)))
     repeat (go_quiet (first | (go_at_call 37; refine (snext_dr g s a false d HA0.out w0 _ (Sp.I (w := w) (bs := [rb]) z24)).mono ?_; rintro e w2 ⟨rfl, ⟨nd, rfl⟩⟩; rw [HC.out]; (try first | exact ⟨rfl, _, World.drewN_drewN _ _ _⟩ | exact ⟨rfl, _, Eq.trans (World.drewN_drewN _ _ _) (congrArg (World.drewN _) (Nat.add_assoc _ _ _))⟩))); try go_wp2_with (first | (go_at_call 37; refine (snext_dr g s a false d HA0.out w0 _ (Sp.I (w := w) (bs := [rb]) z24)).mono ?_; rintro e w2 ⟨rfl, ⟨nd, rfl⟩⟩; rw [HC.out]; (try first | exact ⟨rfl, _, World.drewN_drewN _ _ _⟩ | exact ⟨rfl, _, Eq.trans (World.drewN_drewN _ _ _) (congrArg (World.drewN _) (Nat.add_assoc _ _ _))⟩))))
     go_meet
     exact ⟨by rw [hv], y17, y5⟩
    obtain ⟨c, hc⟩ : ∃ c, sN s a = c := ⟨_, rfl⟩
    have HC := aM hc
    have HA0 : Aside0 (0 ≤ a) := ⟨hA0 rfl h1⟩
    have e1 : decide (a < (s.size : Int)) = true := dT h1
    by_cases c1 : c = 124
    ·subst c1
     have hv : rc s a false = false := by unfold rc; rw [hc, show decide ((124 : Int) ≠ 124) = false from rfl]; simp
     clear hc hA0 h1
     go_wp2_with (first | (go_at_call 37; refine (snext_dr g s a false d HA0.out w0 _ (Sp.I (w := w) (bs := [rb]) z24)).mono ?_; rintro e w2 ⟨rfl, ⟨nd, rfl⟩⟩; rw [HC.out]; (try first | exact ⟨rfl, _, World.drewN_drewN _ _ _⟩ | exact ⟨rfl, _, Eq.trans (World.drewN_drewN _ _ _) (congrArg (World.drewN _) (Nat.add_assoc _ _ _))⟩)))
     repeat (go_quiet (first | (go_at_call 37; refine (snext_dr g s a false d HA0.out w0 _ (Sp.I (w := w) (bs := [rb]) z24)).mono ?_; rintro e w2 ⟨rfl, ⟨nd, rfl⟩⟩; rw [HC.out]; (try first | exact ⟨rfl, _, World.drewN_drewN _ _ _⟩ | exact ⟨rfl, _, Eq.trans (World.drewN_drewN _ _ _) (congrArg (World.drewN _) (Nat.add_assoc _ _ _))⟩))); try go_wp2_with (first | (go_at_call 37; refine (snext_dr g s a false d HA0.out w0 _ (Sp.I (w := w) (bs := [rb]) z24)).mono ?_; rintro e w2 ⟨rfl, ⟨nd, rfl⟩⟩; rw [HC.out]; (try first | exact ⟨rfl, _, World.drewN_drewN _ _ _⟩ | exact ⟨rfl, _, Eq.trans (World.drewN_drewN _ _ _) (congrArg (World.drewN _) (Nat.add_assoc _ _ _))⟩))))
     go_meet
     exact ⟨by rw [hv], y17, y5⟩
    by_cases c2 : c = 41
    ·subst c2
     have hv : rc s a false = false := by unfold rc; rw [hc, show decide ((41 : Int) ≠ 41) = false from rfl]; simp
     clear hc hA0 h1 c1
     go_wp2_with (first | (go_at_call 37; refine (snext_dr g s a false d HA0.out w0 _ (Sp.I (w := w) (bs := [rb]) z24)).mono ?_; rintro e w2 ⟨rfl, ⟨nd, rfl⟩⟩; rw [HC.out]; (try first | exact ⟨rfl, _, World.drewN_drewN _ _ _⟩ | exact ⟨rfl, _, Eq.trans (World.drewN_drewN _ _ _) (congrArg (World.drewN _) (Nat.add_assoc _ _ _))⟩)))
     repeat (go_quiet (first | (go_at_call 37; refine (snext_dr g s a false d HA0.out w0 _ (Sp.I (w := w) (bs := [rb]) z24)).mono ?_; rintro e w2 ⟨rfl, ⟨nd, rfl⟩⟩; rw [HC.out]; (try first | exact ⟨rfl, _, World.drewN_drewN _ _ _⟩ | exact ⟨rfl, _, Eq.trans (World.drewN_drewN _ _ _) (congrArg (World.drewN _) (Nat.add_assoc _ _ _))⟩))); try go_wp2_with (first | (go_at_call 37; refine (snext_dr g s a false d HA0.out w0 _ (Sp.I (w := w) (bs := [rb]) z24)).mono ?_; rintro e w2 ⟨rfl, ⟨nd, rfl⟩⟩; rw [HC.out]; (try first | exact ⟨rfl, _, World.drewN_drewN _ _ _⟩ | exact ⟨rfl, _, Eq.trans (World.drewN_drewN _ _ _) (congrArg (World.drewN _) (Nat.add_assoc _ _ _))⟩))))
     go_meet
     exact ⟨by rw [hv], y17, y5⟩
    have hv : rc s a false = true := by unfold rc; rw [hc, e1, dT c1, dT c2]; rfl
    have e2 : (c != 124) = true := nT c1
    have e3 : (c != 41) = true := nT c2
    clear hc hA0 h1 c1 c2
    go_wp2_with (first | (go_at_call 37; refine (snext_dr g s a false d HA0.out w0 _ (Sp.I (w := w) (bs := [rb]) z24)).mono ?_; rintro e w2 ⟨rfl, ⟨nd, rfl⟩⟩; rw [HC.out]; (try first | exact ⟨rfl, _, World.drewN_drewN _ _ _⟩ | exact ⟨rfl, _, Eq.trans (World.drewN_drewN _ _ _) (congrArg (World.drewN _) (Nat.add_assoc _ _ _))⟩)))
    repeat (go_quiet (first | (go_at_call 37; refine (snext_dr g s a false d HA0.out w0 _ (Sp.I (w := w) (bs := [rb]) z24)).mono ?_; rintro e w2 ⟨rfl, ⟨nd, rfl⟩⟩; rw [HC.out]; (try first | exact ⟨rfl, _, World.drewN_drewN _ _ _⟩ | exact ⟨rfl, _, Eq.trans (World.drewN_drewN _ _ _) (congrArg (World.drewN _) (Nat.add_assoc _ _ _))⟩))); try go_wp2_with (first | (go_at_call 37; refine (snext_dr g s a false d HA0.out w0 _ (Sp.I (w := w) (bs := [rb]) z24)).mono ?_; rintro e w2 ⟨rfl, ⟨nd, rfl⟩⟩; rw [HC.out]; (try first | exact ⟨rfl, _, World.drewN_drewN _ _ _⟩ | exact ⟨rfl, _, Eq.trans (World.drewN_drewN _ _ _) (congrArg (World.drewN _) (Nat.add_assoc _ _ _))⟩))))
    go_meet
    exact ⟨by rw [hv], y17, y5⟩
   case rest =>
    obtain ⟨rfl, hs, hR⟩ := hcut
    have S5 := aM hs
    have R5 := aM hR
    obtain ⟨g0_5, g1_5, g2_5, g3_5, f1_5, f2_5, f3_5⟩ := Sp.gcells hs
    obtain ⟨xx5, yy5, AA5, nn5, cc5, z0_5, z1_5, z2_5, k0_5, k1_5, k2_5⟩ := Sp.cells S5.out (u := rb) (by simp)
    clear S4 R4 g0_4 g1_4 g2_4 g3_4 f1_4 f2_4 f3_4 hs hR
    cases hrc : rc s a b with
    | false =>
     have HO := aM (hstop hrc)
     clear hA0 hstop hgo ih hrc
     rcases m with _ | _ | m
     ·have e0 : (((rU 0).length : Int) == 0) = true := rfl
      have cJ : Aside0 (o = (a, true, d)) := ⟨by rw [HO.out]; simp⟩
      go_wp2
      refine bodyPost_ret (results_cell_row rfl _ _ rb 48 _ (0, 0) _ rfl (blk48_put (Sp.X (w0 := w0) (w := w) (g := g) (bs := [rb]) (s := s) (a := a) (b := true) (d := d) (Sp.set2 (b := b) z22 true) rb (by simp)).2) Try.underlying48 rfl z0) rfl ?_
      rw [cJ.out]
      exact Sp.fin (w := w) (bs := [rb]) (o := (a, true, d)) (Sp.put (Sp.set2 (b := b) z22 true) (u := rb) (by simp) _ _ _ _ _) _ _ _ _ _
     ·have e0 : (((rU (0 + 1)).length : Int) == 0) = false := rfl
      have e1 : (((rU (0 + 1)).length : Int) == 1) = true := rfl
      have e2 : ((0 : Int) < ((rU (0 + 1)).length : Int)) = True := eq_true (by decide)
      have e3 : (0 < (rU (0 + 1)).length) = True := eq_true (by decide)
      have cJ : Aside0 (o = (a, b, d)) := ⟨by rw [HO.out]; simp⟩
      obtain ⟨_, _, _, _, hC⟩ := Kd.R_reads R5.out
      have hC' := (ag R5.out).2.2
      obtain ⟨ad, x, y, B, mm, cc, rfl, t0, t1, t2, t3⟩ := kE_at hC' (by decide)
      clear hC hC'
      go_wp2
      refine bodyPost_ret (results_cell_row rfl _ _ rb 48 _ (0, 0) _ rfl (blk48_put (Sp.X (w0 := w0) (w := w) (g := g) (bs := [rb]) (s := s) (a := a) (b := b) (d := d) z22 rb (by simp)).2) Try.underlying48 rfl z0) rfl ?_
      rw [cJ.out]
      exact Sp.fin (w := w) (bs := [rb]) (o := (a, b, d)) z22 _ _ _ _ _
     ·have e0 : (((rU (m + 1 + 1)).length : Int) == 0) = false := qF (by rw [rU_len]; omega)
      have e1 : (((rU (m + 1 + 1)).length : Int) == 1) = false := qF (by rw [rU_len]; omega)
      have cJ : Aside0 (o = (a, b, d)) := ⟨by rw [HO.out, dF (by omega), Bool.or_false]⟩
      go_wp2
      refine bodyPost_ret (results_cell_row rfl _ _ rb 48 _ (0, 0) _ rfl (blk48_put (Sp.X (w0 := w0) (w := w) (g := g) (bs := [rb]) (s := s) (a := a) (b := b) (d := d) z22 rb (by simp)).2) Try.underlying48 rfl z0) rfl ?_
      rw [cJ.out]
      exact Sp.fin (w := w) (bs := [rb]) (o := (a, b, d)) z22 _ _ _ _ _
    | true =>
     obtain ⟨rfl, q, hq, hm, hr2⟩ := hgo hrc
     have HA := aM (ih G (by omega) a d q hq)
     have HM := aM hm
     have cI := aM hr2
     have HJ := aM hj
     have hG2 : Aside0 (∀ W : World, Sp w0 w W g [rb] s q.1 q.2.1 q.2.2 → ∀ k, W.heap.size ≤ k → w.heap.size ≤ k ∧ k ≠ g ∧ k ≠ rb) := ⟨fun W h k hk => by
      have h1 := h.K.1
      have h2 := h.G.2
      obtain ⟨x, y, A, n, c, e⟩ := (h.X rb (by simp)).2
      have h3 := blk_lt e
      refine ⟨by omega, by omega, by omega⟩⟩
     clear hA0 hstop hgo ih hrc hq hm hr2 hj
     go_wp2_with (first | (go_at_call 44; refine (HA.out w0 _ (Sp.I (w := w) (bs := [rb]) z22) (Sp.B (w := w) (g := g) (bs := [rb]) (s := s) (a := a) (b := false) (d := d) z22)).mono ?_; rintro e w7 ⟨xe, ye, Ae, ne, ce, rfl, hi, hb, hk⟩; have S7 : Aside0 (Sp w0 w w7 g [rb] s q.1 q.2.1 q.2.2) := ⟨Sp.step (s := s) (a := a) (b := false) (d := d) z22 hi hb hk⟩; have R7 : Aside0 (Kd.R kE 48 w7 w0.heap.size (fun k => w.heap.size ≤ k ∧ k ≠ g ∧ k ≠ rb) (.slice Av (rU m).length cv) (rU m)) := ⟨Kd.R_keep (ok := (fun k => w.heap.size ≤ k ∧ k ≠ g ∧ k ≠ rb)) (by repeat (first | (with_reducible first | exact R5.out | apply ac | apply ab | apply aa) | exact R5.out)) hk (fun _ h => h.2.1)⟩; clear hi hb hk) | ((with_reducible refine gate_builtin (b := .append) (xs := #[.tmp 31, .tmp 34]) rfl ?_); at_builtin; refine Kd.R_append kE (w0 := w0) w0.heap.size rfl (.tmp 31) (.tmp 34) 46 48 (.agg #[.int .u8 0, .int .u8 0, .slice none 0 0]) 32 rfl Try.underlying46 inf48h rfl (by decide) (by omega) (.slice Av (rU m).length cv) (rU m) () [.int .u8 xe, .int .u8 ye, .slice Ae ne ce] (fun k => w.heap.size ≤ k ∧ k ≠ g ∧ k ≠ rb) (fun _ => False) rfl (by first | (go_simp; done) | (go_simp; rfl)) ?aP (fun _ hk => hk.elim) ?aF ?aO ?aB ?aS ?aL ?_; (case aP => exact ⟨_, _, _, _, _, rfl⟩); (case aF => exact hG2.out _ z25); (case aO => exact (by repeat (first | (with_reducible first | exact R7.out | apply ac | apply ab | apply aa) | exact R7.out))); (case aB => exact Sp.B (w := w) (g := g) (bs := [rb]) (s := s) (a := q.1) (b := q.2.1) (d := q.2.2) z25); (case aS => exact (Sp.B (w := w) (g := g) (bs := [rb]) (s := s) (a := q.1) (b := q.2.1) (d := q.2.2) z25).size); (case aL => have := HM.out; rw [rU_len]; omega); intro v1 w8 ho hb hg hat; rw [rU_snoc] at ho; have S8 : Aside0 (Sp w0 w w8 g [rb] s q.1 q.2.1 q.2.2) := ⟨Sp.app (v := .slice Av (rU m).length cv) (m := m) z25 (by repeat (first | (with_reducible first | exact R7.out | apply ac | apply ab | apply aa) | exact R7.out)) hb hg⟩; have R8 := aM ho; clear ho hb hg hat))
     go_roundg G
     case measure => omega
     case rel => exact ⟨by have := HJ.out; omega, _, _, _, m + 1, cI.out, by repeat (first | (with_reducible first | exact S8.out | apply Sp.alloc | apply Sp.drewN | apply Sp.drew | apply Sp.set1 | apply Sp.set2 | apply Sp.set3 | (refine Sp.put ?_ (by simp) _ _ _ _ _)) | exact S8.out), by repeat (first | (with_reducible first | exact R8.out | apply ac | apply ab | apply aa) | exact R8.out)⟩
theorem reps1 {W : World} {b0 : Nat} {okp : Nat → Prop} (x y : Int) (A : Option Addr) (n c : Nat) : Reps (kE.M W b0 okp) kE.sz (rU 1) [.int .u8 x, .int .u8 y, .slice A n c] :=
 Reps.snoc (ps := []) (cs := []) (Reps.none _ _) ⟨x, y, A, n, c, rfl⟩ rfl
def ec (s : ByteArray) (a : Int) (b : Bool) : Bool := !b && decide (sN s a = 124)
theorem sRows_bad0 {s : ByteArray} {a : Int} {b : Bool} {d : Int} {m : Nat} {o : Int × Bool × Int} (h : sRows 0 s a b d m = some o) : False := by simp [sRows] at h
theorem sRows_cond {k : Nat} {s : ByteArray} {a : Int} {b : Bool} {d : Int} {m : Nat} {o : Int × Bool × Int} (h : sRows (k + 1) s a b d m = some o) : (b = false → 0 ≤ a) ∧ (ec s a b = false → o = (a, b, d)) ∧ (ec s a b = true → b = false ∧ ∃ q, sRow k s (wrap64 (a + 1)) false d 0 = some q ∧ m < 1000000000000 ∧ sRows k s q.1 q.2.1 q.2.2 (m + 1) = some o) := by
 simp only [sRows] at h
 by_cases c1 : b = false
 ·rw [if_pos c1] at h
  by_cases c2 : 0 ≤ a
  ·rw [if_pos c2] at h
   by_cases c3 : sN s a = 124
   ·rw [if_pos c3] at h
    refine ⟨fun _ => c2, fun e => ?_, fun _ => ⟨c1, ?_⟩⟩
    ·unfold ec at e
     rw [c1, dT c3] at e
     cases e
    ·rw [c1] at h
     obtain ⟨q, h1, h2⟩ := oB h
     by_cases hm : m < 1000000000000
     ·rw [if_pos hm] at h2
      exact ⟨q, h1, hm, h2⟩
     ·rw [if_neg hm] at h2; cases h2
   ·rw [if_neg c3] at h
    refine ⟨fun _ => c2, fun _ => (sI h).symm, fun e => ?_⟩
    unfold ec at e
    simp only [Bool.and_eq_true, decide_eq_true_eq] at e
    exact absurd e.2 c3
  ·rw [if_neg c2] at h; cases h
 ·rw [if_neg c1] at h
  refine ⟨fun e1 => absurd e1 c1, fun _ => (sI h).symm, fun e => ?_⟩
  unfold ec at e
  simp only [Bool.and_eq_true, Bool.not_eq_true'] at e
  exact absurd e.1 c1
theorem Sp.grown0 {w0 w W w1 : World} {g rb : Nat} {s : ByteArray} {a : Int} {b : Bool} {d : Int} (h : Sp w0 w W g [rb] s a b d) (hb : Below w0.heap.size w0 w1) (hg : W.grownBy w1 none) : Sp w0 w w1 g [rb] s a b d := by
 refine ⟨h.I.grown hg (by simp), hb, h.K.trans (KeepBut.of_grown hg g) (.inl rfl), fun u hu => ⟨(h.X u hu).1, ?_⟩, h.G⟩
 obtain ⟨x, y, A, n, c, e⟩ := (h.X u hu).2
 exact ⟨x, y, A, n, c, (hg.block u (blk_lt e) (by simp)).trans e⟩
theorem Sp.fresh {w0 w W : World} {g rb : Nat} {s : ByteArray} {a : Int} {b : Bool} {d : Int} (h : Sp w0 w W g [rb] s a b d) : ∀ k, W.heap.size ≤ k → w.heap.size ≤ k ∧ k ≠ g ∧ k ≠ rb := fun k hk => by
 have h1 := h.K.1
 have h2 := h.G.2
 obtain ⟨x, y, A, n, c, e⟩ := (h.X rb (by simp)).2
 have h3 := blk_lt e
 refine ⟨by omega, by omega, by omega⟩
set_option maxHeartbeats 4000000 in
set_option maxRecDepth 100000 in
theorem either_any (k : Nat) (g : Nat) (s : ByteArray) (a : Int) (b : Bool) (d : Int) (o : Int × Bool × Int) (ih : ∀ j, j ≤ k → ∀ a b d q, sRow j s a b d 0 = some q → SpC 36 g s a b d q) (h : sEither (k + 1) s a b d = some o) : SpC 32 g s a b d o := by
 intro w0 w hI hB
 have S0 := aM (Sp.start hI hB)
 have HG : Aside0 (w0.heap.size ≤ g ∧ g < w.heap.size) := ⟨hI.ge, hI.lt⟩
 simp only [sEither] at h
 obtain ⟨D, hD⟩ : ∃ D, wrap64 (d + 1) = D := ⟨_, rfl⟩
 rw [hD] at h
 obtain ⟨q, hq, h⟩ := oB h
 obtain ⟨z, hz, ho⟩ := oB h
 have HO := aM (sI ho).symm
 have HA := aM (ih k (Nat.le_refl _) _ _ _ _ hq)
 have HZ := aM hz
 have HDw : IntKind.i64.wrap (d + 1) = D := (i64_w _).trans hD
 have hF2 : Aside0 (∀ W : World, Sp w0 w W g [0] s q.1 q.2.1 q.2.2 → True) := ⟨fun _ _ => trivial⟩
 clear hI hB h hq hz ho hF2
 go_enter Try.func32, Try.ntmps32
 go_upto_if 15 with (first | ((with_reducible refine ar (N := 2) rfl ?_); refine au ?hg (N := 2) ?hd (cs := #[.int .u8 0, .int .u8 0, .slice none 0 0]) (t := 48) ?hr ?_; (case hd => rfl); (case hg => rfl); (case hr => first | (go_simp; done) | (go_simp; rfl)); intro rb hgb w1 hbox hb; have S1 : Aside0 (Sp w0 w w1 g [rb] s _ _ _) := ⟨Sp.box (bs := []) (by repeat (first | (with_reducible first | exact S0.out | apply Sp.alloc | apply Sp.drewN | apply Sp.drew | apply Sp.set1 | apply Sp.set2 | apply Sp.set3 | (refine Sp.put ?_ (by simp) _ _ _ _ _)) | exact S0.out)) hgb hbox hb⟩; obtain ⟨xx1, yy1, AA1, nn1, cc1, z0_1, z1_1, z2_1, k0_1, k1_1, k2_1⟩ := Sp.cells S1.out (u := rb) (by simp); obtain ⟨g0_1, g1_1, g2_1, g3_1, f1_1, f2_1, f3_1⟩ := Sp.gcells S1.out; have ne_1 : ¬ rb = g := Sp.ne S1.out (by simp); have nf_1 : ¬ g = rb := fun e => ne_1 e.symm; clear hgb hbox hb))
 have hF2 : Aside0 (∀ W : World, Sp w0 w W g [rb] s q.1 q.2.1 q.2.2 → ∀ k, W.heap.size ≤ k → w.heap.size ≤ k ∧ k ≠ g ∧ k ≠ rb) := ⟨fun W h => Sp.fresh h⟩
 go_cut [] (fun wc => Sp w0 w wc g [rb] s a (b || decide (D > 20)) D)
 case first =>
  by_cases c : D > 20
  ·have e1 : decide ((20 : Int) < D) = true := dT c
   have e2 : (b || decide (D > 20)) = true := by rw [dT c, Bool.or_true]
   clear c
   rw [e1]
   go_wp2
   go_meet
   exact (show Sp w0 w _ g [rb] s a (b || decide (D > 20)) D from by rw [e2]; exact Sp.set2 (b := b) (by repeat (first | (with_reducible first | exact S1.out | apply Sp.alloc | apply Sp.drewN | apply Sp.drew | apply Sp.set1 | apply Sp.set2 | apply Sp.set3 | (refine Sp.put ?_ (by simp) _ _ _ _ _)) | exact S1.out)) true)
  ·have e1 : decide ((20 : Int) < D) = false := dF c
   have e2 : (b || decide (D > 20)) = b := by rw [dF c, Bool.or_false]
   clear c
   rw [e1]
   go_wp2
   go_meet
   exact (show Sp w0 w _ g [rb] s a (b || decide (D > 20)) D from by rw [e2]; exact (by repeat (first | (with_reducible first | exact S1.out | apply Sp.alloc | apply Sp.drewN | apply Sp.drew | apply Sp.set1 | apply Sp.set2 | apply Sp.set3 | (refine Sp.put ?_ (by simp) _ _ _ _ _)) | exact S1.out)))
 case rest =>
  have S2 := aM hcut
  clear hcut S0 S1
  go_wp2_with (first | (go_at_call 36; refine (HA.out w0 _ (Sp.I (w := w) (bs := [rb]) (by repeat (first | (with_reducible first | exact S2.out | apply Sp.alloc | apply Sp.drewN | apply Sp.drew | apply Sp.set1 | apply Sp.set2 | apply Sp.set3 | (refine Sp.put ?_ (by simp) _ _ _ _ _)) | exact S2.out))) (Sp.B (w := w) (g := g) (bs := [rb]) (s := s) (a := a) (b := (b || decide (D > 20))) (d := D) (by repeat (first | (with_reducible first | exact S2.out | apply Sp.alloc | apply Sp.drewN | apply Sp.drew | apply Sp.set1 | apply Sp.set2 | apply Sp.set3 | (refine Sp.put ?_ (by simp) _ _ _ _ _)) | exact S2.out)))).mono ?_; rintro e w3 ⟨xe, ye, Ae, ne, ce, rfl, hi, hb, hk⟩; have S3 : Aside0 (Sp w0 w w3 g [rb] s q.1 q.2.1 q.2.2) := ⟨Sp.step (s := s) (a := a) (b := (b || decide (D > 20))) (d := D) (by repeat (first | (with_reducible first | exact S2.out | apply Sp.alloc | apply Sp.drewN | apply Sp.drew | apply Sp.set1 | apply Sp.set2 | apply Sp.set3 | (refine Sp.put ?_ (by simp) _ _ _ _ _)) | exact S2.out)) hi hb hk⟩; clear hi hb hk) | ((with_reducible refine ar (N := 21) rfl ?_); refine Kd.R_lit kE (w0 := w0) w0.heap.size 48 ?hg (N := 21) ?hd (xs := rU 1) (inner := [.int .u8 xe, .int .u8 ye, .slice Ae ne ce]) (ok := (fun k => w.heap.size ≤ k ∧ k ≠ g ∧ k ≠ rb)) (okp := fun _ => False) ?hr (reps1 _ _ _ _ _) (fun _ hk => hk.elim) (hF2.out _ S3.out _ (Nat.le_refl _)) S3.out.B S3.out.B.size (by decide) ?_; (case hd => rfl); (case hg => rfl); (case hr => first | (go_simp; done) | (go_simp; rfl)); intro v1 w4 ho hb hg hnew; have S9 : Aside0 (Sp w0 w w4 g [rb] s q.1 q.2.1 q.2.2) := ⟨Sp.grown0 S3.out hb hg⟩; have R9 := aM ho; clear ho hb hg hnew))
  go_loopg [3] k (fun j v3 w' => j ≤ k ∧ ∃ a b d m, sRows j s a b d m = some z ∧ Sp w0 w w' g [rb] s a b d ∧ Kd.R kE 48 w' w0.heap.size (fun k => w.heap.size ≤ k ∧ k ≠ g ∧ k ≠ rb) v3 (rU (m + 1)))
  case atStart => exact ⟨Nat.le_refl _, q.1, q.2.1, q.2.2, 0, HZ.out, by repeat (first | (with_reducible first | exact S9.out | apply Sp.alloc | apply Sp.drewN | apply Sp.drew | apply Sp.set1 | apply Sp.set2 | apply Sp.set3 | (refine Sp.put ?_ (by simp) _ _ _ _ _)) | exact S9.out), by repeat (first | (with_reducible first | exact R9.out | apply ac | apply ab | apply aa) | exact R9.out)⟩
  case round =>
   clear S2 S3 S9 R9 HA HZ
   obtain ⟨hj, a, b, d, m, hr, hs, hR⟩ := hrel
   have S4 := aM hs
   have R4 := aM hR
   obtain ⟨g0_4, g1_4, g2_4, g3_4, f1_4, f2_4, f3_4⟩ := Sp.gcells hs
   obtain ⟨Av, cv, rfl, -, -⟩ := Kd.R_reads hR
   clear hs hR hF2
   cases gk with
   | zero => exact (sRows_bad0 hr).elim
   | succ G =>
    obtain ⟨hA0, hstop, hgo⟩ := sRows_cond hr
    clear hr
    go_upto_region 5 with (fail)
    go_cut [31] (fun v31 wc => v31 = .bool (ec s a b) ∧ Sp w0 w wc g [rb] s a b d ∧ Kd.R kE 48 wc w0.heap.size (fun k => w.heap.size ≤ k ∧ k ≠ g ∧ k ≠ rb) (.slice Av (rU (m + 1)).length cv) (rU (m + 1)))
    case first =>
     clear hstop hgo ih
     cases b with
     | true =>
      have hv : ec s a true = false := rfl
      clear hA0
      go_wp2_with (first | (go_at_call 37; refine (snext_dr g s a false d HA0.out w0 _ (Sp.I (w := w) (bs := [rb]) z24)).mono ?_; rintro e w2 ⟨rfl, ⟨nd, rfl⟩⟩; rw [HC.out]; (try first | exact ⟨rfl, _, World.drewN_drewN _ _ _⟩ | exact ⟨rfl, _, Eq.trans (World.drewN_drewN _ _ _) (congrArg (World.drewN _) (Nat.add_assoc _ _ _))⟩)))
      repeat (go_quiet (first | (go_at_call 37; refine (snext_dr g s a false d HA0.out w0 _ (Sp.I (w := w) (bs := [rb]) z24)).mono ?_; rintro e w2 ⟨rfl, ⟨nd, rfl⟩⟩; rw [HC.out]; (try first | exact ⟨rfl, _, World.drewN_drewN _ _ _⟩ | exact ⟨rfl, _, Eq.trans (World.drewN_drewN _ _ _) (congrArg (World.drewN _) (Nat.add_assoc _ _ _))⟩))); try go_wp2_with (first | (go_at_call 37; refine (snext_dr g s a false d HA0.out w0 _ (Sp.I (w := w) (bs := [rb]) z24)).mono ?_; rintro e w2 ⟨rfl, ⟨nd, rfl⟩⟩; rw [HC.out]; (try first | exact ⟨rfl, _, World.drewN_drewN _ _ _⟩ | exact ⟨rfl, _, Eq.trans (World.drewN_drewN _ _ _) (congrArg (World.drewN _) (Nat.add_assoc _ _ _))⟩))))
      go_meet
      exact ⟨by rw [hv], y17, y5⟩
     | false =>
     obtain ⟨c, hc⟩ : ∃ c, sN s a = c := ⟨_, rfl⟩
     have HC := aM hc
     have HA0 : Aside0 (0 ≤ a) := ⟨hA0 rfl⟩
     by_cases c1 : c = 124
     ·subst c1
      have hv : ec s a false = true := by unfold ec; rw [hc]; rfl
      clear hc hA0
      go_wp2_with (first | (go_at_call 37; refine (snext_dr g s a false d HA0.out w0 _ (Sp.I (w := w) (bs := [rb]) z24)).mono ?_; rintro e w2 ⟨rfl, ⟨nd, rfl⟩⟩; rw [HC.out]; (try first | exact ⟨rfl, _, World.drewN_drewN _ _ _⟩ | exact ⟨rfl, _, Eq.trans (World.drewN_drewN _ _ _) (congrArg (World.drewN _) (Nat.add_assoc _ _ _))⟩)))
      repeat (go_quiet (first | (go_at_call 37; refine (snext_dr g s a false d HA0.out w0 _ (Sp.I (w := w) (bs := [rb]) z24)).mono ?_; rintro e w2 ⟨rfl, ⟨nd, rfl⟩⟩; rw [HC.out]; (try first | exact ⟨rfl, _, World.drewN_drewN _ _ _⟩ | exact ⟨rfl, _, Eq.trans (World.drewN_drewN _ _ _) (congrArg (World.drewN _) (Nat.add_assoc _ _ _))⟩))); try go_wp2_with (first | (go_at_call 37; refine (snext_dr g s a false d HA0.out w0 _ (Sp.I (w := w) (bs := [rb]) z24)).mono ?_; rintro e w2 ⟨rfl, ⟨nd, rfl⟩⟩; rw [HC.out]; (try first | exact ⟨rfl, _, World.drewN_drewN _ _ _⟩ | exact ⟨rfl, _, Eq.trans (World.drewN_drewN _ _ _) (congrArg (World.drewN _) (Nat.add_assoc _ _ _))⟩))))
      go_meet
      exact ⟨by rw [hv], y17, y5⟩
     have hv : ec s a false = false := by unfold ec; rw [hc, dF c1]; rfl
     have e2 : (c == 124) = false := qF c1
     clear hc hA0 c1
     go_wp2_with (first | (go_at_call 37; refine (snext_dr g s a false d HA0.out w0 _ (Sp.I (w := w) (bs := [rb]) z24)).mono ?_; rintro e w2 ⟨rfl, ⟨nd, rfl⟩⟩; rw [HC.out]; (try first | exact ⟨rfl, _, World.drewN_drewN _ _ _⟩ | exact ⟨rfl, _, Eq.trans (World.drewN_drewN _ _ _) (congrArg (World.drewN _) (Nat.add_assoc _ _ _))⟩)))
     repeat (go_quiet (first | (go_at_call 37; refine (snext_dr g s a false d HA0.out w0 _ (Sp.I (w := w) (bs := [rb]) z24)).mono ?_; rintro e w2 ⟨rfl, ⟨nd, rfl⟩⟩; rw [HC.out]; (try first | exact ⟨rfl, _, World.drewN_drewN _ _ _⟩ | exact ⟨rfl, _, Eq.trans (World.drewN_drewN _ _ _) (congrArg (World.drewN _) (Nat.add_assoc _ _ _))⟩))); try go_wp2_with (first | (go_at_call 37; refine (snext_dr g s a false d HA0.out w0 _ (Sp.I (w := w) (bs := [rb]) z24)).mono ?_; rintro e w2 ⟨rfl, ⟨nd, rfl⟩⟩; rw [HC.out]; (try first | exact ⟨rfl, _, World.drewN_drewN _ _ _⟩ | exact ⟨rfl, _, Eq.trans (World.drewN_drewN _ _ _) (congrArg (World.drewN _) (Nat.add_assoc _ _ _))⟩))))
     go_meet
     exact ⟨by rw [hv], y17, y5⟩
    case rest =>
     obtain ⟨rfl, hs, hR⟩ := hcut
     have S5 := aM hs
     have R5 := aM hR
     obtain ⟨g0_5, g1_5, g2_5, g3_5, f1_5, f2_5, f3_5⟩ := Sp.gcells hs
     obtain ⟨xx5, yy5, AA5, nn5, cc5, z0_5, z1_5, z2_5, k0_5, k1_5, k2_5⟩ := Sp.cells S5.out (u := rb) (by simp)
     clear S4 R4 g0_4 g1_4 g2_4 g3_4 f1_4 f2_4 f3_4 hs hR
     cases hrc : ec s a b with
     | false =>
      have HZ2 := aM (hstop hrc)
      clear hA0 hstop hgo ih hrc
      have cJ : Aside0 (o = (a, b, wrap64 (d - 1))) := ⟨by rw [HO.out, HZ2.out]⟩
      rcases m with _ | m
      ·have e1 : (((rU (0 + 1)).length : Int) == 1) = true := rfl
       have e2 : ((0 : Int) < ((rU (0 + 1)).length : Int)) = True := eq_true (by decide)
       have e3 : (0 < (rU (0 + 1)).length) = True := eq_true (by decide)
       go_upto_region 8 with (fail)
       go_cut [] (fun wd => Sp w0 w wd g [rb] s a b (wrap64 (d - 1)) ∧ Kd.R kE 48 wd w0.heap.size (fun k => w.heap.size ≤ k ∧ k ≠ g ∧ k ≠ rb) (.slice Av (rU (0 + 1)).length cv) (rU (0 + 1)))
       case first =>
        go_wp2
        go_meet
        exact ⟨by repeat (first | (with_reducible first | exact S5.out | apply Sp.alloc | apply Sp.drewN | apply Sp.drew | apply Sp.set1 | apply Sp.set2 | apply Sp.set3 | (refine Sp.put ?_ (by simp) _ _ _ _ _)) | exact S5.out), by repeat (first | (with_reducible first | exact R5.out | apply ac | apply ab | apply aa) | (refine Kd.R_set ?_ S5.out.I.1 (by decide) _ _) | exact R5.out)⟩
       case rest =>
       obtain ⟨hs, hR⟩ := hcut
       have S6 := aM hs
       have hC' := (ag hR).2.2
       obtain ⟨ad, x, y, B, mm, cc, rfl, t0, t1, t2, t3⟩ := kE_at hC' (by decide)
       obtain ⟨xx6, yy6, AA6, nn6, cc6, z0_6, z1_6, z2_6, k0_6, k1_6, k2_6⟩ := Sp.cells S6.out (u := rb) (by simp)
       clear hC' hs hR S5 R5 g0_5 g1_5 g2_5 g3_5 f1_5 f2_5 f3_5 z0_5 z1_5 z2_5 k0_5 k1_5 k2_5
       go_wp2
       refine bodyPost_ret (results_cell_row rfl _ _ rb 48 _ (0, 0) _ rfl (blk48_put (Sp.X (w0 := w0) (w := w) (g := g) (bs := [rb]) (s := s) (a := a) (b := b) (d := (wrap64 (d - 1))) (by repeat (first | (with_reducible first | exact S6.out | apply Sp.alloc | apply Sp.drewN | apply Sp.drew | apply Sp.set1 | apply Sp.set2 | apply Sp.set3 | (refine Sp.put ?_ (by simp) _ _ _ _ _)) | exact S6.out)) rb (by simp)).2) Try.underlying48 rfl z0) rfl ?_
       rw [cJ.out]
       exact Sp.fin (w := w) (bs := [rb]) (o := (a, b, wrap64 (d - 1))) (by repeat (first | (with_reducible first | exact S6.out | apply Sp.alloc | apply Sp.drewN | apply Sp.drew | apply Sp.set1 | apply Sp.set2 | apply Sp.set3 | (refine Sp.put ?_ (by simp) _ _ _ _ _)) | exact S6.out)) _ _ _ _ _
      ·have e1 : (((rU (m + 1 + 1)).length : Int) == 1) = false := qF (by rw [rU_len]; omega)
       go_wp2
       refine bodyPost_ret (results_cell_row rfl _ _ rb 48 _ (0, 0) _ rfl (blk48_put (Sp.X (w0 := w0) (w := w) (g := g) (bs := [rb]) (s := s) (a := a) (b := b) (d := (wrap64 (d - 1))) z22 rb (by simp)).2) Try.underlying48 rfl z0) rfl ?_
       rw [cJ.out]
       exact Sp.fin (w := w) (bs := [rb]) (o := (a, b, wrap64 (d - 1))) z22 _ _ _ _ _
     | true =>
      obtain ⟨rfl, q, hq, hm, hr2⟩ := hgo hrc
      have HA := aM (ih G (by omega) _ _ _ _ hq)
      have HM := aM hm
      have cI := aM hr2
      have HJ := aM hj
      have hG2 : Aside0 (∀ W : World, Sp w0 w W g [rb] s q.1 q.2.1 q.2.2 → ∀ k, W.heap.size ≤ k → w.heap.size ≤ k ∧ k ≠ g ∧ k ≠ rb) := ⟨fun W h => Sp.fresh h⟩
      clear hA0 hstop hgo ih hrc hq hm hr2 hj
      go_wp2_with (first | (go_at_call 36; refine (HA.out w0 _ (Sp.I (w := w) (bs := [rb]) z22) (Sp.B (w := w) (g := g) (bs := [rb]) (s := s) (a := (wrap64 (a + 1))) (b := false) (d := d) z22)).mono ?_; rintro e w7 ⟨xe, ye, Ae, ne, ce, rfl, hi, hb, hk⟩; have S7 : Aside0 (Sp w0 w w7 g [rb] s q.1 q.2.1 q.2.2) := ⟨Sp.step (s := s) (a := (wrap64 (a + 1))) (b := false) (d := d) z22 hi hb hk⟩; have R7 : Aside0 (Kd.R kE 48 w7 w0.heap.size (fun k => w.heap.size ≤ k ∧ k ≠ g ∧ k ≠ rb) (.slice Av (rU (m + 1)).length cv) (rU (m + 1))) := ⟨Kd.R_keep (ok := (fun k => w.heap.size ≤ k ∧ k ≠ g ∧ k ≠ rb)) (by repeat (first | (with_reducible first | exact R5.out | apply ac | apply ab | apply aa) | (refine Kd.R_set ?_ S5.out.I.1 (by decide) _ _) | exact R5.out)) hk (fun _ h => h.2.1)⟩; clear hi hb hk) | ((with_reducible refine gate_builtin (b := .append) (xs := #[.tmp 39, .tmp 42]) rfl ?_); at_builtin; refine Kd.R_append kE (w0 := w0) w0.heap.size rfl (.tmp 39) (.tmp 42) 46 48 (.agg #[.int .u8 0, .int .u8 0, .slice none 0 0]) 32 rfl Try.underlying46 inf48h rfl (by decide) (by omega) (.slice Av (rU (m + 1)).length cv) (rU (m + 1)) () [.int .u8 xe, .int .u8 ye, .slice Ae ne ce] (fun k => w.heap.size ≤ k ∧ k ≠ g ∧ k ≠ rb) (fun _ => False) rfl (by first | (go_simp; done) | (go_simp; rfl)) ?aP (fun _ hk => hk.elim) ?aF ?aO ?aB ?aS ?aL ?_; (case aP => exact ⟨_, _, _, _, _, rfl⟩); (case aF => exact hG2.out _ z25); (case aO => exact (by repeat (first | (with_reducible first | exact R7.out | apply ac | apply ab | apply aa) | exact R7.out))); (case aB => exact Sp.B (w := w) (g := g) (bs := [rb]) (s := s) (a := q.1) (b := q.2.1) (d := q.2.2) z25); (case aS => exact (Sp.B (w := w) (g := g) (bs := [rb]) (s := s) (a := q.1) (b := q.2.1) (d := q.2.2) z25).size); (case aL => have := HM.out; rw [rU_len]; omega); intro v1 w8 ho hb hg hat; rw [rU_snoc] at ho; have S8 : Aside0 (Sp w0 w w8 g [rb] s q.1 q.2.1 q.2.2) := ⟨Sp.app (v := (.slice Av (rU (m + 1)).length cv)) (m := m + 1) z25 (by repeat (first | (with_reducible first | exact R7.out | apply ac | apply ab | apply aa) | exact R7.out)) hb hg⟩; have R8 := aM ho; clear ho hb hg hat))
      go_roundg G
      case measure => omega
      case rel => exact ⟨by have := HJ.out; omega, _, _, _, m + 1, cI.out, by repeat (first | (with_reducible first | exact S8.out | apply Sp.alloc | apply Sp.drewN | apply Sp.drew | apply Sp.set1 | apply Sp.set2 | apply Sp.set3 | (refine Sp.put ?_ (by simp) _ _ _ _ _)) | exact S8.out), by repeat (first | (with_reducible first | exact R8.out | apply ac | apply ab | apply aa) | exact R8.out)⟩
theorem all_spec : ∀ k : Nat, (∀ j, j ≤ k → ∀ g s a d q, sOne j s a false d = some q → SpC 44 g s a false d q) ∧ (∀ j, j ≤ k → ∀ g s a b d q, sEither j s a b d = some q → SpC 32 g s a b d q) := by
 intro k
 induction k with
 | zero =>
  refine ⟨fun j hj g s a d q h => ?_, fun j hj g s a b d q h => ?_⟩
  ·obtain rfl : j = 0 := by omega
   simp [sOne] at h
  ·obtain rfl : j = 0 := by omega
   simp [sEither] at h
 | succ k ih =>
  refine ⟨fun j hj g s a d q h => ?_, fun j hj g s a b d q h => ?_⟩
  ·cases j with
   | zero => simp [sOne] at h
   | succ i => exact one_any i g s a false d q (fun q hq => ih.2 i (by omega) g s _ _ _ q hq) h
  ·cases j with
   | zero => simp [sEither] at h
   | succ i => exact either_any i g s a b d q (fun j hj a b d q hq => srow_any j g s a b d q (fun l hl a d q h => ih.1 l (by omega) g s a d q h) hq) h
theorem either_calls (k : Nat) (g : Nat) (s : ByteArray) (a : Int) (b : Bool) (d : Int) (o : Int × Bool × Int) (h : sEither k s a b d = some o) : SpC 32 g s a b d o := (all_spec k).2 k (Nat.le_refl _) g s a b d o h
theorem mono_spec : ∀ k : Nat, (∀ s a b d, LeO (sOne k s a b d) (sOne (k + 1) s a b d)) ∧ (∀ s a b d m, LeO (sRow k s a b d m) (sRow (k + 1) s a b d m)) ∧ (∀ s a b d m, LeO (sRows k s a b d m) (sRows (k + 1) s a b d m)) ∧ (∀ s a b d, LeO (sEither k s a b d) (sEither (k + 1) s a b d)) ∧ (∀ s a b, LeO (sSuf k s a b) (sSuf (k + 1) s a b))
 | 0 => ⟨fun _ _ _ _ r h => by simp [sOne] at h, fun _ _ _ _ _ r h => by simp [sRow] at h, fun _ _ _ _ _ r h => by simp [sRows] at h, fun _ _ _ _ r h => by simp [sEither] at h, fun _ _ _ r h => by simp [sSuf] at h⟩
 | k + 1 => by
  obtain ⟨h1, h2, h3, h4, h5⟩ := mono_spec k
  refine ⟨fun s a b d => ?_, fun s a b d m => ?_, fun s a b d m => ?_, fun s a b d => ?_, fun s a b => ?_⟩
  ·unfold sOne
   exact LeO.ite (LeO.ite (LeO.bind (h5 _ _ _) (fun _ => LeO.refl _)) (LeO.ite (LeO.bind (h4 _ _ _ _) (fun _ => LeO.ite (LeO.bind (h5 _ _ _) (fun _ => LeO.refl _)) (LeO.refl _))) (LeO.refl _))) (LeO.refl _)
  ·unfold sRow
   exact LeO.ite (LeO.ite (LeO.ite (LeO.bind (h1 _ _ _ _) (fun _ => LeO.ite (h2 _ _ _ _ _) (LeO.refl _))) (LeO.refl _)) (LeO.refl _)) (LeO.refl _)
  ·unfold sRows
   exact LeO.ite (LeO.ite (LeO.ite (LeO.bind (h2 _ _ _ _ _) (fun _ => LeO.ite (h3 _ _ _ _ _) (LeO.refl _))) (LeO.refl _)) (LeO.refl _)) (LeO.refl _)
  ·unfold sEither
   exact LeO.bind (h2 _ _ _ _ _) (fun _ => LeO.bind (h3 _ _ _ _ _) (fun _ => LeO.refl _))
  ·unfold sSuf
   exact LeO.ite (LeO.refl _) (LeO.ite (LeO.ite (h5 _ _ _) (LeO.refl _)) (LeO.refl _))
def inB (n : Int) : Bool := decide (1 ≤ n) && decide (n ≤ 60)
theorem in_ev (n : Int) : spec_l1In.f n 1 60 = some (inB n) := by
 unfold spec_l1In.f inB
 by_cases h : n ≥ 1
 ·rw [if_pos h, dT h, Bool.true_and]
 ·rw [if_neg h, dF h, Bool.false_and]
def spec_GoodExpr.f (k : Nat) (a0 : ByteArray) : Option Bool := (sEither k a0 0 false 0).bind fun o => some (!o.2.1 && (decide (o.1 = (a0.size : Int)) && inB (a0.size : Int)))
theorem spec_GoodExpr.mono : ∀ a0 k, LeO (spec_GoodExpr.f k a0) (spec_GoodExpr.f (k + 1) a0) := by
 intro a0 k
 unfold spec_GoodExpr.f
 exact LeO.bind ((mono_spec k).2.2.2.1 _ _ _ _) (fun _ => LeO.refl _)
theorem box_event3 {P : Program} {ops : Array Oper} {rest : List Oper} {o : Oper} {a : Act} {Q : Exit → Act → World → Prop} {W : World} (hgd : o.guard = none) {N : Tmp} (_hd : o.dst = some N) {cs : Array Value} {t : TypeId}
  (hrun : (execOp a.eval o).run P W = .ok (.value (.pointer (some ⟨W.heap.size, 0, none⟩))) (W.alloc (.cells cs t (0, 0))))
  (h : ∀ g, g = W.heap.size → ∀ w1, w1.heap[g]? = some (.cells cs t (0, 0)) → Below W.heap.size W w1 → wpList P ops Q rest (a.put o.dst (.pointer (some ⟨g, 0, none⟩))) w1) : wpList P ops Q (o :: rest) a W := au hgd _hd hrun h
def L6P (w : World) (b : Bool) (e : Ending) (w' : World) : Prop := (∃ v : Value, e = .returned (.tuple #[v, .bool b]) ∧ isE v) ∧ Below w.heap.size w w'
set_option maxHeartbeats 4000000 in
set_option maxRecDepth 100000 in
theorem l6Read_any (k : Nat) (s : ByteArray) (r : Bool) (w : World) (h : spec_GoodExpr.f k s = some r) : Calls Try.prog 28 #[.string s] w (L6P w r) := by
 obtain ⟨q, hq, ho⟩ := oB h
 have HO := aM (sI ho).symm
 have HP := aM (fun g => either_calls k g s 0 false 0 q hq)
 clear h hq ho
 go_enter Try.func28, Try.ntmps28
 go_upto_region 2 with (first | ((with_reducible refine ar (N := 2) rfl ?_); refine au ?hg (N := 2) ?hd (cs := #[.int .u8 0, .int .u8 0, .slice none 0 0]) (t := 48) ?hr ?_; (case hd => rfl); (case hg => rfl); (case hr => first | (go_simp; done) | (go_simp; rfl)); intro rb hgb w1 hbox hb; have B1 := aM hb; have X1 := aM hbox; have G1 := aM hgb; clear hbox hb hgb) | ((with_reducible refine ar (N := 8) rfl ?_); refine au ?hg (N := 8) ?hd (cs := #[.string s, .int .i64 0, .bool false, .int .i64 0]) (t := 57) ?hr ?_; (case hd => rfl); (case hg => rfl); (case hr => first | (go_simp; done) | (go_simp; rfl)); intro gb hgb w2 hbox hb; have B2 := aM hb; have X2 := aM hbox; have G2 := aM hgb; clear hbox hb hgb))
 have hrb : w.heap.size ≤ rb := by rw [G1.out]; exact Nat.le_refl _
 have HRB := aM hrb
 clear hrb
 go_cut [5] (fun v5 wc => ∃ (xb : Nat) (x y : Int) (A : Option Addr) (n c : Nat), v5 = .pointer (some ⟨xb, 0, none⟩) ∧ wc.heap[xb]? = some (.cells #[.int .u8 x, .int .u8 y, .slice A n c] 48 (0, 0)) ∧ wc.heap[gb]? = some (.cells #[.string s, .int .i64 q.1, .bool q.2.1, .int .i64 q.2.2] 57 (0, 0)) ∧ wc.heap[rb]? = some (.cells #[.int .u8 0, .int .u8 0, .slice none 0 0] 48 (0, 0)) ∧ Below w.heap.size w wc)
 case first =>
  go_wp2_with (first | (go_at_call 32; refine (HP.out gb w1 _ ⟨X2.out, by rw [G2.out]; exact Nat.le_refl _⟩ B2.out).mono ?_; rintro e w3 ⟨xe, ye, Ae, ne, ce, rfl, hi, hb, hk⟩; have I3 := aM hi; have B3 := aM hb; have X3 := aM (ae X1.out hb); clear hi hb hk) | ((with_reducible refine ar (N := 5) rfl ?_); refine box_event3 ?hg (N := 5) ?hd (cs := #[.int .u8 0, .int .u8 0, .slice none 0 0]) (t := 48) ?hr ?_; (case hd => rfl); (case hg => rfl); (case hr => first | (go_simp; done) | (go_simp; rfl)); intro xb hxb w4 hbox hb; have B4 := aM hb; have X4 := aM hbox; have G4 := aM hxb; have hz0 := (bC hbox 0).trans rfl; have hz1 := (bC hbox 1).trans rfl; have hz2 := (bC hbox 2).trans rfl; have k0 := bF hbox 0; have k1 := bF hbox 1; have k2 := bF hbox 2; clear hbox hb hxb))
  go_meet
  have l1 := blk_lt I3.out.1
  have l2 := blk_lt X3.out
  have n1 : gb ≠ xb := by have := G4.out; omega
  have n2 : rb ≠ xb := by have := G4.out; omega
  have hw : w.heap.size ≤ xb := by have := G4.out; have := HRB.out; omega
  exact ⟨xb, xe, ye, Ae, ne, ce, rfl, blk48_put ⟨_, _, _, _, _, X4.out⟩, blk_far (blk_far (blk_far (ae I3.out.1 B4.out) n1 _) n1 _) n1 _, blk_far (blk_far (blk_far (ae X3.out B4.out) n2 _) n2 _) n2 _, ak (ak (ak (al (al B1.out B3.out) B4.out) hw) hw) hw⟩
 case rest =>
  obtain ⟨xb, x, y, A, n, c, rfl, hx, hg, hr, hb⟩ := hcut
  have hz0 : wc.cell? ⟨xb, 0, none⟩ = some (.int .u8 x) := (bC hx 0).trans rfl
  have hz1 : wc.cell? ⟨xb, 1, none⟩ = some (.int .u8 y) := (bC hx 1).trans rfl
  have hz2 : wc.cell? ⟨xb, 2, none⟩ = some (.slice A n c) := (bC hx 2).trans rfl
  have hy1 : wc.cell? ⟨gb, 1, none⟩ = some (.int .i64 q.1) := (bC hg 1).trans rfl
  have hy2 : wc.cell? ⟨gb, 2, none⟩ = some (.bool q.2.1) := (bC hg 2).trans rfl
  have r0 : wc.cell? ⟨rb, 0, none⟩ = some (.int .u8 0) := (bC hr 0).trans rfl
  have r1 : wc.cell? ⟨rb, 1, none⟩ = some (.int .u8 0) := (bC hr 1).trans rfl
  have r2 : wc.cell? ⟨rb, 2, none⟩ = some (.slice none 0 0) := (bC hr 2).trans rfl
  have f0 := bF hr 0
  have f1 := bF hr 1
  have f2 := bF hr 2
  have HX := aM hr
  have HB := aM hb
  clear hx hg hr hb B1 X1 G1 B2 X2 G2 HP
  cases hb2 : q.2.1 with
  | true =>
   rw [hb2] at hy2
   have HR : Aside0 (r = false) := ⟨by rw [HO.out, hb2]; rfl⟩
   clear hb2
   go_wp2
   go_region
   go_wp2
   refine bodyPost_ret (results_ct rfl _ _ rb 48 _ (0, 0) _ rfl (blk48_put (by exact ⟨0, 0, none, 0, 0, HX.out⟩)) Try.underlying48 rfl z0) rfl ?_
   rw [HR.out]
   exact ⟨⟨_, rfl, _, _, _, _, _, rfl⟩, by repeat (first | exact HB.out | apply pD | apply below_drew | (refine ak ?_ HRB.out))⟩
  | false =>
   rw [hb2] at hy2
   by_cases ha : q.1 = (s.size : Int)
   ·have HR : Aside0 (r = inB (s.size : Int)) := ⟨by rw [HO.out, hb2, dT ha]; simp⟩
    have e1 : (q.1 == (s.size : Int)) = true := qT ha
    have e2 : ((s.size : Int) == (s.size : Int)) = true := qT rfl
    clear hb2
    go_wp2
    go_region_with (first | (go_at_call 33; (with_reducible refine (spec_l1In.calls (s.size : Int) 1 60 _ _ (in_ev _)).mono ?_); rintro e w' ⟨rfl, ⟨nd, rfl⟩⟩))
    all_goals (go_wp2; refine bodyPost_ret (results_ct rfl _ _ rb 48 _ (0, 0) _ rfl (blk48_put (by exact ⟨0, 0, none, 0, 0, HX.out⟩)) Try.underlying48 rfl z0) rfl ?_; rw [HR.out]; exact ⟨⟨_, rfl, _, _, _, _, _, rfl⟩, by repeat (first | exact HB.out | apply pD | apply below_drew | (refine ak ?_ HRB.out))⟩)
   ·have HR : Aside0 (r = false) := ⟨by rw [HO.out, hb2, dF ha]; simp⟩
    have e1 : (q.1 == (s.size : Int)) = false := qF ha
    clear hb2 ha
    go_wp2
    go_region
    go_wp2
    refine bodyPost_ret (results_ct rfl _ _ rb 48 _ (0, 0) _ rfl (blk48_put (by exact ⟨0, 0, none, 0, 0, HX.out⟩)) Try.underlying48 rfl z0) rfl ?_
    rw [HR.out]
    exact ⟨⟨_, rfl, _, _, _, _, _, rfl⟩, by repeat (first | exact HB.out | apply pD | apply below_drew | (refine ak ?_ HRB.out))⟩
theorem spec_GoodExpr.calls (k : Nat) (a0 : ByteArray) (r : Bool) (w : World) (h : spec_GoodExpr.f k a0 = some r) :
  Calls Try.prog 19 #[.string a0] w fun e w' => e = .returned (.bool r) ∧ Below w.heap.size w w' := by
 have HH := aM h
 clear h
 go_enter Try.func19, Try.ntmps19
 go_wp2_with (first | (go_at_call 28; refine (l6Read_any k a0 r _ HH.out).mono ?_; rintro e w3 ⟨⟨v, rfl, x, y, A, n, c, rfl⟩, hb⟩; have HB := aM hb; clear hb) | ((with_reducible refine ar (N := 3) rfl ?_); refine box_event3 ?hg (N := 3) ?hd (cs := #[.int .u8 0, .int .u8 0, .slice none 0 0]) (t := 48) ?hr ?_; (case hd => rfl); (case hg => rfl); (case hr => first | (go_simp; done) | (go_simp; rfl)); intro xb hxb w4 hbox hb; have B4 := aM hb; have G4 := aM hxb; have hz0 := (bC hbox 0).trans rfl; have hz1 := (bC hbox 1).trans rfl; have hz2 := (bC hbox 2).trans rfl; have k0 := bF hbox 0; have k1 := bF hbox 1; have k2 := bF hbox 2; clear hbox hb hxb))
 go_ret
 have hw : w.heap.size ≤ xb := by have := G4.out; have := HB.out.size; omega
 exact ⟨rfl, by repeat (first | exact al HB.out B4.out | apply pD | apply below_drew | (refine ak ?_ hw))⟩

end Go.Proofs.Ytihjaagamihhkaa.AFnExactReadSchema
