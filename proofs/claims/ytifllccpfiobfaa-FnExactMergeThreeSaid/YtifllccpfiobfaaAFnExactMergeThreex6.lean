-- this session's own text: written by wip/tools/ownprint.py over the kit's print
import Derived.Test.YtifllccpfiobfaaAFnExactMergeThreex0
import Derived.Test.YtifllccpfiobfaaAFnExactMergeThreex3
import Derived.Test.YtifllccpfiobfaaAFnExactMergeThreex5
namespace Go.Proofs.Ytifllccpfiobfaa.AFnExactMergeThree
open Go.RowKit Go.Proofs.YtifllccpfiobfaaW.PrintWords Go.Proofs.YtifllccpfiobfaaW.PrintLast Go.Proofs.YtifllccpfiobfaaW.PrintMore
attribute [local go_sem] max2_int min2_int max_two min_two max_three min_three max_four min_four   -- for this text's walks alone
set_option linter.unusedVariables false
set_option linter.unusedSimpArgs false

/-! ### sep_Base.txt, by hand -/
/-! ### things that lie apart from one another -/
def Own (w0 w : World) (I : World → Prop) (S : Nat → Prop) : Prop := (∀ k, S k → k < w.heap.size) ∧ ∀ w', Below w0.heap.size w0 w' → (∀ k, S k → w'.heap[k]? = w.heap[k]?) → I w'
def Seps (w0 w : World) (L : List ((World → Prop) × (Nat → Prop))) : Prop := Below w0.heap.size w0 w ∧ (∀ p ∈ L, Own w0 w p.1 p.2) ∧ L.Pairwise (fun p q => ∀ k, p.2 k → ¬ q.2 k)
theorem Own.now {w0 w : World} {I : World → Prop} {S : Nat → Prop} (h : Own w0 w I S) (hb : Below w0.heap.size w0 w) : I w := h.2 w hb (fun _ _ => rfl)
theorem Own.kept {w0 w w' : World} {I : World → Prop} {S T : Nat → Prop} (h : Own w0 w I S) (hk : Kept w w' T) (hd : ∀ k, S k → ¬ T k) : Own w0 w' I S :=
 ⟨fun k hs => Nat.lt_of_lt_of_le (h.1 k hs) hk.1, fun w'' hb hm => h.2 w'' hb (fun k hs => (hm k hs).trans (hk.2 k (h.1 k hs) (hd k hs)))⟩
theorem Seps.nil {w0 w : World} (hb : Below w0.heap.size w0 w) : Seps w0 w [] := ⟨hb, fun _ h => absurd h (by simp), List.Pairwise.nil⟩
theorem Seps.below0 {w0 w : World} {L : List ((World → Prop) × (Nat → Prop))} (h : Seps w0 w L) : Below w0.heap.size w0 w := h.1
theorem Seps.now {w0 w : World} {I : World → Prop} {S : Nat → Prop} {L : List ((World → Prop) × (Nat → Prop))} (h : Seps w0 w ((I, S) :: L)) : I w := (h.2.1 _ List.mem_cons_self).now h.1
theorem Seps.own {w0 w : World} {I : World → Prop} {S : Nat → Prop} {L : List ((World → Prop) × (Nat → Prop))} (h : Seps w0 w ((I, S) :: L)) : Own w0 w I S := h.2.1 _ List.mem_cons_self
theorem Seps.tail {w0 w : World} {p : (World → Prop) × (Nat → Prop)} {L : List ((World → Prop) × (Nat → Prop))} (h : Seps w0 w (p :: L)) : Seps w0 w L := ⟨h.1, fun q hq => h.2.1 q (List.mem_cons_of_mem _ hq), (List.pairwise_cons.mp h.2.2).2⟩
theorem Seps.step {w0 w w' : World} {I I' : World → Prop} {S S' : Nat → Prop} {L : List ((World → Prop) × (Nat → Prop))} (h : Seps w0 w ((I, S) :: L)) (ho : Own w0 w' I' S') (hk : Kept w w' S) (hs : ∀ k, S' k → S k ∨ w.heap.size ≤ k) (hb : Below w0.heap.size w0 w') : Seps w0 w' ((I', S') :: L) := by
 obtain ⟨h1, h2, h3⟩ := h
 obtain ⟨h4, h5⟩ := List.pairwise_cons.mp h3
 have hlt : ∀ q ∈ L, ∀ k, q.2 k → k < w.heap.size := fun q hq => (h2 q (List.mem_cons_of_mem _ hq)).1
 refine ⟨hb, fun q hq => ?_, List.pairwise_cons.mpr ⟨fun q hq k hk' hq' => ?_, h5⟩⟩
 ·rcases List.mem_cons.mp hq with rfl | hq
  ·exact ho
  ·exact (h2 q (List.mem_cons_of_mem _ hq)).kept hk (fun k hk1 hk2 => h4 q hq k hk2 hk1)
 ·rcases hs k hk' with h6 | h6
  ·exact h4 q hq k h6 hq'
  ·have := hlt q hq k hq'; omega
theorem Seps.below {w0 w w' : World} {L : List ((World → Prop) × (Nat → Prop))} (h : Seps w0 w L) (hb : Below w.heap.size w w') : Seps w0 w' L :=
 ⟨below_then h.1 h.1.size hb, fun q hq => (h.2.1 q hq).kept (Kept.of_below hb (fun _ => False)) (fun _ _ hk => hk), h.2.2⟩
theorem Seps.add {w0 w w' : World} {I : World → Prop} {S : Nat → Prop} {L : List ((World → Prop) × (Nat → Prop))} (h : Seps w0 w L) (ho : Own w0 w' I S) (hb : Below w.heap.size w w') (hS : ∀ k, S k → w.heap.size ≤ k) : Seps w0 w' ((I, S) :: L) := by
 obtain ⟨h1, h2, h3⟩ := h.below hb
 refine ⟨h1, fun q hq => ?_, List.pairwise_cons.mpr ⟨fun q hq k hk' hq' => ?_, h3⟩⟩
 ·rcases List.mem_cons.mp hq with rfl | hq
  ·exact ho
  ·exact h2 q hq
 ·have := (h.2.1 q hq).1 k hq'
  have := hS k hk'
  omega
theorem Seps.alloc {w0 w : World} {L : List ((World → Prop) × (Nat → Prop))} (h : Seps w0 w L) (o : Obj) : Seps w0 (w.alloc o) L := h.below (bA (Below.refl _ _) o)
theorem Seps.drew {w0 w : World} {L : List ((World → Prop) × (Nat → Prop))} (h : Seps w0 w L) : Seps w0 w.drew L := h.below (below_drew (Below.refl _ _))
theorem Seps.drewN {w0 w : World} {L : List ((World → Prop) × (Nat → Prop))} (h : Seps w0 w L) (n : Nat) : Seps w0 (w.drewN n) L := h.below (pD (Below.refl _ _) n)
theorem Seps.perm {w0 w : World} {L L' : List ((World → Prop) × (Nat → Prop))} (h : Seps w0 w L) (hp : L.Perm L') : Seps w0 w L' :=
 ⟨h.1, fun q hq => h.2.1 q (hp.mem_iff.mpr hq), (List.Perm.pairwise_iff (fun hxy k hk hk' => hxy k hk' hk) hp).mp h.2.2⟩
section
variable {w0 w : World} {a b c d e f : (World → Prop) × (Nat → Prop)} {L : List ((World → Prop) × (Nat → Prop))}
theorem Seps.f2 (h : Seps w0 w (a :: b :: L)) : Seps w0 w (b :: a :: L) := h.perm (List.Perm.swap _ _ _)
theorem Seps.f3 (h : Seps w0 w (a :: b :: c :: L)) : Seps w0 w (c :: a :: b :: L) := h.perm ((List.Perm.cons _ (List.Perm.swap _ _ _)).trans (List.Perm.swap _ _ _))
theorem Seps.b3 (h : Seps w0 w (c :: a :: b :: L)) : Seps w0 w (a :: b :: c :: L) := h.perm ((List.Perm.cons _ (List.Perm.swap _ _ _)).trans (List.Perm.swap _ _ _)).symm
theorem Seps.f4 (h : Seps w0 w (a :: b :: c :: d :: L)) : Seps w0 w (d :: a :: b :: c :: L) := h.perm ((List.Perm.cons _ ((List.Perm.cons _ (List.Perm.swap _ _ _)).trans (List.Perm.swap _ _ _))).trans (List.Perm.swap _ _ _))
theorem Seps.f5 (h : Seps w0 w (a :: b :: c :: d :: e :: L)) : Seps w0 w (e :: a :: b :: c :: d :: L) := h.perm ((List.Perm.cons _ ((List.Perm.cons _ ((List.Perm.cons _ (List.Perm.swap _ _ _)).trans (List.Perm.swap _ _ _))).trans (List.Perm.swap _ _ _))).trans (List.Perm.swap _ _ _))
theorem Seps.f6 (h : Seps w0 w (a :: b :: c :: d :: e :: f :: L)) : Seps w0 w (f :: a :: b :: c :: d :: e :: L) := h.perm ((List.Perm.cons _ ((List.Perm.cons _ ((List.Perm.cons _ ((List.Perm.cons _ (List.Perm.swap _ _ _)).trans (List.Perm.swap _ _ _))).trans (List.Perm.swap _ _ _))).trans (List.Perm.swap _ _ _))).trans (List.Perm.swap _ _ _))
theorem Seps.b5 (h : Seps w0 w (e :: a :: b :: c :: d :: L)) : Seps w0 w (a :: b :: c :: d :: e :: L) := h.perm ((List.Perm.cons _ ((List.Perm.cons _ ((List.Perm.cons _ (List.Perm.swap _ _ _)).trans (List.Perm.swap _ _ _))).trans (List.Perm.swap _ _ _))).trans (List.Perm.swap _ _ _)).symm
theorem Seps.b4 (h : Seps w0 w (d :: a :: b :: c :: L)) : Seps w0 w (a :: b :: c :: d :: L) := h.perm ((List.Perm.cons _ ((List.Perm.cons _ (List.Perm.swap _ _ _)).trans (List.Perm.swap _ _ _))).trans (List.Perm.swap _ _ _)).symm
end
/-- A box. -/
def IB (g : Nat) (o : Obj) : (World → Prop) × (Nat → Prop) := (fun w => w.heap[g]? = some o, fun k => k = g)
theorem IB.own {w0 w : World} {g : Nat} {o : Obj} (h : w.heap[g]? = some o) : Own w0 w (IB g o).1 (IB g o).2 := ⟨fun k hk => by rw [hk]; exact blk_lt h, fun w' _ hm => (hm g rfl).trans h⟩
theorem Seps.addBox {w0 w : World} {L : List ((World → Prop) × (Nat → Prop))} (h : Seps w0 w L) (o : Obj) : Seps w0 (w.alloc o) (IB w.heap.size o :: L) :=
 h.add (IB.own (by simpa using heap_alloc_new w o)) (bA (Below.refl _ _) o) (fun k hk => by rw [hk]; exact Nat.le_refl _)
theorem Seps.addBoxAt {w0 w : World} {L : List ((World → Prop) × (Nat → Prop))} (h : Seps w0 w L) (o : Obj) (g : Nat) (hg : w.heap.size = g) : Seps w0 (w.alloc o) (IB g o :: L) := hg ▸ h.addBox o
theorem Seps.box {w0 w : World} {g : Nat} {o : Obj} {L : List ((World → Prop) × (Nat → Prop))} (h : Seps w0 w (IB g o :: L)) : w.heap[g]? = some o := h.now
theorem Seps.ne {w0 w : World} {g g' : Nat} {o o' : Obj} {L : List ((World → Prop) × (Nat → Prop))} (h : Seps w0 w (IB g o :: IB g' o' :: L)) : g ≠ g' := fun e => (List.pairwise_cons.mp h.2.2).1 _ List.mem_cons_self g rfl e
theorem Seps.lt {w0 w : World} {g : Nat} {o : Obj} {L : List ((World → Prop) × (Nat → Prop))} (h : Seps w0 w (IB g o :: L)) : g < w.heap.size := blk_lt h.now
theorem Seps.c3 {w0 w : World} {g t : Nat} {x y z : Value} {L : List ((World → Prop) × (Nat → Prop))} (h : Seps w0 w (IB g (.cells #[x, y, z] t (0, 0)) :: L)) : w.cell? ⟨g, 0, none⟩ = some x ∧ w.cell? ⟨g, 1, none⟩ = some y ∧ w.cell? ⟨g, 2, none⟩ = some z ∧ w.frozen? ⟨g, 0, none⟩ = false ∧ w.frozen? ⟨g, 1, none⟩ = false ∧ w.frozen? ⟨g, 2, none⟩ = false :=
 ⟨bC h.now 0, bC h.now 1, bC h.now 2, bF h.now 0, bF h.now 1, bF h.now 2⟩
/-- A box is written. -/
theorem Seps.put {w0 w : World} {g t : Nat} {cs cs' : Array Value} {L : List ((World → Prop) × (Nat → Prop))} (h : Seps w0 w (IB g (.cells cs t (0, 0)) :: L)) (hg : w0.heap.size ≤ g) (i : Nat) (u : Value) (e : cs.setIfInBounds i u = cs') : Seps w0 (w.setCell ⟨g, i, none⟩ u) (IB g (.cells cs' t (0, 0)) :: L) :=
 h.step (IB.own (blk_put h.box i u e)) (Kept.setCell (S := fun k => k = g) (Kept.refl _ _) (.inl rfl) u) (fun k hk => .inl hk) (ao h.1 hg)
/-- A row of the call's own. -/
def IR (w0 : World) (v : Value) (xs : List S44) : (World → Prop) × (Nat → Prop) := (fun w => Kd.R k44 44 w w0.heap.size (fun k => some k = v.ownBlock) v xs, fun k => some k = v.ownBlock)
theorem IR.own {w0 w : World} {v : Value} {xs : List S44} {ok : Nat → Prop} (h : Kd.R k44 44 w w0.heap.size ok v xs) : Own w0 w (IR w0 v xs).1 (IR w0 v xs).2 :=
 ⟨fun k hk => aj h k hk.symm, fun w' _ hm => Kd.R_step (Kd.R_tight rfl h) (fun k hk _ => hm k hk)⟩
/-- A reader: its box (of type t), and what is left of its row, which lies in P. -/
def ID (t g : Nat) (v : Value) (xs : List S44) (P : Nat → Prop) : (World → Prop) × (Nat → Prop) := (fun w => w.heap[g]? = some (.cells #[v] t (0, 0)) ∧ Kd.V k44 44 w 0 P v xs ∧ ∀ k, P k → k ≠ g, fun k => k = g ∨ P k)
theorem ID.own {w0 w : World} {t g : Nat} {v : Value} {xs : List S44} {P : Nat → Prop} (h1 : w.heap[g]? = some (.cells #[v] t (0, 0))) (h2 : Kd.V k44 44 w 0 P v xs) (hP : ∀ k, P k → k < w.heap.size) (hn : ∀ k, P k → k ≠ g) : Own w0 w (ID t g v xs P).1 (ID t g v xs P).2 :=
 ⟨fun k hk => hk.elim (fun e => by rw [e]; exact blk_lt h1) (hP k), fun w' _ hm => ⟨(hm g (.inl rfl)).trans h1, Kd.V_step h2 (fun k hk _ => hm k (.inr hk)), hn⟩⟩
theorem Seps.neD {w0 w : World} {t g g' : Nat} {o : Obj} {v : Value} {xs : List S44} {P : Nat → Prop} {L : List ((World → Prop) × (Nat → Prop))} (h : Seps w0 w (IB g o :: ID t g' v xs P :: L)) : g ≠ g' := fun e => (List.pairwise_cons.mp h.2.2).1 _ List.mem_cons_self g rfl (.inl e)
/-- A row of the call's own is made a reader's. -/
theorem Seps.reader {w0 w : World} {v : Value} {xs : List S44} {L : List ((World → Prop) × (Nat → Prop))} (h : Seps w0 w (IR w0 v xs :: L)) (t : Nat) : Seps w0 (w.alloc (.cells #[v] t)) (ID t w.heap.size v xs (fun k => some k = v.ownBlock) :: L) := by
 have h1 := h.own
 have h2 := h.now
 have hle := (bA (Below.refl w.heap.size w) (.cells #[v] t)).size
 refine h.step (ID.own (by simpa using heap_alloc_new w _) (Kd.R_V (ac h2 _)) (fun k hk => Nat.lt_of_lt_of_le (h1.1 k hk) hle) (fun k hk => ar (h1.1 k hk))) ((Kept.refl _ _).alloc _) (fun k hk => ?_) (h.alloc _).1
 rcases hk with rfl | hk
 ·exact .inr (Nat.le_refl _)
 ·exact .inl hk
/-- The reader's row is another, of old or new blocks. -/
theorem Seps.setD {w0 w : World} {t g : Nat} {v v' : Value} {xs xs' : List S44} {P : Nat → Prop} {L : List ((World → Prop) × (Nat → Prop))} (h : Seps w0 w (ID t g v xs P :: L)) (hg : w0.heap.size ≤ g) (hv : Kd.V k44 44 w 0 P v' xs') : Seps w0 (w.setCell ⟨g, 0, none⟩ v') (ID t g v' xs' P :: L) := by
 have h1 := h.now.1
 have h2 := h.now.2.2
 have hS := h.own.1
 refine h.step (ID.own (blk_put h1 0 v' rfl) (Kd.V_far hv (p := ⟨g, 0, none⟩) (fun k hk => h2 k hk) v') (fun k hk => ?_) h2) (Kept.setCell (S := fun k => k = g ∨ P k) (Kept.refl _ _) (.inl (.inl rfl)) _) (fun k hk => .inl hk) (ao h.1 hg)
 have := hS k (.inr hk)
 simpa [World.setCell] using this
theorem Seps.merge {w0 w : World} {a b : (World → Prop) × (Nat → Prop)} {L : List ((World → Prop) × (Nat → Prop))} (h : Seps w0 w (a :: b :: L)) : Seps w0 w ((fun w => a.1 w ∧ b.1 w, fun k => a.2 k ∨ b.2 k) :: L) := by
 obtain ⟨h1, h2, h3⟩ := h
 obtain ⟨h4, h5⟩ := List.pairwise_cons.mp h3
 obtain ⟨h6, h7⟩ := List.pairwise_cons.mp h5
 have ha := h2 a List.mem_cons_self
 have hb := h2 b (List.mem_cons_of_mem _ List.mem_cons_self)
 refine ⟨h1, fun q hq => ?_, List.pairwise_cons.mpr ⟨fun q hq k hk => hk.elim (h4 q (List.mem_cons_of_mem _ hq) k) (h6 q hq k), h7⟩⟩
 rcases List.mem_cons.mp hq with rfl | hq
 ·exact ⟨fun k hk => hk.elim (ha.1 k) (hb.1 k), fun w' hb' hm => ⟨ha.2 w' hb' (fun k hk => hm k (.inl hk)), hb.2 w' hb' (fun k hk => hm k (.inr hk))⟩⟩
 ·exact h2 q (List.mem_cons_of_mem _ (List.mem_cons_of_mem _ hq))
/-- A row of the call's own becomes the reader's. -/
theorem Seps.give {w0 w : World} {t g : Nat} {v v' : Value} {xs xs' : List S44} {P : Nat → Prop} {L : List ((World → Prop) × (Nat → Prop))} (h : Seps w0 w (IR w0 v' xs' :: ID t g v xs P :: L)) (hg : w0.heap.size ≤ g) : Seps w0 (w.setCell ⟨g, 0, none⟩ v') (ID t g v' xs' (fun k => some k = v'.ownBlock) :: L) := by
 have h0 := h.now
 have h1 := h.f2.now.1
 have hS := h.own.1
 have hne : ∀ k, some k = v'.ownBlock → k ≠ g := fun k hk e => (List.pairwise_cons.mp h.2.2).1 _ List.mem_cons_self k hk (.inl e)
 refine h.merge.step (ID.own (blk_put h1 0 v' rfl) (Kd.V_far (Kd.R_V h0) (p := ⟨g, 0, none⟩) hne v') (fun k hk => ?_) hne) (Kept.setCell (S := fun k => some k = v'.ownBlock ∨ k = g ∨ P k) (Kept.refl _ _) (.inl (.inr (.inl rfl))) _) (fun k hk => .inl (hk.elim (fun e => .inr (.inl e)) .inl)) (ao h.1 hg)
 have := hS k hk
 simpa [World.setCell] using this
theorem Seps.cut1 {w0 w : World} {t g c : Nat} {A : Option Addr} {xs : List S44} {P : Nat → Prop} {L : List ((World → Prop) × (Nat → Prop))} (h : Seps w0 w (ID t g (.slice A xs.length c) xs P :: L)) (hg : w0.heap.size ≤ g) (hx : 1 ≤ xs.length) (hc : xs.length ≤ c) :
  Seps w0 (w.setCell ⟨g, 0, none⟩ (.slice (if c = 1 then A else A.map (·.add 3)) (xs.length - 1) (c - 1))) (ID t g (.slice (if c = 1 then A else A.map (·.add 3)) (xs.length - 1) (c - 1)) (xs.drop 1) P :: L) := by
 have hl : (xs.drop 1).length = xs.length - 1 := List.length_drop
 have hF := Kd.F_cut (Kd.V_at h.now.2.1).2.2 hx hc
 refine h.setD hg ?_
 rw [← hl]
 exact Kd.V_mk (by rw [hl]; omega) hF
/-- A row that has been made since. -/
theorem Seps.addRow {w0 w w1 : World} {v : Value} {xs : List S44} {ok : Nat → Prop} {L : List ((World → Prop) × (Nat → Prop))} (h : Seps w0 w L) (hr : Kd.R k44 44 w1 w0.heap.size ok v xs) (hb : Below w0.heap.size w0 w1) (hg : w.grownBy w1 none) (hn : ∀ k, some k = v.ownBlock → w.heap.size ≤ k) : Seps w0 w1 (IR w0 v xs :: L) := by
 have hk : Kept w w1 (fun _ => False) := Kept.of_grown hg (Kept.refl _ _) (fun k hk => by cases hk)
 refine ⟨hb, fun q hq => ?_, List.pairwise_cons.mpr ⟨fun q hq k hk' hq' => ?_, h.2.2⟩⟩
 ·rcases List.mem_cons.mp hq with rfl | hq
  ·exact IR.own hr
  ·exact (h.2.1 q hq).kept hk (fun _ _ hf => hf)
 ·have := (h.2.1 q hq).1 k hq'
  have := hn k hk'
  omega
theorem Seps.stepRow {w0 w w1 : World} {v v1 : Value} {xs xs1 : List S44} {ok : Nat → Prop} {L : List ((World → Prop) × (Nat → Prop))} (h : Seps w0 w (IR w0 v xs :: L)) (hr : Kd.R k44 44 w1 w0.heap.size ok v1 xs1) (hb : Below w0.heap.size w0 w1) (hg : w.grownBy w1 v.ownBlock) (hat : v1.ownBlock = v.ownBlock ∨ ∃ b, v1.ownBlock = some b ∧ w.heap.size ≤ b) : Seps w0 w1 (IR w0 v1 xs1 :: L) := by
 refine h.step (IR.own hr) (Kept.of_grown hg (Kept.refl _ _) (fun k hk => .inl hk.symm)) (fun k hk => ?_) hb
 have hk1 : some k = v1.ownBlock := hk
 rcases hat with e | ⟨b, e, hle⟩
 ·exact .inl (hk1.trans e)
 ·rw [e] at hk1
  injection hk1 with hk1
  exact .inr (by omega)
/-- What is behind the first of a reader's row. -/
theorem Seps.rest1 {w0 w : World} {t g c : Nat} {A : Option Addr} {p : S44} {l : List S44} {P : Nat → Prop} {L : List ((World → Prop) × (Nat → Prop))} (h : Seps w0 w (ID t g (.slice A (p :: l).length c) (p :: l) P :: L)) (hc : (p :: l).length ≤ c) : Kd.C k44 w (if c = 1 then A else A.map (·.add 3)) l.length l :=
 Kd.F_now (Kd.F_cut (m := 1) (Kd.V_at h.now.2.1).2.2 (by simp) hc)
/-- A row of one, made as a literal. -/
theorem Seps.litRow {w0 w : World} {L : List ((World → Prop) × (Nat → Prop))} (h : Seps w0 w L) (a : Int) (b d : ByteArray) : Seps w0 (w.alloc (.cells #[.int .i64 a, .string b, .string d] 44)) (IR w0 (.slice (some ⟨w.heap.size, 0, none⟩) 1 1) [⟨a, b, d⟩] :: L) := by
 have hbase := h.1.size
 have h2 := World.ownsRow_lit (base := w0.heap.size) (e := 44) (size := 3) w #[.int .i64 a, .string b, .string d] 1 hbase (by decide) rfl
 have hR : Kd.R k44 44 (w.alloc (.cells #[.int .i64 a, .string b, .string d] 44)) w0.heap.size (fun _ => True) (.slice (some ⟨w.heap.size, 0, none⟩) 1 1) [⟨a, b, d⟩] :=
  ⟨fun _ _ => trivial, [.int .i64 a, .string b, .string d], by have h3 := h2; simp at h3; exact h3, Reps.snoc (ps := []) (cs := []) (Reps.none _ _) (k44_mkM _ _ _ ⟨a, b, d⟩) rfl⟩
 exact h.addRow hR (h.alloc _).1 (World.grownBy_alloc w _ none) (fun k hk => by have h3 : k = w.heap.size := (by simpa [Value.ownBlock] using hk); omega)
theorem k44_KM (w W : World) (base : Nat) (okp : Nat → Prop) : ∀ (x : S44) (cs : List Value), k44.K w x cs → k44.M W base okp x cs := fun x cs hk => by
 obtain rfl := k44_open hk
 exact k44_mkM _ _ _ _
theorem rd0_cons (p : S44) (l : List S44) : rd_T44 (p :: l) 0 = p := rfl
theorem rd0_nil : rd_T44 ([] : List S44) 0 = z44 := rfl
/-- The world behind three stores into a box. -/
theorem Seps.put3 {w0 w : World} {g t : Nat} {a b c x y z : Value} {L : List ((World → Prop) × (Nat → Prop))} (h : Seps w0 w (IB g (.cells #[a, b, c] t (0, 0)) :: L)) (hg : w0.heap.size ≤ g) : Seps w0 (((w.setCell ⟨g, 0, none⟩ x).setCell ⟨g, 1, none⟩ y).setCell ⟨g, 2, none⟩ z) (IB g (.cells #[x, y, z] t (0, 0)) :: L) :=
 ((h.put hg 0 x rfl).put hg 1 y rfl).put hg 2 z rfl
theorem ba_size0 {s : ByteArray} (h : s.size = 0) : s = ⟨#[]⟩ := by
 cases s with
 | mk d => exact congrArg ByteArray.mk (Array.eq_empty_of_size_eq_zero h)
theorem Seps.rows2 {w0 w : World} {u v : Value} {xs ys : List S44} {L : List ((World → Prop) × (Nat → Prop))} (h : Seps w0 w (IR w0 u xs :: IR w0 v ys :: L)) : Kd.R k44 44 w w0.heap.size (fun k => some k ≠ u.ownBlock) v ys ∧ Kd.R k44 44 w w0.heap.size (fun k => some k ≠ v.ownBlock) u xs :=
 ⟨af h.f2.now (fun k hk e => (List.pairwise_cons.mp h.2.2).1 _ List.mem_cons_self k e hk), af h.now (fun k hk e => (List.pairwise_cons.mp h.2.2).1 _ List.mem_cons_self k hk e)⟩
theorem nilTL : (⟨#[]⟩ : ByteArray).toList = [] := by
 unfold ByteArray.toList ByteArray.toList.loop
 rfl
theorem rd0_pos {xs : List S44} (h : ¬ (rd_T44 xs 0).f1.toList = []) : 0 < xs.length := by
 rcases Nat.eq_zero_or_pos xs.length with e | e
 ·exact absurd (by rw [List.eq_nil_of_length_eq_zero e]; exact nilTL) h
 ·exact e
theorem Seps.rowC {w0 w : World} {t g c : Nat} {A : Option Addr} {xs : List S44} {P : Nat → Prop} {L : List ((World → Prop) × (Nat → Prop))} (h : Seps w0 w (ID t g (.slice A xs.length c) xs P :: L)) : Kd.C k44 w A xs.length xs := Kd.F_now (Kd.V_at h.now.2.1).2.2
theorem own_new {v : Value} {n : Nat} (h : ∃ b, v.ownBlock = some b ∧ n ≤ b) : ∀ k, some k = v.ownBlock → n ≤ k := fun k hk => by
 obtain ⟨b, e, hle⟩ := h
 rw [e] at hk
 injection hk with hk
 omega
theorem Seps.addNil {w0 w : World} {L : List ((World → Prop) × (Nat → Prop))} (h : Seps w0 w L) : Seps w0 w (IR w0 (.slice none 0 0) [] :: L) :=
 h.addRow (ok := fun _ => True) (Kd.R_nil _ _ _ _ _) h.1 (World.grownBy.refl w _) (fun k hk => by cases hk)

/-! ### spec_l4Transform: function 41, by hand -/
def psz (p : S44) : Int := wrap64 ((wrap64 (p.f0 + (p.f1.size : Int))) + (p.f2.size : Int))
/-- The field Keep of element i is written. -/
theorem k44_st0 {W : World} {base g2 n cap : Nat} {ok : Nat → Prop} {xs : List S44} (h : Kd.R k44 44 W base ok (.slice (some ⟨g2, 0, none⟩) n cap) xs) (i : Int) (h0 : 0 ≤ i) (h1 : i < n) (x : Int) :
  Kd.R k44 44 (W.setCell ⟨g2, i.toNat * 3, none⟩ (.int .i64 x)) base ok (.slice (some ⟨g2, 0, none⟩) n cap) (xs.set i.toNat ⟨x, (rd_T44 xs i).f1, (rd_T44 xs i).f2⟩) ∧ W.grownBy (W.setCell ⟨g2, i.toNat * 3, none⟩ (.int .i64 x)) (some g2) := by
 obtain ⟨c, hl, hM, hc, -⟩ := Kd.R_elem h z44 i h0 h1
 have hM' := hM
 obtain rfl := k44_openM hM'
 exact Kd.R_seg (d := k44) (seg := [.int .i64 x]) (j := 0) (okp := fun k => ok k ∧ k ≠ g2) h i h0 h1 hl hc (show 0 + 1 ≤ 3 by omega) (k44_mkM _ _ _ (⟨x, (rd_T44 xs i).f1, (rd_T44 xs i).f2⟩ : S44)) (fun _ hk => hk)
/-- The field Drop of element i is written. -/
theorem k44_st2 {W : World} {base g2 n cap : Nat} {ok : Nat → Prop} {xs : List S44} (h : Kd.R k44 44 W base ok (.slice (some ⟨g2, 0, none⟩) n cap) xs) (i : Int) (h0 : 0 ≤ i) (h1 : i < n) (x : ByteArray) :
  Kd.R k44 44 (W.setCell ⟨g2, i.toNat * 3 + 2, none⟩ (.string x)) base ok (.slice (some ⟨g2, 0, none⟩) n cap) (xs.set i.toNat ⟨(rd_T44 xs i).f0, (rd_T44 xs i).f1, x⟩) ∧ W.grownBy (W.setCell ⟨g2, i.toNat * 3 + 2, none⟩ (.string x)) (some g2) := by
 obtain ⟨c, hl, hM, hc, -⟩ := Kd.R_elem h z44 i h0 h1
 have hM' := hM
 obtain rfl := k44_openM hM'
 exact Kd.R_seg (d := k44) (seg := [.string x]) (j := 2) (okp := fun k => ok k ∧ k ≠ g2) h i h0 h1 hl hc (show 2 + 1 ≤ 3 by omega) (k44_mkM _ _ _ (⟨(rd_T44 xs i).f0, (rd_T44 xs i).f1, x⟩ : S44)) (fun _ hk => hk)
set_option maxHeartbeats 1000000 in
theorem rs_done {w0 w : World} {g : Nat} {v : Value} {xs : List S44} {P : Nat → Prop} {L : List ((World → Prop) × (Nat → Prop))} (h : Seps w0 w (ID 72 g v xs P :: L)) :
  Calls Try.prog 54 #[.pointer (some ⟨g, 0, none⟩)] w fun e w' => e = .returned (.bool (decide (xs.length = 0))) ∧ Below w.heap.size w w' := by
 obtain ⟨hb, hv, hPn⟩ := h.now
 obtain ⟨A, c, rfl, hc, hf⟩ := hv
 have hc0 : w.cell? ⟨g, 0, none⟩ = some (.slice A xs.length c) := bC hb 0
 have hglt := blk_lt hb
 clear h hf hb hc
 go_enter Try.func54, Try.ntmps54
 go_wp2
 go_ret
 exact ⟨by cases xs <;> simp <;> omega, Below.refl _ _⟩
set_option maxHeartbeats 1000000 in
theorem rs_size {w0 w : World} {g : Nat} {v : Value} {p : S44} {l : List S44} {P : Nat → Prop} {L : List ((World → Prop) × (Nat → Prop))} (h : Seps w0 w (ID 72 g v (p :: l) P :: L)) :
  Calls Try.prog 56 #[.pointer (some ⟨g, 0, none⟩)] w fun e w' => e = .returned (.int .i64 (psz p)) ∧ Below w.heap.size w w' := by
 obtain ⟨hb, hv, hPn⟩ := h.now
 obtain ⟨A, c, rfl, hc, hf⟩ := hv
 have hc0 : w.cell? ⟨g, 0, none⟩ = some (.slice A (l.length + 1) c) := bC hb 0
 have hglt := blk_lt hb
 have hu44 := Try.underlying44
 obtain ⟨ad, rfl, x0, x1, x2⟩ := at_T44 (Kd.F_now hf) 0 (by simp) (by simp)
 rw [rd0_cons] at x0 x1 x2
 rw [show (0 : Int).toNat * 3 = 0 from rfl, Addr.add_zero'] at x0 x1 x2
 have hadlt : ad.block < w.heap.size := World.block_lt_of_cell? w ad x0
 have hi : (0 : Int) < (l.length : Int) + 1 := by omega
 clear h hf hb hc
 go_enter Try.func56, Try.ntmps56
 go_wp2
 go_region
 go_wp2
 go_ret
 exact ⟨rfl, below_drew (Below.refl _ _)⟩
set_option maxHeartbeats 1000000 in
theorem rs_takeW {w0 w : World} {g : Nat} {v : Value} {p : S44} {l : List S44} {P : Nat → Prop} {L : List ((World → Prop) × (Nat → Prop))} (h : Seps w0 w (ID 72 g v (p :: l) P :: L)) (hg : w0.heap.size ≤ g) :
  Calls Try.prog 55 #[.pointer (some ⟨g, 0, none⟩), .int .i64 (psz p)] w fun e w' => e = .returned (.agg #[.int .i64 p.f0, .string p.f1, .string p.f2]) ∧ ∃ v' P', Seps w0 w' (ID 72 g v' l P' :: L) := by
 obtain ⟨hb, hv, hPn⟩ := h.now
 obtain ⟨A, c, rfl, hc, hf⟩ := hv
 have hglt := blk_lt hb
 have hu44 := Try.underlying44
 have hc0 : w.cell? ⟨g, 0, none⟩ = some (.slice A (l.length + 1) c) := bC hb 0
 obtain ⟨ad, rfl, x0, x1, x2⟩ := at_T44 (Kd.F_now hf) 0 (by simp) (by simp)
 rw [rd0_cons] at x0 x1 x2
 rw [show (0 : Int).toNat * 3 = 0 from rfl, Addr.add_zero'] at x0 x1 x2
 have hadlt : ad.block < w.heap.size := World.block_lt_of_cell? w ad x0
 have hi : (0 : Int) < (l.length : Int) + 1 := by omega
 have HW := aM h.1.size
 have H0 := aM ((h.addBox (.cells #[.int .i64 0, .string ⟨#[]⟩, .string ⟨#[]⟩] 44)).addBoxAt (.cells #[.int .i64 p.f0, .string p.f1, .string p.f2] 44) (w.heap.size + 1) (by simp))
 have HH := aM hc
 have h1c : 1 ≤ l.length + 1 := by omega
 have h1ci : (1 : Int) ≤ (l.length : Int) + 1 := by omega
 clear h hf hb hc
 go_enter Try.func55, Try.ntmps55
 go_wp2_with (first | (go_at_call 56; refine (rs_size H0.out.f3).mono ?_; rintro e w1 ⟨rfl, hb1⟩; have S1 := aM (H0.out.below hb1); have hcg : w1.cell? ⟨g, 0, none⟩ = some (.slice (some ad) (l.length + 1) c) := bC S1.out.f3.now.1 0; have hfg := bF S1.out.f3.now.1 0; have hltg := blk_lt S1.out.f3.now.1; obtain ⟨cp0, cp1, cp2, zp0, zp1, zp2⟩ := S1.out.c3; obtain ⟨cr0, cr1, cr2, zr0, zr1, zr2⟩ := S1.out.f2.c3; have npg := S1.out.f3.f2.neD; have npg2 := npg.symm; have nrg := S1.out.tail.neD; have nrg2 := nrg.symm; clear hb1))
 all_goals
  have h9 := (((S1.out.f3.cut1 hg (by simp) HH.out).f3.put3 (x := .int .i64 p.f0) (y := .string p.f1) (z := .string p.f2) HW.out))
  first | (have hc1 : c = 1 := (by assumption); rw [if_pos hc1, hc1] at h9) | (have hc1 : ¬ c = 1 := (by assumption); rw [if_neg hc1] at h9)
  simp only [List.length_cons, Nat.add_sub_cancel, Nat.sub_self, Addr.add, Option.map_some, List.drop_succ_cons, List.drop_zero] at h9
  refine bodyPost_ret (results_cell_row rfl _ _ w.heap.size 44 #[.int .i64 p.f0, .string p.f1, .string p.f2] (0, 0) _ rfl (by exact h9.box) Try.underlying44 rfl z0) rfl ?_
  exact ⟨rfl, _, _, h9.tail.f2.tail⟩
set_option maxHeartbeats 1000000 in
theorem rs_takeK {w0 w : World} {g : Nat} {v : Value} {m n : Int} {l : List S44} {P : Nat → Prop} {L : List ((World → Prop) × (Nat → Prop))} (h : Seps w0 w (ID 72 g v (⟨m, ⟨#[]⟩, ⟨#[]⟩⟩ :: l) P :: L)) (hg : w0.heap.size ≤ g) (h0 : 0 ≤ n) (hn : n < m) (hm : m ≤ 1000000000) (hl : l.length ≤ 1000000000) :
  Calls Try.prog 55 #[.pointer (some ⟨g, 0, none⟩), .int .i64 n] w fun e w' => e = .returned (.agg #[.int .i64 n, .string ⟨#[]⟩, .string ⟨#[]⟩]) ∧ ∃ v' P', Seps w0 w' (ID 72 g v' (⟨m - n, ⟨#[]⟩, ⟨#[]⟩⟩ :: l) P' :: L) := by
 obtain ⟨hb, hv, hPn⟩ := h.now
 obtain ⟨A, c, rfl, hc, hf⟩ := hv
 have hglt := blk_lt hb
 have hu44 := Try.underlying44
 have hc0 : w.cell? ⟨g, 0, none⟩ = some (.slice A (l.length + 1) c) := bC hb 0
 obtain ⟨ad, rfl, x0, x1, x2⟩ := at_T44 (Kd.F_now hf) 0 (by simp) (by simp)
 rw [rd0_cons] at x0 x1 x2
 rw [show (0 : Int).toNat * 3 = 0 from rfl, Addr.add_zero'] at x0 x1 x2
 have hadlt : ad.block < w.heap.size := World.block_lt_of_cell? w ad x0
 have hi : (0 : Int) < (l.length : Int) + 1 := by omega
 have HW := aM h.1.size
 have H0 := aM ((h.addBox (.cells #[.int .i64 0, .string ⟨#[]⟩, .string ⟨#[]⟩] 44)).addBoxAt (.cells #[.int .i64 m, .string ⟨#[]⟩, .string ⟨#[]⟩] 44) (w.heap.size + 1) (by simp))
 have HH := aM hc
 have hmp : decide (m > 0) = true := dT (by omega)
 have hws : IntKind.i64.wrap (m - n) = m - n := by rw [i64_w]; unfold wrap64; omega
 have hpz : psz ⟨m, ⟨#[]⟩, ⟨#[]⟩⟩ = m := by show wrap64 (wrap64 (m + 0) + 0) = m; unfold wrap64; omega
 have hne : (n == psz ⟨m, ⟨#[]⟩, ⟨#[]⟩⟩) = false := by rw [hpz]; exact qF (by omega)
 clear h hf hb hc
 go_enter Try.func55, Try.ntmps55
 go_upto_region 5 with (first | (go_at_call 56; refine (rs_size H0.out.f3).mono ?_; rintro e w1 ⟨rfl, hb1⟩; have S1 := aM (H0.out.below hb1); have hcg : w1.cell? ⟨g, 0, none⟩ = some (.slice (some ad) (l.length + 1) c) := bC S1.out.f3.now.1 0; have hfg := bF S1.out.f3.now.1 0; have hltg := blk_lt S1.out.f3.now.1; obtain ⟨cp0, cp1, cp2, zp0, zp1, zp2⟩ := S1.out.c3; obtain ⟨cr0, cr1, cr2, zr0, zr1, zr2⟩ := S1.out.f2.c3; have npg := S1.out.f3.f2.neD; have npg2 := npg.symm; have nrg := S1.out.tail.neD; have nrg2 := nrg.symm; clear hb1))
 go_cut [6] (fun v6 wc => ∃ g6 c6 : Nat, v6 = .slice (some ⟨g6, 0, none⟩) (l.length + 1) c6 ∧ Aside0 (Seps w0 wc (IR w0 (.slice (some ⟨g6, 0, none⟩) (l.length + 1) c6) (⟨m, ⟨#[]⟩, ⟨#[]⟩⟩ :: l) :: IB (w.heap.size + 1) (.cells #[.int .i64 m, .string ⟨#[]⟩, .string ⟨#[]⟩] 44) :: IB w.heap.size (.cells #[.int .i64 0, .string ⟨#[]⟩, .string ⟨#[]⟩] 44) :: ID 72 g (.slice (some ad) (l.length + 1) c) (⟨m, ⟨#[]⟩, ⟨#[]⟩⟩ :: l) P :: L)))
 case first =>
  go_wp2_with (first | ((with_reducible refine aD (N := 26) rfl ?_); refine Kd.R_lit k44 (w0 := w0) w0.heap.size 44 ?hg (N := 26) ?hd (xs := ([] : List S44)) (inner := []) (ok := fun _ => True) (okp := fun _ => True) ?hr ?hp (fun _ hk => hk) trivial S1.out.1 S1.out.1.size (by simp) ?_; (case hd => rfl); (case hg => rfl); (case hr => first | (go_simp; done) | (go_simp; rfl)); (case hp => exact (Reps.none _ _)); intro v3 w3 ho3 hb3 hg3 hn3; have S3 := aM (S1.out.addRow ho3 hb3 hg3 (own_new hn3)); have hcg3 : w3.cell? ⟨g, 0, none⟩ = some (.slice (some ad) (l.length + 1) c) := bC S3.out.f4.now.1 0; clear ho3 hb3 hg3 hn3) | ((with_reducible refine gate_builtin (b := .append) (xs := #[.tmp 26, .tmp 30]) rfl ?_); at_builtin; refine Kd.R_append_rows k44 (Rr := k44.K w3) (w0 := w0) (W := w3) w0.heap.size ?hw (.tmp 26) (.tmp 30) 27 44 (.agg #[(.int .i64 0), (.string ⟨#[]⟩), (.string ⟨#[]⟩)]) 40 ?ho Try.underlying27 info44 rfl (by decide) (by decide) v3 [] (⟨m, ⟨#[]⟩, ⟨#[]⟩⟩ :: l) (some ad) (l.length + 1) c (fun _ => True) (fun _ => False) ?hs ?hx ?aO ?aR (k44_KM _ _ _ _) (fun _ h => h.elim) (fun _ _ => trivial) ?aB ?aS ?aL ?_; (case hw => rfl); (case ho => rfl); (case hs => rfl); (case hx => rfl); (case aR => exact S3.out.f4.rowC); (case aB => exact S3.out.1); (case aO => exact af S3.out.now (fun _ _ => trivial)); (case aS => exact S3.out.1.size); (case aL => simp only [List.length_nil]; omega); intro v4 w4 ho4 hb4 hg4 hat4; rw [List.nil_append] at ho4; obtain ⟨g6, c6, e6, -, -, -⟩ := Kd.R_form ho4 (by simp); subst e6; have S4 := aM (S3.out.stepRow ho4 hb4 hg4 hat4); clear ho4 hb4 hg4 hat4))
  go_meet
  exact ⟨g6, c6, rfl, S4⟩
 case rest =>
  obtain ⟨g6, c6, rfl, S4⟩ := hcut
  clear cp0 cp1 cp2 zp0 zp1 zp2 cr0 cr1 cr2 zr0 zr1 zr2 hcg hfg hltg
  have hR4 := S4.out.now
  obtain ⟨c', -, hM, hcc, hfr⟩ := Kd.R_elem hR4 z44 0 (by omega) (by omega)
  obtain rfl := k44_openM hM
  have ce0 : wc.cell? ⟨g6, 0, none⟩ = some (.int .i64 m) := hcc 0 _ rfl
  have ce2 : wc.cell? ⟨g6, 2, none⟩ = some (.string ⟨#[]⟩) := hcc 2 _ rfl
  have ze0 : wc.frozen? ⟨g6, 0, none⟩ = false := hfr 0
  have ze2 : wc.frozen? ⟨g6, 2, none⟩ = false := hfr 2
  clear hM hcc hfr hR4
  obtain ⟨cp0, cp1, cp2, zp0, zp1, zp2⟩ := S4.out.f2.c3
  go_upto_region 10 with (fail)
  obtain ⟨w5, hw5⟩ : ∃ w5, wc.setCell ⟨g6, 0, none⟩ (.int .i64 (m - n)) = w5 := ⟨_, rfl⟩
  rw [hw5]
  have hset := k44_st0 S4.out.now 0 (by omega) (by omega) (m - n)
  rw [rd0_cons, show (⟨m, ⟨#[]⟩, ⟨#[]⟩⟩ :: l : List S44).set (0 : Int).toNat _ = ⟨m - n, ⟨#[]⟩, ⟨#[]⟩⟩ :: l from rfl, show (⟨g6, (0 : Int).toNat * 3, none⟩ : Addr) = ⟨g6, 0, none⟩ from rfl, hw5] at hset
  have S5 := aM (S4.out.stepRow hset.1 (by rw [← hw5]; exact ao S4.out.1 (ai hset.1 g6 rfl)) hset.2 (.inl rfl))
  clear hset hw5 ce0 ce2 ze0 ze2 cp0 cp1 cp2 zp0 zp1 zp2 S4
  obtain ⟨cp0, cp1, cp2, zp0, zp1, zp2⟩ := S5.out.f2.c3
  go_upto_region 14 with (fail)
  obtain ⟨w6, hw6⟩ : ∃ w6, w5.setCell ⟨w.heap.size + 1, 0, none⟩ (.int .i64 n) = w6 := ⟨_, rfl⟩
  have S6' := S5.out.f2.put (Nat.le_trans HW.out (Nat.le_succ _)) 0 (.int .i64 n) rfl
  rw [hw6] at S6' ⊢
  have S6 := aM S6'
  clear S6' hw6 S5 cp0 cp1 cp2 zp0 zp1 zp2
  obtain ⟨cp0, cp1, cp2, zp0, zp1, zp2⟩ := S6.out.c3
  obtain ⟨cr0, cr1, cr2, zr0, zr1, zr2⟩ := S6.out.f3.c3
  have hcg : w6.cell? ⟨g, 0, none⟩ = some (.slice (some ad) (l.length + 1) c) := bC S6.out.f4.now.1 0
  have hfg := bF S6.out.f4.now.1 0
  go_wp2
  have h9 := (S6.out.f4.f3.give hg).f3.put3 (x := .int .i64 n) (y := .string ⟨#[]⟩) (z := .string ⟨#[]⟩) HW.out
  refine bodyPost_ret (results_cell_row rfl _ _ w.heap.size 44 #[.int .i64 n, .string ⟨#[]⟩, .string ⟨#[]⟩] (0, 0) _ rfl (by exact h9.box) Try.underlying44 rfl z0) rfl ?_
  exact ⟨rfl, _, _, h9.tail.f2.tail⟩
set_option maxHeartbeats 1000000 in
theorem rs_takeD {w0 w : World} {g : Nat} {v : Value} {d : ByteArray} {n : Nat} {l : List S44} {P : Nat → Prop} {L : List ((World → Prop) × (Nat → Prop))} (h : Seps w0 w (ID 72 g v (⟨0, ⟨#[]⟩, d⟩ :: l) P :: L)) (hg : w0.heap.size ≤ g) (hn : n < d.size) (hm : d.size ≤ 1000000000) (hl : l.length ≤ 1000000000) :
  Calls Try.prog 55 #[.pointer (some ⟨g, 0, none⟩), .int .i64 (n : Int)] w fun e w' => e = .returned (.agg #[.int .i64 0, .string ⟨#[]⟩, .string (d.extract 0 n)]) ∧ ∃ v' P', Seps w0 w' (ID 72 g v' (⟨0, ⟨#[]⟩, (d.extract n d.size)⟩ :: l) P' :: L) := by
 obtain ⟨hb, hv, hPn⟩ := h.now
 obtain ⟨A, c, rfl, hc, hf⟩ := hv
 have hglt := blk_lt hb
 have hu44 := Try.underlying44
 have hc0 : w.cell? ⟨g, 0, none⟩ = some (.slice A (l.length + 1) c) := bC hb 0
 obtain ⟨ad, rfl, x0, x1, x2⟩ := at_T44 (Kd.F_now hf) 0 (by simp) (by simp)
 rw [rd0_cons] at x0 x1 x2
 rw [show (0 : Int).toNat * 3 = 0 from rfl, Addr.add_zero'] at x0 x1 x2
 have hadlt : ad.block < w.heap.size := World.block_lt_of_cell? w ad x0
 have hi : (0 : Int) < (l.length : Int) + 1 := by omega
 have HW := aM h.1.size
 have H0 := aM ((h.addBox (.cells #[.int .i64 0, .string ⟨#[]⟩, .string ⟨#[]⟩] 44)).addBoxAt (.cells #[.int .i64 0, .string ⟨#[]⟩, .string d] 44) (w.heap.size + 1) (by simp))
 have HH := aM hc
 have hz0 : (0 : Int) ≤ (n : Int) := by omega
 have hz1 : (n : Int) ≤ (d.size : Int) := by omega
 have hz2 : n ≤ d.size := by omega
 have hpz : psz ⟨0, ⟨#[]⟩, d⟩ = (d.size : Int) := by show wrap64 (wrap64 (0 + 0) + (d.size : Int)) = _; unfold wrap64; omega
 have hne : ((n : Int) == psz ⟨0, ⟨#[]⟩, d⟩) = false := by rw [hpz]; exact qF (by omega)
 clear h hf hb hc
 go_enter Try.func55, Try.ntmps55
 go_upto_region 5 with (first | (go_at_call 56; refine (rs_size H0.out.f3).mono ?_; rintro e w1 ⟨rfl, hb1⟩; have S1 := aM (H0.out.below hb1); have hcg : w1.cell? ⟨g, 0, none⟩ = some (.slice (some ad) (l.length + 1) c) := bC S1.out.f3.now.1 0; have hfg := bF S1.out.f3.now.1 0; have hltg := blk_lt S1.out.f3.now.1; obtain ⟨cp0, cp1, cp2, zp0, zp1, zp2⟩ := S1.out.c3; obtain ⟨cr0, cr1, cr2, zr0, zr1, zr2⟩ := S1.out.f2.c3; have npg := S1.out.f3.f2.neD; have npg2 := npg.symm; have nrg := S1.out.tail.neD; have nrg2 := nrg.symm; clear hb1))
 go_cut [6] (fun v6 wc => ∃ g6 c6 : Nat, v6 = .slice (some ⟨g6, 0, none⟩) (l.length + 1) c6 ∧ Aside0 (Seps w0 wc (IR w0 (.slice (some ⟨g6, 0, none⟩) (l.length + 1) c6) (⟨0, ⟨#[]⟩, d⟩ :: l) :: IB (w.heap.size + 1) (.cells #[.int .i64 0, .string ⟨#[]⟩, .string d] 44) :: IB w.heap.size (.cells #[.int .i64 0, .string ⟨#[]⟩, .string ⟨#[]⟩] 44) :: ID 72 g (.slice (some ad) (l.length + 1) c) (⟨0, ⟨#[]⟩, d⟩ :: l) P :: L)))
 case first =>
  go_wp2_with (first | ((with_reducible refine aD (N := 26) rfl ?_); refine Kd.R_lit k44 (w0 := w0) w0.heap.size 44 ?hg (N := 26) ?hd (xs := ([] : List S44)) (inner := []) (ok := fun _ => True) (okp := fun _ => True) ?hr ?hp (fun _ hk => hk) trivial S1.out.1 S1.out.1.size (by simp) ?_; (case hd => rfl); (case hg => rfl); (case hr => first | (go_simp; done) | (go_simp; rfl)); (case hp => exact (Reps.none _ _)); intro v3 w3 ho3 hb3 hg3 hn3; have S3 := aM (S1.out.addRow ho3 hb3 hg3 (own_new hn3)); have hcg3 : w3.cell? ⟨g, 0, none⟩ = some (.slice (some ad) (l.length + 1) c) := bC S3.out.f4.now.1 0; clear ho3 hb3 hg3 hn3) | ((with_reducible refine gate_builtin (b := .append) (xs := #[.tmp 26, .tmp 30]) rfl ?_); at_builtin; refine Kd.R_append_rows k44 (Rr := k44.K w3) (w0 := w0) (W := w3) w0.heap.size ?hw (.tmp 26) (.tmp 30) 27 44 (.agg #[(.int .i64 0), (.string ⟨#[]⟩), (.string ⟨#[]⟩)]) 40 ?ho Try.underlying27 info44 rfl (by decide) (by decide) v3 [] (⟨0, ⟨#[]⟩, d⟩ :: l) (some ad) (l.length + 1) c (fun _ => True) (fun _ => False) ?hs ?hx ?aO ?aR (k44_KM _ _ _ _) (fun _ h => h.elim) (fun _ _ => trivial) ?aB ?aS ?aL ?_; (case hw => rfl); (case ho => rfl); (case hs => rfl); (case hx => rfl); (case aR => exact S3.out.f4.rowC); (case aB => exact S3.out.1); (case aO => exact af S3.out.now (fun _ _ => trivial)); (case aS => exact S3.out.1.size); (case aL => simp only [List.length_nil]; omega); intro v4 w4 ho4 hb4 hg4 hat4; rw [List.nil_append] at ho4; obtain ⟨g6, c6, e6, -, -, -⟩ := Kd.R_form ho4 (by simp); subst e6; have S4 := aM (S3.out.stepRow ho4 hb4 hg4 hat4); clear ho4 hb4 hg4 hat4))
  go_meet
  exact ⟨g6, c6, rfl, S4⟩
 case rest =>
  obtain ⟨g6, c6, rfl, S4⟩ := hcut
  clear cp0 cp1 cp2 zp0 zp1 zp2 cr0 cr1 cr2 zr0 zr1 zr2 hcg hfg hltg
  have hR4 := S4.out.now
  obtain ⟨c', -, hM, hcc, hfr⟩ := Kd.R_elem hR4 z44 0 (by omega) (by omega)
  obtain rfl := k44_openM hM
  have ce0 : wc.cell? ⟨g6, 0, none⟩ = some (.int .i64 0) := hcc 0 _ rfl
  have ce2 : wc.cell? ⟨g6, 2, none⟩ = some (.string d) := hcc 2 _ rfl
  have ze0 : wc.frozen? ⟨g6, 0, none⟩ = false := hfr 0
  have ze2 : wc.frozen? ⟨g6, 2, none⟩ = false := hfr 2
  clear hM hcc hfr hR4
  obtain ⟨cp0, cp1, cp2, zp0, zp1, zp2⟩ := S4.out.f2.c3
  go_upto_region 7 with (fail)
  obtain ⟨w5, hw5⟩ : ∃ w5, wc.setCell ⟨g6, 2, none⟩ (.string (d.extract n d.size)) = w5 := ⟨_, rfl⟩
  rw [hw5]
  have hset := k44_st2 S4.out.now 0 (by omega) (by omega) (d.extract n d.size)
  rw [rd0_cons, show (⟨0, ⟨#[]⟩, d⟩ :: l : List S44).set (0 : Int).toNat _ = ⟨0, ⟨#[]⟩, (d.extract n d.size)⟩ :: l from rfl, show (⟨g6, (0 : Int).toNat * 3 + 2, none⟩ : Addr) = ⟨g6, 2, none⟩ from rfl, hw5] at hset
  have S5 := aM (S4.out.stepRow hset.1 (by rw [← hw5]; exact ao S4.out.1 (ai hset.1 g6 rfl)) hset.2 (.inl rfl))
  clear hset hw5 ce0 ce2 ze0 ze2 cp0 cp1 cp2 zp0 zp1 zp2 S4
  obtain ⟨cp0, cp1, cp2, zp0, zp1, zp2⟩ := S5.out.f2.c3
  go_upto_region 14 with (fail)
  obtain ⟨w6, hw6⟩ : ∃ w6, w5.setCell ⟨w.heap.size + 1, 2, none⟩ (.string (d.extract 0 n)) = w6 := ⟨_, rfl⟩
  have S6' := S5.out.f2.put (Nat.le_trans HW.out (Nat.le_succ _)) 2 (.string (d.extract 0 n)) rfl
  rw [hw6] at S6' ⊢
  have S6 := aM S6'
  clear S6' hw6 S5 cp0 cp1 cp2 zp0 zp1 zp2
  obtain ⟨cp0, cp1, cp2, zp0, zp1, zp2⟩ := S6.out.c3
  obtain ⟨cr0, cr1, cr2, zr0, zr1, zr2⟩ := S6.out.f3.c3
  have hcg : w6.cell? ⟨g, 0, none⟩ = some (.slice (some ad) (l.length + 1) c) := bC S6.out.f4.now.1 0
  have hfg := bF S6.out.f4.now.1 0
  go_wp2
  have h9 := (S6.out.f4.f3.give hg).f3.put3 (x := .int .i64 0) (y := .string ⟨#[]⟩) (z := .string (d.extract 0 n)) HW.out
  refine bodyPost_ret (results_cell_row rfl _ _ w.heap.size 44 #[.int .i64 0, .string ⟨#[]⟩, .string (d.extract 0 n)] (0, 0) _ rfl (by exact h9.box) Try.underlying44 rfl z0) rfl ?_
  exact ⟨rfl, _, _, h9.tail.f2.tail⟩
/-- The first n bytes of a row of parts, and what is left, as the reference tells it. -/
def takef (n : Int) : List S44 → Option (S44 × List S44)
 | [] => none
 | p :: l => if n = psz p then some (p, l) else if p.f1.size = 0 ∧ l.length ≤ 1000000000 ∧ 0 ≤ n then
   (if 0 < p.f0 then (if p.f2.size = 0 ∧ p.f0 ≤ 1000000000 ∧ n < p.f0 then some (⟨n, ⟨#[]⟩, ⟨#[]⟩⟩, ⟨p.f0 - n, ⟨#[]⟩, ⟨#[]⟩⟩ :: l) else none)
    else (if p.f0 = 0 ∧ n < (p.f2.size : Int) ∧ p.f2.size ≤ 1000000000 then some (⟨0, ⟨#[]⟩, p.f2.extract 0 n.toNat⟩, ⟨0, ⟨#[]⟩, p.f2.extract n.toNat p.f2.size⟩ :: l) else none))
   else none
theorem rs_take {w0 w : World} {g : Nat} {n : Int} {v : Value} {xs xs' : List S44} {p : S44} {P : Nat → Prop} {L : List ((World → Prop) × (Nat → Prop))} (h : Seps w0 w (ID 72 g v xs P :: L)) (hg : w0.heap.size ≤ g) (hc : takef n xs = some (p, xs')) :
  Calls Try.prog 55 #[.pointer (some ⟨g, 0, none⟩), .int .i64 n] w fun e w' => e = .returned (.agg #[.int .i64 p.f0, .string p.f1, .string p.f2]) ∧ ∃ v' P', Seps w0 w' (ID 72 g v' xs' P' :: L) := by
 cases xs with
 | nil => cases hc
 | cons q l =>
  unfold takef at hc
  dsimp only at hc
  split at hc
  case isTrue h1 =>
   subst h1
   obtain ⟨rfl, rfl⟩ := Prod.mk.inj (sI hc)
   exact rs_takeW h hg
  case isFalse h0 =>
  obtain ⟨a, b, d⟩ := q
  simp only at hc
  split at hc
  case isFalse => cases hc
  case isTrue h1 =>
  obtain ⟨h1, hl, hn⟩ := h1
  obtain rfl := ba_size0 h1
  split at hc
  case isTrue h2 =>
   split at hc
   case isFalse => cases hc
   case isTrue h3 =>
   obtain ⟨h3, h4, h5⟩ := h3
   obtain rfl := ba_size0 h3
   obtain ⟨rfl, rfl⟩ := Prod.mk.inj (sI hc)
   exact rs_takeK h hg hn h5 h4 hl
  case isFalse h2 =>
   split at hc
   case isFalse => cases hc
   case isTrue h3 =>
   obtain ⟨rfl, h4, h5⟩ := h3
   obtain ⟨rfl, rfl⟩ := Prod.mk.inj (sI hc)
   obtain ⟨m, rfl⟩ := Int.eq_ofNat_of_zero_le hn
   exact rs_takeD (n := m) h hg (by omega) h5 hl
theorem sp_add {w0 w : World} {k : Nat} {v : Value} {l r : List S44} {a : Int} {b c : ByteArray} {L : List ((World → Prop) × (Nat → Prop))} (h : Seps w0 w (IR w0 v l :: L)) (hs : spec_l3Add.f k l a b c = some r) :
  Calls Try.prog 50 #[v, .agg #[.int .i64 a, .string b, .string c]] w fun e w' => ∃ v', e = .returned v' ∧ Seps w0 w' (IR w0 v' r :: L) := by
 refine (spec_l3Add.calls k (fun k => some k = v.ownBlock) v l a b c r w0 w h.1 h.now hs).mono ?_
 rintro e w' ⟨v', rfl, hr, hb, hk⟩
 exact ⟨v', rfl, h.step (IR.own hr) hk (fun k hk => hr.1 k hk.symm) hb⟩
theorem Seps.head {w0 w : World} {t g c n : Nat} {ad : Addr} {xs : List S44} {P : Nat → Prop} {L : List ((World → Prop) × (Nat → Prop))} (h : Seps w0 w (ID t g (.slice (some ad) n c) xs P :: L)) (hx : 0 < xs.length) :
  w.cell? ad = some (.int .i64 (rd_T44 xs 0).f0) ∧ w.cell? ⟨ad.block, ad.off + 1, none⟩ = some (.string (rd_T44 xs 0).f1) ∧ w.cell? ⟨ad.block, ad.off + 2, none⟩ = some (.string (rd_T44 xs 0).f2) := by
 obtain ⟨-, -, hF⟩ := Kd.V_at h.now.2.1
 obtain ⟨ad', e, x0, x1, x2⟩ := at_T44 (Kd.F_now hF) 0 (by omega) (by omega)
 injection e with e
 subst e
 rw [show (0 : Int).toNat * 3 = 0 from rfl, Addr.add_zero'] at x0 x1 x2
 exact ⟨x0, x1, x2⟩
theorem Seps.some_ad {w0 w : World} {t g c n : Nat} {A : Option Addr} {xs : List S44} {P : Nat → Prop} {L : List ((World → Prop) × (Nat → Prop))} (h : Seps w0 w (ID t g (.slice A n c) xs P :: L)) (hx : 0 < xs.length) : ∃ ad, A = some ad := by
 obtain ⟨-, -, hF⟩ := Kd.V_at h.now.2.1
 obtain ⟨ad, e, -⟩ := at_T44 (Kd.F_now hF) 0 (by omega) (by omega)
 exact ⟨ad, e⟩
def str (k : Nat) : Nat → List S44 → List S44 → List S44 → List S44 → Option (List S44 × List S44)
 | 0, _, _, _, _ => none
 | d + 1, xs, ys, ax, bx =>
  if 0 < xs.length ∨ 0 < ys.length then
   (if ¬ (rd_T44 xs 0).f1.toList = [] then (takef (psz (rd_T44 xs 0)) xs).bind fun p => (spec_l3Add.f k ax p.1.f0 p.1.f1 p.1.f2).bind fun ax => (spec_l3Add.f k bx (p.1.f1.size : Int) ⟨#[]⟩ ⟨#[]⟩).bind fun bx => str k d p.2 ys ax bx
   else if ¬ (rd_T44 ys 0).f1.toList = [] then (takef (psz (rd_T44 ys 0)) ys).bind fun q => (spec_l3Add.f k bx q.1.f0 q.1.f1 q.1.f2).bind fun bx => (spec_l3Add.f k ax (q.1.f1.size : Int) ⟨#[]⟩ ⟨#[]⟩).bind fun ax => str k d xs q.2 ax bx
   else if 0 < xs.length ∧ 0 < ys.length then
    (takef (if psz (rd_T44 ys 0) < psz (rd_T44 xs 0) then psz (rd_T44 ys 0) else psz (rd_T44 xs 0)) xs).bind fun p => (takef (if psz (rd_T44 ys 0) < psz (rd_T44 xs 0) then psz (rd_T44 ys 0) else psz (rd_T44 xs 0)) ys).bind fun q =>
     (if 0 < q.1.f0 then spec_l3Add.f k ax p.1.f0 p.1.f1 p.1.f2 else some ax).bind fun ax => (if 0 < p.1.f0 then spec_l3Add.f k bx q.1.f0 q.1.f1 q.1.f2 else some bx).bind fun bx => str k d p.2 q.2 ax bx
   else none)
  else some (ax, bx)
theorem str_mono (k : Nat) : ∀ (d : Nat) (xs ys a b : List S44), LeO (str k d xs ys a b) (str (k + 1) (d + 1) xs ys a b)
 | 0, _, _, _, _ => LeO.none _
 | d + 1, xs, ys, a, b => by
  unfold str
  refine LeO.ite (LeO.ite (LeO.bind (LeO.refl _) (fun _ => LeO.bind (spec_l3Add.mono _ _ _ _ _) (fun _ => LeO.bind (spec_l3Add.mono _ _ _ _ _) (fun _ => str_mono k d _ _ _ _)))) (LeO.ite (LeO.bind (LeO.refl _) (fun _ => LeO.bind (spec_l3Add.mono _ _ _ _ _) (fun _ => LeO.bind (spec_l3Add.mono _ _ _ _ _) (fun _ => str_mono k d _ _ _ _)))) (LeO.ite (LeO.bind (LeO.refl _) (fun _ => LeO.bind (LeO.refl _) (fun _ => LeO.bind (LeO.ite (spec_l3Add.mono _ _ _ _ _) (LeO.refl _)) (fun _ => LeO.bind (LeO.ite (spec_l3Add.mono _ _ _ _ _) (LeO.refl _)) (fun _ => str_mono k d _ _ _ _))))) (LeO.none _)))) (LeO.refl _)
def spec_l4Transform.f (k : Nat) (l0 l1 : List S44) : Option (List S44 × List S44 × Bool) := (spec_l4Same.f k l0 l1).bind fun s => if s.1 = true ∧ s.2 = true then (if l0.length ≤ 1000000000 ∧ l1.length ≤ 1000000000 then ((spec_l3Normal.f k l0).bind fun a => (spec_l3Normal.f k l1).bind fun b => (str k k a b [] []).bind fun r => some (r.1, r.2, true)) else none) else some ([], [], false)
theorem spec_l4Transform.mono : ∀ a0 a1 k, LeO (spec_l4Transform.f k a0 a1) (spec_l4Transform.f (k + 1) a0 a1) := fun a0 a1 k =>
 LeO.bind (spec_l4Same.mono _ _ _) (fun _ => LeO.ite (LeO.ite (LeO.bind (spec_l3Normal.mono _ _) (fun _ => LeO.bind (spec_l3Normal.mono _ _) (fun _ => LeO.bind (str_mono _ _ _ _ _ _) (fun _ => LeO.refl _)))) (LeO.none _)) (LeO.refl _))
theorem rs_doneT {w0 w : World} {g : Nat} {v : Value} {xs : List S44} {P : Nat → Prop} {L : List ((World → Prop) × (Nat → Prop))} (h : Seps w0 w (ID 72 g v xs P :: L)) (hx : xs.length = 0) :
  Calls Try.prog 54 #[.pointer (some ⟨g, 0, none⟩)] w fun e w' => e = .returned (.bool true) ∧ Below w.heap.size w w' := by
 have := rs_done h
 rwa [dT hx] at this
theorem rs_doneF {w0 w : World} {g : Nat} {v : Value} {xs : List S44} {P : Nat → Prop} {L : List ((World → Prop) × (Nat → Prop))} (h : Seps w0 w (ID 72 g v xs P :: L)) (hx : 0 < xs.length) :
  Calls Try.prog 54 #[.pointer (some ⟨g, 0, none⟩)] w fun e w' => e = .returned (.bool false) ∧ Below w.heap.size w w' := by
 have := rs_done h
 rwa [dF (by omega)] at this
theorem rs_sz {w0 w : World} {g : Nat} {v : Value} {xs : List S44} {P : Nat → Prop} {L : List ((World → Prop) × (Nat → Prop))} (h : Seps w0 w (ID 72 g v xs P :: L)) (hx : 0 < xs.length) :
  Calls Try.prog 56 #[.pointer (some ⟨g, 0, none⟩)] w fun e w' => e = .returned (.int .i64 (psz (rd_T44 xs 0))) ∧ Below w.heap.size w w' := by
 cases xs with
 | nil => cases hx
 | cons p l => exact rs_size h
def TrS (w w' : World) (gx gy : Nat) (va vb : Value) (xs ys a b : List S44) : Prop := ∃ vx vy Px Py, Seps w w' [ID 72 gx vx xs Px, ID 72 gy vy ys Py, IR w va a, IR w vb b]
set_option maxHeartbeats 8000000 in
set_option maxRecDepth 100000 in
theorem spec_l4Transform.calls (k : Nat) (A0 : Option Addr) (c0 : Nat) (l0 : List S44) (A1 : Option Addr) (c1 : Nat) (l1 : List S44) (r1 r2 : List S44) (r3 : Bool) (w : World) (hr0 : Kd.C k44 w A0 l0.length l0) (hc0 : l0.length ≤ c0) (hr1 : Kd.C k44 w A1 l1.length l1) (hc1 : l1.length ≤ c1) (h : spec_l4Transform.f k l0 l1 = some (r1, r2, r3)) :
  Calls Try.prog 41 #[.slice A0 l0.length c0, .slice A1 l1.length c1] w fun e w' => ∃ v0_ v1_ : Value, e = .returned (.tuple #[v0_, v1_, .bool r3]) ∧ Kd.R k44 44 w' w.heap.size (fun k_ => some k_ ≠ (v1_ : Value).ownBlock) v0_ r1 ∧ Kd.R k44 44 w' w.heap.size (fun k_ => some k_ ≠ (v0_ : Value).ownBlock) v1_ r2 ∧ Below w.heap.size w w' := by
 unfold spec_l4Transform.f at h
 obtain ⟨⟨s1, s2⟩, hs, h1⟩ := oB h
 clear h
 have h := h1
 clear h1
 have HS := aM hs
 have bG := aM hr0
 have cz := aM hr1
 have b8 := aM hc0
 have dg := aM hc1
 have hu44 := Try.underlying44
 clear hs hr0 hr1 hc0 hc1
 by_cases hok : s1 = true ∧ s2 = true
 case neg =>
  rw [if_neg hok] at h
  simp only [Option.some.injEq, Prod.mk.injEq] at h
  obtain ⟨rfl, rfl, rfl⟩ := h
  go_enter Try.func41, Try.ntmps41
  cases s2 <;> cases s1
  case true.true => exact absurd ⟨rfl, rfl⟩ hok
  all_goals
   go_wp2_with (first | (go_at_call 42; refine (spec_l4Same.calls k A0 c0 l0 A1 c1 l1 _ _ w bG.out b8.out cz.out dg.out HS.out).mono ?_; rintro e w1 ⟨rfl, hb1⟩; have HB1 := aM hb1; clear hb1))
   go_ret3
   exact ⟨_, _, rfl, Kd.R_nil _ _ _ _ _, Kd.R_nil _ _ _ _ _, by have := HB1.out; first | exact this | exact below_drew this | exact pD this _⟩
 case pos =>
 obtain ⟨rfl, rfl⟩ := hok
 rw [if_pos ⟨rfl, rfl⟩] at h
 by_cases hl : l0.length ≤ 1000000000 ∧ l1.length ≤ 1000000000
 case neg => rw [if_neg hl] at h; cases h
 rw [if_pos hl] at h
 clear hl
 obtain ⟨a, hA, h1⟩ := oB h
 clear h
 obtain ⟨b, hB, h2⟩ := oB h1
 clear h1
 obtain ⟨mo, hI, h⟩ := oB h2
 clear h2
 obtain ⟨m1, m2⟩ := mo
 simp only [Option.some.injEq, Prod.mk.injEq] at h
 obtain ⟨rfl, rfl, rfl⟩ := h
 have HA := aM hA
 have HB := aM hB
 have HI := aM hI
 clear hA hB hI
 go_enter Try.func41, Try.ntmps41
 go_wp2_with (first | (go_at_call 42; refine (spec_l4Same.calls k A0 c0 l0 A1 c1 l1 _ _ w bG.out b8.out cz.out dg.out HS.out).mono ?_; rintro e w1 ⟨rfl, hb1⟩; have HB1 := aM hb1; clear hb1) | (go_at_call_of 53 (Value.slice A0 l0.length c0); refine (spec_l3Normal.calls k A0 c0 l0 a _ (au bG.out HB1.out) b8.out HA.out).mono ?_; rintro e w2 ⟨va, rfl, hra, hb2⟩; obtain ⟨Aa, ca, ea⟩ := Kd.R_slice hra; subst ea; have SA := aM (((Seps.nil HB1.out).addRow (w := w1) (w1 := w2) (aH hra HB1.out.size) (ap HB1.out hb2) (grown_of_below hb2 none) (fun k hk => ai hra k hk.symm)).reader 72); have HB2 := aM SA.out.1; have HW2 : Aside0 (w.heap.size ≤ w2.heap.size) := ⟨(ap HB1.out hb2).size⟩; clear hra hb2) | (go_at_call_of 53 (Value.slice A1 l1.length c1); refine (spec_l3Normal.calls k A1 c1 l1 b _ (au cz.out HB2.out) dg.out HB.out).mono ?_; rintro e w3 ⟨vb, rfl, hrb, hb3⟩; obtain ⟨Ab, cb, eb⟩ := Kd.R_slice hrb; subst eb; have SB := aM ((SA.out.addRow (w1 := w3) (aH hrb HB2.out.size) (ap HB2.out hb3) (grown_of_below hb3 none) (fun k hk => ai hrb k hk.symm)).reader 72); have HW3 : Aside0 (w.heap.size ≤ w3.heap.size) := ⟨(ap HB2.out hb3).size⟩; clear hrb hb3))
 have S0 : Aside0 (TrS w (w3.alloc (.cells #[.slice Ab b.length cb] 72)) w2.heap.size w3.heap.size (.slice none 0 0) (.slice none 0 0) a b [] []) := ⟨⟨_, _, _, _, SB.out.f2.addNil.addNil.f4.f4⟩⟩
 have HGX : Aside0 (w.heap.size ≤ w2.heap.size) := HW2
 have HGY : Aside0 (w.heap.size ≤ w3.heap.size) := HW3
 generalize w2.heap.size = gx at S0 HGX ⊢
 generalize w3.heap.size = gy at S0 HGY ⊢
 generalize w3.alloc (.cells #[.slice Ab b.length cb] 72) = w4 at S0 ⊢
 clear SB SA HB2 HB1 HA HB HS bG cz b8 dg HW2 HW3
 go_loopg [9, 10] k (fun d v9 v10 w' => ∃ xs ys ax bx, TrS w w' gx gy v9 v10 xs ys ax bx ∧ str k d xs ys ax bx = some (m1, m2))
 case atStart => exact ⟨a, b, [], [], S0.out, HI.out⟩
 case round =>
  clear S0 HI
  obtain ⟨xs, ys, ax, bx, ⟨vx, vy, Px, Py, hS⟩, hit⟩ := hrel
  have S := aM hS
  obtain ⟨Ax, cx, rfl, -, -⟩ := hS.now.2.1
  obtain ⟨Ay, cy, rfl, -, -⟩ := hS.f2.now.2.1
  clear hS
  cases gk with
  | zero => cases hit
  | succ k1 =>
  unfold str at hit
  by_cases hE : 0 < xs.length ∨ 0 < ys.length
  case neg =>
   rw [if_neg hE] at hit
   obtain ⟨rfl, rfl⟩ := Prod.mk.inj (sI hit)
   have ZX : Aside0 (xs.length = 0) := ⟨by omega⟩
   have ZY : Aside0 (ys.length = 0) := ⟨by omega⟩
   clear hE hit
   go_wp2_with (first | (go_at_call_of 54 (Value.pointer (some ⟨gx, 0, none⟩)); refine (rs_doneT S.out ZX.out).mono ?_; rintro e wx ⟨rfl, hb1⟩; have S_ := aM (S.out.below hb1); clear S hb1; have S := S_; clear S_) | (go_at_call_of 54 (Value.pointer (some ⟨gy, 0, none⟩)); refine (rs_doneT S.out.f2 ZY.out).mono ?_; rintro e wy ⟨rfl, hb1⟩; have S_ := aM (S.out.below hb1); clear S hb1; have S := S_; clear S_))
   go_ret3
   exact ⟨_, _, rfl, S.out.f4.f4.rows2.2, S.out.f4.f4.rows2.1, S.out.1⟩
  case pos =>
  rw [if_pos hE] at hit
  go_upto_region 7 with (fail)
  go_cut [45] (fun v45 wc => v45 = .bool true ∧ Aside0 (Seps w wc [ID 72 gx (.slice Ax xs.length cx) xs Px, ID 72 gy (.slice Ay ys.length cy) ys Py, IR w u9 ax, IR w u10 bx]))
  case first =>
   by_cases hx : 0 < xs.length
   ·have HX := aM hx
    clear hx hE
    go_wp2_with (first | (go_at_call_of 54 (Value.pointer (some ⟨gx, 0, none⟩)); refine (rs_doneF S.out HX.out).mono ?_; rintro e wx ⟨rfl, hb1⟩; have S_ := aM (S.out.below hb1); clear S hb1; have S := S_; clear S_))
    go_meet
    exact ⟨rfl, S⟩
   ·have ZX : Aside0 (xs.length = 0) := ⟨by omega⟩
    have HY : Aside0 (0 < ys.length) := ⟨hE.resolve_left hx⟩
    clear hx hE
    go_wp2_with (first | (go_at_call_of 54 (Value.pointer (some ⟨gx, 0, none⟩)); refine (rs_doneT S.out ZX.out).mono ?_; rintro e wx ⟨rfl, hb1⟩; have S_ := aM (S.out.below hb1); clear S hb1; have S := S_; clear S_) | (go_at_call_of 54 (Value.pointer (some ⟨gy, 0, none⟩)); refine (rs_doneF S.out.f2 HY.out).mono ?_; rintro e wy ⟨rfl, hb1⟩; have S_ := aM (S.out.below hb1); clear S hb1; have S := S_; clear S_))
    go_meet
    exact ⟨rfl, S⟩
  case rest =>
  clear S
  obtain ⟨rfl, S⟩ := hcut
  by_cases hp : (rd_T44 xs 0).f1.toList = []
  case neg =>
   rw [if_pos hp] at hit
   obtain ⟨⟨p1, xs'⟩, hp1, h1⟩ := oB hit
   obtain ⟨ax1, ha1, h2⟩ := oB h1
   obtain ⟨bx1, hb1, h3⟩ := oB h2
   have P1 := aM hp1
   have A1 := aM ha1
   have B1 := aM hb1
   have HN := aM h3
   have HX := aM (rd0_pos hp)
   obtain ⟨ad, rfl⟩ := S.out.some_ad HX.out
   have hpe : (!(rd_T44 xs 0).f1.toList.isEmpty) = true := by revert hp; cases (rd_T44 xs 0).f1.toList <;> simp
   have hpe2 : ((rd_T44 xs 0).f1.toList != ([] : List UInt8)) = true := by revert hp; cases (rd_T44 xs 0).f1.toList <;> simp
   have hpe3 : (rd_T44 xs 0).f1.toList.isEmpty = false := by revert hp; cases (rd_T44 xs 0).f1.toList <;> simp
   have hxl : (0 : Int) < (xs.length : Int) := by have := HX.out; omega
   have hxl2 : 0 < xs.length := HX.out
   clear hit h1 h2 h3 hp1 ha1 hb1 hE hp
   go_upto_region 9 with (first | (go_at_call_of 54 (Value.pointer (some ⟨gx, 0, none⟩)); refine (rs_doneF S.out HX.out).mono ?_; rintro e wx ⟨rfl, hb1⟩; have S_ := aM (S.out.below hb1); clear S hb1; have S := S_; clear S_; have cgx : wx.cell? ⟨gx, 0, none⟩ = some (.slice (some ad) xs.length cx) := bC S.out.now.1 0; obtain ⟨hx0_, hx1_, hx2_⟩ := S.out.head HX.out; have hgl := World.block_lt_of_cell? _ _ hx0_))
   go_wp2_with (first | (go_at_call_of 56 (Value.pointer (some ⟨gx, 0, none⟩)); refine (rs_sz S.out HX.out).mono ?_; rintro e wa ⟨rfl, hb1⟩; have S_ := aM (S.out.below hb1); clear S hb1; have S := S_; clear S_) | (go_at_call 55; refine (rs_take S.out HGX.out P1.out).mono ?_; rintro e wt ⟨rfl, vx2, Px2, hs⟩; have S2 := aM (hs.addBox (.cells #[.int .i64 p1.f0, .string p1.f1, .string p1.f2] 44)); clear hs) | (go_at_call_of 50 u9; refine (sp_add S2.out.f4 A1.out).mono ?_; rintro e w5 ⟨va2, rfl, hs⟩; have S3 := aM hs; obtain ⟨cp0, cp1, cp2, -, -, -⟩ := hs.f2.c3; clear hs) | (go_at_call_of 50 u10; refine (sp_add S3.out.f5 B1.out).mono ?_; rintro e w6 ⟨vb2, rfl, hs⟩; have S4 := aM hs; clear hs))
   go_roundg k1
   case measure => omega
   case rel => exact ⟨_, _, _, _, ⟨_, _, _, _, S4.out.f3.tail.f2.f4.f4⟩, HN.out⟩
  case pos =>
  rw [if_neg (by simpa using hp)] at hit
  have hpe : (!(rd_T44 xs 0).f1.toList.isEmpty) = false := by rw [hp]; rfl
  have hpe2 : ((rd_T44 xs 0).f1.toList != ([] : List UInt8)) = false := by rw [hp]; rfl
  have hpe3 : (rd_T44 xs 0).f1.toList.isEmpty = true := by rw [hp]; rfl
  clear hp
  go_upto_region 8 with (fail)
  go_cut [58] (fun v58 wc => v58 = .bool false ∧ Aside0 (Seps w wc [ID 72 gx (.slice Ax xs.length cx) xs Px, ID 72 gy (.slice Ay ys.length cy) ys Py, IR w u9 ax, IR w u10 bx]))
  case first =>
   by_cases hx : 0 < xs.length
   ·have HX := aM hx
    obtain ⟨ad, rfl⟩ := S.out.some_ad HX.out
    have hxl : (0 : Int) < (xs.length : Int) := by have := HX.out; omega
    clear hE
    go_wp2_with (first | (go_at_call_of 54 (Value.pointer (some ⟨gx, 0, none⟩)); refine (rs_doneF S.out HX.out).mono ?_; rintro e wx ⟨rfl, hb1⟩; have S_ := aM (S.out.below hb1); clear S hb1; have S := S_; clear S_; have cgx : wx.cell? ⟨gx, 0, none⟩ = some (.slice (some ad) xs.length cx) := bC S.out.now.1 0; obtain ⟨hx0_, hx1_, hx2_⟩ := S.out.head HX.out; have hgl := World.block_lt_of_cell? _ _ hx0_))
    go_meet
    exact ⟨rfl, S⟩
   ·have ZX : Aside0 (xs.length = 0) := ⟨by omega⟩
    clear hx hE
    go_wp2_with (first | (go_at_call_of 54 (Value.pointer (some ⟨gx, 0, none⟩)); refine (rs_doneT S.out ZX.out).mono ?_; rintro e wx ⟨rfl, hb1⟩; have S_ := aM (S.out.below hb1); clear S hb1; have S := S_; clear S_))
    go_meet
    exact ⟨rfl, S⟩
  case rest =>
  clear S
  obtain ⟨rfl, S⟩ := hcut
  by_cases hq : (rd_T44 ys 0).f1.toList = []
  case neg =>
   rw [if_pos hq] at hit
   obtain ⟨⟨q1, ys'⟩, hq1, h1⟩ := oB hit
   obtain ⟨bx1, hb1, h2⟩ := oB h1
   obtain ⟨ax1, ha1, h3⟩ := oB h2
   have Q1 := aM hq1
   have A1 := aM ha1
   have B1 := aM hb1
   have HN := aM h3
   have HY := aM (rd0_pos hq)
   obtain ⟨ad, rfl⟩ := S.out.f2.some_ad HY.out
   have hqe : (!(rd_T44 ys 0).f1.toList.isEmpty) = true := by revert hq; cases (rd_T44 ys 0).f1.toList <;> simp
   have hqe2 : ((rd_T44 ys 0).f1.toList != ([] : List UInt8)) = true := by revert hq; cases (rd_T44 ys 0).f1.toList <;> simp
   have hqe3 : (rd_T44 ys 0).f1.toList.isEmpty = false := by revert hq; cases (rd_T44 ys 0).f1.toList <;> simp
   have hyl : (0 : Int) < (ys.length : Int) := by have := HY.out; omega
   have hyl2 : 0 < ys.length := HY.out
   clear hit h1 h2 h3 hq1 ha1 hb1 hE hq
   go_upto_region 13 with (first | (go_at_call_of 54 (Value.pointer (some ⟨gy, 0, none⟩)); refine (rs_doneF S.out.f2 HY.out).mono ?_; rintro e wy ⟨rfl, hb1⟩; have S_ := aM (S.out.below hb1); clear S hb1; have S := S_; clear S_; have cgy : wy.cell? ⟨gy, 0, none⟩ = some (.slice (some ad) ys.length cy) := bC S.out.f2.now.1 0; obtain ⟨hy0_, hy1_, hy2_⟩ := S.out.f2.head HY.out; have hgl := World.block_lt_of_cell? _ _ hy0_))
   go_wp2_with (first | (go_at_call_of 56 (Value.pointer (some ⟨gy, 0, none⟩)); refine (rs_sz S.out.f2 HY.out).mono ?_; rintro e wb ⟨rfl, hb1⟩; have S_ := aM (S.out.below hb1); clear S hb1; have S := S_; clear S_) | (go_at_call 55; refine (rs_take S.out.f2 HGY.out Q1.out).mono ?_; rintro e wt ⟨rfl, vy2, Py2, hs⟩; have S2 := aM (hs.addBox (.cells #[.int .i64 q1.f0, .string q1.f1, .string q1.f2] 44)); clear hs) | (go_at_call_of 50 u10; refine (sp_add S2.out.f5 B1.out).mono ?_; rintro e w5 ⟨vb2, rfl, hs⟩; have S3 := aM hs; obtain ⟨cp0, cp1, cp2, -, -, -⟩ := hs.f2.c3; clear hs) | (go_at_call_of 50 u9; refine (sp_add S3.out.f5 A1.out).mono ?_; rintro e w6 ⟨va2, rfl, hs⟩; have S4 := aM hs; clear hs))
   go_roundg k1
   case measure => omega
   case rel => exact ⟨_, _, _, _, ⟨_, _, _, _, S4.out.f3.tail.f4.f4.f2⟩, HN.out⟩
  case pos =>
  rw [if_neg (by simpa using hq)] at hit
  have hqe : (!(rd_T44 ys 0).f1.toList.isEmpty) = false := by rw [hq]; rfl
  have hqe2 : ((rd_T44 ys 0).f1.toList != ([] : List UInt8)) = false := by rw [hq]; rfl
  have hqe3 : (rd_T44 ys 0).f1.toList.isEmpty = true := by rw [hq]; rfl
  clear hq
  go_upto_region 12 with (fail)
  go_cut [84] (fun v84 wc => v84 = .bool false ∧ Aside0 (Seps w wc [ID 72 gx (.slice Ax xs.length cx) xs Px, ID 72 gy (.slice Ay ys.length cy) ys Py, IR w u9 ax, IR w u10 bx]))
  case first =>
   by_cases hy : 0 < ys.length
   ·have HY := aM hy
    obtain ⟨ad, rfl⟩ := S.out.f2.some_ad HY.out
    have hyl : (0 : Int) < (ys.length : Int) := by have := HY.out; omega
    clear hE
    go_wp2_with (first | (go_at_call_of 54 (Value.pointer (some ⟨gy, 0, none⟩)); refine (rs_doneF S.out.f2 HY.out).mono ?_; rintro e wy ⟨rfl, hb1⟩; have S_ := aM (S.out.below hb1); clear S hb1; have S := S_; clear S_; have cgy : wy.cell? ⟨gy, 0, none⟩ = some (.slice (some ad) ys.length cy) := bC S.out.f2.now.1 0; obtain ⟨hy0_, hy1_, hy2_⟩ := S.out.f2.head HY.out; have hgl := World.block_lt_of_cell? _ _ hy0_))
    go_meet
    exact ⟨rfl, S⟩
   ·have ZY : Aside0 (ys.length = 0) := ⟨by omega⟩
    clear hy hE
    go_wp2_with (first | (go_at_call_of 54 (Value.pointer (some ⟨gy, 0, none⟩)); refine (rs_doneT S.out.f2 ZY.out).mono ?_; rintro e wy ⟨rfl, hb1⟩; have S_ := aM (S.out.below hb1); clear S hb1; have S := S_; clear S_))
    go_meet
    exact ⟨rfl, S⟩
  case rest =>
  clear S
  obtain ⟨rfl, S⟩ := hcut
  by_cases hb : 0 < xs.length ∧ 0 < ys.length
  case neg => rw [if_neg hb] at hit; cases hit
  rw [if_pos hb] at hit
  have HX := aM hb.1
  have HY := aM hb.2
  clear hb hE
  obtain ⟨⟨p1, xs'⟩, hp1, h1⟩ := oB hit
  obtain ⟨⟨q1, ys'⟩, hq1, h2⟩ := oB h1
  obtain ⟨ax1, ha1, h3⟩ := oB h2
  obtain ⟨bx1, hb1, h4⟩ := oB h3
  have A1 := aM ha1
  have B1 := aM hb1
  have HN := aM h4
  clear hit h1 h2 h3 h4 ha1 hb1
  by_cases hc : psz (rd_T44 ys 0) < psz (rd_T44 xs 0)
  all_goals
   first | rw [if_pos hc] at hp1 hq1 | rw [if_neg hc] at hp1 hq1
   have P1 := aM hp1
   have Q1 := aM hq1
   clear hp1 hq1
   go_upto_region 19 with (first | (go_at_call_of 56 (Value.pointer (some ⟨gx, 0, none⟩)); refine (rs_sz S.out HX.out).mono ?_; rintro e wa ⟨rfl, hb1⟩; have S_ := aM (S.out.below hb1); clear S hb1; have S := S_; clear S_) | (go_at_call_of 56 (Value.pointer (some ⟨gy, 0, none⟩)); refine (rs_sz S.out.f2 HY.out).mono ?_; rintro e wb ⟨rfl, hb1⟩; have S_ := aM (S.out.below hb1); clear S hb1; have S := S_; clear S_))
   go_upto_region 21 with (first | (go_at_call_of 55 (Value.pointer (some ⟨gx, 0, none⟩)); refine (rs_take S.out HGX.out P1.out).mono ?_; rintro e wt ⟨rfl, vx2, Px2, hs⟩; have S2 := aM (hs.addBox (.cells #[.int .i64 p1.f0, .string p1.f1, .string p1.f2] 44)); clear hs) | (go_at_call_of 55 (Value.pointer (some ⟨gy, 0, none⟩)); refine (rs_take S2.out.f3 HGY.out Q1.out).mono ?_; rintro e wu ⟨rfl, vy2, Py2, hs⟩; have S3 := aM (hs.addBox (.cells #[.int .i64 q1.f0, .string q1.f1, .string q1.f2] 44)); obtain ⟨cp0, cp1, cp2, -, -, -⟩ := hs.f2.c3; have hplt := hs.f2.lt; clear hs))
   by_cases hq0 : 0 < q1.f0
   ·by_cases hp0 : 0 < p1.f0
    ·have HA1 := A1.out
     have HB1 := B1.out
     simp only [if_pos hq0] at HA1
     simp only [if_pos hp0] at HB1
     have dq0 : decide (q1.f0 > 0) = true := dT hq0
     have dp0 : decide (p1.f0 > 0) = true := dT hp0
     have A1' := aM HA1
     have B1' := aM HB1
     clear HA1
     clear HB1
     clear A1 B1 hq0 hp0 hc
     go_wp2_with (first | (go_at_call_of 50 u9; refine (sp_add S3.out.f5 A1'.out).mono ?_; rintro e w5 ⟨va2, rfl, hs⟩; have S4 := aM hs; (try clear cp0 cp1 cp2); obtain ⟨cp0, cp1, cp2, -, -, -⟩ := hs.f4.c3; obtain ⟨cq0, cq1, cq2, -, -, -⟩ := hs.f2.c3; clear hs) | (go_at_call_of 50 u10; refine (sp_add S4.out.f6 B1'.out).mono ?_; rintro e w6 ⟨vb2, rfl, hs⟩; have S5 := aM hs; clear hs))
     go_roundg k1
     case measure => omega
     case rel => exact ⟨_, _, _, _, ⟨_, _, _, _, S5.out.f3.tail.f4.tail.f2.f4.f4.f2⟩, HN.out⟩
    ·have HA1 := A1.out
     have HB1 := B1.out
     simp only [if_pos hq0] at HA1
     simp only [if_neg hp0] at HB1
     have dq0 : decide (q1.f0 > 0) = true := dT hq0
     have dp0 : decide (p1.f0 > 0) = false := dF hp0
     have A1' := aM HA1
     obtain rfl := sI HB1
     clear HA1
     clear A1 B1 hq0 hp0 hc
     go_wp2_with (first | (go_at_call_of 50 u9; refine (sp_add S3.out.f5 A1'.out).mono ?_; rintro e w5 ⟨va2, rfl, hs⟩; have S4 := aM hs; (try clear cp0 cp1 cp2); obtain ⟨cp0, cp1, cp2, -, -, -⟩ := hs.f4.c3; obtain ⟨cq0, cq1, cq2, -, -, -⟩ := hs.f2.c3; clear hs))
     go_roundg k1
     case measure => omega
     case rel => exact ⟨_, _, _, _, ⟨_, _, _, _, S4.out.f6.f3.tail.f4.tail.f2.f4.f4.f2⟩, HN.out⟩
   ·by_cases hp0 : 0 < p1.f0
    ·have HA1 := A1.out
     have HB1 := B1.out
     simp only [if_neg hq0] at HA1
     simp only [if_pos hp0] at HB1
     have dq0 : decide (q1.f0 > 0) = false := dF hq0
     have dp0 : decide (p1.f0 > 0) = true := dT hp0
     obtain rfl := sI HA1
     have B1' := aM HB1
     clear HB1
     clear A1 B1 hq0 hp0 hc
     go_wp2_with (first | (go_at_call_of 50 u10; refine (sp_add S3.out.f5.f6 B1'.out).mono ?_; rintro e w6 ⟨vb2, rfl, hs⟩; have S5 := aM hs; clear hs))
     go_roundg k1
     case measure => omega
     case rel => exact ⟨_, _, _, _, ⟨_, _, _, _, S5.out.f3.tail.f4.tail.f2.f4.f4.f2⟩, HN.out⟩
    ·have HA1 := A1.out
     have HB1 := B1.out
     simp only [if_neg hq0] at HA1
     simp only [if_neg hp0] at HB1
     have dq0 : decide (q1.f0 > 0) = false := dF hq0
     have dp0 : decide (p1.f0 > 0) = false := dF hp0
     obtain rfl := sI HA1
     obtain rfl := sI HB1
     clear A1 B1 hq0 hp0 hc
     go_wp2
     go_roundg k1
     case measure => omega
     case rel => exact ⟨_, _, _, _, ⟨_, _, _, _, S3.out.f5.f6.f3.tail.f4.tail.f2.f4.f4.f2⟩, HN.out⟩

end Go.Proofs.Ytifllccpfiobfaa.AFnExactMergeThree
