-- this session's own text: written by wip/tools/ownprint.py over the kit's print
import Derived.Test.YtpbelbckinpinaaAFnDiffx0
import Derived.Test.YtpbelbckinpinaaAFnDiffx4
import Derived.Test.YtpbelbckinpinaaAFnDiffx7
import Derived.Test.YtpbelbckinpinaaAFnDiffx8
namespace Go.Proofs.Ytpbelbckinpinaa.AFnDiff
open Go.RowKit Go.Proofs.YtpbelbckinpinaaW.PrintWords Go.Proofs.YtpbelbckinpinaaW.PrintLast Go.Proofs.YtpbelbckinpinaaW.PrintMore
attribute [local go_sem] max2_int min2_int max_two min_two max_three min_three max_four min_four   -- for this text's walks alone
set_option linter.unusedVariables false
set_option linter.unusedSimpArgs false

/-! ### impl_maker_end: function 100, by hand -/

/-! ### impl_maker_keep: function 54, by hand -/

/-! ### impl_maker_take: function 55, by hand -/

/-! ### impl_goodOp: function 56 -/
def impl_goodOp.f (k : Nat) (l0 : List (S74)) : Option ((List (S74)) × Bool) := (impl_GoodOp.f k l0).bind fun t242 => (if t242 = true then (some (l0, true)) else (some (([] : List (S74)), false)))
theorem impl_goodOp.mono : ∀ a0 k, LeO (impl_goodOp.f k a0) (impl_goodOp.f (k + 1) a0) := by
 intro a0 k
 unfold impl_goodOp.f
 repeat' first
   | (with_reducible exact impl_GoodOp.mono _ _)
   | (with_reducible exact LeO.refl _)
   | (with_reducible exact LeO.none _)
   | (with_reducible refine LeO.ite ?_ ?_)
   | (with_reducible refine LeO.bind ?_ (fun _ => ?_))
   | exact impl_GoodOp.mono _ _
   | exact LeO.none _
   | refine LeO.ite ?_ ?_
   | refine LeO.bind ?_ (fun _ => ?_)
set_option maxHeartbeats 8000000 in
set_option maxRecDepth 100000 in
theorem impl_goodOp.calls (k : Nat) (P0_ : Nat → Prop) (u9000_ : Value) (l0 : List (S74)) (r1 : List (S74)) (r2 : Bool) (w0 w : World) (hB : Below w0.heap.size w0 w) (ho0 : Kd.R k74 74 w w0.heap.size P0_ u9000_ l0) (h : impl_goodOp.f k l0 = some (r1, r2)) :
  Calls Try.prog 56 #[u9000_] w fun e w' => ∃ v0_ : Value, e = .returned (.tuple #[v0_, .bool r2]) ∧ Kd.R k74 74 w' w0.heap.size (fun k_ => (P0_ k_ ∨ w.heap.size ≤ k_)) v0_ r1 ∧ Below w0.heap.size w0 w' ∧ Kept w w' (fun k_ => P0_ k_) := by
 have HO0 := Aside0.mk (show Kd.R k74 74 w w0.heap.size (fun k_ => (P0_ k_ ∨ w.heap.size ≤ k_)) u9000_ l0 from Kd.R_mono ho0 (fun k_ hk => (.inl hk)))
 have HK := Aside0.mk (Kept.refl w (fun k_ => P0_ k_))
 have HW0 := Aside0.mk hB.size
 have HB := Aside0.mk hB
 clear hB
 have H : ((impl_GoodOp.f k l0).bind fun t242 => (if t242 = true then (some (l0, true)) else (some (([] : List (S74)), false)))) = some (r1, r2) := h
 clear h
 replace H := Option.bind_eq_some_iff.mp H
 obtain ⟨t242, A20, H⟩ := H
 try dsimp only at H
 have A2 := Aside0.mk A20
 clear A20
 by_cases c3 : t242 = true
 ·subst c3
  rw [if_pos rfl] at H
  simp only [Option.some.injEq, Prod.mk.injEq] at H
  obtain ⟨rfl, rfl⟩ := H
  obtain ⟨Ao4, co4, eo4⟩ := Kd.R_slice HO0.out
  subst eo4
  go_enter Try.func56, Try.ntmps56
  go_wp2_with (first | ((with_reducible refine gate_callee (f := 48) rfl ?_); refine goesL_ (some 5) rfl rfl Try.func48 z0 rfl #[.slice Ao4 l0.length co4] rfl z7 ?_; (with_reducible refine (impl_GoodOp.calls k _ _ l0 true _ ?side1 ?side2 A2.out).mono ?_); (case side1 => repeat (first | exact (Kd.R_reads' HO0.out).2.2 | (with_reducible refine Kd.C_alloc ?_ _) | (with_reducible refine Kd.C_drewN ?_ _) | (with_reducible refine Kd.C_drew ?_))); (case side2 => exact (Kd.R_reads' HO0.out).2.1); rintro e w5 ⟨rfl, hb⟩; refine ⟨_, rfl, ?_⟩; have n0_ := Aside0.mk (Kd.R_below (by (with_reducible repeat (first | apply Kd.R_alloc | apply Kd.R_drewN | apply Kd.R_drew)); exact HO0.out) hb); have n1_ := Aside0.mk (Kept.below (S := (fun k_ => P0_ k_)) (by repeat (first | (with_reducible first | exact HK.out | apply Kept.alloc | apply Kept.drewN | apply Kept.drew) | exact HK.out)) hb); have n2_ := Aside0.mk (below_step z6 hb); clear HO0; clear HK; clear HB; have HO0 := n0_; have HK := n1_; have HB := n2_; clear n0_ n1_ n2_; (try clear hb); (try clear hb2); (try clear hk); (try clear hi)))
  go_ret2
  exact ⟨_, by first | rfl | (simp [errW_none, errW_some] <;> rfl) | (simp [*, errW_none, errW_some] <;> rfl), by (with_reducible repeat (first | apply Kd.R_alloc | apply Kd.R_drewN | apply Kd.R_drew)); exact HO0.out, by repeat (first | (with_reducible first | exact HB.out | apply below_alloc | apply pw_below_drewN | apply below_drew1) | exact HB.out), by repeat (first | (with_reducible first | exact HK.out | apply Kept.alloc | apply Kept.drewN | apply Kept.drew) | exact HK.out)⟩
 ·replace c3 := Bool.eq_false_iff.mpr c3
  subst c3
  rw [if_neg (show ¬ (false = true) by decide)] at H
  simp only [Option.some.injEq, Prod.mk.injEq] at H
  obtain ⟨rfl, rfl⟩ := H
  obtain ⟨Ao6, co6, eo6⟩ := Kd.R_slice HO0.out
  subst eo6
  go_enter Try.func56, Try.ntmps56
  go_wp2_with (first | ((with_reducible refine gate_callee (f := 48) rfl ?_); refine goesL_ (some 5) rfl rfl Try.func48 z0 rfl #[.slice Ao6 l0.length co6] rfl z7 ?_; (with_reducible refine (impl_GoodOp.calls k _ _ l0 false _ ?side1 ?side2 A2.out).mono ?_); (case side1 => repeat (first | exact (Kd.R_reads' HO0.out).2.2 | (with_reducible refine Kd.C_alloc ?_ _) | (with_reducible refine Kd.C_drewN ?_ _) | (with_reducible refine Kd.C_drew ?_))); (case side2 => exact (Kd.R_reads' HO0.out).2.1); rintro e w7 ⟨rfl, hb⟩; refine ⟨_, rfl, ?_⟩; have n0_ := Aside0.mk (Kd.R_below (by (with_reducible repeat (first | apply Kd.R_alloc | apply Kd.R_drewN | apply Kd.R_drew)); exact HO0.out) hb); have n1_ := Aside0.mk (Kept.below (S := (fun k_ => P0_ k_)) (by repeat (first | (with_reducible first | exact HK.out | apply Kept.alloc | apply Kept.drewN | apply Kept.drew) | exact HK.out)) hb); have n2_ := Aside0.mk (below_step z6 hb); clear HO0; clear HK; clear HB; have HO0 := n0_; have HK := n1_; have HB := n2_; clear n0_ n1_ n2_; (try clear hb); (try clear hb2); (try clear hk); (try clear hi)))
  go_ret2
  exact ⟨_, by first | rfl | (simp [errW_none, errW_some] <;> rfl) | (simp [*, errW_none, errW_some] <;> rfl), by first | exact Kd.R_nil _ _ _ _ _ | exact Kd.N_nil _ _ _ _ _ | exact Kd.V_nil _ _ _ _ _ | exact Kd.Q_nil _ _ _ _ _ | exact Kd.S_nil _ _ _ _ _, by repeat (first | (with_reducible first | exact HB.out | apply below_alloc | apply pw_below_drewN | apply below_drew1) | exact HB.out), by repeat (first | (with_reducible first | exact HK.out | apply Kept.alloc | apply Kept.drewN | apply Kept.drew) | exact HK.out)⟩

/-! ### impl_maker_made: function 57, by hand -/
def Mk (w0 w : World) (g : Nat) (v : Value) (out : List S74) (put drop : ByteArray) : Prop :=
 w.heap[g]? = some (.cells #[v, .string put, .string drop] 81 (0, 0)) ∧ Kd.R k74 74 w w0.heap.size (fun _ => True) v out ∧ Below w0.heap.size w0 w ∧ w0.heap.size ≤ g
def MkTo (w w' : World) (g : Nat) (v v' : Value) : Prop := Kept w w' (fun k => k = g ∨ some k = v.ownBlock) ∧ (v'.ownBlock = v.ownBlock ∨ ∃ b, v'.ownBlock = some b ∧ w.heap.size ≤ b)
theorem MkTo.refl (w : World) (g : Nat) (v : Value) : MkTo w w g v v := ⟨Kept.refl _ _, .inl rfl⟩
theorem MkTo.trans {w w1 w2 : World} {g : Nat} {v v1 v2 : Value} (h : MkTo w w1 g v v1) (k : MkTo w1 w2 g v1 v2) : MkTo w w2 g v v2 := by
 obtain ⟨h1, h2⟩ := h
 obtain ⟨k1, k2⟩ := k
 refine ⟨h1.then_ k1 (fun b hb => ?_), ?_⟩
 ·rcases hb with rfl | hb
  ·exact .inl (.inl rfl)
  ·rcases h2 with h2 | ⟨b', h2, hle⟩
   ·rw [h2] at hb; exact .inl (.inr hb)
   ·rw [h2] at hb; injection hb with hb; exact .inr (by omega)
 ·rcases k2 with k2 | ⟨b', k2, hle⟩
  ·rw [k2]; exact h2
  ·exact .inr ⟨b', k2, Nat.le_trans h1.1 hle⟩
theorem Mk.alloc {w0 w : World} {g : Nat} {v : Value} {out : List S74} {put drop : ByteArray} (h : Mk w0 w g v out put drop) (o : Obj) : Mk w0 (w.alloc o) g v out put drop :=
 ⟨blk_alloc h.1 o, Kd.R_alloc h.2.1 o, h.2.2.1.alloc h.2.2.1.size o, h.2.2.2⟩
theorem Mk.drew {w0 w : World} {g : Nat} {v : Value} {out : List S74} {put drop : ByteArray} (h : Mk w0 w g v out put drop) : Mk w0 w.drew g v out put drop :=
 ⟨blk_drew h.1, Kd.R_drew h.2.1, below_drew h.2.2.1, h.2.2.2⟩
theorem Mk.drewN {w0 w : World} {g : Nat} {v : Value} {out : List S74} {put drop : ByteArray} (h : Mk w0 w g v out put drop) (n : Nat) : Mk w0 (w.drewN n) g v out put drop :=
 ⟨blk_drewN h.1 n, Kd.R_drewN h.2.1 n, pw_below_drewN h.2.2.1 n, h.2.2.2⟩
theorem Mk.below {w0 w w' : World} {g : Nat} {v : Value} {out : List S74} {put drop : ByteArray} (h : Mk w0 w g v out put drop) (hb : Below w.heap.size w w') : Mk w0 w' g v out put drop :=
 ⟨blk_below h.1 hb, Kd.R_below h.2.1 hb, below_then h.2.2.1 h.2.2.1.size hb, h.2.2.2⟩
theorem MkTo.alloc {w w' : World} {g : Nat} {v v' : Value} (h : MkTo w w' g v v') (o : Obj) : MkTo w (w'.alloc o) g v v' := ⟨h.1.alloc o, h.2⟩
theorem MkTo.drew {w w' : World} {g : Nat} {v v' : Value} (h : MkTo w w' g v v') : MkTo w w'.drew g v v' := ⟨h.1.drew, h.2⟩
theorem MkTo.drewN {w w' : World} {g : Nat} {v v' : Value} (h : MkTo w w' g v v') (n : Nat) : MkTo w (w'.drewN n) g v v' := ⟨h.1.drewN n, h.2⟩
theorem MkTo.below {w w' w2 : World} {g : Nat} {v v' : Value} (h : MkTo w w' g v v') (hb : Below w'.heap.size w' w2) : MkTo w w2 g v v' := ⟨h.1.below hb, h.2⟩
theorem Mk.far {w0 w : World} {g : Nat} {v : Value} {out : List S74} {put drop : ByteArray} (h : Mk w0 w g v out put drop) : ∀ k, v.ownBlock = some k → k ≠ g := fun k hk e => Kd.R_ne h.2.1 h.1 (by decide) (by rw [hk, e])
theorem Mk.set1 {w0 w : World} {g : Nat} {v : Value} {out : List S74} {put drop : ByteArray} (h : Mk w0 w g v out put drop) (s : ByteArray) : Mk w0 (w.setCell ⟨g, 1, none⟩ (.string s)) g v out s drop :=
 ⟨by simpa using blk_set h.1 1 (.string s), Kd.R_set h.2.1 h.1 (by decide) 1 _, below_set h.2.2.1 h.2.2.2, h.2.2.2⟩
theorem Mk.set2 {w0 w : World} {g : Nat} {v : Value} {out : List S74} {put drop : ByteArray} (h : Mk w0 w g v out put drop) (s : ByteArray) : Mk w0 (w.setCell ⟨g, 2, none⟩ (.string s)) g v out put s :=
 ⟨by simpa using blk_set h.1 2 (.string s), Kd.R_set h.2.1 h.1 (by decide) 2 _, below_set h.2.2.1 h.2.2.2, h.2.2.2⟩
theorem MkTo.set {w w' : World} {g : Nat} {v v' : Value} (h : MkTo w w' g v v') (j : Nat) (u : Value) : MkTo w (w'.setCell ⟨g, j, none⟩ u) g v v' := ⟨h.1.setCell (.inl (.inl rfl)) u, h.2⟩
/-- an append, and its store into the field -/
theorem Mk.app {w0 w w1 : World} {g : Nat} {v v1 : Value} {out out1 : List S74} {put drop : ByteArray} (h : Mk w0 w g v out put drop) (hr : Kd.R k74 74 w1 w0.heap.size (fun _ => True) v1 out1) (hb : Below w0.heap.size w0 w1) (hg : w.grownBy w1 v.ownBlock) : Mk w0 (w1.setCell ⟨g, 0, none⟩ v1) g v1 out1 put drop := by
 have hk := blk_grown h.1 hg (Kd.R_ne h.2.1 h.1 (by decide))
 exact ⟨by simpa using blk_set hk 0 v1, Kd.R_set hr hk (by decide) 0 _, below_set hb h.2.2.2, h.2.2.2⟩
theorem MkTo.app {w w1 : World} {g : Nat} {v v1 : Value} (hg : w.grownBy w1 v.ownBlock) (hat : v1.ownBlock = v.ownBlock ∨ ∃ b, v1.ownBlock = some b ∧ w.heap.size ≤ b) (u : Value) : MkTo w (w1.setCell ⟨g, 0, none⟩ u) g v v1 :=
 ⟨(Kept.of_grown hg (Kept.refl w _) (fun k hk => .inl (.inr hk.symm))).setCell (.inl (.inl rfl)) u, hat⟩
theorem Mk.cells {w0 w : World} {g : Nat} {v : Value} {out : List S74} {put drop : ByteArray} (h : Mk w0 w g v out put drop) :
  w.cell? ⟨g, 0, none⟩ = some v ∧ w.cell? ⟨g, 1, none⟩ = some (.string put) ∧ w.cell? ⟨g, 2, none⟩ = some (.string drop) ∧ w.frozen? ⟨g, 0, none⟩ = false ∧ w.frozen? ⟨g, 1, none⟩ = false ∧ w.frozen? ⟨g, 2, none⟩ = false :=
 ⟨blk_cell h.1 0, blk_cell h.1 1, blk_cell h.1 2, blk_frozen h.1 0, blk_frozen h.1 1, blk_frozen h.1 2⟩
def ends (put drop : ByteArray) : List S74 := (if put.toList = [] then [] else [⟨0, put, ⟨#[]⟩⟩]) ++ (if drop.toList = [] then [] else [⟨0, ⟨#[]⟩, drop⟩])
def Mid1 (w0 w : World) (g : Nat) (v : Value) (out : List S74) (put drop : ByteArray) (wx : World) : Prop := ∃ v', Mk w0 wx g v' out put drop ∧ MkTo w wx g v v'
set_option maxHeartbeats 1000000 in
theorem mk_end (w0 w : World) (g : Nat) (v : Value) (out : List S74) (put drop : ByteArray) (h : Mk w0 w g v out put drop) (hl : out.length + 2 ≤ 3518437208883) :
  Calls Try.prog 100 #[.pointer (some ⟨g, 0, none⟩)] w fun e w' => e = .returned (.tuple #[]) ∧ Mid1 w0 w g v (out ++ ends put drop) ⟨#[]⟩ ⟨#[]⟩ w' := by
 have HL := Aside0.mk hl
 have HM := Aside0.mk h
 obtain ⟨c0, c1, c2, f0, f1, f2⟩ := h.cells
 obtain ⟨A, c, rfl, -, -⟩ := Kd.R_reads h.2.1
 have a0 : ∀ o, (w.alloc o).cell? ⟨g, 0, none⟩ = some (.slice A out.length c) := fun o => blk_cell (blk_alloc h.1 o) 0
 clear h hl
 go_enter Try.func100, Try.ntmps100
 go_upto_if 6 with fail
 go_cut [] (fun wx => Mid1 w0 w g (.slice A out.length c) (out ++ (if put.toList = [] then [] else [⟨0, put, ⟨#[]⟩⟩])) put drop wx)
 case first =>
  by_cases hp : put.toList = []
  ·have e : (!put.toList.isEmpty) = false := by simp [hp]
   have e2 : put.toList.isEmpty = true := by simp [hp]
   have HM' : Aside0 (Mid1 w0 w g (.slice A out.length c) (out ++ (if put.toList = [] then [] else [⟨0, put, ⟨#[]⟩⟩])) put drop w) := ⟨by rw [if_pos hp, List.append_nil]; exact ⟨_, HM.out, MkTo.refl _ _ _⟩⟩
   clear hp
   rw [e]
   go_wp2_with fail
   go_meet
   exact HM'.out
  ·have e : (!put.toList.isEmpty) = true := by simp [hp]
   have e2 : put.toList.isEmpty = false := by simp [hp]
   have hi : Aside0 ((if put.toList = [] then [] else [(⟨0, put, ⟨#[]⟩⟩ : S74)]) = [⟨0, put, ⟨#[]⟩⟩]) := ⟨if_neg hp⟩
   clear hp
   rw [e]
   go_wp2_with fail
   go_region_law? (refine Kd.R_append_step k74 (w0 := w0) (W := w.drew) w0.heap.size ?hw (.tmp 11) (.tmp 17) 26 74 (.agg #[(.int .i64 0), (.string ⟨#[]⟩), (.string ⟨#[]⟩)]) 40 ?ho Try.underlying26 info74 rfl (by decide) (by decide) (.slice A out.length c) out (⟨0, put, ⟨#[]⟩⟩ : S74) [.int .i64 0, .string put, .string ⟨#[]⟩] (fun _ => True) (fun _ => False) ?hs ?hx ?aP (fun _ h => h.elim) (fun _ _ => trivial) ?aO ?aB ?aS ?aL ?_; (case aL => have := HL.out; omega); (case hw => rfl); (case ho => rfl); (case hs => rfl); (case hx => rfl); (case aP => exact k74_mkM _ _ _ _); (case aB => exact HM.out.drew.2.2.1); (case aO => exact HM.out.drew.2.1); (case aS => exact HM.out.drew.2.2.1.size); intro v1 w1 ho1 hb1 hg1 hat1; obtain ⟨A1, c1, eo1, -, -⟩ := Kd.R_reads ho1; rw [List.length_append, List.length_singleton] at eo1; subst eo1; have hk1 := blk_grown HM.out.drew.1 hg1 (Kd.R_ne HM.out.drew.2.1 HM.out.drew.1 (by decide)); have d0 : w1.cell? ⟨g, 0, none⟩ = _ := blk_cell hk1 0; have e0 := blk_frozen hk1 0; have HM1 := Aside0.mk (Mk.app HM.out.drew ho1 hb1 hg1); have HT1 : Aside0 (MkTo w (w1.setCell ⟨g, 0, none⟩ (.slice A1 (out.length + 1) c1)) g (.slice A out.length c) (.slice A1 (out.length + 1) c1)) := ⟨MkTo.app hg1 hat1 _⟩; clear ho1 hb1 hg1 hk1 hat1)
   all_goals
    go_wp2_with fail
    go_meet
    rw [hi.out]
    exact ⟨_, HM1.out, HT1.out⟩
 case rest =>
  obtain ⟨v2, h2, ht2⟩ := hcut
  obtain ⟨out2, hout2⟩ : ∃ o2, out ++ (if put.toList = [] then [] else [⟨0, put, ⟨#[]⟩⟩]) = o2 := ⟨_, rfl⟩
  have HO2 := Aside0.mk hout2
  rw [hout2] at h2
  have HL2 : Aside0 (out2.length + 1 ≤ 3518437208883) := ⟨by have := HL.out; rw [← hout2]; split <;> simp <;> omega⟩
  clear hout2 c0 c1 c2 f0 f1 f2 a0
  have HM2 := Aside0.mk h2
  have HT2 := Aside0.mk ht2
  obtain ⟨c0, c1, c2, f0, f1, f2⟩ := h2.cells
  obtain ⟨A2, cc2, rfl, -, -⟩ := Kd.R_reads h2.2.1
  have a0 : ∀ o, (wc.alloc o).cell? ⟨g, 0, none⟩ = some (.slice A2 out2.length cc2) := fun o => blk_cell (blk_alloc h2.1 o) 0
  clear h2 ht2
  go_upto_if 25 with fail
  go_cut [] (fun wx => Mid1 w0 w g (.slice A out.length c) (out ++ ends put drop) put drop wx)
  case first =>
   by_cases hp : drop.toList = []
   ·have e : (!drop.toList.isEmpty) = false := by simp [hp]
    have HM' : Aside0 (Mid1 w0 w g (.slice A out.length c) (out ++ ends put drop) put drop wc) := ⟨by unfold ends; rw [if_pos hp, List.append_nil, HO2.out]; exact ⟨_, HM2.out, HT2.out⟩⟩
    clear hp
    rw [e]
    go_wp2_with fail
    go_meet
    exact HM'.out
   ·have e : (!drop.toList.isEmpty) = true := by simp [hp]
    have hi : Aside0 (out ++ ends put drop = out2 ++ [(⟨0, ⟨#[]⟩, drop⟩ : S74)]) := ⟨by unfold ends; rw [if_neg hp, ← List.append_assoc, HO2.out]⟩
    clear hp
    rw [e]
    go_wp2_with fail
    go_region_law (refine Kd.R_append_step k74 (w0 := w0) (W := wc.drew) w0.heap.size ?hw (.tmp 30) (.tmp 36) 26 74 (.agg #[(.int .i64 0), (.string ⟨#[]⟩), (.string ⟨#[]⟩)]) 40 ?ho Try.underlying26 info74 rfl (by decide) (by decide) (.slice A2 out2.length cc2) out2 (⟨0, ⟨#[]⟩, drop⟩ : S74) [.int .i64 0, .string ⟨#[]⟩, .string drop] (fun _ => True) (fun _ => False) ?hs ?hx ?aP (fun _ h => h.elim) (fun _ _ => trivial) ?aO ?aB ?aS ?aL ?_; (case aL => have := HL2.out; omega); (case hw => rfl); (case ho => rfl); (case hs => rfl); (case hx => rfl); (case aP => exact k74_mkM _ _ _ _); (case aB => exact HM2.out.drew.2.2.1); (case aO => exact HM2.out.drew.2.1); (case aS => exact HM2.out.drew.2.2.1.size); intro v1 w1 ho1 hb1 hg1 hat1; obtain ⟨A1, c1, eo1, -, -⟩ := Kd.R_reads ho1; rw [List.length_append, List.length_singleton] at eo1; subst eo1; have hk1 := blk_grown HM2.out.drew.1 hg1 (Kd.R_ne HM2.out.drew.2.1 HM2.out.drew.1 (by decide)); have d0 : w1.cell? ⟨g, 0, none⟩ = _ := blk_cell hk1 0; have e0 := blk_frozen hk1 0; have HM1 := Aside0.mk (Mk.app HM2.out.drew ho1 hb1 hg1); have HT1 : Aside0 (MkTo wc (w1.setCell ⟨g, 0, none⟩ (.slice A1 (out2.length + 1) c1)) g (.slice A2 out2.length cc2) (.slice A1 (out2.length + 1) c1)) := ⟨MkTo.app hg1 hat1 _⟩; clear ho1 hb1 hg1 hk1 hat1)
    all_goals
     go_wp2_with fail
     go_meet
     rw [hi.out]
     exact ⟨_, HM1.out, HT2.out.trans HT1.out⟩
  case rest =>
   obtain ⟨v3, h3, ht3⟩ := hcut
   clear c0 c1 c2 f0 f1 f2 a0 HM2 HT2
   have HM3 := Aside0.mk h3
   have HT3 := Aside0.mk ht3
   obtain ⟨c0, c1, c2, f0, f1, f2⟩ := h3.cells
   clear h3 ht3
   go_wp2
   go_end0
   exact ⟨rfl, _, (HM3.out.set1 _).set2 _, (HT3.out.set _ _).set _ _⟩
/-- The field Keep of element i is written. -/
theorem k74_set0 {W : World} {base g2 n cap : Nat} {ok : Nat → Prop} {xs : List S74} (h : Kd.R k74 74 W base ok (.slice (some ⟨g2, 0, none⟩) n cap) xs) (i : Int) (h0 : 0 ≤ i) (h1 : i < n) (x : Int) :
  Kd.R k74 74 (W.setCell ⟨g2, i.toNat * 3, none⟩ (.int .i64 x)) base ok (.slice (some ⟨g2, 0, none⟩) n cap) (xs.set i.toNat ⟨x, (rd_T74 xs i).f1, (rd_T74 xs i).f2⟩) ∧ W.grownBy (W.setCell ⟨g2, i.toNat * 3, none⟩ (.int .i64 x)) (some g2) := by
 obtain ⟨c, hl, hM, hc, -⟩ := Kd.R_elem h z74 i h0 h1
 have hM' := hM
 obtain rfl := k74_openM hM'
 exact Kd.R_seg (d := k74) (seg := [.int .i64 x]) (j := 0) (okp := fun k => ok k ∧ k ≠ g2) h i h0 h1 hl hc (show 0 + 1 ≤ 3 by omega) (k74_mkM _ _ _ (⟨x, (rd_T74 xs i).f1, (rd_T74 xs i).f2⟩ : S74)) (fun _ hk => hk)
def keepO (o : List S74) (n : Int) : List S74 := if 0 < o.length ∧ (rd_T74 o ((o.length : Int) - 1)).f0 > 0 then o.set (o.length - 1) ⟨wrap64 ((rd_T74 o ((o.length : Int) - 1)).f0 + n), (rd_T74 o ((o.length : Int) - 1)).f1, (rd_T74 o ((o.length : Int) - 1)).f2⟩ else o ++ [⟨n, ⟨#[]⟩, ⟨#[]⟩⟩]
theorem ends_le (put drop : ByteArray) : (ends put drop).length ≤ 2 := by
 unfold ends
 split <;> split <;> simp
theorem mk_keep0 (w0 w : World) (g : Nat) (v : Value) (out : List S74) (put drop : ByteArray) (h : Mk w0 w g v out put drop) :
  Calls Try.prog 54 #[.pointer (some ⟨g, 0, none⟩), .int .i64 0] w fun e w' => e = .returned (.tuple #[]) ∧ Mid1 w0 w g v out put drop w' := by
 have HM := Aside0.mk h
 clear h
 go_enter Try.func54, Try.ntmps54
 go_wp2
 refine bodyPost_ret (results_none rfl _ _ _) rfl ?_
 exact ⟨rfl, _, HM.out, MkTo.refl _ _ _⟩
set_option maxHeartbeats 1000000 in
theorem mk_keepA (w0 w : World) (g : Nat) (v : Value) (out : List S74) (put drop : ByteArray) (n : Int) (hn : n ≠ 0) (h : Mk w0 w g v out put drop) (hl : out.length + 3 ≤ 3518437208883)
  (hc : ¬ (0 < (out ++ ends put drop).length)) :
  Calls Try.prog 54 #[.pointer (some ⟨g, 0, none⟩), .int .i64 n] w fun e w' => e = .returned (.tuple #[]) ∧ Mid1 w0 w g v (keepO (out ++ ends put drop) n) ⟨#[]⟩ ⟨#[]⟩ w' := by
 have HL : Aside0 (out.length + 2 ≤ 3518437208883) := ⟨by omega⟩
 have HM := Aside0.mk h
 have hnb : (n == 0) = false := beq_eq_false_iff_ne.mpr hn
 have he : out ++ ends put drop = [] := List.eq_nil_of_length_eq_zero (by omega)
 have HE := Aside0.mk he
 have HK : Aside0 (keepO (out ++ ends put drop) n = [] ++ [⟨n, ⟨#[]⟩, ⟨#[]⟩⟩]) := ⟨by unfold keepO; rw [if_neg (by omega), he]⟩
 clear h hl hn hc he
 go_enter Try.func54, Try.ntmps54
 go_wp2_with (first | (go_at_call 100; refine (mk_end w0 w g v out put drop HM.out HL.out).mono ?_; rintro e w1 ⟨rfl, v2, h2, ht2⟩; rw [HE.out] at h2; have HM2 := Aside0.mk h2; have HT2 := Aside0.mk ht2; obtain ⟨b0, b1, b2, f0, f1, f2⟩ := h2.cells; obtain ⟨A2, cc2, rfl, -, -⟩ := Kd.R_reads h2.2.1; clear h2 ht2; simp only [List.length_nil] at b0 HT2) | ((with_reducible refine gate_builtin (b := .append) (xs := #[.tmp 44, .tmp 47]) rfl ?_); at_builtin; refine Kd.R_append k74 (w0 := w0) (W := w1) w0.heap.size rfl (.tmp 44) (.tmp 47) 26 74 (.agg #[(.int .i64 0), (.string ⟨#[]⟩), (.string ⟨#[]⟩)]) 40 rfl Try.underlying26 info74 rfl (by decide) (by decide) (.slice A2 0 cc2) ([] : List S74) (⟨n, ⟨#[]⟩, ⟨#[]⟩⟩ : S74) [.int .i64 n, .string ⟨#[]⟩, .string ⟨#[]⟩] (fun _ => True) (fun _ => False) rfl rfl ?aP (fun _ h => h.elim) (fun _ _ => trivial) ?aO ?aB ?aS ?aL ?_; (case aP => exact k74_mkM _ _ _ _); (case aB => exact HM2.out.2.2.1); (case aO => exact HM2.out.2.1); (case aS => exact HM2.out.2.2.1.size); (case aL => have := HL.out; first | omega | (simp only [List.length_nil]; omega)); intro v1 wn ho1 hb1 hg1 hat1; obtain ⟨A1, c1, eo1, -, -⟩ := Kd.R_reads ho1; simp only [List.nil_append, List.length_singleton] at eo1; subst eo1; have hk1 := blk_grown HM2.out.1 hg1 (Kd.R_ne HM2.out.2.1 HM2.out.1 (by decide)); have d0 : wn.cell? ⟨g, 0, none⟩ = _ := blk_cell hk1 0; have e0 := blk_frozen hk1 0; have HM1 := Aside0.mk (Mk.app HM2.out ho1 hb1 hg1); have HT1 : Aside0 (MkTo w1 (wn.setCell ⟨g, 0, none⟩ (.slice A1 1 c1)) g (.slice A2 0 cc2) (.slice A1 1 c1)) := ⟨MkTo.app hg1 hat1 _⟩; clear ho1 hb1 hg1 hk1 hat1))
 go_end0
 rw [HK.out]
 exact ⟨rfl, _, HM1.out, HT2.out.trans HT1.out⟩
set_option maxHeartbeats 1000000 in
theorem mk_keepB (w0 w : World) (g : Nat) (v : Value) (out : List S74) (put drop : ByteArray) (n : Int) (hn : n ≠ 0) (h : Mk w0 w g v out put drop) (hl : out.length + 3 ≤ 3518437208883)
  (hc : 0 < (out ++ ends put drop).length) (hk : ¬ (rd_T74 (out ++ ends put drop) (((out ++ ends put drop).length : Int) - 1)).f0 > 0) :
  Calls Try.prog 54 #[.pointer (some ⟨g, 0, none⟩), .int .i64 n] w fun e w' => e = .returned (.tuple #[]) ∧ Mid1 w0 w g v (keepO (out ++ ends put drop) n) ⟨#[]⟩ ⟨#[]⟩ w' := by
 have HL : Aside0 (out.length + 2 ≤ 3518437208883) := ⟨by omega⟩
 have HM := Aside0.mk h
 have hnb : (n == 0) = false := beq_eq_false_iff_ne.mpr hn
 have hle := ends_le put drop
 obtain ⟨o, ho⟩ : ∃ o, out ++ ends put drop = o := ⟨_, rfl⟩
 have HE := Aside0.mk ho
 have hol : o.length ≤ 3518437208882 := by rw [← ho, List.length_append]; omega
 have HOL := Aside0.mk hol
 rw [ho] at hc hk
 have HC := Aside0.mk hc
 have HI0 : Aside0 ((0 : Int) ≤ (o.length : Int) - 1) := ⟨by omega⟩
 have HIN : Aside0 (((o.length : Int) - 1).toNat = o.length - 1) := ⟨by omega⟩
 have HI1 : Aside0 ((o.length : Int) - 1 < (o.length : Nat)) := ⟨by omega⟩
 have HK : Aside0 (keepO (out ++ ends put drop) n = o ++ [⟨n, ⟨#[]⟩, ⟨#[]⟩⟩]) := ⟨by unfold keepO; rw [ho, if_neg (fun x => hk x.2)]⟩
 have hkb : decide ((rd_T74 o ((o.length : Int) - 1)).f0 > 0) = false := decide_eq_false hk
 clear h hl hn ho hk hle
 go_enter Try.func54, Try.ntmps54
 go_wp2_with (first | (go_at_call 100; refine (mk_end w0 w g v out put drop HM.out HL.out).mono ?_; rintro e w1 ⟨rfl, v2, h2, ht2⟩; rw [HE.out] at h2; have HM2 := Aside0.mk h2; have HT2 := Aside0.mk ht2; obtain ⟨b0, b1, b2, f0, f1, f2⟩ := h2.cells; obtain ⟨g2, cc2, rfl, -, -, -⟩ := Kd.R_form h2.2.1 HC.out; obtain ⟨cl, -, hM2, hcl, hfr⟩ := Kd.R_elem h2.2.1 z74 ((o.length : Int) - 1) HI0.out HI1.out; obtain rfl := k74_openM hM2; have x0 : w1.cell? ⟨g2, (o.length - 1) * 3, none⟩ = some (.int .i64 (rd_T74 o ((o.length : Int) - 1)).f0) := (by rw [← HIN.out]; exact hcl 0 _ rfl); have y0 : w1.frozen? ⟨g2, (o.length - 1) * 3, none⟩ = false := (by rw [← HIN.out]; exact hfr 0); clear h2 ht2 hM2 hcl hfr) | ((with_reducible refine gate_builtin (b := .append) (xs := #[.tmp 44, .tmp 47]) rfl ?_); at_builtin; refine Kd.R_append k74 (w0 := w0) (W := w1) w0.heap.size rfl (.tmp 44) (.tmp 47) 26 74 (.agg #[(.int .i64 0), (.string ⟨#[]⟩), (.string ⟨#[]⟩)]) 40 rfl Try.underlying26 info74 rfl (by decide) (by decide) (.slice (some ⟨g2, 0, none⟩) o.length cc2) o (⟨n, ⟨#[]⟩, ⟨#[]⟩⟩ : S74) [.int .i64 n, .string ⟨#[]⟩, .string ⟨#[]⟩] (fun _ => True) (fun _ => False) rfl rfl ?aP (fun _ h => h.elim) (fun _ _ => trivial) ?aO ?aB ?aS ?aL ?_; (case aP => exact k74_mkM _ _ _ _); (case aB => exact HM2.out.2.2.1); (case aO => exact HM2.out.2.1); (case aS => exact HM2.out.2.2.1.size); (case aL => have := HOL.out; first | omega | (simp only [List.length_nil]; omega)); intro v1 wn ho1 hb1 hg1 hat1; obtain ⟨A1, c1, eo1, -, -⟩ := Kd.R_reads ho1; rw [List.length_append, List.length_singleton] at eo1; subst eo1; have hk1 := blk_grown HM2.out.1 hg1 (Kd.R_ne HM2.out.2.1 HM2.out.1 (by decide)); have d0 : wn.cell? ⟨g, 0, none⟩ = _ := blk_cell hk1 0; have e0 := blk_frozen hk1 0; have HM1 := Aside0.mk (Mk.app HM2.out ho1 hb1 hg1); have HT1 : Aside0 (MkTo w1 (wn.setCell ⟨g, 0, none⟩ (.slice A1 (o.length + 1) c1)) g (.slice (some ⟨g2, 0, none⟩) o.length cc2) (.slice A1 (o.length + 1) c1)) := ⟨MkTo.app hg1 hat1 _⟩; clear ho1 hb1 hg1 hk1 hat1))
 go_end0
 rw [HK.out]
 exact ⟨rfl, _, HM1.out, HT2.out.trans HT1.out⟩
set_option maxHeartbeats 1000000 in
theorem mk_keepC (w0 w : World) (g : Nat) (v : Value) (out : List S74) (put drop : ByteArray) (n : Int) (hn : n ≠ 0) (h : Mk w0 w g v out put drop) (hl : out.length + 3 ≤ 3518437208883)
  (hc : 0 < (out ++ ends put drop).length) (hk : (rd_T74 (out ++ ends put drop) (((out ++ ends put drop).length : Int) - 1)).f0 > 0) :
  Calls Try.prog 54 #[.pointer (some ⟨g, 0, none⟩), .int .i64 n] w fun e w' => e = .returned (.tuple #[]) ∧ Mid1 w0 w g v (keepO (out ++ ends put drop) n) ⟨#[]⟩ ⟨#[]⟩ w' := by
 have HL : Aside0 (out.length + 2 ≤ 3518437208883) := ⟨by omega⟩
 have HM := Aside0.mk h
 have hnb : (n == 0) = false := beq_eq_false_iff_ne.mpr hn
 have hle := ends_le put drop
 obtain ⟨o, ho⟩ : ∃ o, out ++ ends put drop = o := ⟨_, rfl⟩
 have HE := Aside0.mk ho
 have hol : o.length ≤ 3518437208882 := by rw [← ho, List.length_append]; omega
 have HOL := Aside0.mk hol
 rw [ho] at hc hk
 have HC := Aside0.mk hc
 have HI0 : Aside0 ((0 : Int) ≤ (o.length : Int) - 1) := ⟨by omega⟩
 have HIN : Aside0 (((o.length : Int) - 1).toNat = o.length - 1) := ⟨by omega⟩
 have HI1 : Aside0 ((o.length : Int) - 1 < (o.length : Nat)) := ⟨by omega⟩
 have HK : Aside0 (keepO (out ++ ends put drop) n = o.set (o.length - 1) ⟨wrap64 ((rd_T74 o ((o.length : Int) - 1)).f0 + n), (rd_T74 o ((o.length : Int) - 1)).f1, (rd_T74 o ((o.length : Int) - 1)).f2⟩) := ⟨by unfold keepO; rw [ho, if_pos ⟨hc, hk⟩]⟩
 have hkb : decide ((rd_T74 o ((o.length : Int) - 1)).f0 > 0) = true := decide_eq_true hk
 clear h hl hn ho hk hle
 go_enter Try.func54, Try.ntmps54
 go_wp2_with (first | (go_at_call 100; refine (mk_end w0 w g v out put drop HM.out HL.out).mono ?_; rintro e w1 ⟨rfl, v2, h2, ht2⟩; rw [HE.out] at h2; have HM2 := Aside0.mk h2; have HT2 := Aside0.mk ht2; obtain ⟨b0, b1, b2, f0, f1, f2⟩ := h2.cells; obtain ⟨g2, cc2, rfl, -, -, -⟩ := Kd.R_form h2.2.1 HC.out; obtain ⟨cl, -, hM2, hcl, hfr⟩ := Kd.R_elem h2.2.1 z74 ((o.length : Int) - 1) HI0.out HI1.out; obtain rfl := k74_openM hM2; have x0 : w1.cell? ⟨g2, (o.length - 1) * 3, none⟩ = some (.int .i64 (rd_T74 o ((o.length : Int) - 1)).f0) := (by rw [← HIN.out]; exact hcl 0 _ rfl); have y0 : w1.frozen? ⟨g2, (o.length - 1) * 3, none⟩ = false := (by rw [← HIN.out]; exact hfr 0); clear h2 ht2 hM2 hcl hfr))
 obtain ⟨hs, hg⟩ := k74_set0 HM2.out.2.1 ((o.length : Int) - 1) HI0.out HI1.out (wrap64 ((rd_T74 o ((o.length : Int) - 1)).f0 + n))
 rw [HIN.out] at hs hg
 have hne : g ≠ g2 := fun e => HM2.out.far g2 rfl e.symm
 have hb2 := blk_grown HM2.out.1 hg (fun e => hne (Option.some.inj e))
 have hB2 : Below w0.heap.size w0 (w1.setCell ⟨g2, (o.length - 1) * 3, none⟩ (.int .i64 (wrap64 ((rd_T74 o ((o.length : Int) - 1)).f0 + n)))) := below_set HM2.out.2.2.1 (Kd.R_base HM2.out.2.1 g2 rfl)
 refine bodyPost_ret (results_none rfl _ _ _) rfl ?_
 rw [HK.out]
 refine ⟨rfl, _, ⟨hb2, hs, hB2, HM2.out.2.2.2⟩, HT2.out.trans ⟨?_, .inl rfl⟩⟩
 exact Kept.of_grown hg (Kept.refl _ _) (fun k hk => .inl (.inr hk.symm))
def kO (out : List S74) (put drop : ByteArray) (n : Int) : List S74 := if n = 0 then out else keepO (out ++ ends put drop) n
def kS (s : ByteArray) (n : Int) : ByteArray := if n = 0 then s else ⟨#[]⟩
theorem mk_keep (w0 w : World) (g : Nat) (v : Value) (out : List S74) (put drop : ByteArray) (n : Int) (h : Mk w0 w g v out put drop) (hl : out.length + 3 ≤ 3518437208883) :
  Calls Try.prog 54 #[.pointer (some ⟨g, 0, none⟩), .int .i64 n] w fun e w' => e = .returned (.tuple #[]) ∧ Mid1 w0 w g v (kO out put drop n) (kS put n) (kS drop n) w' := by
 unfold kO kS
 by_cases hn : n = 0
 ·subst hn
  simp only [if_true]
  exact mk_keep0 w0 w g v out put drop h
 ·simp only [if_neg hn]
  by_cases hc : 0 < (out ++ ends put drop).length
  ·by_cases hk : (rd_T74 (out ++ ends put drop) (((out ++ ends put drop).length : Int) - 1)).f0 > 0
   ·exact mk_keepC w0 w g v out put drop n hn h hl hc hk
   ·exact mk_keepB w0 w g v out put drop n hn h hl hc hk
  ·exact mk_keepA w0 w g v out put drop n hn h hl hc
theorem Mid1.le {w0 w w' : World} {g : Nat} {v : Value} {out : List S74} {put drop : ByteArray} (h : Mid1 w0 w g v out put drop w') : w.heap.size ≤ w'.heap.size := by
 obtain ⟨_, _, ht⟩ := h
 exact ht.1.1
set_option maxHeartbeats 1000000 in
theorem mk_take (w0 w : World) (g : Nat) (v : Value) (out : List S74) (put drop : ByteArray) (p : S74) (h : Mk w0 w g v out put drop) (hl : out.length + 3 ≤ 3518437208883)
  (h1 : (kS put p.f0).size + p.f1.size ≤ 9223372036854775807) (h2 : (kS drop p.f0).size + p.f2.size ≤ 9223372036854775807) :
  Calls Try.prog 55 #[.pointer (some ⟨g, 0, none⟩), .agg #[.int .i64 p.f0, .string p.f1, .string p.f2]] w fun e w' => e = .returned (.tuple #[]) ∧ Mid1 w0 w g v (kO out put drop p.f0) (kS put p.f0 ++ p.f1) (kS drop p.f0 ++ p.f2) w' := by
 have HL := Aside0.mk hl
 have HM := Aside0.mk h
 have HM0 := Aside0.mk (h.alloc (.cells #[.int .i64 p.f0, .string p.f1, .string p.f2] 74))
 obtain ⟨o3, ho3⟩ : ∃ o, kO out put drop p.f0 = o := ⟨_, rfl⟩
 obtain ⟨s1, hs1⟩ : ∃ o, kS put p.f0 = o := ⟨_, rfl⟩
 obtain ⟨s2, hs2⟩ : ∃ o, kS drop p.f0 = o := ⟨_, rfl⟩
 rw [hs1] at h1
 rw [hs2] at h2
 have E3 := Aside0.mk ho3
 have E1 := Aside0.mk hs1
 have E2 := Aside0.mk hs2
 rw [ho3, hs1, hs2]
 clear ho3 hs1 hs2 h hl
 go_enter Try.func55, Try.ntmps55
 go_wp2_with (first | (go_at_call 54; refine (mk_keep w0 _ g v out put drop p.f0 HM0.out HL.out).mono ?_; rintro e w1 ⟨rfl, v2, h2_, ht2⟩; rw [E3.out, E1.out, E2.out] at h2_; have HM2 := Aside0.mk h2_; have HT2 := Aside0.mk ht2; obtain ⟨b0, b1, b2, f0, f1, f2⟩ := h2_.cells; have hbx : w1.heap[w.heap.size]? = some (.cells #[.int .i64 p.f0, .string p.f1, .string p.f2] 74 (0, 0)) := blk_kept (heap_alloc_new w _) ht2.1 (fun hk => hk.elim (fun e => Nat.lt_irrefl _ (e ▸ blk_lt HM.out.1)) (fun e => Nat.lt_irrefl _ (Kd.R_lt HM.out.2.1 _ e.symm))); have x1 : w1.cell? ⟨w.heap.size, 1, none⟩ = some (.string p.f1) := blk_cell hbx 1; have x2 : w1.cell? ⟨w.heap.size, 2, none⟩ = some (.string p.f2) := blk_cell hbx 2; clear h2_ ht2 hbx))
 go_region
 go_wp2
 go_region
 go_end0
 exact ⟨rfl, _, ((HM2.out.set1 _).set2 _).drew.drew, (((((MkTo.refl w g v).alloc _).trans HT2.out).set _ _).set _ _).drew.drew⟩
set_option maxHeartbeats 1000000 in
theorem mk_made (w0 w : World) (g : Nat) (v : Value) (out : List S74) (put drop : ByteArray) (h : Mk w0 w g v out put drop) (hl : out.length + 3 ≤ 3518437208883) :
  Calls Try.prog 57 #[.pointer (some ⟨g, 0, none⟩)] w fun e w' => ∃ v', e = .returned v' ∧ Kd.R k74 74 w' w0.heap.size (fun _ => True) v' (out ++ ends put drop) ∧ Below w0.heap.size w0 w' ∧ MkTo w w' g v v' := by
 have HL : Aside0 (out.length + 2 ≤ 3518437208883) := ⟨by omega⟩
 have HM := Aside0.mk h
 clear h hl
 go_enter Try.func57, Try.ntmps57
 go_wp2_with (first | (go_at_call 100; refine (mk_end w0 w g v out put drop HM.out HL.out).mono ?_; rintro e w1 ⟨rfl, v2, h2_, ht2⟩; have HM2 := Aside0.mk h2_; have HT2 := Aside0.mk ht2; obtain ⟨b0, b1, b2, f0, f1, f2⟩ := h2_.cells; clear h2_ ht2))
 go_ret
 exact ⟨_, rfl, HM2.out.2.1, HM2.out.2.2.1, HT2.out⟩

/-! ### impl_DiffOps: function 16, by hand -/
theorem R_mkto {α : Type} {d : Kd α} {e : Nat} {base : Nat} {ok : Nat → Prop} {u : Value} {xs : List α} {w0 w1 w2 : World} {g : Nat} {v v' : Value} {out : List S74} {put drop : ByteArray} (h : d.R e w1 base ok u xs) (hm : Mk w0 w1 g v out put drop) (ht : MkTo w1 w2 g v v') (hT : ∀ q, q ∈ e :: d.E → q ≠ 81) (hS : ∀ q, q ∈ e :: d.E → q ≠ 74) : d.R e w2 base ok u xs :=
 Kd.R_mono (Kd.R_kept (Kd.R_apart' (Kd.R_types h hm.1 hT) (Kd.R_typed hm.2.1) hS) ht.1 (fun k hk hs => by
  rcases hs with hs | hs
  ·exact hk.1.2 hs
  ·exact hk.2 hs)) (fun _ hk => hk.1.1)
def dif (a b : ByteArray) (t : List (List Int)) : Nat → List S74 → ByteArray → ByteArray → Nat → Nat → Option (List S74)
 | 0, _, _, _, _, _ => none
 | d + 1, out, put, drop, i, j =>
  if i < a.size ∨ j < b.size then
   (if out.length + 3 ≤ 3518437208883 ∧ put.size + 1 ≤ 9223372036854775807 ∧ drop.size + 1 ≤ 9223372036854775807 then
    (if i < a.size then
     (if j < b.size ∧ bt a (i : Int) = bt b (j : Int) then dif a b t d (kO out put drop 1) ⟨#[]⟩ ⟨#[]⟩ (i + 1) (j + 1)
     else (if i + 1 < t.length ∧ j < (rd_L3 t ((i : Int) + 1)).length ∧ j < (rd_L3 t (i : Int)).length then
       (if rd (rd_L3 t ((i : Int) + 1)) (j : Int) = rd (rd_L3 t (i : Int)) (j : Int) then dif a b t d out (put ++ ⟨#[]⟩) (drop ++ a.extract i (i + 1)) (i + 1) j
       else (if j < b.size then dif a b t d out (put ++ b.extract j (j + 1)) (drop ++ ⟨#[]⟩) i (j + 1) else none))
      else none))
    else dif a b t d out (put ++ b.extract j (j + 1)) (drop ++ ⟨#[]⟩) i (j + 1))
   else none)
  else (if out.length + 3 ≤ 3518437208883 then some (out ++ ends put drop) else none)
def impl_DiffOps.f (k : Nat) (a0 : ByteArray) (a1 : ByteArray) : Option (List S74 × Bool) := if a0.size + a1.size < 4611686018427387904 then (impl_areTexts.f k a0 a1).bind fun t => (if t = true then ((impl_common.f k a0 a1).bind fun tb => (dif a0 a1 tb (a0.size + a1.size + 1) [] ⟨#[]⟩ ⟨#[]⟩ 0 0).bind fun op => impl_goodOp.f k op) else some ([], false)) else none
def DifAt (w : World) (g : Nat) (a b : ByteArray) (tb : List (List Int)) (vt : Value) (op : List S74) (d : Nat) (v8 v9 : Value) (w' : World) : Prop :=
 ∃ (i j : Nat) (v : Value) (out : List S74) (put drop : ByteArray), v8 = .int .i64 i ∧ v9 = .int .i64 j ∧ i ≤ a.size ∧ j ≤ b.size ∧ Mk w w' g v out put drop ∧ Kd.R (Kd.slice 3 (Kd.int .i64)) 83 w' w.heap.size (fun _ => True) vt tb ∧ dif a b tb d out put drop i j = some op
set_option maxHeartbeats 8000000 in
set_option maxRecDepth 100000 in
theorem impl_DiffOps.calls (k : Nat) (a0 : ByteArray) (a1 : ByteArray) (r1 : List S74) (r2 : Bool) (w : World) (h : impl_DiffOps.f k a0 a1 = some (r1, r2)) :
  Calls Try.prog 16 #[.string a0, .string a1] w fun e w' => ∃ v0_ : Value, e = .returned (.tuple #[v0_, .bool r2]) ∧ Kd.R k74 74 w' w.heap.size (fun _ => True) v0_ r1 ∧ Below w.heap.size w w' := by
 unfold impl_DiffOps.f at h
 split at h
 case isFalse => cases h
 case isTrue hsz =>
 obtain ⟨t, ht, h⟩ := Option.bind_eq_some_iff.mp h
 have HT := Aside0.mk ht
 cases t with
 | false =>
  simp only [Bool.false_eq_true, if_false, Option.some.injEq, Prod.mk.injEq] at h
  obtain ⟨rfl, rfl⟩ := h
  clear ht hsz
  go_enter Try.func16, Try.ntmps16
  go_wp2_with (first | (go_at_call 52; refine (impl_areTexts.calls k a0 a1 false _ HT.out).mono ?_; rintro e w' ⟨rfl, ⟨nd, rfl⟩⟩))
  go_ret2
  exact ⟨_, rfl, Kd.R_nil _ _ _ _ _, Drawn0.below ⟨_, rfl⟩⟩
 | true =>
  simp only [if_true] at h
  obtain ⟨tb, htb, h⟩ := Option.bind_eq_some_iff.mp h
  obtain ⟨op, hop, h⟩ := Option.bind_eq_some_iff.mp h
  have HTB := Aside0.mk htb
  have HOP := Aside0.mk hop
  have HG := Aside0.mk h
  have HSZ := Aside0.mk hsz
  clear ht htb hop h hsz
  go_enter Try.func16, Try.ntmps16
  go_wp2_with (first | (go_at_call 52; refine (impl_areTexts.calls k a0 a1 true _ HT.out).mono ?_; rintro e w' ⟨rfl, ⟨nd, rfl⟩⟩) | (go_at_call 53; refine (impl_common.calls k a0 a1 tb _ HTB.out).mono ?_; rintro e w1 ⟨vt, rfl, hst, hb1⟩; have HST := Aside0.mk (Kd.R_lower (Kd.S_R hst) (Nat.le_refl w.heap.size)); have HB1 : Aside0 (Below w.heap.size w w1) := ⟨below_step (pw_below_drewN (Below.refl _ _) _) hb1⟩; clear hst hb1))
  obtain ⟨At, ct, eo⟩ := Kd.R_slice HST.out
  subst eo
  have HM0 : Aside0 (Mk w (w1.alloc (.cells #[.slice none 0 0, .string ⟨#[]⟩, .string ⟨#[]⟩] 81)) w1.heap.size (.slice none 0 0) [] ⟨#[]⟩ ⟨#[]⟩) := ⟨⟨heap_alloc_new w1 _, Kd.R_nil _ _ _ _ _, below_alloc HB1.out _, HB1.out.size⟩⟩
  have HS0 := Aside0.mk (Kd.R_alloc HST.out (.cells #[.slice none 0 0, .string ⟨#[]⟩, .string ⟨#[]⟩] 81))
  go_loopg [8, 9] (a0.size + a1.size + 1) (fun d v8 v9 w' => DifAt w w1.heap.size a0 a1 tb (.slice At tb.length ct) op d v8 v9 w')
  case atStart => exact ⟨0, 0, _, _, _, _, rfl, rfl, Nat.zero_le _, Nat.zero_le _, HM0.out, HS0.out, HOP.out⟩
  case round =>
   obtain ⟨i, j, v, out, put, drop, rfl, rfl, hi, hj, hm, htb, hd⟩ := hrel
   have HM := Aside0.mk hm
   have HTB := Aside0.mk htb
   have HWI : Aside0 (wrap64 ((i : Int) + 1) = ((i + 1 : Nat) : Int)) := ⟨by have := HSZ.out; unfold wrap64; omega⟩
   have HWJ : Aside0 (wrap64 ((j : Int) + 1) = ((j + 1 : Nat) : Int)) := ⟨by have := HSZ.out; unfold wrap64; omega⟩
   cases gk with
   | zero => exact absurd hd (by simp [dif])
   | succ k1 =>
   unfold dif at hd
   by_cases hx : i < a0.size ∨ j < a1.size
   ·rw [if_pos hx] at hd
    split at hd
    case isFalse => cases hd
    case isTrue hlt =>
    obtain ⟨hl1, hl2, hl3⟩ := hlt
    have H1 := Aside0.mk hl1
    have H2 := Aside0.mk hl2
    have H3 := Aside0.mk hl3
    by_cases ha0 : i < a0.size
    ·rw [if_pos ha0] at hd
     by_cases hK : j < a1.size ∧ bt a0 (i : Int) = bt a1 (j : Int)
     ·rw [if_pos hK] at hd
      obtain ⟨ha1, hbt⟩ := hK
      have HN := Aside0.mk hd
      have hbb : (bt a0 (i : Int) == bt a1 (j : Int)) = true := beq_iff_eq.mpr hbt
      have pa0 : decide (i < a0.size) = true := decide_eq_true ha0
      have za0 : (0 ≤ (i : Int)) = True := eq_true (by omega)
      have xa0 : ∀ h : i < a0.size, ((a0[i]'h).toNat : Int) = bt a0 (i : Int) := fun h => by have := bt_at a0 (i : Int); simp only [Int.toNat_natCast] at this; exact this h
      have pa1 : decide (j < a1.size) = true := decide_eq_true ha1
      have za1 : (0 ≤ (j : Int)) = True := eq_true (by omega)
      have xa1 : ∀ h : j < a1.size, ((a1[j]'h).toNat : Int) = bt a1 (j : Int) := fun h => by have := bt_at a1 (j : Int); simp only [Int.toNat_natCast] at this; exact this h
      clear hd hm htb hbt hx hl1 hl2 hl3
      go_wp2
      repeat (go_quiet (fail); try go_wp2_with (first | (go_at_call 54; refine (mk_keep w _ _ v out put drop 1 (by first | exact HM.out.drewN _ | exact HM.out) H1.out).mono ?_; rintro e w2 ⟨rfl, v2, h2_, ht2⟩; have HM2 := Aside0.mk h2_; have HT2 := Aside0.mk (R_mkto (by first | exact Kd.R_drewN HTB.out _ | exact HTB.out) (by first | exact HM.out.drewN _ | exact HM.out) ht2 (by decide) (by decide)); clear h2_ ht2)))
      go_roundg k1
      case measure => omega
      case rel => exact ⟨i + 1, j + 1, _, _, _, _, by rw [HWI.out], by rw [HWJ.out], by omega, by omega, HM2.out, HT2.out, HN.out⟩
     ·rw [if_neg hK] at hd
      split at hd
      case isFalse => cases hd
      case isTrue hg =>
      obtain ⟨hg1, hg2, hg3⟩ := hg
      by_cases hj0 : j < a1.size
      ·have hbt : ¬ bt a0 (i : Int) = bt a1 (j : Int) := fun e => hK ⟨hj0, e⟩
       have hbb : (bt a0 (i : Int) == bt a1 (j : Int)) = false := beq_eq_false_iff_ne.mpr hbt
       have ha1 := hj0
       have pa0 : decide (i < a0.size) = true := decide_eq_true ha0
       have za0 : (0 ≤ (i : Int)) = True := eq_true (by omega)
       have xa0 : ∀ h : i < a0.size, ((a0[i]'h).toNat : Int) = bt a0 (i : Int) := fun h => by have := bt_at a0 (i : Int); simp only [Int.toNat_natCast] at this; exact this h
       have pa1 : decide (j < a1.size) = true := decide_eq_true ha1
       have za1 : (0 ≤ (j : Int)) = True := eq_true (by omega)
       have xa1 : ∀ h : j < a1.size, ((a1[j]'h).toNat : Int) = bt a1 (j : Int) := fun h => by have := bt_at a1 (j : Int); simp only [Int.toNat_natCast] at this; exact this h
       clear hbt
       go_wp2
       go_quiet (fail)
       go_wp2
       obtain ⟨s, hs⟩ : ∃ s : Int, (i : Int) + 1 = s := ⟨_, rfl⟩
       rw [hs] at hd hg2
       have hs0 : 0 ≤ s := by omega
       have hs1 : s < (tb.length : Int) := by omega
       obtain ⟨ad, A1, c1, e1, t1, l1, g1⟩ := at_L3 (Kd.R_reads' HTB.out).2.2 s hs0 hs1
       obtain ⟨ad', A2, c2, e2, t2, l2, g2⟩ := at_L3 (Kd.R_reads' HTB.out).2.2 (i : Int) (by omega) (by omega)
       obtain rfl := e1
       obtain rfl := Option.some.inj e2
       obtain ⟨b1, f1, r1⟩ := Kd.at_int g1 (j : Int) (by omega) (by omega)
       obtain ⟨b2, f2, r2⟩ := Kd.at_int g2 (j : Int) (by omega) (by omega)
       simp only [Int.toNat_natCast] at t2 r1 r2
       have hw1 : IntKind.i64.wrap ((i : Int) + 1) = s := (i64_w _).trans (HWI.out.trans (by omega))
       replace hs0 := eq_true hs0
       replace hs1 := eq_true hs1
       have q3 : (j < (rd_L3 tb s).length) = True := eq_true hg2
       have q4 : (j < (rd_L3 tb (i : Int)).length) = True := eq_true hg3
       have q5 : (i < tb.length) = True := eq_true (by omega)
       obtain rfl := f1
       obtain rfl := f2
       clear e2 g1 g2 l1 l2
       by_cases hE : rd (rd_L3 tb s) (j : Int) = rd (rd_L3 tb (i : Int)) (j : Int)
       ·rw [if_pos hE] at hd
        have HN := Aside0.mk hd
        have hEb : (rd (rd_L3 tb s) (j : Int) == rd (rd_L3 tb (i : Int)) (j : Int)) = true := beq_iff_eq.mpr hE
        have SE : Aside0 ((a0.extract i s.toNat).size = 1) := ⟨by rw [ByteArray.size_extract]; omega⟩
        have HSI : Aside0 (s = ((i + 1 : Nat) : Int)) := ⟨by omega⟩
        have HSN : Aside0 (s.toNat = i + 1) := ⟨by omega⟩
        have hsl1 : ((i : Int) ≤ s) = True := eq_true (by omega)
        have hsl2 : (s ≤ (a0.size : Int)) = True := eq_true (by omega)
        clear hd hm htb hE hx hl1 hl2 hl3 hg1 hg2 hg3 hK hs
        go_quiet (fail)
        go_wp2_with (first | (go_at_call 55; refine (mk_take w _ _ v out put drop (⟨0, (⟨#[]⟩ : ByteArray), (a0.extract i s.toNat)⟩ : S74) (by first | exact HM.out.drewN _ | exact HM.out) H1.out ?_ ?_).mono ?_; (case refine_1 => exact by show put.size + 0 ≤ _; have := H2.out; omega); (case refine_2 => exact by show drop.size + (a0.extract i s.toNat).size ≤ _; rw [SE.out]; exact H3.out); rintro e w2 ⟨rfl, v2, h2_, ht2⟩; have HM2 := Aside0.mk h2_; have HT2 := Aside0.mk (R_mkto (by first | exact Kd.R_drewN HTB.out _ | exact HTB.out) (by first | exact HM.out.drewN _ | exact HM.out) ht2 (by decide) (by decide)); clear h2_ ht2))
        rw [HSN.out] at HM2
        go_roundg k1
        case measure => omega
        case rel => exact ⟨i + 1, j, _, _, _, _, by first | rw [HSI.out] | rw [HWI.out] | go_num, rfl, by omega, by omega, HM2.out, HT2.out, HN.out⟩
       ·rw [if_neg hE] at hd
        rw [if_pos hj0] at hd
        have HN := Aside0.mk hd
        have hEb : (rd (rd_L3 tb s) (j : Int) == rd (rd_L3 tb (i : Int)) (j : Int)) = false := beq_eq_false_iff_ne.mpr hE
        obtain ⟨sj, hsj⟩ : ∃ s : Int, (j : Int) + 1 = s := ⟨_, rfl⟩
        have hwj : IntKind.i64.wrap ((j : Int) + 1) = sj := (i64_w _).trans (HWJ.out.trans (by omega))
        have HSJ : Aside0 (sj = ((j + 1 : Nat) : Int)) := ⟨by omega⟩
        have HSN : Aside0 (sj.toNat = j + 1) := ⟨by omega⟩
        have hsl1 : ((j : Int) ≤ sj) = True := eq_true (by omega)
        have hsl2 : (sj ≤ (a1.size : Int)) = True := eq_true (by omega)
        have SE : Aside0 ((a1.extract j sj.toNat).size = 1) := ⟨by rw [ByteArray.size_extract]; omega⟩
        clear hsj
        clear hd hm htb hE hx hl1 hl2 hl3 hg1 hg2 hg3 hK hs
        go_quiet (fail)
        go_wp2_with (first | (go_at_call 55; refine (mk_take w _ _ v out put drop (⟨0, (a1.extract j sj.toNat), (⟨#[]⟩ : ByteArray)⟩ : S74) (by first | exact HM.out.drewN _ | exact HM.out) H1.out ?_ ?_).mono ?_; (case refine_1 => exact by show put.size + (a1.extract j sj.toNat).size ≤ _; rw [SE.out]; exact H2.out); (case refine_2 => exact by show drop.size + 0 ≤ _; have := H3.out; omega); rintro e w2 ⟨rfl, v2, h2_, ht2⟩; have HM2 := Aside0.mk h2_; have HT2 := Aside0.mk (R_mkto (by first | exact Kd.R_drewN HTB.out _ | exact HTB.out) (by first | exact HM.out.drewN _ | exact HM.out) ht2 (by decide) (by decide)); clear h2_ ht2))
        rw [HSN.out] at HM2
        go_roundg k1
        case measure => omega
        case rel => exact ⟨i, j + 1, _, _, _, _, rfl, by first | rw [HSJ.out] | rw [HWJ.out] | go_num, by omega, by omega, HM2.out, HT2.out, HN.out⟩
      ·have pa1 : decide (j < a1.size) = false := decide_eq_false hj0
       have pa0 : decide (i < a0.size) = true := decide_eq_true ha0
       go_wp2
       go_quiet (fail)
       go_wp2
       obtain ⟨s, hs⟩ : ∃ s : Int, (i : Int) + 1 = s := ⟨_, rfl⟩
       rw [hs] at hd hg2
       have hs0 : 0 ≤ s := by omega
       have hs1 : s < (tb.length : Int) := by omega
       obtain ⟨ad, A1, c1, e1, t1, l1, g1⟩ := at_L3 (Kd.R_reads' HTB.out).2.2 s hs0 hs1
       obtain ⟨ad', A2, c2, e2, t2, l2, g2⟩ := at_L3 (Kd.R_reads' HTB.out).2.2 (i : Int) (by omega) (by omega)
       obtain rfl := e1
       obtain rfl := Option.some.inj e2
       obtain ⟨b1, f1, r1⟩ := Kd.at_int g1 (j : Int) (by omega) (by omega)
       obtain ⟨b2, f2, r2⟩ := Kd.at_int g2 (j : Int) (by omega) (by omega)
       simp only [Int.toNat_natCast] at t2 r1 r2
       have hw1 : IntKind.i64.wrap ((i : Int) + 1) = s := (i64_w _).trans (HWI.out.trans (by omega))
       replace hs0 := eq_true hs0
       replace hs1 := eq_true hs1
       have q3 : (j < (rd_L3 tb s).length) = True := eq_true hg2
       have q4 : (j < (rd_L3 tb (i : Int)).length) = True := eq_true hg3
       have q5 : (i < tb.length) = True := eq_true (by omega)
       obtain rfl := f1
       obtain rfl := f2
       clear e2 g1 g2 l1 l2
       by_cases hE : rd (rd_L3 tb s) (j : Int) = rd (rd_L3 tb (i : Int)) (j : Int)
       ·rw [if_pos hE] at hd
        have HN := Aside0.mk hd
        have hEb : (rd (rd_L3 tb s) (j : Int) == rd (rd_L3 tb (i : Int)) (j : Int)) = true := beq_iff_eq.mpr hE
        have SE : Aside0 ((a0.extract i s.toNat).size = 1) := ⟨by rw [ByteArray.size_extract]; omega⟩
        have HSI : Aside0 (s = ((i + 1 : Nat) : Int)) := ⟨by omega⟩
        have HSN : Aside0 (s.toNat = i + 1) := ⟨by omega⟩
        have hsl1 : ((i : Int) ≤ s) = True := eq_true (by omega)
        have hsl2 : (s ≤ (a0.size : Int)) = True := eq_true (by omega)
        clear hd hm htb hE hx hl1 hl2 hl3 hg1 hg2 hg3 hK hs
        go_quiet (fail)
        go_wp2_with (first | (go_at_call 55; refine (mk_take w _ _ v out put drop (⟨0, (⟨#[]⟩ : ByteArray), (a0.extract i s.toNat)⟩ : S74) (by first | exact HM.out.drewN _ | exact HM.out) H1.out ?_ ?_).mono ?_; (case refine_1 => exact by show put.size + 0 ≤ _; have := H2.out; omega); (case refine_2 => exact by show drop.size + (a0.extract i s.toNat).size ≤ _; rw [SE.out]; exact H3.out); rintro e w2 ⟨rfl, v2, h2_, ht2⟩; have HM2 := Aside0.mk h2_; have HT2 := Aside0.mk (R_mkto (by first | exact Kd.R_drewN HTB.out _ | exact HTB.out) (by first | exact HM.out.drewN _ | exact HM.out) ht2 (by decide) (by decide)); clear h2_ ht2))
        rw [HSN.out] at HM2
        go_roundg k1
        case measure => omega
        case rel => exact ⟨i + 1, j, _, _, _, _, by first | rw [HSI.out] | rw [HWI.out] | go_num, rfl, by omega, by omega, HM2.out, HT2.out, HN.out⟩
       ·rw [if_neg hE] at hd
        rw [if_neg hj0] at hd
        cases hd
    ·rw [if_neg ha0] at hd
     have HN := Aside0.mk hd
     have hj1 : j < a1.size := hx.resolve_left ha0
     have pa0 : decide (i < a0.size) = false := decide_eq_false ha0
     have pa1 : decide (j < a1.size) = true := decide_eq_true hj1
     obtain ⟨sj, hsj⟩ : ∃ s : Int, (j : Int) + 1 = s := ⟨_, rfl⟩
     have hwj : IntKind.i64.wrap ((j : Int) + 1) = sj := (i64_w _).trans (HWJ.out.trans (by omega))
     have HSJ : Aside0 (sj = ((j + 1 : Nat) : Int)) := ⟨by omega⟩
     have HSN : Aside0 (sj.toNat = j + 1) := ⟨by omega⟩
     have hsl1 : ((j : Int) ≤ sj) = True := eq_true (by omega)
     have hsl2 : (sj ≤ (a1.size : Int)) = True := eq_true (by omega)
     have SE : Aside0 ((a1.extract j sj.toNat).size = 1) := ⟨by rw [ByteArray.size_extract]; omega⟩
     clear hsj
     clear hd hm htb hx hl1 hl2 hl3
     go_wp2
     go_quiet (fail)
     go_wp2
     go_quiet (fail)
     go_wp2_with (first | (go_at_call 55; refine (mk_take w _ _ v out put drop (⟨0, (a1.extract j sj.toNat), (⟨#[]⟩ : ByteArray)⟩ : S74) (by first | exact HM.out.drewN _ | exact HM.out) H1.out ?_ ?_).mono ?_; (case refine_1 => exact by show put.size + (a1.extract j sj.toNat).size ≤ _; rw [SE.out]; exact H2.out); (case refine_2 => exact by show drop.size + 0 ≤ _; have := H3.out; omega); rintro e w2 ⟨rfl, v2, h2_, ht2⟩; have HM2 := Aside0.mk h2_; have HT2 := Aside0.mk (R_mkto (by first | exact Kd.R_drewN HTB.out _ | exact HTB.out) (by first | exact HM.out.drewN _ | exact HM.out) ht2 (by decide) (by decide)); clear h2_ ht2))
     rw [HSN.out] at HM2
     go_roundg k1
     case measure => omega
     case rel => exact ⟨i, j + 1, _, _, _, _, rfl, by first | rw [HSJ.out] | rw [HWJ.out] | go_num, by omega, by omega, HM2.out, HT2.out, HN.out⟩
   ·rw [if_neg hx] at hd
    split at hd
    case isFalse => cases hd
    case isTrue hl1 =>
    obtain rfl := Option.some.inj hd
    have H1 := Aside0.mk hl1
    have pa0 : decide (i < a0.size) = false := decide_eq_false (fun e => hx (.inl e))
    have pa1 : decide (j < a1.size) = false := decide_eq_false (fun e => hx (.inr e))
    clear hd hm htb hx hl1
    go_wp2_with (first | (go_at_call 57; refine (mk_made w _ _ v out put drop (by first | exact HM.out.drewN _ | exact HM.out) H1.out).mono ?_; rintro e w2 ⟨v2, rfl, hr2, hb2, ht2⟩; have HR2 := Aside0.mk hr2; have HB2 := Aside0.mk hb2; clear hr2 hb2 ht2) | (go_at_call 56; refine (impl_goodOp.calls k (fun _ => True) _ _ r1 r2 w _ HB2.out HR2.out HG.out).mono ?_; rintro e w3 ⟨v3, rfl, hr3, hb3, -⟩; have HR3 := Aside0.mk (Kd.R_mono (ok' := fun _ => True) hr3 (fun _ _ => trivial)); have HB3 := Aside0.mk hb3; clear hr3 hb3))
    go_ret2
    exact ⟨_, rfl, HR3.out, HB3.out⟩
theorem impl_DiffOps.mono : ∀ a0 a1 k, LeO (impl_DiffOps.f k a0 a1) (impl_DiffOps.f (k + 1) a0 a1) := by
 intro a0 a1 k
 unfold impl_DiffOps.f
 repeat' first
   | (with_reducible exact impl_areTexts.mono _ _ _)
   | (with_reducible exact impl_common.mono _ _ _)
   | (with_reducible exact impl_goodOp.mono _ _)
   | (with_reducible exact LeO.refl _)
   | (with_reducible exact LeO.none _)
   | (with_reducible refine LeO.ite ?_ ?_)
   | (with_reducible refine LeO.bind ?_ (fun _ => ?_))

/-- A state of type 94 at block g of W; what its slices lead to came in by w0. -/
def IsS94 (w0 W : World) (g : Nat) (f0 : List Int) (f1 : Int) (f2 : Int) : Prop := ∃ A0 c0, W.heap[g]? = some (.cells #[.slice A0 f0.length c0, .int .i64 f1, .int .u64 f2] 94 (0, 0)) ∧ w0.heap.size ≤ g ∧ Kd.C (Kd.int .u8) w0 A0 f0.length f0
theorem IsS94.grown {w0 W : World} {g : Nat} {f0 : List Int} {f1 : Int} {f2 : Int} {W1 : World} {row : Option Nat} (h : IsS94 w0 W g f0 f1 f2) (hw : W.grownBy W1 row) (hne : some g ≠ row) : IsS94 w0 W1 g f0 f1 f2 := by
 obtain ⟨A0, c0, hb, hg, hr0⟩ := h
 exact ⟨A0, c0, blk_grown hb hw hne, hg, hr0⟩
theorem IsS94.own_neN {w0 W : World} {g : Nat} {f0 : List Int} {f1 : Int} {f2 : Int} {α : Type} {d : Kd α} {e : Nat} {base : Nat} {ok : Nat → Prop} {v : Value} {xs : List α} (h : IsS94 w0 W g f0 f1 f2) (ho : Kd.N d e W base ok v xs) (ht : e ≠ 94) : some g ≠ v.ownBlock := by
 obtain ⟨A0, c0, hb, hg, hr0⟩ := h
 exact Kd.N_ne ho hb ht
theorem IsS94.fresh {w0 W : World} {g : Nat} {f0 : List Int} {f1 : Int} {f2 : Int} (h : IsS94 w0 W g f0 f1 f2) : ∀ k, W.heap.size ≤ k → k ≠ g := by
 obtain ⟨A0, c0, hb, hg, hr0⟩ := h
 exact Kd.freshB hb
theorem IsS94.kept {w0 W : World} {g : Nat} {f0 : List Int} {f1 : Int} {f2 : Int} {W1 : World} {S : Nat → Prop} (h : IsS94 w0 W g f0 f1 f2) (hk : Kept W W1 S) (hne : ¬ S g) : IsS94 w0 W1 g f0 f1 f2 := by
 obtain ⟨A0, c0, hb, hg, hr0⟩ := h
 exact ⟨A0, c0, blk_kept hb hk hne, hg, hr0⟩
theorem IsS94.below {w0 W : World} {g : Nat} {f0 : List Int} {f1 : Int} {f2 : Int} {W1 : World} (h : IsS94 w0 W g f0 f1 f2) (hw : Below W.heap.size W W1) : IsS94 w0 W1 g f0 f1 f2 := h.grown (grown_of_below hw none) (by simp)
theorem IsS94.alloc {w0 W : World} {g : Nat} {f0 : List Int} {f1 : Int} {f2 : Int} (h : IsS94 w0 W g f0 f1 f2) (o : Obj) : IsS94 w0 (W.alloc o) g f0 f1 f2 := h.below (below_alloc (Below.refl _ _) o)
theorem IsS94.drewN {w0 W : World} {g : Nat} {f0 : List Int} {f1 : Int} {f2 : Int} (h : IsS94 w0 W g f0 f1 f2) (m : Nat) : IsS94 w0 (W.drewN m) g f0 f1 f2 := h
theorem IsS94.drew {w0 W : World} {g : Nat} {f0 : List Int} {f1 : Int} {f2 : Int} (h : IsS94 w0 W g f0 f1 f2) : IsS94 w0 W.drew g f0 f1 f2 := h
theorem IsS94.at_ {w0 W : World} {g : Nat} {f0 : List Int} {f1 : Int} {f2 : Int} {w' : World} {m : Nat} (hq : W.drewN m = w') (h : IsS94 w0 W g f0 f1 f2) : IsS94 w0 w' g f0 f1 f2 := by subst hq; exact IsS94.drewN h m
theorem IsS94.apart {w0 W : World} {g : Nat} {f0 : List Int} {f1 : Int} {f2 : Int} {α : Type} {d : Kd α} {e : Nat} {base : Nat} {ok : Nat → Prop} {v : Value} {xs : List α} (h : IsS94 w0 W g f0 f1 f2) (ho : d.R e W base ok v xs) (ht : ∀ q, q ∈ e :: d.E → q ≠ 94) : d.R e W base (fun k => ok k ∧ k ≠ g) v xs := by
 obtain ⟨A0, c0, hb, hg, hr0⟩ := h
 exact Kd.R_types ho hb ht
theorem IsS94.own_ne {w0 W : World} {g : Nat} {f0 : List Int} {f1 : Int} {f2 : Int} {α : Type} {d : Kd α} {e : Nat} {base : Nat} {ok : Nat → Prop} {v : Value} {xs : List α} (h : IsS94 w0 W g f0 f1 f2) (ho : d.R e W base ok v xs) (ht : e ≠ 94) : some g ≠ v.ownBlock := by
 obtain ⟨A0, c0, hb, hg, hr0⟩ := h
 exact Kd.R_ne ho hb ht
theorem IsS94.apartQ {w0 W : World} {g : Nat} {f0 : List Int} {f1 : Int} {f2 : Int} {α : Type} {d : Kd α} {e : Nat} {base : Nat} {ok : Nat → Prop} {v : Value} {xs : List α} (h : IsS94 w0 W g f0 f1 f2) (ho : d.Q e W base ok v xs) (ht : ∀ q, q ∈ e :: d.E → q ≠ 94) : d.Q e W base (fun k => ok k ∧ k ≠ g) v xs := by
 obtain ⟨A0, c0, hb, hg, hr0⟩ := h
 exact Kd.Q_types ho hb ht
theorem IsS94.own_neQ {w0 W : World} {g : Nat} {f0 : List Int} {f1 : Int} {f2 : Int} {α : Type} {d : Kd α} {e : Nat} {base : Nat} {ok : Nat → Prop} {v : Value} {xs : List α} (h : IsS94 w0 W g f0 f1 f2) (ho : d.Q e W base ok v xs) (ht : e ≠ 94) : some g ≠ v.ownBlock := by
 obtain ⟨A0, c0, hb, hg, hr0⟩ := h
 exact Kd.Q_ne ho hb ht
theorem IsS94.apartS {w0 W : World} {g : Nat} {f0 : List Int} {f1 : Int} {f2 : Int} {α : Type} {d : Kd α} {e : Nat} {base : Nat} {ok : Nat → Prop} {v : Value} {xs : List α} (h : IsS94 w0 W g f0 f1 f2) (ho : d.S e W base ok v xs) (ht : ∀ q, q ∈ e :: d.E → q ≠ 94) : d.S e W base (fun k => ok k ∧ k ≠ g) v xs := by
 obtain ⟨A0, c0, hb, hg, hr0⟩ := h
 exact Kd.S_types ho hb ht
theorem IsS94.own_neS {w0 W : World} {g : Nat} {f0 : List Int} {f1 : Int} {f2 : Int} {α : Type} {d : Kd α} {e : Nat} {base : Nat} {ok : Nat → Prop} {v : Value} {xs : List α} (h : IsS94 w0 W g f0 f1 f2) (ho : d.S e W base ok v xs) (ht : e ≠ 94) : some g ≠ v.ownBlock := by
 obtain ⟨A0, c0, hb, hg, hr0⟩ := h
 exact Kd.S_ne ho hb ht
theorem IsS94.lt {w0 W : World} {g : Nat} {f0 : List Int} {f1 : Int} {f2 : Int} (h : IsS94 w0 W g f0 f1 f2) : g < W.heap.size := by
 obtain ⟨A0, c0, hb, hg, hr0⟩ := h
 exact blk_lt hb
theorem IsS94.ge {w0 W : World} {g : Nat} {f0 : List Int} {f1 : Int} {f2 : Int} (h : IsS94 w0 W g f0 f1 f2) : w0.heap.size ≤ g := by
 obtain ⟨A0, c0, hb, hg, hr0⟩ := h
 exact hg
theorem IsS94.ne_blk {w0 W : World} {g : Nat} {f0 : List Int} {f1 : Int} {f2 : Int} {a : Nat} {cs : Array Value} {t : TypeId} {fr : Nat × Nat} (h : IsS94 w0 W g f0 f1 f2) (hb2 : W.heap[a]? = some (.cells cs t fr)) (ht : t ≠ 94) : g ≠ a := by
 obtain ⟨A0, c0, hb, hg, hr0⟩ := h
 rintro rfl
 rw [hb] at hb2
 injection hb2 with hb2
 injection hb2 with _ ht2
 exact ht ht2.symm
theorem IsS94.far {w0 W : World} {g : Nat} {f0 : List Int} {f1 : Int} {f2 : Int} {p : Addr} (h : IsS94 w0 W g f0 f1 f2) (hne : g ≠ p.block) (u : Value) : IsS94 w0 (W.setCell p u) g f0 f1 f2 := by
 obtain ⟨A0, c0, hb, hg, hr0⟩ := h
 exact ⟨A0, c0, blk_far hb hne u, hg, hr0⟩
theorem cellS94_0 {W : World} {g : Nat} {A0 : Option Addr} {c0 : Nat} {f0 : List Int} {f1 : Int} {f2 : Int} (h : W.heap[g]? = some (.cells #[.slice A0 f0.length c0, .int .i64 f1, .int .u64 f2] 94 (0, 0))) : W.cell? ⟨g, 0, none⟩ = some (.slice A0 f0.length c0) := (blk_cell h 0).trans rfl
theorem cellS94_1 {W : World} {g : Nat} {A0 : Option Addr} {c0 : Nat} {f0 : List Int} {f1 : Int} {f2 : Int} (h : W.heap[g]? = some (.cells #[.slice A0 f0.length c0, .int .i64 f1, .int .u64 f2] 94 (0, 0))) : W.cell? ⟨g, 1, none⟩ = some (.int .i64 f1) := (blk_cell h 1).trans rfl
theorem IsS94.set_1 {w0 W : World} {g : Nat} {f0 : List Int} {f1 : Int} {f2 : Int} (h : IsS94 w0 W g f0 f1 f2) (x : Int) : IsS94 w0 (W.setCell ⟨g, 1, none⟩ (.int .i64 x)) g f0 x f2 := by
 obtain ⟨A0, c0, hb, hg, hr0⟩ := h
 exact ⟨A0, c0, by simpa using blk_set hb 1 (.int .i64 x), hg, hr0⟩
theorem cellS94_2 {W : World} {g : Nat} {A0 : Option Addr} {c0 : Nat} {f0 : List Int} {f1 : Int} {f2 : Int} (h : W.heap[g]? = some (.cells #[.slice A0 f0.length c0, .int .i64 f1, .int .u64 f2] 94 (0, 0))) : W.cell? ⟨g, 2, none⟩ = some (.int .u64 f2) := (blk_cell h 2).trans rfl
theorem IsS94.set_2 {w0 W : World} {g : Nat} {f0 : List Int} {f1 : Int} {f2 : Int} (h : IsS94 w0 W g f0 f1 f2) (x : Int) : IsS94 w0 (W.setCell ⟨g, 2, none⟩ (.int .u64 x)) g f0 f1 x := by
 obtain ⟨A0, c0, hb, hg, hr0⟩ := h
 exact ⟨A0, c0, by simpa using blk_set hb 2 (.int .u64 x), hg, hr0⟩
theorem IsS94.new (w0 W : World) (A0 : Option Addr) (c0 : Nat) (f0 : List Int) (f1 : Int) (f2 : Int) (hB : Below w0.heap.size w0 W) (hr0 : Kd.C (Kd.int .u8) w0 A0 f0.length f0) : IsS94 w0 (W.alloc (.cells #[.slice A0 f0.length c0, .int .i64 f1, .int .u64 f2] 94)) W.heap.size f0 f1 f2 := ⟨A0, c0, by simpa using heap_alloc_new W _, hB.size, hr0⟩

/-! ### spec_l1Cur_next: function 126 -/
def spec_l1Cur_next.f (s0_0 : List Int) (s0_1 : Int) (s0_2 : Int) : Option (Int × Int × Int) := if s0_1 < (s0_0.length : Int) then (if 0 ≤ s0_1 then (if (wrap64 (s0_1 + 1)) ≤ (s0_0.length : Int) then (some (wrap64 (rd s0_0 s0_1), wrap64 (s0_1 + 1), IntKind.u64.wrap ((IntKind.u64.wrap ((IntKind.u64.wrap (s0_2 * 6364136223846793005)) + (IntKind.u64.wrap (wrap64 (rd s0_0 s0_1))))) + 1442695040888963407))) else (some (wrap64 (Go.bits .and .u64 ((IntKind.u64.wrap ((IntKind.u64.wrap ((IntKind.u64.wrap (s0_2 * 6364136223846793005)) + (IntKind.u64.wrap (wrap64 (rd s0_0 s0_1))))) + 1442695040888963407)) / 1099511627776) 255), wrap64 (s0_1 + 1), IntKind.u64.wrap ((IntKind.u64.wrap ((IntKind.u64.wrap (s0_2 * 6364136223846793005)) + (IntKind.u64.wrap (wrap64 (rd s0_0 s0_1))))) + 1442695040888963407)))) else (none)) else (if (wrap64 (s0_1 + 1)) ≤ (s0_0.length : Int) then (some (0, wrap64 (s0_1 + 1), IntKind.u64.wrap ((IntKind.u64.wrap ((IntKind.u64.wrap (s0_2 * 6364136223846793005)) + 0)) + 1442695040888963407))) else (some (wrap64 (Go.bits .and .u64 ((IntKind.u64.wrap ((IntKind.u64.wrap ((IntKind.u64.wrap (s0_2 * 6364136223846793005)) + 0)) + 1442695040888963407)) / 1099511627776) 255), wrap64 (s0_1 + 1), IntKind.u64.wrap ((IntKind.u64.wrap ((IntKind.u64.wrap (s0_2 * 6364136223846793005)) + 0)) + 1442695040888963407))))
set_option maxHeartbeats 8000000 in
set_option maxRecDepth 100000 in
theorem spec_l1Cur_next.calls (g : Nat) (s0_0 : List Int) (s0_1 : Int) (s0_2 : Int) (r1 : Int) (r2 : Int) (r3 : Int) (w0 w : World) (hI : IsS94 w0 w g s0_0 s0_1 s0_2) (hB : Below w0.heap.size w0 w) (h : spec_l1Cur_next.f s0_0 s0_1 s0_2 = some (r1, r2, r3)) :
  Calls Try.prog 126 #[.pointer (some ⟨g, 0, none⟩)] w fun e w' => e = .returned (.int .i64 r1) ∧ IsS94 w0 w' g s0_0 r2 r3 ∧ Below w0.heap.size w0 w' ∧ KeepBut w w' g none := by
 have HI0 := Aside0.mk hI
 have HK := Aside0.mk (KeepBut.refl w g none)
 have HL := Aside0.mk hB.size
 clear hI
 have HW0 := Aside0.mk hB.size
 have HB := Aside0.mk hB
 clear hB
 have H : (if s0_1 < (s0_0.length : Int) then (if 0 ≤ s0_1 then (if (wrap64 (s0_1 + 1)) ≤ (s0_0.length : Int) then (some (wrap64 (rd s0_0 s0_1), wrap64 (s0_1 + 1), IntKind.u64.wrap ((IntKind.u64.wrap ((IntKind.u64.wrap (s0_2 * 6364136223846793005)) + (IntKind.u64.wrap (wrap64 (rd s0_0 s0_1))))) + 1442695040888963407))) else (some (wrap64 (Go.bits .and .u64 ((IntKind.u64.wrap ((IntKind.u64.wrap ((IntKind.u64.wrap (s0_2 * 6364136223846793005)) + (IntKind.u64.wrap (wrap64 (rd s0_0 s0_1))))) + 1442695040888963407)) / 1099511627776) 255), wrap64 (s0_1 + 1), IntKind.u64.wrap ((IntKind.u64.wrap ((IntKind.u64.wrap (s0_2 * 6364136223846793005)) + (IntKind.u64.wrap (wrap64 (rd s0_0 s0_1))))) + 1442695040888963407)))) else (none)) else (if (wrap64 (s0_1 + 1)) ≤ (s0_0.length : Int) then (some (0, wrap64 (s0_1 + 1), IntKind.u64.wrap ((IntKind.u64.wrap ((IntKind.u64.wrap (s0_2 * 6364136223846793005)) + 0)) + 1442695040888963407))) else (some (wrap64 (Go.bits .and .u64 ((IntKind.u64.wrap ((IntKind.u64.wrap ((IntKind.u64.wrap (s0_2 * 6364136223846793005)) + 0)) + 1442695040888963407)) / 1099511627776) 255), wrap64 (s0_1 + 1), IntKind.u64.wrap ((IntKind.u64.wrap ((IntKind.u64.wrap (s0_2 * 6364136223846793005)) + 0)) + 1442695040888963407))))) = some (r1, r2, r3) := h
 clear h
 by_cases c2 : s0_1 < (s0_0.length : Int)
 ·rw [if_pos c2] at H
  have c2b0 : decide (s0_1 < (s0_0.length : Int)) = true := decide_eq_true c2
  clear c2
  by_cases c3 : 0 ≤ s0_1
  ·rw [if_pos c3] at H
   have c3b0 : decide (0 ≤ s0_1) = true := decide_eq_true c3
   clear c3
   by_cases c4 : (wrap64 (s0_1 + 1)) ≤ (s0_0.length : Int)
   ·rw [if_pos c4] at H
    have c4b0 : decide ((wrap64 (s0_1 + 1)) ≤ (s0_0.length : Int)) = true := decide_eq_true c4
    clear c4
    simp only [Option.some.injEq, Prod.mk.injEq] at H
    obtain ⟨rfl, rfl, rfl⟩ := H
    obtain ⟨ASz5_0, cSz5_0, HGz5, hgz5, HSz5_0⟩ := HI0.out
    have hcz5_0 := cellS94_0 HGz5
    have hcz5_1 := cellS94_1 HGz5
    have hcz5_2 := cellS94_2 HGz5
    have hfz5_1 := blk_frozen HGz5 1
    have hfz5_2 := blk_frozen HGz5 2
    clear HGz5 hgz5
    have p243 : 0 ≤ (s0_1 : Int) := of_decide_eq_true z2
    have q243 : s0_1 < (s0_0.length : Int) := of_decide_eq_true z2
    obtain ⟨ad243, e243, hx243_0⟩ := Kd.at_int HSz5_0 s0_1 p243 q243
    cases e243
    replace hx243_0 := pw_cell_below HB.out hx243_0
    replace p243 := eq_true p243
    replace q243 := eq_true q243
    go_enter Try.func126, Try.ntmps126
    go_wp2
    repeat (go_quiet (fail); try go_wp2)
    go_ret
    exact ⟨by first | rfl | (simp [errW_none, errW_some] <;> rfl) | (simp [*, errW_none, errW_some] <;> rfl), by (try simp only [Int.add_zero]); repeat (first | (with_reducible first | exact HI0.out | apply IsS94.alloc | apply IsS94.drewN | apply IsS94.drew | apply IsS94.set_1 | apply IsS94.set_2) | exact HI0.out), by repeat (first | (with_reducible first | exact HB.out | apply below_alloc | apply pw_below_drewN | apply below_drew1 | refine below_set ?_ (IsS94.ge HI0.out)) | exact HB.out), by repeat (first | (with_reducible first | exact HK.out | apply KeepBut.set_ | apply keep_drewN | apply keep_drew | apply keep_alloc) | exact HK.out)⟩
   ·rw [if_neg c4] at H
    have c4b0 : decide ((wrap64 (s0_1 + 1)) ≤ (s0_0.length : Int)) = false := decide_eq_false c4
    clear c4
    simp only [Option.some.injEq, Prod.mk.injEq] at H
    obtain ⟨rfl, rfl, rfl⟩ := H
    obtain ⟨ASz6_0, cSz6_0, HGz6, hgz6, HSz6_0⟩ := HI0.out
    have hcz6_0 := cellS94_0 HGz6
    have hcz6_1 := cellS94_1 HGz6
    have hcz6_2 := cellS94_2 HGz6
    have hfz6_1 := blk_frozen HGz6 1
    have hfz6_2 := blk_frozen HGz6 2
    clear HGz6 hgz6
    have p243 : 0 ≤ (s0_1 : Int) := of_decide_eq_true z2
    have q243 : s0_1 < (s0_0.length : Int) := of_decide_eq_true z2
    obtain ⟨ad243, e243, hx243_0⟩ := Kd.at_int HSz6_0 s0_1 p243 q243
    cases e243
    replace hx243_0 := pw_cell_below HB.out hx243_0
    replace p243 := eq_true p243
    replace q243 := eq_true q243
    go_enter Try.func126, Try.ntmps126
    go_wp2
    repeat (go_quiet (fail); try go_wp2)
    go_ret
    exact ⟨by first | rfl | (simp [errW_none, errW_some] <;> rfl) | (simp [*, errW_none, errW_some] <;> rfl), by (try simp only [Int.add_zero]); repeat (first | (with_reducible first | exact HI0.out | apply IsS94.alloc | apply IsS94.drewN | apply IsS94.drew | apply IsS94.set_1 | apply IsS94.set_2) | exact HI0.out), by repeat (first | (with_reducible first | exact HB.out | apply below_alloc | apply pw_below_drewN | apply below_drew1 | refine below_set ?_ (IsS94.ge HI0.out)) | exact HB.out), by repeat (first | (with_reducible first | exact HK.out | apply KeepBut.set_ | apply keep_drewN | apply keep_drew | apply keep_alloc) | exact HK.out)⟩
  ·rw [if_neg c3] at H
   exact absurd H (by simp)
 ·rw [if_neg c2] at H
  have c2b0 : decide (s0_1 < (s0_0.length : Int)) = false := decide_eq_false c2
  clear c2
  by_cases c7 : (wrap64 (s0_1 + 1)) ≤ (s0_0.length : Int)
  ·rw [if_pos c7] at H
   have c7b0 : decide ((wrap64 (s0_1 + 1)) ≤ (s0_0.length : Int)) = true := decide_eq_true c7
   clear c7
   simp only [Option.some.injEq, Prod.mk.injEq] at H
   obtain ⟨rfl, rfl, rfl⟩ := H
   obtain ⟨ASz8_0, cSz8_0, HGz8, hgz8, HSz8_0⟩ := HI0.out
   have hcz8_0 := cellS94_0 HGz8
   have hcz8_1 := cellS94_1 HGz8
   have hcz8_2 := cellS94_2 HGz8
   have hfz8_1 := blk_frozen HGz8 1
   have hfz8_2 := blk_frozen HGz8 2
   clear HGz8 hgz8
   go_enter Try.func126, Try.ntmps126
   go_wp2
   repeat (go_quiet (fail); try go_wp2)
   go_ret
   exact ⟨by first | rfl | (simp [errW_none, errW_some] <;> rfl) | (simp [*, errW_none, errW_some] <;> rfl), by (try simp only [Int.add_zero]); repeat (first | (with_reducible first | exact HI0.out | apply IsS94.alloc | apply IsS94.drewN | apply IsS94.drew | apply IsS94.set_1 | apply IsS94.set_2) | exact HI0.out), by repeat (first | (with_reducible first | exact HB.out | apply below_alloc | apply pw_below_drewN | apply below_drew1 | refine below_set ?_ (IsS94.ge HI0.out)) | exact HB.out), by repeat (first | (with_reducible first | exact HK.out | apply KeepBut.set_ | apply keep_drewN | apply keep_drew | apply keep_alloc) | exact HK.out)⟩
  ·rw [if_neg c7] at H
   have c7b0 : decide ((wrap64 (s0_1 + 1)) ≤ (s0_0.length : Int)) = false := decide_eq_false c7
   clear c7
   simp only [Option.some.injEq, Prod.mk.injEq] at H
   obtain ⟨rfl, rfl, rfl⟩ := H
   obtain ⟨ASz9_0, cSz9_0, HGz9, hgz9, HSz9_0⟩ := HI0.out
   have hcz9_0 := cellS94_0 HGz9
   have hcz9_1 := cellS94_1 HGz9
   have hcz9_2 := cellS94_2 HGz9
   have hfz9_1 := blk_frozen HGz9 1
   have hfz9_2 := blk_frozen HGz9 2
   clear HGz9 hgz9
   go_enter Try.func126, Try.ntmps126
   go_wp2
   repeat (go_quiet (fail); try go_wp2)
   go_ret
   exact ⟨by first | rfl | (simp [errW_none, errW_some] <;> rfl) | (simp [*, errW_none, errW_some] <;> rfl), by (try simp only [Int.add_zero]); repeat (first | (with_reducible first | exact HI0.out | apply IsS94.alloc | apply IsS94.drewN | apply IsS94.drew | apply IsS94.set_1 | apply IsS94.set_2) | exact HI0.out), by repeat (first | (with_reducible first | exact HB.out | apply below_alloc | apply pw_below_drewN | apply below_drew1 | refine below_set ?_ (IsS94.ge HI0.out)) | exact HB.out), by repeat (first | (with_reducible first | exact HK.out | apply KeepBut.set_ | apply keep_drewN | apply keep_drew | apply keep_alloc) | exact HK.out)⟩

/-! ### spec_l1Cur_pick: function 90 -/
def spec_l1Cur_pick.f (s0_0 : List Int) (s0_1 : Int) (s0_2 : Int) (a1 : Int) : Option (Int × Int × Int) := if a1 ≤ 1 then (some (0, s0_1, s0_2)) else ((spec_l1Cur_next.f s0_0 s0_1 s0_2).bind fun bt244 => (if a1 > 200 then ((spec_l1Cur_next.f s0_0 bt244.2.1 bt244.2.2).bind fun bt247 => (if a1 = 0 then (none) else (some (Int.tmod (wrap64 ((wrap64 (bt244.1 * 256)) + bt247.1)) a1, bt247.2.1, bt247.2.2)))) else (if a1 = 0 then (none) else (some (Int.tmod bt244.1 a1, bt244.2.1, bt244.2.2)))))
set_option maxHeartbeats 8000000 in
set_option maxRecDepth 100000 in
theorem spec_l1Cur_pick.calls (g : Nat) (s0_0 : List Int) (s0_1 : Int) (s0_2 : Int) (a1 : Int) (r1 : Int) (r2 : Int) (r3 : Int) (w0 w : World) (hI : IsS94 w0 w g s0_0 s0_1 s0_2) (hB : Below w0.heap.size w0 w) (h : spec_l1Cur_pick.f s0_0 s0_1 s0_2 a1 = some (r1, r2, r3)) :
  Calls Try.prog 90 #[.pointer (some ⟨g, 0, none⟩), .int .i64 a1] w fun e w' => e = .returned (.int .i64 r1) ∧ IsS94 w0 w' g s0_0 r2 r3 ∧ Below w0.heap.size w0 w' ∧ KeepBut w w' g none := by
 have HI0 := Aside0.mk hI
 have HK := Aside0.mk (KeepBut.refl w g none)
 have HL := Aside0.mk hB.size
 clear hI
 have HW0 := Aside0.mk hB.size
 have HB := Aside0.mk hB
 clear hB
 have H : (if a1 ≤ 1 then (some (0, s0_1, s0_2)) else ((spec_l1Cur_next.f s0_0 s0_1 s0_2).bind fun bt244 => (if a1 > 200 then ((spec_l1Cur_next.f s0_0 bt244.2.1 bt244.2.2).bind fun bt247 => (if a1 = 0 then (none) else (some (Int.tmod (wrap64 ((wrap64 (bt244.1 * 256)) + bt247.1)) a1, bt247.2.1, bt247.2.2)))) else (if a1 = 0 then (none) else (some (Int.tmod bt244.1 a1, bt244.2.1, bt244.2.2)))))) = some (r1, r2, r3) := h
 clear h
 by_cases c3 : a1 ≤ 1
 ·rw [if_pos c3] at H
  have c3b0 : decide (a1 ≤ 1) = true := decide_eq_true c3
  clear c3
  simp only [Option.some.injEq, Prod.mk.injEq] at H
  obtain ⟨rfl, rfl, rfl⟩ := H
  go_enter Try.func90, Try.ntmps90
  go_wp2
  go_ret
  exact ⟨by first | rfl | (simp [errW_none, errW_some] <;> rfl) | (simp [*, errW_none, errW_some] <;> rfl), by (try simp only [Int.add_zero]); repeat (first | (with_reducible first | exact HI0.out | apply IsS94.alloc | apply IsS94.drewN | apply IsS94.drew | apply IsS94.set_1 | apply IsS94.set_2) | exact HI0.out), by repeat (first | (with_reducible first | exact HB.out | apply below_alloc | apply pw_below_drewN | apply below_drew1 | refine below_set ?_ (IsS94.ge HI0.out)) | exact HB.out), by repeat (first | (with_reducible first | exact HK.out | apply KeepBut.set_ | apply keep_drewN | apply keep_drew | apply keep_alloc) | exact HK.out)⟩
 ·rw [if_neg c3] at H
  have c3b0 : decide (a1 ≤ 1) = false := decide_eq_false c3
  clear c3
  replace H := Option.bind_eq_some_iff.mp H
  obtain ⟨⟨t244, t245, t246⟩, A40, H⟩ := H
  try dsimp only at H
  have A4 := Aside0.mk A40
  clear A40
  by_cases c5 : a1 > 200
  ·rw [if_pos c5] at H
   have c5b0 : decide (200 < a1) = true := decide_eq_true c5
   clear c5
   replace H := Option.bind_eq_some_iff.mp H
   obtain ⟨⟨t247, t248, t249⟩, A60, H⟩ := H
   try dsimp only at H
   have A6 := Aside0.mk A60
   clear A60
   by_cases c7 : a1 = 0
   ·rw [if_pos c7] at H
    exact absurd H (by simp)
   ·rw [if_neg c7] at H
    have c7b0 : (a1 == 0) = false := beq_eq_false_iff_ne.mpr c7
    have c7b1 : (a1 != 0) = true := bne_iff_ne.mpr c7
    simp only [Option.some.injEq, Prod.mk.injEq] at H
    obtain ⟨rfl, rfl, rfl⟩ := H
    go_enter Try.func90, Try.ntmps90
    go_wp2_with (first | ((with_reducible refine gate_callee (f := 126) rfl ?_); refine goesL_ (some 9) rfl rfl Try.func126 z0 rfl #[.pointer (some ⟨g, 0, none⟩)] rfl z7 ?_; (with_reducible refine (spec_l1Cur_next.calls g s0_0 s0_1 s0_2 t244 t245 t246 w0 _ ?side1 ?side2 A4.out).mono ?_); (case side1 => repeat (first | (with_reducible first | exact HI0.out | apply IsS94.alloc | apply IsS94.drewN | apply IsS94.drew | apply IsS94.set_1 | apply IsS94.set_2) | exact HI0.out)); (case side2 => repeat (first | (with_reducible first | exact HB.out | apply below_alloc | apply pw_below_drewN | apply below_drew1 | refine below_set ?_ (IsS94.ge HI0.out)) | exact HB.out)); rintro e w8 ⟨rfl, hi, hb, hk⟩; refine ⟨_, rfl, ?_⟩; have n0_ := Aside0.mk (KeepBut.trans z8 hk (.inl rfl)); have n1_ := Aside0.mk (hb); have n2_ := Aside0.mk (hi); clear HK; clear HB; clear HI0; have HK := n0_; have HB := n1_; have HI0 := n2_; clear n0_ n1_ n2_; (try clear hb); (try clear hb2); (try clear hk); (try clear hi); (try clear BK0)) | ((with_reducible refine gate_callee (f := 126) rfl ?_); refine goesL_ (some 15) rfl rfl Try.func126 z0 rfl #[.pointer (some ⟨g, 0, none⟩)] rfl z7 ?_; (with_reducible refine (spec_l1Cur_next.calls g s0_0 t245 t246 t247 t248 t249 w0 _ ?side1 ?side2 A6.out).mono ?_); (case side1 => repeat (first | (with_reducible first | exact HI0.out | apply IsS94.alloc | apply IsS94.drewN | apply IsS94.drew | apply IsS94.set_1 | apply IsS94.set_2) | exact HI0.out)); (case side2 => repeat (first | (with_reducible first | exact HB.out | apply below_alloc | apply pw_below_drewN | apply below_drew1 | refine below_set ?_ (IsS94.ge HI0.out)) | exact HB.out)); rintro e w9 ⟨rfl, hi, hb, hk⟩; refine ⟨_, rfl, ?_⟩; have n0_ := Aside0.mk (KeepBut.trans z8 hk (.inl rfl)); have n1_ := Aside0.mk (hb); have n2_ := Aside0.mk (hi); clear HK; clear HB; clear HI0; have HK := n0_; have HB := n1_; have HI0 := n2_; clear n0_ n1_ n2_; (try clear hb); (try clear hb2); (try clear hk); (try clear hi); (try clear BK0)))
    go_ret
    exact ⟨by first | rfl | (simp [errW_none, errW_some] <;> rfl) | (simp [*, errW_none, errW_some] <;> rfl), by (try simp only [Int.add_zero]); repeat (first | (with_reducible first | exact HI0.out | apply IsS94.alloc | apply IsS94.drewN | apply IsS94.drew | apply IsS94.set_1 | apply IsS94.set_2) | exact HI0.out), by repeat (first | (with_reducible first | exact HB.out | apply below_alloc | apply pw_below_drewN | apply below_drew1 | refine below_set ?_ (IsS94.ge HI0.out)) | exact HB.out), by repeat (first | (with_reducible first | exact HK.out | apply KeepBut.set_ | apply keep_drewN | apply keep_drew | apply keep_alloc) | exact HK.out)⟩
  ·rw [if_neg c5] at H
   have c5b0 : decide (200 < a1) = false := decide_eq_false c5
   clear c5
   by_cases c10 : a1 = 0
   ·rw [if_pos c10] at H
    exact absurd H (by simp)
   ·rw [if_neg c10] at H
    have c10b0 : (a1 == 0) = false := beq_eq_false_iff_ne.mpr c10
    have c10b1 : (a1 != 0) = true := bne_iff_ne.mpr c10
    simp only [Option.some.injEq, Prod.mk.injEq] at H
    obtain ⟨rfl, rfl, rfl⟩ := H
    go_enter Try.func90, Try.ntmps90
    go_wp2_with (first | ((with_reducible refine gate_callee (f := 126) rfl ?_); refine goesL_ (some 9) rfl rfl Try.func126 z0 rfl #[.pointer (some ⟨g, 0, none⟩)] rfl z7 ?_; (with_reducible refine (spec_l1Cur_next.calls g s0_0 s0_1 s0_2 t244 t245 t246 w0 _ ?side1 ?side2 A4.out).mono ?_); (case side1 => repeat (first | (with_reducible first | exact HI0.out | apply IsS94.alloc | apply IsS94.drewN | apply IsS94.drew | apply IsS94.set_1 | apply IsS94.set_2) | exact HI0.out)); (case side2 => repeat (first | (with_reducible first | exact HB.out | apply below_alloc | apply pw_below_drewN | apply below_drew1 | refine below_set ?_ (IsS94.ge HI0.out)) | exact HB.out)); rintro e w11 ⟨rfl, hi, hb, hk⟩; refine ⟨_, rfl, ?_⟩; have n0_ := Aside0.mk (KeepBut.trans z8 hk (.inl rfl)); have n1_ := Aside0.mk (hb); have n2_ := Aside0.mk (hi); clear HK; clear HB; clear HI0; have HK := n0_; have HB := n1_; have HI0 := n2_; clear n0_ n1_ n2_; (try clear hb); (try clear hb2); (try clear hk); (try clear hi); (try clear BK0)))
    go_ret
    exact ⟨by first | rfl | (simp [errW_none, errW_some] <;> rfl) | (simp [*, errW_none, errW_some] <;> rfl), by (try simp only [Int.add_zero]); repeat (first | (with_reducible first | exact HI0.out | apply IsS94.alloc | apply IsS94.drewN | apply IsS94.drew | apply IsS94.set_1 | apply IsS94.set_2) | exact HI0.out), by repeat (first | (with_reducible first | exact HB.out | apply below_alloc | apply pw_below_drewN | apply below_drew1 | refine below_set ?_ (IsS94.ge HI0.out)) | exact HB.out), by repeat (first | (with_reducible first | exact HK.out | apply KeepBut.set_ | apply keep_drewN | apply keep_drew | apply keep_alloc) | exact HK.out)⟩

/-! ### spec_l1Cur_one: function 64 -/
def spec_l1Cur_one.f (s0_0 : List Int) (s0_1 : Int) (s0_2 : Int) (a1 : Int) : Option (Bool × Int × Int) := (spec_l1Cur_pick.f s0_0 s0_1 s0_2 a1).bind fun bt250 => (some ((bt250.1 == 0), bt250.2.1, bt250.2.2))
set_option maxHeartbeats 8000000 in
set_option maxRecDepth 100000 in
theorem spec_l1Cur_one.calls (g : Nat) (s0_0 : List Int) (s0_1 : Int) (s0_2 : Int) (a1 : Int) (r1 : Bool) (r2 : Int) (r3 : Int) (w0 w : World) (hI : IsS94 w0 w g s0_0 s0_1 s0_2) (hB : Below w0.heap.size w0 w) (h : spec_l1Cur_one.f s0_0 s0_1 s0_2 a1 = some (r1, r2, r3)) :
  Calls Try.prog 64 #[.pointer (some ⟨g, 0, none⟩), .int .i64 a1] w fun e w' => e = .returned (.bool r1) ∧ IsS94 w0 w' g s0_0 r2 r3 ∧ Below w0.heap.size w0 w' ∧ KeepBut w w' g none := by
 have HI0 := Aside0.mk hI
 have HK := Aside0.mk (KeepBut.refl w g none)
 have HL := Aside0.mk hB.size
 clear hI
 have HW0 := Aside0.mk hB.size
 have HB := Aside0.mk hB
 clear hB
 have H : ((spec_l1Cur_pick.f s0_0 s0_1 s0_2 a1).bind fun bt250 => (some ((bt250.1 == 0), bt250.2.1, bt250.2.2))) = some (r1, r2, r3) := h
 clear h
 replace H := Option.bind_eq_some_iff.mp H
 obtain ⟨⟨t250, t251, t252⟩, A30, H⟩ := H
 try dsimp only at H
 have A3 := Aside0.mk A30
 clear A30
 simp only [Option.some.injEq, Prod.mk.injEq] at H
 obtain ⟨rfl, rfl, rfl⟩ := H
 go_enter Try.func64, Try.ntmps64
 go_wp2_with (first | ((with_reducible refine gate_callee (f := 90) rfl ?_); refine goesL_ (some 7) rfl rfl Try.func90 z0 rfl #[.pointer (some ⟨g, 0, none⟩), .int .i64 a1] rfl z7 ?_; (with_reducible refine (spec_l1Cur_pick.calls g s0_0 s0_1 s0_2 a1 t250 t251 t252 w0 _ ?side1 ?side2 A3.out).mono ?_); (case side1 => repeat (first | (with_reducible first | exact HI0.out | apply IsS94.alloc | apply IsS94.drewN | apply IsS94.drew | apply IsS94.set_1 | apply IsS94.set_2) | exact HI0.out)); (case side2 => repeat (first | (with_reducible first | exact HB.out | apply below_alloc | apply pw_below_drewN | apply below_drew1 | refine below_set ?_ (IsS94.ge HI0.out)) | exact HB.out)); rintro e w4 ⟨rfl, hi, hb, hk⟩; refine ⟨_, rfl, ?_⟩; have n0_ := Aside0.mk (KeepBut.trans z8 hk (.inl rfl)); have n1_ := Aside0.mk (hb); have n2_ := Aside0.mk (hi); clear HK; clear HB; clear HI0; have HK := n0_; have HB := n1_; have HI0 := n2_; clear n0_ n1_ n2_; (try clear hb); (try clear hb2); (try clear hk); (try clear hi); (try clear BK0)))
 go_ret
 exact ⟨by first | rfl | (simp [errW_none, errW_some] <;> rfl) | (simp [*, errW_none, errW_some] <;> rfl), by (try simp only [Int.add_zero]); repeat (first | (with_reducible first | exact HI0.out | apply IsS94.alloc | apply IsS94.drewN | apply IsS94.drew | apply IsS94.set_1 | apply IsS94.set_2) | exact HI0.out), by repeat (first | (with_reducible first | exact HB.out | apply below_alloc | apply pw_below_drewN | apply below_drew1 | refine below_set ?_ (IsS94.ge HI0.out)) | exact HB.out), by repeat (first | (with_reducible first | exact HK.out | apply KeepBut.set_ | apply keep_drewN | apply keep_drew | apply keep_alloc) | exact HK.out)⟩

end Go.Proofs.Ytpbelbckinpinaa.AFnDiff
