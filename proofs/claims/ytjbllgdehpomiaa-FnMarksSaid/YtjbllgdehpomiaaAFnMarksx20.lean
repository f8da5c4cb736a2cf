-- this session's own text: written by wip/tools/ownprint.py over the kit's print
import Derived.Test.YtjbllgdehpomiaaAFnMarksx0
import Derived.Test.YtjbllgdehpomiaaAFnMarksx10
import Derived.Laws.Externs
import Derived.Lib.Bytealg
import Derived.Deep.RegionLaw
import Derived.Outline
import Derived.Deep.DeepCutAuto
import Derived.Deep.CutBlock
import Derived.BigRegion
namespace Go.Proofs.Ytjbllgdehpomiaa.AFnMarks
open Go.RowKit Go.Proofs.YtjbllgdehpomiaaW.PrintWords Go.Proofs.YtjbllgdehpomiaaW.PrintLast Go.Proofs.YtjbllgdehpomiaaW.PrintMore
attribute [local go_sem] max2_int min2_int max_two min_two max_three min_three max_four min_four   -- for this text's walks alone
set_option linter.unusedVariables false
set_option maxHeartbeats 8000000
set_option maxRecDepth 100000
set_option linter.unusedSimpArgs false
/-! ### impl_SizesOf: function 19 -/
def impl_SizesOf.f (k : Nat) (l0 : List (S68)) : Option (Int × Int × Bool) := (impl_GoodOp.f k l0).bind fun od => (if od = true then ((impl_sizes.f k l0).bind fun lD => (some (lD.1, lD.2, true))) else (some (0, 0, false)))
theorem impl_SizesOf.mono : ∀ a0 k, LeO (impl_SizesOf.f k a0) (impl_SizesOf.f (k + 1) a0) := by
 intro a0 k
 unfold impl_SizesOf.f
 with_reducible repeat' first | exact impl_GoodOp.mono _ _ | exact impl_sizes.mono _ _ | exact lR_ _ | exact lN_ _ | refine lI_ ?_ ?_ | refine lB_ ?_ fun _ => ?_
theorem impl_SizesOf.calls (k : Nat) (A0 : Option Addr) (c0 : Nat) (l0 : List (S68)) (r1 : Int) (r2 : Int) (r3 : Bool) (w : World) (hr0 : Kd.C k68 w A0 l0.length l0) (hc0 : l0.length ≤ c0) (h : impl_SizesOf.f k l0 = some (r1, r2, r3)) :
  Calls Try.prog 19 #[.slice A0 l0.length c0] w fun e w' => e = .returned (.tuple #[.int .i64 r1, .int .i64 r2, .bool r3]) ∧ Below w.heap.size w w' := by
 have bH := aM hr0
 have cH := aM hc0
 clear hr0 hc0
 have HB := aM (Below.refl w.heap.size w)
 have H : ((impl_GoodOp.f k l0).bind fun od => (if od = true then ((impl_sizes.f k l0).bind fun lD => (some (lD.1, lD.2, true))) else (some (0, 0, false)))) = some (r1, r2, r3) := h
 clear h
 obtain ⟨od, A2, H⟩ := oA_ H
 try dsimp only at H
 by_cases c3 : od = true
 ·subst c3
  rw [if_pos rfl] at H
  obtain ⟨⟨t371, t372⟩, A4, H⟩ := oA_ H
  try dsimp only at H
  simp only [Option.some.injEq, Prod.mk.injEq] at H
  obtain ⟨rfl, rfl, rfl⟩ := H
  go_enter Try.func19, Try.ntmps19
  go_wp2_with (first | ((with_reducible refine ax (f := 38) rfl ?_); refine aC (some 8) rfl rfl Try.func38 z0 rfl #[.slice A0 l0.length c0] rfl z10 ?_; (with_reducible refine (impl_GoodOp.calls k _ _ l0 true _ ?side1 ?side2 A2.out).mono ?_); (case side1 => exact y53); (case side2 => exact y51); rintro e w5 ⟨rfl, hb⟩; refine ⟨_, rfl, ?_⟩; replace HB := aM (ap z9 hb); (try clear hb)) | ((with_reducible refine ax (f := 39) rfl ?_); refine aC (some 12) rfl rfl Try.func39 z0 rfl #[.slice A0 l0.length c0] rfl z10 ?_; (with_reducible refine (impl_sizes.calls k _ _ l0 t371 t372 _ ?side1 ?side2 A4.out).mono ?_); (case side1 => exact y64); (case side2 => exact y51); rintro e w6 ⟨rfl, hb⟩; refine ⟨_, rfl, ?_⟩; replace HB := aM (ap z9 hb); (try clear hb)))
  go_ret3
  exact ⟨y5, y6⟩
 ·replace c3 := Bool.eq_false_iff.mpr c3
  subst c3
  rw [if_neg nF_] at H
  simp only [Option.some.injEq, Prod.mk.injEq] at H
  obtain ⟨rfl, rfl, rfl⟩ := H
  go_enter Try.func19, Try.ntmps19
  go_wp2_with (first | ((with_reducible refine ax (f := 38) rfl ?_); refine aC (some 8) rfl rfl Try.func38 z0 rfl #[.slice A0 l0.length c0] rfl z10 ?_; (with_reducible refine (impl_GoodOp.calls k _ _ l0 false _ ?side1 ?side2 A2.out).mono ?_); (case side1 => exact y53); (case side2 => exact y51); rintro e w7 ⟨rfl, hb⟩; refine ⟨_, rfl, ?_⟩; replace HB := aM (ap z9 hb); (try clear hb)))
  go_ret3
  exact ⟨y5, y6⟩

/-! ### impl_maker_end: function 57, by hand -/

/-! ### impl_maker_keep: function 56, by hand -/

/-! ### impl_maker_take: function 40, by hand -/

/-! ### impl_maker_made: function 41, by hand -/
def Mk (w0 w : World) (g : Nat) (v : Value) (out : List S68) (put drop : ByteArray) : Prop :=
 w.heap[g]? = some (.cells #[v, .string put, .string drop] 72 (0, 0)) ∧ Kd.R k68 68 w w0.heap.size (fun _ => True) v out ∧ Below w0.heap.size w0 w ∧ w0.heap.size ≤ g
def MkTo (w w' : World) (g : Nat) (v v' : Value) : Prop := Kept w w' (fun k => k = g ∨ some k = v.ownBlock) ∧ (v'.ownBlock = v.ownBlock ∨ ∃ b, v'.ownBlock = some b ∧ w.heap.size ≤ b)
theorem MkTo.refl (w : World) (g : Nat) (v : Value) : MkTo w w g v v := ⟨Kept.refl _ _, .inl rfl⟩
theorem MkTo.trans {w w1 w2 : World} {g : Nat} {v v1 v2 : Value} (h : MkTo w w1 g v v1) (k : MkTo w1 w2 g v1 v2) : MkTo w w2 g v v2 := by
 obtain ⟨h1, h2⟩ := h
 obtain ⟨k1, k2⟩ := k
 refine ⟨h1.then_ k1 (fun b hb => ?_), ?_⟩
 ·rcases hb with rfl | hb
  ·exact .inl (.inl rfl)
  ·rcases h2 with h2 | ⟨b', h2, hle⟩
   ·rw [h2] at hb; exact .inl (.inr hb)
   ·rw [h2] at hb; injection hb with hb; exact .inr (by omega)
 ·rcases k2 with k2 | ⟨b', k2, hle⟩
  ·rw [k2]; exact h2
  ·exact .inr ⟨b', k2, Nat.le_trans h1.1 hle⟩
theorem Mk.alloc {w0 w : World} {g : Nat} {v : Value} {out : List S68} {put drop : ByteArray} (h : Mk w0 w g v out put drop) (o : Obj) : Mk w0 (w.alloc o) g v out put drop :=
 ⟨al h.1 o, ac h.2.1 o, h.2.2.1.alloc h.2.2.1.size o, h.2.2.2⟩
theorem Mk.drew {w0 w : World} {g : Nat} {v : Value} {out : List S68} {put drop : ByteArray} (h : Mk w0 w g v out put drop) : Mk w0 w.drew g v out put drop :=
 ⟨aj h.1, aa h.2.1, below_drew h.2.2.1, h.2.2.2⟩
theorem Mk.drewN {w0 w : World} {g : Nat} {v : Value} {out : List S68} {put drop : ByteArray} (h : Mk w0 w g v out put drop) (n : Nat) : Mk w0 (w.drewN n) g v out put drop :=
 ⟨ak h.1 n, ab h.2.1 n, pD h.2.2.1 n, h.2.2.2⟩
theorem Mk.below {w0 w w' : World} {g : Nat} {v : Value} {out : List S68} {put drop : ByteArray} (h : Mk w0 w g v out put drop) (hb : Below w.heap.size w w') : Mk w0 w' g v out put drop :=
 ⟨ae h.1 hb, af h.2.1 hb, below_then h.2.2.1 h.2.2.1.size hb, h.2.2.2⟩
theorem MkTo.alloc {w w' : World} {g : Nat} {v v' : Value} (h : MkTo w w' g v v') (o : Obj) : MkTo w (w'.alloc o) g v v' := ⟨h.1.alloc o, h.2⟩
theorem MkTo.drew {w w' : World} {g : Nat} {v v' : Value} (h : MkTo w w' g v v') : MkTo w w'.drew g v v' := ⟨h.1.drew, h.2⟩
theorem MkTo.drewN {w w' : World} {g : Nat} {v v' : Value} (h : MkTo w w' g v v') (n : Nat) : MkTo w (w'.drewN n) g v v' := ⟨h.1.drewN n, h.2⟩
theorem MkTo.below {w w' w2 : World} {g : Nat} {v v' : Value} (h : MkTo w w' g v v') (hb : Below w'.heap.size w' w2) : MkTo w w2 g v v' := ⟨h.1.below hb, h.2⟩
theorem Mk.far {w0 w : World} {g : Nat} {v : Value} {out : List S68} {put drop : ByteArray} (h : Mk w0 w g v out put drop) : ∀ k, v.ownBlock = some k → k ≠ g := fun k hk e => Kd.R_ne h.2.1 h.1 (by decide) (by rw [hk, e])
theorem Mk.set1 {w0 w : World} {g : Nat} {v : Value} {out : List S68} {put drop : ByteArray} (h : Mk w0 w g v out put drop) (s : ByteArray) : Mk w0 (w.setCell ⟨g, 1, none⟩ (.string s)) g v out s drop :=
 ⟨by simpa using blk_set h.1 1 (.string s), Kd.R_set h.2.1 h.1 (by decide) 1 _, ao h.2.2.1 h.2.2.2, h.2.2.2⟩
theorem Mk.set2 {w0 w : World} {g : Nat} {v : Value} {out : List S68} {put drop : ByteArray} (h : Mk w0 w g v out put drop) (s : ByteArray) : Mk w0 (w.setCell ⟨g, 2, none⟩ (.string s)) g v out put s :=
 ⟨by simpa using blk_set h.1 2 (.string s), Kd.R_set h.2.1 h.1 (by decide) 2 _, ao h.2.2.1 h.2.2.2, h.2.2.2⟩
theorem MkTo.set {w w' : World} {g : Nat} {v v' : Value} (h : MkTo w w' g v v') (j : Nat) (u : Value) : MkTo w (w'.setCell ⟨g, j, none⟩ u) g v v' := ⟨h.1.setCell (.inl (.inl rfl)) u, h.2⟩
/-- an append, and its store into the field -/
theorem Mk.app {w0 w w1 : World} {g : Nat} {v v1 : Value} {out out1 : List S68} {put drop : ByteArray} (h : Mk w0 w g v out put drop) (hr : Kd.R k68 68 w1 w0.heap.size (fun _ => True) v1 out1) (hb : Below w0.heap.size w0 w1) (hg : w.grownBy w1 v.ownBlock) : Mk w0 (w1.setCell ⟨g, 0, none⟩ v1) g v1 out1 put drop := by
 have hk := blk_grown h.1 hg (Kd.R_ne h.2.1 h.1 (by decide))
 exact ⟨by simpa using blk_set hk 0 v1, Kd.R_set hr hk (by decide) 0 _, ao hb h.2.2.2, h.2.2.2⟩
theorem MkTo.app {w w1 : World} {g : Nat} {v v1 : Value} (hg : w.grownBy w1 v.ownBlock) (hat : v1.ownBlock = v.ownBlock ∨ ∃ b, v1.ownBlock = some b ∧ w.heap.size ≤ b) (u : Value) : MkTo w (w1.setCell ⟨g, 0, none⟩ u) g v v1 :=
 ⟨(Kept.of_grown hg (Kept.refl w _) (fun k hk => .inl (.inr hk.symm))).setCell (.inl (.inl rfl)) u, hat⟩
theorem Mk.cells {w0 w : World} {g : Nat} {v : Value} {out : List S68} {put drop : ByteArray} (h : Mk w0 w g v out put drop) :
  w.cell? ⟨g, 0, none⟩ = some v ∧ w.cell? ⟨g, 1, none⟩ = some (.string put) ∧ w.cell? ⟨g, 2, none⟩ = some (.string drop) ∧ w.frozen? ⟨g, 0, none⟩ = false ∧ w.frozen? ⟨g, 1, none⟩ = false ∧ w.frozen? ⟨g, 2, none⟩ = false :=
 ⟨bC h.1 0, bC h.1 1, bC h.1 2, bF h.1 0, bF h.1 1, bF h.1 2⟩
def ends (put drop : ByteArray) : List S68 := (if put.toList = [] then [] else [⟨0, put, ⟨#[]⟩⟩]) ++ (if drop.toList = [] then [] else [⟨0, ⟨#[]⟩, drop⟩])
def Mid1 (w0 w : World) (g : Nat) (v : Value) (out : List S68) (put drop : ByteArray) (wx : World) : Prop := ∃ v', Mk w0 wx g v' out put drop ∧ MkTo w wx g v v'
set_option maxHeartbeats 1000000 in
theorem mk_end (w0 w : World) (g : Nat) (v : Value) (out : List S68) (put drop : ByteArray) (h : Mk w0 w g v out put drop) (hl : out.length + 2 ≤ 3518437208883) :
  Calls Try.prog 57 #[.pointer (some ⟨g, 0, none⟩)] w fun e w' => e = .returned (.tuple #[]) ∧ Mid1 w0 w g v (out ++ ends put drop) ⟨#[]⟩ ⟨#[]⟩ w' := by
 have HL := aM hl
 have HM := aM h
 obtain ⟨c0, c1, c2, f0, f1, f2⟩ := h.cells
 obtain ⟨A, c, rfl, -, -⟩ := Kd.R_reads h.2.1
 have a0 : ∀ o, (w.alloc o).cell? ⟨g, 0, none⟩ = some (.slice A out.length c) := fun o => bC (al h.1 o) 0
 clear h hl
 go_enter Try.func57, Try.ntmps57
 go_upto_if 6 with fail
 go_cut [] (fun wx => Mid1 w0 w g (.slice A out.length c) (out ++ (if put.toList = [] then [] else [⟨0, put, ⟨#[]⟩⟩])) put drop wx)
 case first =>
  by_cases hp : put.toList = []
  ·have e : (!put.toList.isEmpty) = false := by simp [hp]
   have e2 : put.toList.isEmpty = true := by simp [hp]
   have HM' : Aside0 (Mid1 w0 w g (.slice A out.length c) (out ++ (if put.toList = [] then [] else [⟨0, put, ⟨#[]⟩⟩])) put drop w) := ⟨by rw [if_pos hp, List.append_nil]; exact ⟨_, HM.out, MkTo.refl _ _ _⟩⟩
   clear hp
   rw [e]
   go_wp2_with fail
   go_meet
   exact HM'.out
  ·have e : (!put.toList.isEmpty) = true := by simp [hp]
   have e2 : put.toList.isEmpty = false := by simp [hp]
   have hi : Aside0 ((if put.toList = [] then [] else [(⟨0, put, ⟨#[]⟩⟩ : S68)]) = [⟨0, put, ⟨#[]⟩⟩]) := ⟨if_neg hp⟩
   clear hp
   rw [e]
   go_wp2_with fail
   go_region_law? (refine Kd.R_append_step k68 (w0 := w0) (W := w.drew) w0.heap.size ?hw (.tmp 11) (.tmp 17) 23 68 (.agg #[(.int .i64 0), (.string ⟨#[]⟩), (.string ⟨#[]⟩)]) 40 ?ho Try.underlying23 info68 rfl (by decide) (by decide) (.slice A out.length c) out (⟨0, put, ⟨#[]⟩⟩ : S68) [.int .i64 0, .string put, .string ⟨#[]⟩] (fun _ => True) (fun _ => False) ?hs ?hx ?aP (fun _ h => h.elim) (fun _ _ => trivial) ?aO ?aB ?aS ?aL ?_; (case aL => have := HL.out; omega); (case hw => rfl); (case ho => rfl); (case hs => rfl); (case hx => rfl); (case aP => exact k68_mkM _ _ _ _); (case aB => exact HM.out.drew.2.2.1); (case aO => exact HM.out.drew.2.1); (case aS => exact HM.out.drew.2.2.1.size); intro v1 w1 ho1 hb1 hg1 hat1; obtain ⟨A1, c1, eo1, -, -⟩ := Kd.R_reads ho1; rw [List.length_append, List.length_singleton] at eo1; subst eo1; have hk1 := blk_grown HM.out.drew.1 hg1 (Kd.R_ne HM.out.drew.2.1 HM.out.drew.1 (by decide)); have d0 : w1.cell? ⟨g, 0, none⟩ = _ := bC hk1 0; have e0 := bF hk1 0; have HM1 := aM (Mk.app HM.out.drew ho1 hb1 hg1); have HT1 : Aside0 (MkTo w (w1.setCell ⟨g, 0, none⟩ (.slice A1 (out.length + 1) c1)) g (.slice A out.length c) (.slice A1 (out.length + 1) c1)) := ⟨MkTo.app hg1 hat1 _⟩; clear ho1 hb1 hg1 hk1 hat1)
   all_goals
    go_wp2_with fail
    go_meet
    rw [hi.out]
    exact ⟨_, HM1.out, HT1.out⟩
 case rest =>
  obtain ⟨v2, h2, ht2⟩ := hcut
  obtain ⟨out2, hout2⟩ : ∃ o2, out ++ (if put.toList = [] then [] else [⟨0, put, ⟨#[]⟩⟩]) = o2 := ⟨_, rfl⟩
  have tJ := aM hout2
  rw [hout2] at h2
  have HL2 : Aside0 (out2.length + 1 ≤ 3518437208883) := ⟨by have := HL.out; rw [← hout2]; split <;> simp <;> omega⟩
  clear hout2 c0 c1 c2 f0 f1 f2 a0
  have HM2 := aM h2
  have HT2 := aM ht2
  obtain ⟨c0, c1, c2, f0, f1, f2⟩ := h2.cells
  obtain ⟨A2, cc2, rfl, -, -⟩ := Kd.R_reads h2.2.1
  have a0 : ∀ o, (wc.alloc o).cell? ⟨g, 0, none⟩ = some (.slice A2 out2.length cc2) := fun o => bC (al h2.1 o) 0
  clear h2 ht2
  go_upto_if 25 with fail
  go_cut [] (fun wx => Mid1 w0 w g (.slice A out.length c) (out ++ ends put drop) put drop wx)
  case first =>
   by_cases hp : drop.toList = []
   ·have e : (!drop.toList.isEmpty) = false := by simp [hp]
    have HM' : Aside0 (Mid1 w0 w g (.slice A out.length c) (out ++ ends put drop) put drop wc) := ⟨by unfold ends; rw [if_pos hp, List.append_nil, tJ.out]; exact ⟨_, HM2.out, HT2.out⟩⟩
    clear hp
    rw [e]
    go_wp2_with fail
    go_meet
    exact HM'.out
   ·have e : (!drop.toList.isEmpty) = true := by simp [hp]
    have hi : Aside0 (out ++ ends put drop = out2 ++ [(⟨0, ⟨#[]⟩, drop⟩ : S68)]) := ⟨by unfold ends; rw [if_neg hp, ← List.append_assoc, tJ.out]⟩
    clear hp
    rw [e]
    go_wp2_with fail
    go_region_law (refine Kd.R_append_step k68 (w0 := w0) (W := wc.drew) w0.heap.size ?hw (.tmp 30) (.tmp 36) 23 68 (.agg #[(.int .i64 0), (.string ⟨#[]⟩), (.string ⟨#[]⟩)]) 40 ?ho Try.underlying23 info68 rfl (by decide) (by decide) (.slice A2 out2.length cc2) out2 (⟨0, ⟨#[]⟩, drop⟩ : S68) [.int .i64 0, .string ⟨#[]⟩, .string drop] (fun _ => True) (fun _ => False) ?hs ?hx ?aP (fun _ h => h.elim) (fun _ _ => trivial) ?aO ?aB ?aS ?aL ?_; (case aL => have := HL2.out; omega); (case hw => rfl); (case ho => rfl); (case hs => rfl); (case hx => rfl); (case aP => exact k68_mkM _ _ _ _); (case aB => exact HM2.out.drew.2.2.1); (case aO => exact HM2.out.drew.2.1); (case aS => exact HM2.out.drew.2.2.1.size); intro v1 w1 ho1 hb1 hg1 hat1; obtain ⟨A1, c1, eo1, -, -⟩ := Kd.R_reads ho1; rw [List.length_append, List.length_singleton] at eo1; subst eo1; have hk1 := blk_grown HM2.out.drew.1 hg1 (Kd.R_ne HM2.out.drew.2.1 HM2.out.drew.1 (by decide)); have d0 : w1.cell? ⟨g, 0, none⟩ = _ := bC hk1 0; have e0 := bF hk1 0; have HM1 := aM (Mk.app HM2.out.drew ho1 hb1 hg1); have HT1 : Aside0 (MkTo wc (w1.setCell ⟨g, 0, none⟩ (.slice A1 (out2.length + 1) c1)) g (.slice A2 out2.length cc2) (.slice A1 (out2.length + 1) c1)) := ⟨MkTo.app hg1 hat1 _⟩; clear ho1 hb1 hg1 hk1 hat1)
    all_goals
     go_wp2_with fail
     go_meet
     rw [hi.out]
     exact ⟨_, HM1.out, HT2.out.trans HT1.out⟩
  case rest =>
   obtain ⟨v3, h3, ht3⟩ := hcut
   clear c0 c1 c2 f0 f1 f2 a0 HM2 HT2
   have HM3 := aM h3
   have HT3 := aM ht3
   obtain ⟨c0, c1, c2, f0, f1, f2⟩ := h3.cells
   clear h3 ht3
   go_wp2
   go_end0
   exact ⟨rfl, _, (HM3.out.set1 _).set2 _, (HT3.out.set _ _).set _ _⟩
/-- The field Keep of element i is written. -/
theorem k68_set0 {W : World} {base g2 n cap : Nat} {ok : Nat → Prop} {xs : List S68} (h : Kd.R k68 68 W base ok (.slice (some ⟨g2, 0, none⟩) n cap) xs) (i : Int) (h0 : 0 ≤ i) (h1 : i < n) (x : Int) :
  Kd.R k68 68 (W.setCell ⟨g2, i.toNat * 3, none⟩ (.int .i64 x)) base ok (.slice (some ⟨g2, 0, none⟩) n cap) (xs.set i.toNat ⟨x, (sp xs i).f1, (sp xs i).f2⟩) ∧ W.grownBy (W.setCell ⟨g2, i.toNat * 3, none⟩ (.int .i64 x)) (some g2) := by
 obtain ⟨c, hl, hM, hc, -⟩ := Kd.R_elem h z68 i h0 h1
 have hM' := hM
 obtain rfl := k68_openM hM'
 exact Kd.R_seg (d := k68) (seg := [.int .i64 x]) (j := 0) (okp := fun k => ok k ∧ k ≠ g2) h i h0 h1 hl hc (show 0 + 1 ≤ 3 by omega) (k68_mkM _ _ _ (⟨x, (sp xs i).f1, (sp xs i).f2⟩ : S68)) (fun _ hk => hk)
def keepO (o : List S68) (n : Int) : List S68 := if 0 < o.length ∧ (sp o ((o.length : Int) - 1)).f0 > 0 then o.set (o.length - 1) ⟨wrap64 ((sp o ((o.length : Int) - 1)).f0 + n), (sp o ((o.length : Int) - 1)).f1, (sp o ((o.length : Int) - 1)).f2⟩ else o ++ [⟨n, ⟨#[]⟩, ⟨#[]⟩⟩]
theorem ends_le (put drop : ByteArray) : (ends put drop).length ≤ 2 := by
 unfold ends
 split <;> split <;> simp
theorem mk_keep0 (w0 w : World) (g : Nat) (v : Value) (out : List S68) (put drop : ByteArray) (h : Mk w0 w g v out put drop) :
  Calls Try.prog 56 #[.pointer (some ⟨g, 0, none⟩), .int .i64 0] w fun e w' => e = .returned (.tuple #[]) ∧ Mid1 w0 w g v out put drop w' := by
 have HM := aM h
 clear h
 go_enter Try.func56, Try.ntmps56
 go_wp2
 refine bodyPost_ret (results_none rfl _ _ _) rfl ?_
 exact ⟨rfl, _, HM.out, MkTo.refl _ _ _⟩
set_option maxHeartbeats 1000000 in
theorem mk_keepA (w0 w : World) (g : Nat) (v : Value) (out : List S68) (put drop : ByteArray) (n : Int) (hn : n ≠ 0) (h : Mk w0 w g v out put drop) (hl : out.length + 3 ≤ 3518437208883)
  (hc : ¬ (0 < (out ++ ends put drop).length)) :
  Calls Try.prog 56 #[.pointer (some ⟨g, 0, none⟩), .int .i64 n] w fun e w' => e = .returned (.tuple #[]) ∧ Mid1 w0 w g v (keepO (out ++ ends put drop) n) ⟨#[]⟩ ⟨#[]⟩ w' := by
 have HL : Aside0 (out.length + 2 ≤ 3518437208883) := ⟨by omega⟩
 have HM := aM h
 have hnb : (n == 0) = false := qF hn
 have he : out ++ ends put drop = [] := List.eq_nil_of_length_eq_zero (by omega)
 have HE := aM he
 have HK : Aside0 (keepO (out ++ ends put drop) n = [] ++ [⟨n, ⟨#[]⟩, ⟨#[]⟩⟩]) := ⟨by unfold keepO; rw [if_neg (by omega), he]⟩
 clear h hl hn hc he
 go_enter Try.func56, Try.ntmps56
 go_wp2_with (first | (go_at_call 57; refine (mk_end w0 w g v out put drop HM.out HL.out).mono ?_; rintro e w1 ⟨rfl, v2, h2, ht2⟩; rw [HE.out] at h2; have HM2 := aM h2; have HT2 := aM ht2; obtain ⟨b0, b1, b2, f0, f1, f2⟩ := h2.cells; obtain ⟨A2, cc2, rfl, -, -⟩ := Kd.R_reads h2.2.1; clear h2 ht2; simp only [List.length_nil] at b0 HT2) | ((with_reducible refine gate_builtin (b := .append) (xs := #[.tmp 44, .tmp 47]) rfl ?_); at_builtin; refine aE k68 (w0 := w0) (W := w1) w0.heap.size rfl (.tmp 44) (.tmp 47) 23 68 (.agg #[(.int .i64 0), (.string ⟨#[]⟩), (.string ⟨#[]⟩)]) 40 rfl Try.underlying23 info68 rfl (by decide) (by decide) (.slice A2 0 cc2) ([] : List S68) (⟨n, ⟨#[]⟩, ⟨#[]⟩⟩ : S68) [.int .i64 n, .string ⟨#[]⟩, .string ⟨#[]⟩] (fun _ => True) (fun _ => False) rfl rfl ?aP (fun _ h => h.elim) (fun _ _ => trivial) ?aO ?aB ?aS ?aL ?_; (case aP => exact k68_mkM _ _ _ _); (case aB => exact HM2.out.2.2.1); (case aO => exact HM2.out.2.1); (case aS => exact HM2.out.2.2.1.size); (case aL => have := HL.out; first | omega | (simp only [List.length_nil]; omega)); intro v1 wn ho1 hb1 hg1 hat1; obtain ⟨A1, c1, eo1, -, -⟩ := Kd.R_reads ho1; simp only [List.nil_append, List.length_singleton] at eo1; subst eo1; have hk1 := blk_grown HM2.out.1 hg1 (Kd.R_ne HM2.out.2.1 HM2.out.1 (by decide)); have d0 : wn.cell? ⟨g, 0, none⟩ = _ := bC hk1 0; have e0 := bF hk1 0; have HM1 := aM (Mk.app HM2.out ho1 hb1 hg1); have HT1 : Aside0 (MkTo w1 (wn.setCell ⟨g, 0, none⟩ (.slice A1 1 c1)) g (.slice A2 0 cc2) (.slice A1 1 c1)) := ⟨MkTo.app hg1 hat1 _⟩; clear ho1 hb1 hg1 hk1 hat1))
 go_end0
 rw [HK.out]
 exact ⟨rfl, _, HM1.out, HT2.out.trans HT1.out⟩
set_option maxHeartbeats 1000000 in
theorem mk_keepB (w0 w : World) (g : Nat) (v : Value) (out : List S68) (put drop : ByteArray) (n : Int) (hn : n ≠ 0) (h : Mk w0 w g v out put drop) (hl : out.length + 3 ≤ 3518437208883)
  (hc : 0 < (out ++ ends put drop).length) (hk : ¬ (sp (out ++ ends put drop) (((out ++ ends put drop).length : Int) - 1)).f0 > 0) :
  Calls Try.prog 56 #[.pointer (some ⟨g, 0, none⟩), .int .i64 n] w fun e w' => e = .returned (.tuple #[]) ∧ Mid1 w0 w g v (keepO (out ++ ends put drop) n) ⟨#[]⟩ ⟨#[]⟩ w' := by
 have HL : Aside0 (out.length + 2 ≤ 3518437208883) := ⟨by omega⟩
 have HM := aM h
 have hnb : (n == 0) = false := qF hn
 have hle := ends_le put drop
 obtain ⟨o, ho⟩ : ∃ o, out ++ ends put drop = o := ⟨_, rfl⟩
 have HE := aM ho
 have hol : o.length ≤ 3518437208882 := by rw [← ho, List.length_append]; omega
 have HOL := aM hol
 rw [ho] at hc hk
 have HC := aM hc
 have HI0 : Aside0 ((0 : Int) ≤ (o.length : Int) - 1) := ⟨by omega⟩
 have HIN : Aside0 (((o.length : Int) - 1).toNat = o.length - 1) := ⟨by omega⟩
 have HI1 : Aside0 ((o.length : Int) - 1 < (o.length : Nat)) := ⟨by omega⟩
 have HK : Aside0 (keepO (out ++ ends put drop) n = o ++ [⟨n, ⟨#[]⟩, ⟨#[]⟩⟩]) := ⟨by unfold keepO; rw [ho, if_neg (fun x => hk x.2)]⟩
 have hkb : decide ((sp o ((o.length : Int) - 1)).f0 > 0) = false := dF hk
 clear h hl hn ho hk hle
 go_enter Try.func56, Try.ntmps56
 go_wp2_with (first | (go_at_call 57; refine (mk_end w0 w g v out put drop HM.out HL.out).mono ?_; rintro e w1 ⟨rfl, v2, h2, ht2⟩; rw [HE.out] at h2; have HM2 := aM h2; have HT2 := aM ht2; obtain ⟨b0, b1, b2, f0, f1, f2⟩ := h2.cells; obtain ⟨g2, cc2, rfl, -, -, -⟩ := Kd.R_form h2.2.1 HC.out; obtain ⟨cl, -, hM2, hcl, hfr⟩ := Kd.R_elem h2.2.1 z68 ((o.length : Int) - 1) HI0.out HI1.out; obtain rfl := k68_openM hM2; have x0 : w1.cell? ⟨g2, (o.length - 1) * 3, none⟩ = some (.int .i64 (sp o ((o.length : Int) - 1)).f0) := (by rw [← HIN.out]; exact hcl 0 _ rfl); have y0 : w1.frozen? ⟨g2, (o.length - 1) * 3, none⟩ = false := (by rw [← HIN.out]; exact hfr 0); clear h2 ht2 hM2 hcl hfr) | ((with_reducible refine gate_builtin (b := .append) (xs := #[.tmp 44, .tmp 47]) rfl ?_); at_builtin; refine aE k68 (w0 := w0) (W := w1) w0.heap.size rfl (.tmp 44) (.tmp 47) 23 68 (.agg #[(.int .i64 0), (.string ⟨#[]⟩), (.string ⟨#[]⟩)]) 40 rfl Try.underlying23 info68 rfl (by decide) (by decide) (.slice (some ⟨g2, 0, none⟩) o.length cc2) o (⟨n, ⟨#[]⟩, ⟨#[]⟩⟩ : S68) [.int .i64 n, .string ⟨#[]⟩, .string ⟨#[]⟩] (fun _ => True) (fun _ => False) rfl rfl ?aP (fun _ h => h.elim) (fun _ _ => trivial) ?aO ?aB ?aS ?aL ?_; (case aP => exact k68_mkM _ _ _ _); (case aB => exact HM2.out.2.2.1); (case aO => exact HM2.out.2.1); (case aS => exact HM2.out.2.2.1.size); (case aL => have := HOL.out; first | omega | (simp only [List.length_nil]; omega)); intro v1 wn ho1 hb1 hg1 hat1; obtain ⟨A1, c1, eo1, -, -⟩ := Kd.R_reads ho1; rw [List.length_append, List.length_singleton] at eo1; subst eo1; have hk1 := blk_grown HM2.out.1 hg1 (Kd.R_ne HM2.out.2.1 HM2.out.1 (by decide)); have d0 : wn.cell? ⟨g, 0, none⟩ = _ := bC hk1 0; have e0 := bF hk1 0; have HM1 := aM (Mk.app HM2.out ho1 hb1 hg1); have HT1 : Aside0 (MkTo w1 (wn.setCell ⟨g, 0, none⟩ (.slice A1 (o.length + 1) c1)) g (.slice (some ⟨g2, 0, none⟩) o.length cc2) (.slice A1 (o.length + 1) c1)) := ⟨MkTo.app hg1 hat1 _⟩; clear ho1 hb1 hg1 hk1 hat1))
 go_end0
 rw [HK.out]
 exact ⟨rfl, _, HM1.out, HT2.out.trans HT1.out⟩
set_option maxHeartbeats 1000000 in
theorem mk_keepC (w0 w : World) (g : Nat) (v : Value) (out : List S68) (put drop : ByteArray) (n : Int) (hn : n ≠ 0) (h : Mk w0 w g v out put drop) (hl : out.length + 3 ≤ 3518437208883)
  (hc : 0 < (out ++ ends put drop).length) (hk : (sp (out ++ ends put drop) (((out ++ ends put drop).length : Int) - 1)).f0 > 0) :
  Calls Try.prog 56 #[.pointer (some ⟨g, 0, none⟩), .int .i64 n] w fun e w' => e = .returned (.tuple #[]) ∧ Mid1 w0 w g v (keepO (out ++ ends put drop) n) ⟨#[]⟩ ⟨#[]⟩ w' := by
 have HL : Aside0 (out.length + 2 ≤ 3518437208883) := ⟨by omega⟩
 have HM := aM h
 have hnb : (n == 0) = false := qF hn
 have hle := ends_le put drop
 obtain ⟨o, ho⟩ : ∃ o, out ++ ends put drop = o := ⟨_, rfl⟩
 have HE := aM ho
 have hol : o.length ≤ 3518437208882 := by rw [← ho, List.length_append]; omega
 have HOL := aM hol
 rw [ho] at hc hk
 have HC := aM hc
 have HI0 : Aside0 ((0 : Int) ≤ (o.length : Int) - 1) := ⟨by omega⟩
 have HIN : Aside0 (((o.length : Int) - 1).toNat = o.length - 1) := ⟨by omega⟩
 have HI1 : Aside0 ((o.length : Int) - 1 < (o.length : Nat)) := ⟨by omega⟩
 have HK : Aside0 (keepO (out ++ ends put drop) n = o.set (o.length - 1) ⟨wrap64 ((sp o ((o.length : Int) - 1)).f0 + n), (sp o ((o.length : Int) - 1)).f1, (sp o ((o.length : Int) - 1)).f2⟩) := ⟨by unfold keepO; rw [ho, if_pos ⟨hc, hk⟩]⟩
 have hkb : decide ((sp o ((o.length : Int) - 1)).f0 > 0) = true := dT hk
 clear h hl hn ho hk hle
 go_enter Try.func56, Try.ntmps56
 go_wp2_with (first | (go_at_call 57; refine (mk_end w0 w g v out put drop HM.out HL.out).mono ?_; rintro e w1 ⟨rfl, v2, h2, ht2⟩; rw [HE.out] at h2; have HM2 := aM h2; have HT2 := aM ht2; obtain ⟨b0, b1, b2, f0, f1, f2⟩ := h2.cells; obtain ⟨g2, cc2, rfl, -, -, -⟩ := Kd.R_form h2.2.1 HC.out; obtain ⟨cl, -, hM2, hcl, hfr⟩ := Kd.R_elem h2.2.1 z68 ((o.length : Int) - 1) HI0.out HI1.out; obtain rfl := k68_openM hM2; have x0 : w1.cell? ⟨g2, (o.length - 1) * 3, none⟩ = some (.int .i64 (sp o ((o.length : Int) - 1)).f0) := (by rw [← HIN.out]; exact hcl 0 _ rfl); have y0 : w1.frozen? ⟨g2, (o.length - 1) * 3, none⟩ = false := (by rw [← HIN.out]; exact hfr 0); clear h2 ht2 hM2 hcl hfr))
 obtain ⟨hs, hg⟩ := k68_set0 HM2.out.2.1 ((o.length : Int) - 1) HI0.out HI1.out (wrap64 ((sp o ((o.length : Int) - 1)).f0 + n))
 rw [HIN.out] at hs hg
 have hne : g ≠ g2 := fun e => HM2.out.far g2 rfl e.symm
 have hb2 := blk_grown HM2.out.1 hg (fun e => hne (sI e))
 have hB2 : Below w0.heap.size w0 (w1.setCell ⟨g2, (o.length - 1) * 3, none⟩ (.int .i64 (wrap64 ((sp o ((o.length : Int) - 1)).f0 + n)))) := ao HM2.out.2.2.1 (Kd.R_base HM2.out.2.1 g2 rfl)
 refine bodyPost_ret (results_none rfl _ _ _) rfl ?_
 rw [HK.out]
 refine ⟨rfl, _, ⟨hb2, hs, hB2, HM2.out.2.2.2⟩, HT2.out.trans ⟨?_, .inl rfl⟩⟩
 exact Kept.of_grown hg (Kept.refl _ _) (fun k hk => .inl (.inr hk.symm))
def kO (out : List S68) (put drop : ByteArray) (n : Int) : List S68 := if n = 0 then out else keepO (out ++ ends put drop) n
def kS (s : ByteArray) (n : Int) : ByteArray := if n = 0 then s else ⟨#[]⟩
theorem mk_keep (w0 w : World) (g : Nat) (v : Value) (out : List S68) (put drop : ByteArray) (n : Int) (h : Mk w0 w g v out put drop) (hl : out.length + 3 ≤ 3518437208883) :
  Calls Try.prog 56 #[.pointer (some ⟨g, 0, none⟩), .int .i64 n] w fun e w' => e = .returned (.tuple #[]) ∧ Mid1 w0 w g v (kO out put drop n) (kS put n) (kS drop n) w' := by
 unfold kO kS
 by_cases hn : n = 0
 ·subst hn
  simp only [if_true]
  exact mk_keep0 w0 w g v out put drop h
 ·simp only [if_neg hn]
  by_cases hc : 0 < (out ++ ends put drop).length
  ·by_cases hk : (sp (out ++ ends put drop) (((out ++ ends put drop).length : Int) - 1)).f0 > 0
   ·exact mk_keepC w0 w g v out put drop n hn h hl hc hk
   ·exact mk_keepB w0 w g v out put drop n hn h hl hc hk
  ·exact mk_keepA w0 w g v out put drop n hn h hl hc
set_option maxHeartbeats 1000000 in
theorem mk_take (w0 w : World) (g : Nat) (v : Value) (out : List S68) (put drop : ByteArray) (p : S68) (h : Mk w0 w g v out put drop) (hl : out.length + 3 ≤ 3518437208883)
  (h1 : (kS put p.f0).size + p.f1.size ≤ 9223372036854775807) (h2 : (kS drop p.f0).size + p.f2.size ≤ 9223372036854775807) :
  Calls Try.prog 40 #[.pointer (some ⟨g, 0, none⟩), .agg #[.int .i64 p.f0, .string p.f1, .string p.f2]] w fun e w' => e = .returned (.tuple #[]) ∧ Mid1 w0 w g v (kO out put drop p.f0) (kS put p.f0 ++ p.f1) (kS drop p.f0 ++ p.f2) w' := by
 have HL := aM hl
 have HM := aM h
 have HM0 := aM (h.alloc (.cells #[.int .i64 p.f0, .string p.f1, .string p.f2] 68))
 obtain ⟨o3, ho3⟩ : ∃ o, kO out put drop p.f0 = o := ⟨_, rfl⟩
 obtain ⟨s1, hs1⟩ : ∃ o, kS put p.f0 = o := ⟨_, rfl⟩
 obtain ⟨s2, hs2⟩ : ∃ o, kS drop p.f0 = o := ⟨_, rfl⟩
 rw [hs1] at h1
 rw [hs2] at h2
 have E3 := aM ho3
 have E1 := aM hs1
 have E2 := aM hs2
 rw [ho3, hs1, hs2]
 clear ho3 hs1 hs2 h hl
 go_enter Try.func40, Try.ntmps40
 go_wp2_with (first | (go_at_call 56; refine (mk_keep w0 _ g v out put drop p.f0 HM0.out HL.out).mono ?_; rintro e w1 ⟨rfl, v2, h2_, ht2⟩; rw [E3.out, E1.out, E2.out] at h2_; have HM2 := aM h2_; have HT2 := aM ht2; obtain ⟨b0, b1, b2, f0, f1, f2⟩ := h2_.cells; have hbx : w1.heap[w.heap.size]? = some (.cells #[.int .i64 p.f0, .string p.f1, .string p.f2] 68 (0, 0)) := blk_kept (heap_alloc_new w _) ht2.1 (fun hk => hk.elim (fun e => Nat.lt_irrefl _ (e ▸ blk_lt HM.out.1)) (fun e => Nat.lt_irrefl _ (Kd.R_lt HM.out.2.1 _ e.symm))); have x1 : w1.cell? ⟨w.heap.size, 1, none⟩ = some (.string p.f1) := bC hbx 1; have x2 : w1.cell? ⟨w.heap.size, 2, none⟩ = some (.string p.f2) := bC hbx 2; clear h2_ ht2 hbx))
 go_region
 go_wp2
 go_region
 go_end0
 exact ⟨rfl, _, ((HM2.out.set1 _).set2 _).drew.drew, (((((MkTo.refl w g v).alloc _).trans HT2.out).set _ _).set _ _).drew.drew⟩
set_option maxHeartbeats 1000000 in
theorem mk_made (w0 w : World) (g : Nat) (v : Value) (out : List S68) (put drop : ByteArray) (h : Mk w0 w g v out put drop) (hl : out.length + 3 ≤ 3518437208883) :
  Calls Try.prog 41 #[.pointer (some ⟨g, 0, none⟩)] w fun e w' => ∃ v', e = .returned v' ∧ Kd.R k68 68 w' w0.heap.size (fun _ => True) v' (out ++ ends put drop) ∧ Below w0.heap.size w0 w' ∧ MkTo w w' g v v' := by
 have HL : Aside0 (out.length + 2 ≤ 3518437208883) := ⟨by omega⟩
 have HM := aM h
 clear h hl
 go_enter Try.func41, Try.ntmps41
 go_wp2_with (first | (go_at_call 57; refine (mk_end w0 w g v out put drop HM.out HL.out).mono ?_; rintro e w1 ⟨rfl, v2, h2_, ht2⟩; have HM2 := aM h2_; have HT2 := aM ht2; obtain ⟨b0, b1, b2, f0, f1, f2⟩ := h2_.cells; clear h2_ ht2))
 go_ret
 exact ⟨_, rfl, HM2.out.2.1, HM2.out.2.2.1, HT2.out⟩

/-! ### impl_normal: function 20, by hand -/
def nrm : List S68 → List S68 → ByteArray → ByteArray → Option (List S68)
 | [], out, put, drop => if out.length + 3 ≤ 3518437208883 then some (out ++ ends put drop) else none
 | p :: l, out, put, drop => if out.length + 3 ≤ 3518437208883 ∧ (kS put p.f0).size + p.f1.size ≤ 9223372036854775807 ∧ (kS drop p.f0).size + p.f2.size ≤ 9223372036854775807 then nrm l (kO out put drop p.f0) (kS put p.f0 ++ p.f1) (kS drop p.f0 ++ p.f2) else none
def impl_normal.f (l0 : List S68) : Option (List S68) := nrm l0 [] ⟨#[]⟩ ⟨#[]⟩
theorem Mk.new (w : World) : Mk w (w.alloc (.cells #[.slice none 0 0, .string ⟨#[]⟩, .string ⟨#[]⟩] 72)) w.heap.size (.slice none 0 0) [] ⟨#[]⟩ ⟨#[]⟩ :=
 ⟨heap_alloc_new w _, Kd.R_nil _ _ _ _ _, bA (Below.refl _ _) _, Nat.le_refl _⟩
/-- What the loop of 'normal' holds at its head. -/
def NrmAt (w : World) (l0 : List S68) (r : List S68) (d : Nat) (v8 : Value) (w' : World) : Prop :=
 ∃ (i : Nat) (v : Value) (out : List S68) (put drop : ByteArray), v8 = .int .i64 i ∧ i + d = l0.length ∧ Mk w w' w.heap.size v out put drop ∧ nrm (l0.drop i) out put drop = some r
set_option maxHeartbeats 2000000 in
theorem impl_normal.calls (A0 : Option Addr) (c0 : Nat) (l0 : List S68) (r : List S68) (w : World) (hr0 : Kd.C k68 w A0 l0.length l0) (hc0 : l0.length ≤ c0) (h : impl_normal.f l0 = some r) :
  Calls Try.prog 20 #[.slice A0 l0.length c0] w fun e w' => ∃ v0_ : Value, e = .returned v0_ ∧ Kd.R k68 68 w' w.heap.size (fun _ => True) v0_ r ∧ Below w.heap.size w w' := by
 have HR := aM hr0
 have HC := aM hc0
 have hlen := Kd.C_max hr0
 have HN : Aside0 (nrm (l0.drop 0) [] ⟨#[]⟩ ⟨#[]⟩ = some r) := ⟨h⟩
 clear hr0 hc0 h
 go_enter Try.func20, Try.ntmps20
 go_wp2
 go_loopg [8] l0.length (fun d v8 w' => NrmAt w l0 r d v8 w')
 case atStart => exact ⟨0, _, [], ⟨#[]⟩, ⟨#[]⟩, rfl, by omega, Mk.new w, HN.out⟩
 case round =>
  obtain ⟨i, v, out, put, drop, rfl, hid, hm, hn⟩ := hrel
  have HM := aM hm
  cases gk with
  | zero =>
   have hil : i = l0.length := by omega
   subst hil
   rw [List.drop_length] at hn
   unfold nrm at hn
   split at hn
   case isFalse => cases hn
   case isTrue hlt =>
    obtain rfl := sI hn
    have HLT := aM hlt
    clear hm hn hid hlt
    go_wp2_with (first | (go_at_call 41; refine (mk_made w _ w.heap.size v out put drop HM.out HLT.out).mono ?_; rintro e w1 ⟨v2, rfl, hr2, hb2, ht2⟩; have HR2 := aM hr2; have HB2 := aM hb2; clear hr2 hb2 ht2))
    go_ret
    exact ⟨_, rfl, HR2.out, HB2.out⟩
  | succ k1 =>
   have hil : i < l0.length := by omega
   have hd : l0.drop i = sp l0 (i : Int) :: l0.drop (i + 1) := by
    rw [List.drop_eq_getElem_cons hil]
    unfold sp
    rw [Int.toNat_natCast, List.getD_eq_getElem?_getD, List.getElem?_eq_getElem hil, Option.getD_some]
   rw [hd] at hn
   unfold nrm at hn
   split at hn
   case isFalse => cases hn
   case isTrue hlt =>
    obtain ⟨hl1, hl2, hl3⟩ := hlt
    have H1 := aM hl1
    have H2 := aM hl2
    have H3 := aM hl3
    have HN1 := aM hn
    have HI : Aside0 (i + 1 + k1 = l0.length) := ⟨by omega⟩
    have hib : decide (i < l0.length) = true := dT hil
    obtain ⟨ad, rfl, x0, x1, x2⟩ := at_T68 (ar HR.out hm.2.2.1) (i : Int) (by omega) (by omega)
    simp only [Int.toNat_natCast] at x0 x1 x2
    clear hm hn hid hd hl1 hl2 hl3
    go_wp2_with (first | (go_at_call 40; refine (mk_take w _ w.heap.size v out put drop (sp l0 (i : Int)) (HM.out.alloc _) H1.out H2.out H3.out).mono ?_; rintro e w1 ⟨rfl, v2, h2_, ht2⟩; have HM2 := aM h2_; clear h2_ ht2))
    go_roundg k1
    case measure => omega
    case rel => exact ⟨i + 1, _, _, _, _, by go_num, HI.out, HM2.out, HN1.out⟩

/-! ### impl_movePlace: function 21 -/
mutual
def impl_movePlace.l0 : Nat → List (S68) → Int → Bool → Int → Int → Int → Option (Int)
 | 0, _, _, _, _, _, _ => none
 | k + 1, x0, x1, x2, x7, x8, x9 => if x9 < (x0.length : Int) then (if 0 ≤ x9 then (if ((sp x0 x9).f0) > 0 then (if x1 ≤ x8 then (some x7) else (impl_movePlace.l0 k x0 x1 x2 (wrap64 (x7 + (mn ((sp x0 x9).f0) (wrap64 (x1 - x8))))) (wrap64 (x8 + ((sp x0 x9).f0))) (wrap64 (x9 + 1)))) else (if (wrap64 (x9 + 1)) < (x0.length : Int) then (if ((sp x0 x9).f1).toList = ([] : List UInt8) then (impl_movePlace.j1 k x0 x1 x2 x7 x8 x9 (((sp x0 x9).f1).size : Int) (wrap64 (x8 + (((sp x0 x9).f2).size : Int))) false) else (if 0 ≤ (wrap64 (x9 + 1)) then (impl_movePlace.j1 k x0 x1 x2 x7 x8 x9 (((sp x0 x9).f1).size : Int) (wrap64 (x8 + (((sp x0 x9).f2).size : Int))) (((sp x0 (wrap64 (x9 + 1))).f2).toList != ([] : List UInt8))) else (none))) else (impl_movePlace.j1 k x0 x1 x2 x7 x8 x9 (((sp x0 x9).f1).size : Int) (wrap64 (x8 + (((sp x0 x9).f2).size : Int))) false))) else (none)) else (some x7)
def impl_movePlace.j1 : Nat → List (S68) → Int → Bool → Int → Int → Int → Int → Int → Bool → Option (Int)
 | 0, _, _, _, _, _, _, _, _, _ => none
 | k + 1, x0, x1, x2, x7, x8, x9, x11, x12, x68 => if x68 = true then (if 0 ≤ (wrap64 (x9 + 1)) then (if (wrap64 (x9 + 1)) < (x0.length : Int) then (if x1 > (wrap64 (x8 + (((sp x0 (wrap64 (x9 + 1))).f2).size : Int))) then (impl_movePlace.l0 k x0 x1 x2 (wrap64 (x7 + x11)) (wrap64 (x8 + (((sp x0 (wrap64 (x9 + 1))).f2).size : Int))) (wrap64 ((wrap64 (x9 + 1)) + 1))) else (if x1 ≥ x8 then (if x2 = true then (impl_movePlace.l0 k x0 x1 x2 (wrap64 (x7 + x11)) (wrap64 (x8 + (((sp x0 (wrap64 (x9 + 1))).f2).size : Int))) (wrap64 ((wrap64 (x9 + 1)) + 1))) else (impl_movePlace.l0 k x0 x1 x2 x7 (wrap64 (x8 + (((sp x0 (wrap64 (x9 + 1))).f2).size : Int))) (wrap64 ((wrap64 (x9 + 1)) + 1)))) else (impl_movePlace.l0 k x0 x1 x2 x7 (wrap64 (x8 + (((sp x0 (wrap64 (x9 + 1))).f2).size : Int))) (wrap64 ((wrap64 (x9 + 1)) + 1))))) else (none)) else (none)) else (if x1 > x12 then (impl_movePlace.l0 k x0 x1 x2 (wrap64 (x7 + x11)) x12 (wrap64 (x9 + 1))) else (if x1 ≥ x8 then (if x2 = true then (impl_movePlace.l0 k x0 x1 x2 (wrap64 (x7 + x11)) x12 (wrap64 (x9 + 1))) else (impl_movePlace.l0 k x0 x1 x2 x7 x12 (wrap64 (x9 + 1)))) else (impl_movePlace.l0 k x0 x1 x2 x7 x12 (wrap64 (x9 + 1)))))
end
def impl_movePlace.f (k : Nat) (l0 : List (S68)) (a1 : Int) (a2 : Bool) : Option (Int) := impl_movePlace.l0 k l0 a1 a2 0 0 0
theorem impl_movePlace.mono_l : ∀ k, (∀ y0 y1 y2 y3 y4 y5, LeO (impl_movePlace.l0 k y0 y1 y2 y3 y4 y5) (impl_movePlace.l0 (k + 1) y0 y1 y2 y3 y4 y5)) ∧ (∀ y0 y1 y2 y3 y4 y5 y6 y7 y8, LeO (impl_movePlace.j1 k y0 y1 y2 y3 y4 y5 y6 y7 y8) (impl_movePlace.j1 (k + 1) y0 y1 y2 y3 y4 y5 y6 y7 y8))
 | 0 => ⟨fun _ _ _ _ _ _ r h => by simp [impl_movePlace.l0] at h, fun _ _ _ _ _ _ _ _ _ r h => by simp [impl_movePlace.j1] at h⟩
 | k + 1 => by
  obtain ⟨ih0, ih1⟩ := impl_movePlace.mono_l k
  refine ⟨?_, ?_⟩
  ·intro y0 y1 y2 y3 y4 y5
   unfold impl_movePlace.l0
   with_reducible repeat' first | exact ih0 _ _ _ _ _ _ | exact ih1 _ _ _ _ _ _ _ _ _ | exact lR_ _ | exact lN_ _ | refine lI_ ?_ ?_ | refine lB_ ?_ fun _ => ?_
  ·intro y0 y1 y2 y3 y4 y5 y6 y7 y8
   unfold impl_movePlace.j1
   with_reducible repeat' first | exact ih0 _ _ _ _ _ _ | exact ih1 _ _ _ _ _ _ _ _ _ | exact lR_ _ | exact lN_ _ | refine lI_ ?_ ?_ | refine lB_ ?_ fun _ => ?_
theorem impl_movePlace.mono : ∀ a0 a1 a2 k, LeO (impl_movePlace.f k a0 a1 a2) (impl_movePlace.f (k + 1) a0 a1 a2) := by
 intro a0 a1 a2 k
 obtain ⟨ih0, ih1⟩ := impl_movePlace.mono_l k
 unfold impl_movePlace.f
 with_reducible repeat' first | exact ih0 _ _ _ _ _ _ | exact ih1 _ _ _ _ _ _ _ _ _ | exact lR_ _ | exact lN_ _ | refine lI_ ?_ ?_ | refine lB_ ?_ fun _ => ?_
theorem impl_movePlace.calls (k : Nat) (A0 : Option Addr) (c0 : Nat) (l0 : List (S68)) (a1 : Int) (a2 : Bool) (r : Int) (w : World) (hr0 : Kd.C k68 w A0 l0.length l0) (hc0 : l0.length ≤ c0) (h : impl_movePlace.f k l0 a1 a2 = some r) :
  Calls Try.prog 21 #[.slice A0 l0.length c0, .int .i64 a1, .bool a2] w fun e w' => e = .returned (.int .i64 r) ∧ Below w.heap.size w w' := by
 have hu68 := Try.underlying68
 have bH := aM hr0
 have cH := aM hc0
 clear hr0 hc0
 have HB := aM (Below.refl w.heap.size w)
 have H : (impl_movePlace.l0 k l0 a1 a2 0 0 0) = some r := h
 clear h
 have H' := aM H
 clear H
 go_enter Try.func21, Try.ntmps21
 go_wp2
 repeat (go_quiet (fail); try go_wp2)
 go_loopg [7, 8, 9] k (fun kq v7 v8 v9 w' => ∃ (x7_1 : Int) (x8_1 : Int) (x9_1 : Int), v7 = .int .i64 x7_1 ∧ v8 = .int .i64 x8_1 ∧ v9 = .int .i64 x9_1 ∧ Aside0 (impl_movePlace.l0 kq l0 a1 a2 x7_1 x8_1 x9_1 = some r) ∧ Aside0 (kq ≤ k) ∧ Aside0 (Below w.heap.size w w'))
 case atStart => exact ⟨(0), (0), (0), z1, z1, z1, H', ⟨Nat.le_refl _⟩, ⟨y6⟩⟩
 case round =>
  clear H'
  obtain ⟨x7_1, x8_1, x9_1, rfl, rfl, rfl, HA, HK1, HB⟩ := hrel
  cases gk with
  | zero => exact absurd HA.out (by simp [impl_movePlace.l0])
  | succ k1 =>
   have H := HA.out
   clear HA
   simp only [impl_movePlace.l0] at H
   by_cases c4 : x9_1 < (l0.length : Int)
   ·rw [if_pos c4] at H
    have c4b0 : decide (x9_1 < (l0.length : Int)) = true := dT c4
    clear c4
    by_cases c5 : 0 ≤ x9_1
    ·rw [if_pos c5] at H
     have c5b0 : decide (0 ≤ x9_1) = true := dT c5
     clear c5
     by_cases c6 : ((sp l0 x9_1).f0) > 0
     ·rw [if_pos c6] at H
      have c6b0 : decide (0 < ((sp l0 x9_1).f0)) = true := dT c6
      clear c6
      by_cases c7 : a1 ≤ x8_1
      ·rw [if_pos c7] at H
       have c7b0 : decide (a1 ≤ x8_1) = true := dT c7
       clear c7
       obtain rfl := sI H
       have p373 : 0 ≤ (x9_1 : Int) := oD z2
       have q373 : x9_1 < (l0.length : Int) := oD z2
       obtain ⟨ad373, e373, hx373_0, hx373_1, hx373_2⟩ := at_T68 bH.out x9_1 p373 q373
       cases e373
       replace hx373_0 := hC_ HB.out hx373_0
       replace hx373_1 := hC_ HB.out hx373_1
       replace hx373_2 := hC_ HB.out hx373_2
       replace p373 := eq_true p373
       replace q373 := eq_true q373
       go_wp2_with (first | ((with_reducible refine ay (N := 10) rfl ?_); refine bE_ (N := 10) (cs := #[.int .i64 0, .string ⟨#[]⟩, .string ⟨#[]⟩]) (t := 68) (h := ?_); intro bj hg w8 hbox hb; have bm := aM (hbox); have fZ := aM ((zg_ : w.heap.size ≤ bj)); have iQ := aM ((zg_ : w.heap.size ≤ bj)); replace HB := aM (ap z9 hb); clear hb hbox hg; obtain ⟨dc, db, da, dh, cZ, cY⟩ := cc3 bm.out))
       repeat (go_quiet (fail); try go_wp2_with (first | ((with_reducible refine ay (N := 10) rfl ?_); refine bE_ (N := 10) (cs := #[.int .i64 0, .string ⟨#[]⟩, .string ⟨#[]⟩]) (t := 68) (h := ?_); intro bj hg w8 hbox hb; have bm := aM (hbox); have fZ := aM ((zg_ : w.heap.size ≤ bj)); have iQ := aM ((zg_ : w.heap.size ≤ bj)); replace HB := aM (ap z9 hb); clear hb hbox hg; obtain ⟨dc, db, da, dh, cZ, cY⟩ := cc3 bm.out)))
       go_ret
       exact ⟨y5, y18⟩
      ·rw [if_neg c7] at H
       have c7b0 : decide (a1 ≤ x8_1) = false := dF c7
       clear c7
       obtain ⟨qB, kf⟩ : ∃ j_ : Int, (mn ((sp l0 x9_1).f0) (wrap64 (a1 - x8_1))) = j_ := ⟨_, rfl⟩
       replace H : (impl_movePlace.l0 k1 l0 a1 a2 (wrap64 (x7_1 + (qB))) (wrap64 (x8_1 + ((sp l0 x9_1).f0))) (wrap64 (x9_1 + 1))) = some r := by first | (rw [kf] at H; exact H) | (simp only [kf] at H ⊢; exact H)
       have hji10_ : (if (wrap64 (a1 - x8_1)) < ((sp l0 x9_1).f0) then (wrap64 (a1 - x8_1)) else ((sp l0 x9_1).f0)) = qB := kf
       have H' := aM H
       clear H
       have p373 : 0 ≤ (x9_1 : Int) := oD z2
       have q373 : x9_1 < (l0.length : Int) := oD z2
       obtain ⟨ad373, e373, hx373_0, hx373_1, hx373_2⟩ := at_T68 bH.out x9_1 p373 q373
       cases e373
       replace hx373_0 := hC_ HB.out hx373_0
       replace hx373_1 := hC_ HB.out hx373_1
       replace hx373_2 := hC_ HB.out hx373_2
       replace p373 := eq_true p373
       replace q373 := eq_true q373
       go_wp2_with (first | ((with_reducible refine ay (N := 10) rfl ?_); refine bE_ (N := 10) (cs := #[.int .i64 0, .string ⟨#[]⟩, .string ⟨#[]⟩]) (t := 68) (h := ?_); intro bj hg w11 hbox hb; have bm := aM (hbox); have fZ := aM ((zg_ : w.heap.size ≤ bj)); have iQ := aM ((zg_ : w.heap.size ≤ bj)); replace HB := aM (ap z9 hb); clear hb hbox hg; obtain ⟨gC, gB, gA, gp, gn, gm⟩ := cc3 bm.out))
       repeat (go_quiet (fail); try go_wp2_with (first | ((with_reducible refine ay (N := 10) rfl ?_); refine bE_ (N := 10) (cs := #[.int .i64 0, .string ⟨#[]⟩, .string ⟨#[]⟩]) (t := 68) (h := ?_); intro bj hg w11 hbox hb; have bm := aM (hbox); have fZ := aM ((zg_ : w.heap.size ≤ bj)); have iQ := aM ((zg_ : w.heap.size ≤ bj)); replace HB := aM (ap z9 hb); clear hb hbox hg; obtain ⟨gC, gB, gA, gp, gn, gm⟩ := cc3 bm.out)))
       go_roundg k1
       case measure => have := HK1.out; omega
       case rel => exact ⟨(wrap64 (x7_1 + (qB))), (wrap64 (x8_1 + ((sp l0 x9_1).f0))), (wrap64 (x9_1 + 1)), (by first | rfl | (simp; done) | (simp only [← kf] <;> (first | rfl | (simp; done) | (simp; generalize ByteArray.toList _ = u_; cases u_ <;> (first | rfl | (simp; done))))) | (simp [*]; done)), z1, z1, (by first | exact H' | (simp only [kf]; exact H') | (simp only [← kf]; exact H')), ⟨y0⟩, ⟨y18⟩⟩
     ·rw [if_neg c6] at H
      have c6b0 : decide (0 < ((sp l0 x9_1).f0)) = false := dF c6
      clear c6
      have q0 := aM H
      clear H
      have p373 : 0 ≤ (x9_1 : Int) := oD z2
      have q373 : x9_1 < (l0.length : Int) := oD z2
      obtain ⟨ad373, e373, hx373_0, hx373_1, hx373_2⟩ := at_T68 bH.out x9_1 p373 q373
      cases e373
      replace hx373_0 := hC_ HB.out hx373_0
      replace hx373_1 := hC_ HB.out hx373_1
      replace hx373_2 := hC_ HB.out hx373_2
      replace p373 := eq_true p373
      replace q373 := eq_true q373
      go_upto_region 12 with (first | ((with_reducible refine ay (N := 10) rfl ?_); refine bE_ (N := 10) (cs := #[.int .i64 0, .string ⟨#[]⟩, .string ⟨#[]⟩]) (t := 68) (h := ?_); intro bj hg w14 hbox hb; have bm := aM (hbox); have fZ := aM ((zg_ : w.heap.size ≤ bj)); have iQ := aM ((zg_ : w.heap.size ≤ bj)); replace HB := aM (ap z9 hb); clear hb hbox hg; obtain ⟨ii, ig, ie, hO, hL, hJ⟩ := cc3 bm.out))
      repeat (go_quiet (fail); go_upto_region 12 with (first | ((with_reducible refine ay (N := 10) rfl ?_); refine bE_ (N := 10) (cs := #[.int .i64 0, .string ⟨#[]⟩, .string ⟨#[]⟩]) (t := 68) (h := ?_); intro bj hg w14 hbox hb; have bm := aM (hbox); have fZ := aM ((zg_ : w.heap.size ≤ bj)); have iQ := aM ((zg_ : w.heap.size ≤ bj)); replace HB := aM (ap z9 hb); clear hb hbox hg; obtain ⟨ii, ig, ie, hO, hL, hJ⟩ := cc3 bm.out)))
      (try simp only [Act.put, sA, sB, sC])
      go_cut [68] (fun v68 wc => ∃ (kq : Nat) (x68_12 : Bool), v68 = .bool x68_12 ∧ Aside0 (impl_movePlace.j1 kq l0 a1 a2 x7_1 x8_1 x9_1 (((sp l0 x9_1).f1).size : Int) (wrap64 (x8_1 + (((sp l0 x9_1).f2).size : Int))) x68_12 = some r) ∧ Aside0 (kq ≤ k1) ∧ Aside0 (wc.heap[bj]? = some (.cells #[.int .i64 ((sp l0 x9_1).f0), .string ((sp l0 x9_1).f1), .string ((sp l0 x9_1).f2)] 68 (0, 0))) ∧ Aside0 (Below w.heap.size w wc))
      case first =>
       have H := q0.out
       clear q0
       by_cases dV : (wrap64 (x9_1 + 1)) < (l0.length : Int)
       ·rw [if_pos dV] at H
        have c16b0 : decide ((wrap64 (x9_1 + 1)) < (l0.length : Int)) = true := dT dV
        clear dV
        (first | rw [c16b0] | (simp only [i64_w, i32_w]; rw [c16b0]) | skip)
        by_cases cA : ((sp l0 x9_1).f1).toList = ([] : List UInt8)
        ·rw [if_pos cA] at H
         have c17b0 : (((sp l0 x9_1).f1).toList == ([] : List UInt8)) = true := qT cA
         have c17b1 : (((sp l0 x9_1).f1).toList != ([] : List UInt8)) = false := nF cA
         have c17b8 : (!((sp l0 x9_1).f1).toList.isEmpty) = false := by have h_ := c17b1; revert h_; cases ((sp l0 x9_1).f1).toList <;> simp
         clear cA
         have H' := aM H
         clear H
         obtain ⟨fx, fw, fv, ff, fe, fd⟩ := cc3 bm.out
         go_wp2
         all_goals (try (exfalso; rename_i h_; rw [c17b0] at h_; cases h_; done))
         repeat (go_quiet (fail); try go_wp2)
         all_goals (try (exfalso; rename_i h_; rw [c17b0] at h_; cases h_; done))
         go_meet
         case rel => exact ⟨_, (false), z1, H', ⟨y3⟩, ⟨y49⟩, ⟨y18⟩⟩
        ·rw [if_neg cA] at H
         have c17b0 : (((sp l0 x9_1).f1).toList == ([] : List UInt8)) = false := qF cA
         have c17b1 : (((sp l0 x9_1).f1).toList != ([] : List UInt8)) = true := nT cA
         have c17b8 : (!((sp l0 x9_1).f1).toList.isEmpty) = true := by have h_ := c17b1; revert h_; cases ((sp l0 x9_1).f1).toList <;> simp
         obtain ⟨kD, jq⟩ : ∃ j_ : Int, (wrap64 (x9_1 + 1)) = j_ := ⟨_, rfl⟩
         replace H : (if 0 ≤ (kD) then (impl_movePlace.j1 k1 l0 a1 a2 x7_1 x8_1 x9_1 (((sp l0 x9_1).f1).size : Int) (wrap64 (x8_1 + (((sp l0 x9_1).f2).size : Int))) (((sp l0 (kD)).f2).toList != ([] : List UInt8))) else (none)) = some r := by first | (rw [jq] at H; exact H) | (simp only [jq] at H ⊢; exact H)
         (try rw [jq] at c16b0)
         have hji19w : (IntKind.i64.wrap (x9_1 + 1)) = kD := (i64_w _).trans jq
         by_cases oO : 0 ≤ (kD)
         ·rw [if_pos oO] at H
          have c20b0 : decide (0 ≤ (kD)) = true := dT oO
          clear oO
          have H' := aM H
          clear H
          obtain ⟨fu, ft, fq, fc, fb, fa⟩ := cc3 bm.out
          have p375 : 0 ≤ ((kD) : Int) := oD z2
          have q375 : (kD) < (l0.length : Int) := oD z2
          obtain ⟨ad375, e375, hx375_0, hx375_1, hx375_2⟩ := at_T68 bH.out (kD) p375 q375
          obtain rfl : ad373 = ad375 := (by injection e375)
          have hn375_0 : ad373.block ≠ bj := Nat.ne_of_lt (Nat.lt_of_lt_of_le (by have := World.block_lt_of_cell? _ _ hx375_0; first | rwa [add_block] at this | exact this) fZ.out)
          have hn375_1 : ad373.block ≠ bj := Nat.ne_of_lt (Nat.lt_of_lt_of_le (by have := World.block_lt_of_cell? _ _ hx375_0; first | rwa [add_block] at this | exact this) fZ.out)
          have hn375_2 : ad373.block ≠ bj := Nat.ne_of_lt (Nat.lt_of_lt_of_le (by have := World.block_lt_of_cell? _ _ hx375_0; first | rwa [add_block] at this | exact this) fZ.out)
          replace hx375_0 := hC_ HB.out hx375_0
          replace hx375_1 := hC_ HB.out hx375_1
          replace hx375_2 := hC_ HB.out hx375_2
          replace hx375_0 := (cell_far (p := ⟨bj, 0, none⟩) (by first | (rw [add_block]; exact hn375_0) | (show (Addr.add _ _).block ≠ _; rw [add_block]; exact hn375_0) | exact hn375_0) (.int .i64 ((sp l0 x9_1).f0))).trans hx375_0
          replace hx375_1 := (cell_far (p := ⟨bj, 0, none⟩) (by first | (rw [add_block]; exact hn375_0) | (show (Addr.add _ _).block ≠ _; rw [add_block]; exact hn375_0) | exact hn375_0) (.int .i64 ((sp l0 x9_1).f0))).trans hx375_1
          replace hx375_2 := (cell_far (p := ⟨bj, 0, none⟩) (by first | (rw [add_block]; exact hn375_0) | (show (Addr.add _ _).block ≠ _; rw [add_block]; exact hn375_0) | exact hn375_0) (.int .i64 ((sp l0 x9_1).f0))).trans hx375_2
          replace hx375_0 := (cell_far (p := ⟨bj, 1, none⟩) (by first | (rw [add_block]; exact hn375_1) | (show (Addr.add _ _).block ≠ _; rw [add_block]; exact hn375_1) | exact hn375_1) (.string ((sp l0 x9_1).f1))).trans hx375_0
          replace hx375_1 := (cell_far (p := ⟨bj, 1, none⟩) (by first | (rw [add_block]; exact hn375_1) | (show (Addr.add _ _).block ≠ _; rw [add_block]; exact hn375_1) | exact hn375_1) (.string ((sp l0 x9_1).f1))).trans hx375_1
          replace hx375_2 := (cell_far (p := ⟨bj, 1, none⟩) (by first | (rw [add_block]; exact hn375_1) | (show (Addr.add _ _).block ≠ _; rw [add_block]; exact hn375_1) | exact hn375_1) (.string ((sp l0 x9_1).f1))).trans hx375_2
          replace hx375_0 := (cell_far (p := ⟨bj, 2, none⟩) (by first | (rw [add_block]; exact hn375_2) | (show (Addr.add _ _).block ≠ _; rw [add_block]; exact hn375_2) | exact hn375_2) (.string ((sp l0 x9_1).f2))).trans hx375_0
          replace hx375_1 := (cell_far (p := ⟨bj, 2, none⟩) (by first | (rw [add_block]; exact hn375_2) | (show (Addr.add _ _).block ≠ _; rw [add_block]; exact hn375_2) | exact hn375_2) (.string ((sp l0 x9_1).f2))).trans hx375_1
          replace hx375_2 := (cell_far (p := ⟨bj, 2, none⟩) (by first | (rw [add_block]; exact hn375_2) | (show (Addr.add _ _).block ≠ _; rw [add_block]; exact hn375_2) | exact hn375_2) (.string ((sp l0 x9_1).f2))).trans hx375_2
          (try have hy375_0 := fun (n_ : Nat) => (show (((((w14.drewN n_).setCell ⟨bj, 0, none⟩ (.int .i64 ((sp l0 x9_1).f0))).setCell ⟨bj, 1, none⟩ (.string ((sp l0 x9_1).f1))).setCell ⟨bj, 2, none⟩ (.string ((sp l0 x9_1).f2)))).cell? _ = some _ from hx375_0))
          (try have hy375_1 := fun (n_ : Nat) => (show (((((w14.drewN n_).setCell ⟨bj, 0, none⟩ (.int .i64 ((sp l0 x9_1).f0))).setCell ⟨bj, 1, none⟩ (.string ((sp l0 x9_1).f1))).setCell ⟨bj, 2, none⟩ (.string ((sp l0 x9_1).f2)))).cell? _ = some _ from hx375_1))
          (try have hy375_2 := fun (n_ : Nat) => (show (((((w14.drewN n_).setCell ⟨bj, 0, none⟩ (.int .i64 ((sp l0 x9_1).f0))).setCell ⟨bj, 1, none⟩ (.string ((sp l0 x9_1).f1))).setCell ⟨bj, 2, none⟩ (.string ((sp l0 x9_1).f2)))).cell? _ = some _ from hx375_2))
          clear hn375_0
          clear hn375_1
          clear hn375_2
          replace p375 := eq_true p375
          replace q375 := eq_true q375
          go_wp2
          all_goals (try (exfalso; rename_i h_; rw [c17b0] at h_; cases h_; done))
          repeat (go_quiet (fail); try go_wp2)
          all_goals (try (exfalso; rename_i h_; rw [c17b0] at h_; cases h_; done))
          go_meet
          case rel => exact ⟨_, ((((sp l0 (kD)).f2).toList != ([] : List UInt8))), (by first | rfl | (simp; done) | (simp only [← jq] <;> (first | rfl | (simp; done) | (simp; generalize ByteArray.toList _ = u_; cases u_ <;> (first | rfl | (simp; done))))) | (simp [*]; done)), (by first | exact H' | (simp only [jq]; exact H') | (simp only [← jq]; exact H')), ⟨y3⟩, ⟨y49⟩, ⟨y18⟩⟩
         ·rw [if_neg oO] at H
          exact absurd H (by simp)
       ·rw [if_neg dV] at H
        have c16b0 : decide ((wrap64 (x9_1 + 1)) < (l0.length : Int)) = false := dF dV
        clear dV
        (first | rw [c16b0] | (simp only [i64_w, i32_w]; rw [c16b0]) | skip)
        have H' := aM H
        clear H
        go_wp2
        repeat (go_quiet (fail); try go_wp2)
        go_meet
        case rel => exact ⟨_, (false), z1, H', ⟨y3⟩, ⟨y49⟩, ⟨y18⟩⟩
      case rest =>
       clear q0
       try clear c2
       try clear p2
       try clear c4
       try clear c4b0
       try clear c5
       try clear c5b0
       try clear c6
       try clear c6b0
       try clear ii
       try clear ig
       try clear ie
       try clear hO
       try clear hL
       try clear hJ
       try clear hx373_0
       try clear hx373_1
       try clear hx373_2
       try clear p2
       try clear p373
       try clear q373
       obtain ⟨kq, x68_12, rfl, HA, gI, bm, HB⟩ := hcut
       cases kq with
       | zero => exact absurd HA.out (by simp [impl_movePlace.j1])
       | succ kj12 =>
        have H := HA.out
        clear HA
        simp only [impl_movePlace.j1] at H
        by_cases fK : x68_12 = true
        ·subst fK
         rw [if_pos rfl] at H
         obtain ⟨ct, fN⟩ : ∃ j_ : Int, (wrap64 (x9_1 + 1)) = j_ := ⟨_, rfl⟩
         replace H : (if 0 ≤ (ct) then (if (ct) < (l0.length : Int) then (if a1 > (wrap64 (x8_1 + (((sp l0 (ct)).f2).size : Int))) then (impl_movePlace.l0 kj12 l0 a1 a2 (wrap64 (x7_1 + (((sp l0 x9_1).f1).size : Int))) (wrap64 (x8_1 + (((sp l0 (ct)).f2).size : Int))) (wrap64 ((ct) + 1))) else (if a1 ≥ x8_1 then (if a2 = true then (impl_movePlace.l0 kj12 l0 a1 a2 (wrap64 (x7_1 + (((sp l0 x9_1).f1).size : Int))) (wrap64 (x8_1 + (((sp l0 (ct)).f2).size : Int))) (wrap64 ((ct) + 1))) else (impl_movePlace.l0 kj12 l0 a1 a2 x7_1 (wrap64 (x8_1 + (((sp l0 (ct)).f2).size : Int))) (wrap64 ((ct) + 1)))) else (impl_movePlace.l0 kj12 l0 a1 a2 x7_1 (wrap64 (x8_1 + (((sp l0 (ct)).f2).size : Int))) (wrap64 ((ct) + 1))))) else (none)) else (none)) = some r := by first | (rw [fN] at H; exact H) | (simp only [fN] at H ⊢; exact H)
         have hji23w : (IntKind.i64.wrap (x9_1 + 1)) = ct := (i64_w _).trans fN
         by_cases na : 0 ≤ (ct)
         ·rw [if_pos na] at H
          have c24b0 : decide (0 ≤ (ct)) = true := dT na
          clear na
          by_cases im : (ct) < (l0.length : Int)
          ·rw [if_pos im] at H
           have c25b0 : decide ((ct) < (l0.length : Int)) = true := dT im
           clear im
           by_cases jt : a1 > (wrap64 (x8_1 + (((sp l0 (ct)).f2).size : Int)))
           ·rw [if_pos jt] at H
            have c26b0 : decide ((wrap64 (x8_1 + (((sp l0 (ct)).f2).size : Int))) < a1) = true := dT jt
            clear jt
            have H' := aM H
            clear H
            have p376 : 0 ≤ ((ct) : Int) := oD z2
            have q376 : (ct) < (l0.length : Int) := oD z2
            obtain ⟨ad376, e376, hx376_0, hx376_1, hx376_2⟩ := at_T68 bH.out (ct) p376 q376
            obtain rfl : ad373 = ad376 := (by injection e376)
            replace hx376_0 := hC_ HB.out hx376_0
            replace hx376_1 := hC_ HB.out hx376_1
            replace hx376_2 := hC_ HB.out hx376_2
            replace p376 := eq_true p376
            replace q376 := eq_true q376
            go_wp2
            repeat (go_quiet (fail); try go_wp2)
            go_roundg kj12
            case measure => have := HK1.out; have := gI.out; omega
            case rel => exact ⟨(wrap64 (x7_1 + (((sp l0 x9_1).f1).size : Int))), (wrap64 (x8_1 + (((sp l0 (ct)).f2).size : Int))), (wrap64 ((ct) + 1)), z1, z17, z17, (by first | exact H' | (simp only [fN]; exact H') | (simp only [← fN]; exact H')), ⟨by have := HK1.out; have := gI.out; omega⟩, ⟨y18⟩⟩
           ·rw [if_neg jt] at H
            have c26b0 : decide ((wrap64 (x8_1 + (((sp l0 (ct)).f2).size : Int))) < a1) = false := dF jt
            clear jt
            by_cases oN : a1 ≥ x8_1
            ·rw [if_pos oN] at H
             have c27b0 : decide (x8_1 ≤ a1) = true := dT oN
             clear oN
             by_cases gH : a2 = true
             ·subst gH
              rw [if_pos rfl] at H
              have H' := aM H
              clear H
              have p376 : 0 ≤ ((ct) : Int) := oD z2
              have q376 : (ct) < (l0.length : Int) := oD z2
              obtain ⟨ad376, e376, hx376_0, hx376_1, hx376_2⟩ := at_T68 bH.out (ct) p376 q376
              obtain rfl : ad373 = ad376 := (by injection e376)
              replace hx376_0 := hC_ HB.out hx376_0
              replace hx376_1 := hC_ HB.out hx376_1
              replace hx376_2 := hC_ HB.out hx376_2
              replace p376 := eq_true p376
              replace q376 := eq_true q376
              go_wp2
              repeat (go_quiet (fail); try go_wp2)
              go_roundg kj12
              case measure => have := HK1.out; have := gI.out; omega
              case rel => exact ⟨(wrap64 (x7_1 + (((sp l0 x9_1).f1).size : Int))), (wrap64 (x8_1 + (((sp l0 (ct)).f2).size : Int))), (wrap64 ((ct) + 1)), z1, z17, z17, (by first | exact H' | (simp only [fN]; exact H') | (simp only [← fN]; exact H')), ⟨by have := HK1.out; have := gI.out; omega⟩, ⟨y18⟩⟩
             ·replace gH := Bool.eq_false_iff.mpr gH
              subst gH
              rw [if_neg nF_] at H
              have H' := aM H
              clear H
              have p376 : 0 ≤ ((ct) : Int) := oD z2
              have q376 : (ct) < (l0.length : Int) := oD z2
              obtain ⟨ad376, e376, hx376_0, hx376_1, hx376_2⟩ := at_T68 bH.out (ct) p376 q376
              obtain rfl : ad373 = ad376 := (by injection e376)
              replace hx376_0 := hC_ HB.out hx376_0
              replace hx376_1 := hC_ HB.out hx376_1
              replace hx376_2 := hC_ HB.out hx376_2
              replace p376 := eq_true p376
              replace q376 := eq_true q376
              go_wp2
              repeat (go_quiet (fail); try go_wp2)
              go_roundg kj12
              case measure => have := HK1.out; have := gI.out; omega
              case rel => exact ⟨(x7_1), (wrap64 (x8_1 + (((sp l0 (ct)).f2).size : Int))), (wrap64 ((ct) + 1)), z1, z17, z17, (by first | exact H' | (simp only [fN]; exact H') | (simp only [← fN]; exact H')), ⟨by have := HK1.out; have := gI.out; omega⟩, ⟨y18⟩⟩
            ·rw [if_neg oN] at H
             have c27b0 : decide (x8_1 ≤ a1) = false := dF oN
             clear oN
             have H' := aM H
             clear H
             have p376 : 0 ≤ ((ct) : Int) := oD z2
             have q376 : (ct) < (l0.length : Int) := oD z2
             obtain ⟨ad376, e376, hx376_0, hx376_1, hx376_2⟩ := at_T68 bH.out (ct) p376 q376
             obtain rfl : ad373 = ad376 := (by injection e376)
             replace hx376_0 := hC_ HB.out hx376_0
             replace hx376_1 := hC_ HB.out hx376_1
             replace hx376_2 := hC_ HB.out hx376_2
             replace p376 := eq_true p376
             replace q376 := eq_true q376
             go_wp2
             repeat (go_quiet (fail); try go_wp2)
             go_roundg kj12
             case measure => have := HK1.out; have := gI.out; omega
             case rel => exact ⟨(x7_1), (wrap64 (x8_1 + (((sp l0 (ct)).f2).size : Int))), (wrap64 ((ct) + 1)), z1, z17, z17, (by first | exact H' | (simp only [fN]; exact H') | (simp only [← fN]; exact H')), ⟨by have := HK1.out; have := gI.out; omega⟩, ⟨y18⟩⟩
          ·rw [if_neg im] at H
           exact absurd H (by simp)
         ·rw [if_neg na] at H
          exact absurd H (by simp)
        ·replace fK := Bool.eq_false_iff.mpr fK
         subst fK
         rw [if_neg nF_] at H
         by_cases gW : a1 > (wrap64 (x8_1 + (((sp l0 x9_1).f2).size : Int)))
         ·rw [if_pos gW] at H
          have c29b0 : decide ((wrap64 (x8_1 + (((sp l0 x9_1).f2).size : Int))) < a1) = true := dT gW
          clear gW
          have H' := aM H
          clear H
          go_wp2
          repeat (go_quiet (fail); try go_wp2)
          go_roundg kj12
          case measure => have := HK1.out; have := gI.out; omega
          case rel => exact ⟨(wrap64 (x7_1 + (((sp l0 x9_1).f1).size : Int))), ((wrap64 (x8_1 + (((sp l0 x9_1).f2).size : Int)))), (wrap64 (x9_1 + 1)), z1, z1, z1, H', ⟨by have := HK1.out; have := gI.out; omega⟩, ⟨y18⟩⟩
         ·rw [if_neg gW] at H
          have c29b0 : decide ((wrap64 (x8_1 + (((sp l0 x9_1).f2).size : Int))) < a1) = false := dF gW
          clear gW
          by_cases nU : a1 ≥ x8_1
          ·rw [if_pos nU] at H
           have c30b0 : decide (x8_1 ≤ a1) = true := dT nU
           clear nU
           by_cases js : a2 = true
           ·subst js
            rw [if_pos rfl] at H
            have H' := aM H
            clear H
            go_wp2
            repeat (go_quiet (fail); try go_wp2)
            go_roundg kj12
            case measure => have := HK1.out; have := gI.out; omega
            case rel => exact ⟨(wrap64 (x7_1 + (((sp l0 x9_1).f1).size : Int))), ((wrap64 (x8_1 + (((sp l0 x9_1).f2).size : Int)))), (wrap64 (x9_1 + 1)), z1, z1, z1, H', ⟨by have := HK1.out; have := gI.out; omega⟩, ⟨y18⟩⟩
           ·replace js := Bool.eq_false_iff.mpr js
            subst js
            rw [if_neg nF_] at H
            have H' := aM H
            clear H
            go_wp2
            repeat (go_quiet (fail); try go_wp2)
            go_roundg kj12
            case measure => have := HK1.out; have := gI.out; omega
            case rel => exact ⟨(x7_1), ((wrap64 (x8_1 + (((sp l0 x9_1).f2).size : Int)))), (wrap64 (x9_1 + 1)), z1, z1, z1, H', ⟨by have := HK1.out; have := gI.out; omega⟩, ⟨y18⟩⟩
          ·rw [if_neg nU] at H
           have c30b0 : decide (x8_1 ≤ a1) = false := dF nU
           clear nU
           have H' := aM H
           clear H
           go_wp2
           repeat (go_quiet (fail); try go_wp2)
           go_roundg kj12
           case measure => have := HK1.out; have := gI.out; omega
           case rel => exact ⟨(x7_1), ((wrap64 (x8_1 + (((sp l0 x9_1).f2).size : Int)))), (wrap64 (x9_1 + 1)), z1, z1, z1, H', ⟨by have := HK1.out; have := gI.out; omega⟩, ⟨y18⟩⟩
    ·rw [if_neg c5] at H
     exact absurd H (by simp)
   ·rw [if_neg c4] at H
    have c4b0 : decide (x9_1 < (l0.length : Int)) = false := dF c4
    clear c4
    obtain rfl := sI H
    go_wp2
    repeat (go_quiet (fail); try go_wp2)
    go_ret
    exact ⟨y5, y6⟩

/-! ### impl_goodMarks: function 22 -/
def impl_goodMarks.f (k : Nat) (l0 : List (S34)) (a1 : Int) : Option ((List (S34)) × Bool) := (impl_GoodMarks.f k l0 a1).bind fun oc => (if oc = true then (some (l0, true)) else (some (([] : List (S34)), false)))
theorem impl_goodMarks.mono : ∀ a0 a1 k, LeO (impl_goodMarks.f k a0 a1) (impl_goodMarks.f (k + 1) a0 a1) := by
 intro a0 a1 k
 unfold impl_goodMarks.f
 with_reducible repeat' first | exact impl_GoodMarks.mono _ _ _ | exact lR_ _ | exact lN_ _ | refine lI_ ?_ ?_ | refine lB_ ?_ fun _ => ?_
theorem impl_goodMarks.calls (k : Nat) (P0_ : Nat → Prop) (u9000_ : Value) (l0 : List (S34)) (a1 : Int) (r1 : List (S34)) (r2 : Bool) (w0 w : World) (hB : Below w0.heap.size w0 w) (ho0 : Kd.R k34 34 w w0.heap.size P0_ u9000_ l0) (h : impl_goodMarks.f k l0 a1 = some (r1, r2)) :
  Calls Try.prog 22 #[u9000_, .int .i64 a1] w fun e w' => ∃ v0_ : Value, e = .returned (.tuple #[v0_, .bool r2]) ∧ Kd.R k34 34 w' w0.heap.size (fun k_ => (P0_ k_ ∨ w.heap.size ≤ k_)) v0_ r1 ∧ Below w0.heap.size w0 w' ∧ Kept w w' (fun k_ => P0_ k_) := by
 have iU := aM (show Kd.R k34 34 w w0.heap.size (fun k_ => (P0_ k_ ∨ w.heap.size ≤ k_)) u9000_ l0 from ag ho0 (fun k_ hk => (.inl hk)))
 have HK := aM (Kept.refl w (fun k_ => P0_ k_))
 have HW0 := aM hB.size
 have HB := aM hB
 clear hB
 have H : ((impl_GoodMarks.f k l0 a1).bind fun oc => (if oc = true then (some (l0, true)) else (some (([] : List (S34)), false)))) = some (r1, r2) := h
 clear h
 obtain ⟨oc, A3, H⟩ := oA_ H
 try dsimp only at H
 by_cases c4 : oc = true
 ·subst c4
  rw [if_pos rfl] at H
  simp only [Option.some.injEq, Prod.mk.injEq] at H
  obtain ⟨rfl, rfl⟩ := H
  obtain ⟨lY, fy, eo5⟩ := Kd.R_slice iU.out
  subst eo5
  go_enter Try.func22, Try.ntmps22
  go_wp2_with (first | ((with_reducible refine ax (f := 9) rfl ?_); refine aC (some 8) rfl rfl Try.func9 z0 rfl #[.slice lY l0.length fy, .int .i64 a1] rfl z10 ?_; (with_reducible refine (impl_GoodMarks.calls k _ _ l0 a1 true _ ?side1 ?side2 A3.out).mono ?_); (case side1 => exact y55); (case side2 => exact (ah iU.out).2.1); rintro e w6 ⟨rfl, hb⟩; refine ⟨_, rfl, ?_⟩; replace iU := aM (af (kR_ iU.out) hb); replace HK := aM (Kept.below (S := (fun k_ => P0_ k_)) (by repeat (first | (with_reducible first | exact HK.out | apply Kept.alloc | apply Kept.drewN | apply Kept.drew) | exact HK.out)) hb); replace HB := aM (ap z9 hb); (try clear hb)))
  go_ret2
  exact ⟨_, y5, y7, y6, y16⟩
 ·replace c4 := Bool.eq_false_iff.mpr c4
  subst c4
  rw [if_neg nF_] at H
  simp only [Option.some.injEq, Prod.mk.injEq] at H
  obtain ⟨rfl, rfl⟩ := H
  obtain ⟨Ao7, co7, eo7⟩ := Kd.R_slice iU.out
  subst eo7
  go_enter Try.func22, Try.ntmps22
  go_wp2_with (first | ((with_reducible refine ax (f := 9) rfl ?_); refine aC (some 8) rfl rfl Try.func9 z0 rfl #[.slice Ao7 l0.length co7, .int .i64 a1] rfl z10 ?_; (with_reducible refine (impl_GoodMarks.calls k _ _ l0 a1 false _ ?side1 ?side2 A3.out).mono ?_); (case side1 => exact y55); (case side2 => exact (ah iU.out).2.1); rintro e w8 ⟨rfl, hb⟩; refine ⟨_, rfl, ?_⟩; replace iU := aM (af (kR_ iU.out) hb); replace HK := aM (Kept.below (S := (fun k_ => P0_ k_)) (by repeat (first | (with_reducible first | exact HK.out | apply Kept.alloc | apply Kept.drewN | apply Kept.drew) | exact HK.out)) hb); replace HB := aM (ap z9 hb); (try clear hb)))
  go_ret2
  exact ⟨_, y5, y29, y6, y16⟩

/-! ### impl_Mark_31: function 31, by hand -/
def impl_Mark_31.f (l0 : List S34) : Option (List S34) := if l0.length ≤ 4398046511103 then some l0 else none
theorem k34_KM (w W : World) (base : Nat) (okp : Nat → Prop) : ∀ (x : S34) (cs : List Value), k34.K w x cs → k34.M W base okp x cs := fun x cs hk => by
 obtain rfl := k34_open hk
 exact k34_mkM _ _ _ _
theorem cl_equalIn (w : World) (d : Nat) (t e : TypeId) (a : Option Addr) (l c : Nat) (h : Try.prog.underlying t = some (.slice e)) : (Op.equalIn (d + 1) t (.slice a l c) (.slice none 0 0)).run Try.prog w = .ok a.isNone w := by
 cases a <;> simp [Op.equalIn, run_underlying h]
theorem cl_equal (w : World) (t e : TypeId) (a : Option Addr) (l c : Nat) (h : Try.prog.underlying t = some (.slice e)) : (Op.equal t (.slice a l c) (.slice none 0 0)).run Try.prog w = .ok a.isNone w := cl_equalIn w 9999 t e a l c h
theorem cl_eql (w : World) (t e : TypeId) (a : Option Addr) (l c : Nat) (h : Try.prog.underlying t = some (.slice e)) : (binOp .eql t (.slice a l c) (.slice none 0 0)).run Try.prog w = .ok (.bool a.isNone) w := by
 simp [binOp, cl_equal w t e a l c h]
set_option maxHeartbeats 1000000 in
theorem impl_Mark_31.calls (A0 : Option Addr) (c0 : Nat) (l0 : List S34) (r : List S34) (w : World) (hr0 : Kd.C k34 w A0 l0.length l0) (hc0 : l0.length ≤ c0) (h : impl_Mark_31.f l0 = some r) :
  Calls Try.prog 31 #[.slice A0 l0.length c0] w fun e w' => ∃ v0_ : Value, e = .returned v0_ ∧ Kd.R k34 34 w' w.heap.size (fun _ => True) v0_ r ∧ Below w.heap.size w w' := by
 unfold impl_Mark_31.f at h
 split at h
 case isFalse => cases h
 case isTrue hl =>
  obtain rfl := sI h
  clear h
  have qnil : ∀ (w : World) (a : Option Addr) (n c : Nat), (binOp .eql 24 (.slice a n c) (.slice none 0 0)).run Try.prog w = .ok (.bool a.isNone) w := fun w a n c => cl_eql w _ _ a n c Try.underlying24
  cases A0 with
  | none =>
   have h0 : l0.length = 0 := by
    rcases Nat.eq_zero_or_pos l0.length with h0 | h0
    ·exact h0
    ·obtain ⟨ad, h', _⟩ := hr0.2.2 h0
     cases h'
   obtain rfl := List.eq_nil_of_length_eq_zero h0
   clear hr0 hc0 h0 hl
   go_enter Try.func31, Try.ntmps31
   go_wp2
   go_ret
   exact ⟨_, rfl, Kd.R_nil _ _ _ _ _, Below.refl _ _⟩
  | some ad =>
   have HR := aM hr0
   have HO : Aside0 (Kd.R k34 34 (w.alloc (.cells #[] 34)) w.heap.size (fun _ => True) (.slice (some ⟨w.heap.size, 0, none⟩) 0 0) []) :=
    ⟨fun _ _ => trivial, [], by simpa using World.ownsRow_made w #[] 0 (Nat.le_refl _) (Nat.zero_le _) rfl, Reps.none _ _⟩
   clear hr0 hc0
   have hunil := Try.underlying24
   go_enter Try.func31, Try.ntmps31
   go_wp2_with (at_builtin; refine Kd.R_append_rows k34 (Rr := k34.K (w.alloc (.cells #[] 34))) (w0 := w) (W := w.alloc (.cells #[] 34)) w.heap.size rfl (.tmp 5) (.tmp 6) 24 34 (.agg #[(.int .i64 0), (.int .i64 0), (.string ⟨#[]⟩)]) 32 rfl Try.underlying24 info34 rfl (by decide) (by decide) (.slice (some ⟨w.heap.size, 0, none⟩) 0 0) [] l0 (some ad) l0.length c0 (fun _ => True) (fun _ => False) rfl rfl HO.out (ar HR.out (bA (Below.refl _ _) _)) (k34_KM _ _ _ _) (fun _ h => h.elim) (fun _ _ => trivial) (bA (Below.refl _ _) _) (bA (Below.refl _ _) _).size (by simp only [List.length_nil]; omega) ?_)
   intro v1 w1 hr1 hb1 hg1 hat1
   have lp := aM hr1
   have HB1 := aM hb1
   clear hr1 hb1 hg1 hat1
   go_wp2
   go_ret
   exact ⟨v1, rfl, by simpa using lp.out, HB1.out⟩

-- NOT PRINTED: function 78 (bytealg_abigen_runtime_cmpstring)

/-! ### bytealg_CompareString: function 60, by hand -/
def bytealg_CompareString.f (a0 a1 : ByteArray) : Option Int := some (Lib.compareBytes a0.data.toList a1.data.toList)
theorem bytealg_CompareString.calls (a0 a1 : ByteArray) (r : Int) (w : World) (h : bytealg_CompareString.f a0 a1 = some r) :
  Calls Try.prog 60 #[.string a0, .string a1] w fun e w' => e = .returned (.int .i64 r) ∧ Drawn0 w w' := by
 obtain rfl := sI h
 clear h
 go_enter Try.func60, Try.ntmps60
 go_wp2
 rw [run_callFunc_extern Try.func78 z0 z0 z0 (e := Extern.BytealgCompare.compare) z0, Lib.run_compareString]
 simp only [Result.andThen]
 rw [Oper.upon_value]
 go_wp2
 go_ret
 exact ⟨rfl, Drawn0.refl w⟩

/-! ### strings_Compare: function 44 -/
def strings_Compare.f (a0 : ByteArray) (a1 : ByteArray) : Option (Int) := (bytealg_CompareString.f a0 a1).bind fun ob => (some ob)
theorem strings_Compare.calls (a0 : ByteArray) (a1 : ByteArray) (r : Int) (w : World) (h : strings_Compare.f a0 a1 = some r) :
  Calls Try.prog 44 #[.string a0, .string a1] w fun e w' => e = .returned (.int .i64 r) ∧ Drawn0 w w' := by
 have H : ((bytealg_CompareString.f a0 a1).bind fun ob => (some ob)) = some r := h
 clear h
 obtain ⟨ob, A3, H⟩ := oA_ H
 try dsimp only at H
 obtain rfl := sI H
 go_enter Try.func44, Try.ntmps44
 go_wp2_with (first | ((with_reducible refine ax (f := 60) rfl ?_); refine aC (some 7) rfl rfl Try.func60 z0 rfl #[.string a0, .string a1] rfl z10 ?_; (with_reducible refine (bytealg_CompareString.calls a0 a1 ob _ A3.out).mono ?_); rintro e w' ⟨rfl, ⟨nd, rfl⟩⟩; refine ⟨_, rfl, ?_⟩))
 go_ret
 exact ⟨y2, y4⟩

/-! ### impl_joined_1: function 43 -/
def impl_joined_1.f (a0_0 : Int) (a0_1 : Int) (a0_2 : ByteArray) (a1_0 : Int) (a1_1 : Int) (a1_2 : ByteArray) : Option (Int) := (strings_Compare.f a0_2 a1_2).bind fun iC => (if iC = 0 then (some (wrap64 (a0_0 - a1_0))) else (some iC))
theorem impl_joined_1.calls (a0_0 : Int) (a0_1 : Int) (a0_2 : ByteArray) (a1_0 : Int) (a1_1 : Int) (a1_2 : ByteArray) (r : Int) (w : World) (h : impl_joined_1.f a0_0 a0_1 a0_2 a1_0 a1_1 a1_2 = some r) :
  Calls Try.prog 43 #[.agg #[.int .i64 a0_0, .int .i64 a0_1, .string a0_2], .agg #[.int .i64 a1_0, .int .i64 a1_1, .string a1_2]] w fun e w' => e = .returned (.int .i64 r) ∧ Below w.heap.size w w' := by
 have hu34 := Try.underlying34
 have HB := aM (Below.refl w.heap.size w)
 have H : ((strings_Compare.f a0_2 a1_2).bind fun iC => (if iC = 0 then (some (wrap64 (a0_0 - a1_0))) else (some iC))) = some r := h
 clear h
 obtain ⟨iC, A3, H⟩ := oA_ H
 try dsimp only at H
 by_cases c4 : iC = 0
 ·rw [if_pos c4] at H
  have c4b0 : (iC == 0) = true := qT c4
  have c4b1 : (iC != 0) = false := nF c4
  clear c4
  obtain rfl := sI H
  go_enter Try.func43, Try.ntmps43
  go_wp2_with (first | ((with_reducible refine ay (N := 2) rfl ?_); refine bE_ (N := 2) (cs := #[.int .i64 a0_0, .int .i64 a0_1, .string a0_2]) (t := 34) (h := ?_); intro de hg w5 hbox hb; have cN := aM (hbox); have GW379 := aM ((zg_ : w.heap.size ≤ de)); have iw := aM ((zg_ : w.heap.size ≤ de)); replace HB := aM (ap z9 hb); clear hb hbox hg) | ((with_reducible refine ay (N := 3) rfl ?_); refine bE_ (N := 3) (cs := #[.int .i64 a1_0, .int .i64 a1_1, .string a1_2]) (t := 34) (h := ?_); intro ej hg w6 hbox hb; have eV := aM (hbox); have GW380 := aM ((zg2_ : w.heap.size ≤ ej)); have pc := aM ((zg2_ : w.heap.size ≤ ej)); replace HB := aM (ap zb_ hb); have iI := aM ((by rw [hg]; exact Nat.ne_of_lt (blk_lt (g := de) (o := .cells #[.int .i64 a0_0, .int .i64 a0_1, .string a0_2] 34 (0, 0)) (kB_ cN.out)) : de ≠ ej)); have iH := aM ((by rw [hg]; exact Nat.ne_of_gt (blk_lt (g := de) (o := .cells #[.int .i64 a0_0, .int .i64 a0_1, .string a0_2] 34 (0, 0)) (kB_ cN.out)) : ej ≠ de)); replace cN := aM (ae (g := de) (o := .cells #[.int .i64 a0_0, .int .i64 a0_1, .string a0_2] 34 (0, 0)) (kB_ cN.out) hb); clear hb hbox hg; have hnb7 := iI.out; have hnc7 := iH.out; obtain ⟨fi, fh, fg, fO, e3, e1⟩ := cc3 cN.out; obtain ⟨dc, db, da, dh, cZ, cY⟩ := cc3 eV.out) | ((with_reducible refine ax (f := 44) rfl ?_); refine aC (some 10) rfl rfl Try.func44 z0 rfl #[.string a0_2, .string a1_2] rfl z10 ?_; (with_reducible refine (strings_Compare.calls a0_2 a1_2 iC _ A3.out).mono ?_); rintro e w' ⟨rfl, ⟨nd, rfl⟩⟩; refine ⟨_, rfl, ?_⟩))
  go_ret
  exact ⟨y5, zb_⟩
 ·rw [if_neg c4] at H
  have c4b0 : (iC == 0) = false := qF c4
  have c4b1 : (iC != 0) = true := nT c4
  obtain rfl := sI H
  go_enter Try.func43, Try.ntmps43
  go_wp2_with (first | ((with_reducible refine ay (N := 2) rfl ?_); refine bE_ (N := 2) (cs := #[.int .i64 a0_0, .int .i64 a0_1, .string a0_2]) (t := 34) (h := ?_); intro de hg w10 hbox hb; have cN := aM (hbox); have GW379 := aM ((zg_ : w.heap.size ≤ de)); have iw := aM ((zg_ : w.heap.size ≤ de)); replace HB := aM (ap z9 hb); clear hb hbox hg) | ((with_reducible refine ay (N := 3) rfl ?_); refine bE_ (N := 3) (cs := #[.int .i64 a1_0, .int .i64 a1_1, .string a1_2]) (t := 34) (h := ?_); intro ej hg w11 hbox hb; have eV := aM (hbox); have GW380 := aM ((zg2_ : w.heap.size ≤ ej)); have pc := aM ((zg2_ : w.heap.size ≤ ej)); replace HB := aM (ap zb_ hb); have iI := aM ((by rw [hg]; exact Nat.ne_of_lt (blk_lt (g := de) (o := .cells #[.int .i64 a0_0, .int .i64 a0_1, .string a0_2] 34 (0, 0)) (kB_ cN.out)) : de ≠ ej)); have iH := aM ((by rw [hg]; exact Nat.ne_of_gt (blk_lt (g := de) (o := .cells #[.int .i64 a0_0, .int .i64 a0_1, .string a0_2] 34 (0, 0)) (kB_ cN.out)) : ej ≠ de)); replace cN := aM (ae (g := de) (o := .cells #[.int .i64 a0_0, .int .i64 a0_1, .string a0_2] 34 (0, 0)) (kB_ cN.out) hb); clear hb hbox hg; have hnb12 := iI.out; have hnc12 := iH.out; obtain ⟨il, ik, ij, hV, hU, hP⟩ := cc3 cN.out; obtain ⟨cz, cy, cx, cw, cv, cu⟩ := cc3 eV.out) | ((with_reducible refine ax (f := 44) rfl ?_); refine aC (some 10) rfl rfl Try.func44 z0 rfl #[.string a0_2, .string a1_2] rfl z10 ?_; (with_reducible refine (strings_Compare.calls a0_2 a1_2 iC _ A3.out).mono ?_); rintro e w' ⟨rfl, ⟨nd, rfl⟩⟩; refine ⟨_, rfl, ?_⟩))
  go_ret
  exact ⟨y5, zb_⟩

theorem sw_ne {x j : Int} (h : wrap64 (x - 1) = j) (h1 : 0 ≤ x) (h2 : 0 ≤ j) : ¬ x.toNat = j.toNat := by
 unfold wrap64 at h
 omega
/-! ### impl_Mark_68: function 68 -/
mutual
def impl_Mark_68.l0 : Nat → List (S34) → Int → Int → Int → Option ((List (S34)))
 | 0, _, _, _, _ => none
 | k + 1, x0, x1, x2, x8 => if x8 < x2 then (impl_Mark_68.l1 k x0 x1 x2 x8 x8) else (some x0)
def impl_Mark_68.l1 : Nat → List (S34) → Int → Int → Int → Int → Option ((List (S34)))
 | 0, _, _, _, _, _ => none
 | k + 1, x0, x1, x2, x8, x9 => if x9 > x1 then (if 0 ≤ x9 then (if x9 < (x0.length : Int) then (if 0 ≤ (wrap64 (x9 - 1)) then (if (wrap64 (x9 - 1)) < (x0.length : Int) then ((impl_joined_1.f ((so x0 x9).f0) ((so x0 x9).f1) ((so x0 x9).f2) ((so x0 (wrap64 (x9 - 1))).f0) ((so x0 (wrap64 (x9 - 1))).f1) ((so x0 (wrap64 (x9 - 1))).f2)).bind fun ky => (if ky < 0 then (impl_Mark_68.l1 k ((x0.set (x9 : Int).toNat (⟨(so x0 (wrap64 (x9 - 1))).f0, (so x0 (wrap64 (x9 - 1))).f1, (so x0 (wrap64 (x9 - 1))).f2⟩ : S34)).set ((wrap64 (x9 - 1)) : Int).toNat (⟨(so x0 x9).f0, (so x0 x9).f1, (so x0 x9).f2⟩ : S34)) x1 x2 x8 (wrap64 (x9 - 1))) else (impl_Mark_68.l0 k x0 x1 x2 (wrap64 (x8 + 1))))) else (none)) else (none)) else (none)) else (none)) else (impl_Mark_68.l0 k x0 x1 x2 (wrap64 (x8 + 1)))
end
def impl_Mark_68.f (k : Nat) (l0 : List (S34)) (a1 : Int) (a2 : Int)  : Option ((List (S34))) := impl_Mark_68.l0 k l0 a1 a2 (wrap64 (a1 + 1))
theorem impl_Mark_68.mono_l : ∀ k, (∀ y0 y1 y2 y3, LeO (impl_Mark_68.l0 k y0 y1 y2 y3) (impl_Mark_68.l0 (k + 1) y0 y1 y2 y3)) ∧ (∀ y0 y1 y2 y3 y4, LeO (impl_Mark_68.l1 k y0 y1 y2 y3 y4) (impl_Mark_68.l1 (k + 1) y0 y1 y2 y3 y4))
 | 0 => ⟨fun _ _ _ _ r h => by simp [impl_Mark_68.l0] at h, fun _ _ _ _ _ r h => by simp [impl_Mark_68.l1] at h⟩
 | k + 1 => by
  obtain ⟨ih0, ih1⟩ := impl_Mark_68.mono_l k
  refine ⟨?_, ?_⟩
  ·intro y0 y1 y2 y3
   unfold impl_Mark_68.l0
   with_reducible repeat' first | exact ih0 _ _ _ _ | exact ih1 _ _ _ _ _ | exact lR_ _ | exact lN_ _ | refine lI_ ?_ ?_ | refine lB_ ?_ fun _ => ?_
  ·intro y0 y1 y2 y3 y4
   unfold impl_Mark_68.l1
   with_reducible repeat' first | exact ih0 _ _ _ _ | exact ih1 _ _ _ _ _ | exact lR_ _ | exact lN_ _ | refine lI_ ?_ ?_ | refine lB_ ?_ fun _ => ?_
theorem impl_Mark_68.mono : ∀ a0 a1 a2 k, LeO (impl_Mark_68.f k a0 a1 a2) (impl_Mark_68.f (k + 1) a0 a1 a2) := by
 intro a0 a1 a2 k
 obtain ⟨ih0, ih1⟩ := impl_Mark_68.mono_l k
 unfold impl_Mark_68.f
 with_reducible repeat' first | exact ih0 _ _ _ _ | exact ih1 _ _ _ _ _ | exact lR_ _ | exact lN_ _ | refine lI_ ?_ ?_ | refine lB_ ?_ fun _ => ?_
def impl_Mark_68.T4 : Bool × List (List Nat × List Nat) := (true, [([], []), ([], []), ([0, 1], [0, 1]), ([2], [2]), ([3], [3]), ([3], [3]), ([3], [3]), ([5, 6, 3], [3, 5, 6]), ([7, 3], [3, 7]), ([3], [3]), ([3], [3]), ([10, 3], [3, 10]), ([9, 11, 3], [3, 9, 11]), ([12, 3], [3, 12]), ([4, 8, 13, 3, 3], [3, 4, 8, 13]), ([14, 3], [3, 14]), ([3, 15], [3, 15])])
def impl_Mark_68.B4 : List Nat := [0, 0, 3, 7, 15, 15, 15, 111, 239, 15, 15, 1039, 3599, 7695, 16383, 32767, 65535]
theorem impl_Mark_68.tab4 : rtab .any (opsOf Try.f68 4) = impl_Mark_68.T4 := by kernel_rfl
theorem impl_Mark_68.bits4 : waitsOk impl_Mark_68.T4.2 impl_Mark_68.B4 = true := by kernel_rfl
def impl_Mark_68.T6 : Bool × List (List Nat × List Nat) := (true, [([], []), ([], []), ([], []), ([], []), ([3], [3]), ([], []), ([], []), ([6], [6]), ([5, 7], [5, 7]), ([8], [8]), ([], []), ([], []), ([10, 11], [10, 11]), ([12], [12]), ([0, 1, 0, 1, 5, 6, 7, 8, 9, 13], [0, 1]), ([14, 9, 0, 1, 5, 6, 7, 8, 9, 13], [9, 14]), ([2, 4, 0, 1, 2, 3, 4, 5, 6, 7, 8, 9, 10, 11, 12, 13, 14, 15], [2, 4]), ([16, 13, 15, 0, 1, 2, 3, 4, 5, 6, 7, 8, 9, 10, 11, 12, 13, 14, 15], [13, 16])])
def impl_Mark_68.B6 : List Nat := [0, 0, 0, 0, 8, 0, 0, 64, 224, 480, 0, 0, 3072, 7168, 16355, 32739, 65535, 131071]
theorem impl_Mark_68.tab6 : rtab .any (opsOf Try.f68 6) = impl_Mark_68.T6 := by kernel_rfl
theorem impl_Mark_68.bits6 : waitsOk impl_Mark_68.T6.2 impl_Mark_68.B6 = true := by kernel_rfl
theorem impl_Mark_68.calls (k : Nat) (P0_ : Nat → Prop) (u9000_ : Value) (l0 : List (S34)) (a1 : Int) (a2 : Int)  (r : List (S34)) (w0 w : World) (hB : Below w0.heap.size w0 w) (ho0 : Kd.R k34 34 w w0.heap.size P0_ u9000_ l0) (h : impl_Mark_68.f k l0 a1 a2 = some r) :
  Calls Try.prog 68 #[u9000_, .int .i64 a1, .int .i64 a2, .func (.func 43) #[] #[]] w fun e w' => e = .returned (.tuple #[]) ∧ Kd.R k34 34 w' w0.heap.size (fun k_ => (P0_ k_ ∨ w.heap.size ≤ k_)) u9000_ r ∧ Below w0.heap.size w0 w' ∧ Kept w w' (fun k_ => P0_ k_) := by
 have hu34 := Try.underlying34
 have iU := aM (show Kd.R k34 34 w w0.heap.size (fun k_ => (P0_ k_ ∨ w.heap.size ≤ k_)) u9000_ l0 from ag ho0 (fun k_ hk => (.inl hk)))
 have HK := aM (Kept.refl w (fun k_ => P0_ k_))
 have HW0 := aM hB.size
 have HB := aM hB
 clear hB
 have H : (impl_Mark_68.l0 k l0 a1 a2 (wrap64 (a1 + 1))) = some r := h
 clear h
 have H' := aM H
 clear H
 go_enter Try.func68, Try.ntmps68
 go_wp2
 go_loopg [8] k (fun kq v8 w' => ∃ (x0_1 : List (S34)) (x8_1 : Int), v8 = .int .i64 x8_1 ∧ Aside0 (impl_Mark_68.l0 kq x0_1 a1 a2 x8_1 = some r) ∧ Aside0 (kq ≤ k) ∧ Aside0 (Kd.R k34 34 w' w0.heap.size (fun k_ => (P0_ k_ ∨ w.heap.size ≤ k_)) u9000_ x0_1) ∧ Aside0 (Kept w w' (fun k_ => P0_ k_)) ∧ Aside0 (Below w0.heap.size w0 w'))
 case atStart => exact ⟨(l0), (wrap64 (a1 + 1)), z1, H', ⟨Nat.le_refl _⟩, ⟨y7⟩, ⟨y16⟩, ⟨y6⟩⟩
 case round =>
  clear H'
  obtain ⟨x0_1, x8_1, rfl, HA, HK1, aX, HK, HB⟩ := hrel
  cases gk with
  | zero => exact absurd HA.out (by simp [impl_Mark_68.l0])
  | succ k1 =>
   have H := HA.out
   clear HA
   simp only [impl_Mark_68.l0] at H
   by_cases c5 : x8_1 < a2
   ·rw [if_pos c5] at H
    have c5b0 : decide (x8_1 < a2) = true := dT c5
    clear c5
    have H' := aM H
    clear H
    go_wp2
    go_loopg [9] k1 (fun kq v9 w' => ∃ (x0_2 : List (S34)) (x9_2 : Int), v9 = .int .i64 x9_2 ∧ Aside0 (impl_Mark_68.l1 kq x0_2 a1 a2 x8_1 x9_2 = some r) ∧ Aside0 (kq ≤ k1) ∧ Aside0 (Kd.R k34 34 w' w0.heap.size (fun k_ => (P0_ k_ ∨ w.heap.size ≤ k_)) u9000_ x0_2) ∧ Aside0 (Kept w w' (fun k_ => P0_ k_)) ∧ Aside0 (Below w0.heap.size w0 w'))
    case atStart => exact ⟨(x0_1), (x8_1), z1, H', ⟨Nat.le_refl _⟩, ⟨y8⟩, ⟨y16⟩, ⟨y6⟩⟩
    case round =>
     clear H'
     try clear p2
     try clear c5
     try clear c5b0
     try clear p2
     obtain ⟨x0_2, x9_2, rfl, HA, HK2, aX, HK, HB⟩ := hrel
     cases gk with
     | zero => exact absurd HA.out (by simp [impl_Mark_68.l1])
     | succ k2 =>
      have H := HA.out
      clear HA
      simp only [impl_Mark_68.l1] at H
      by_cases c6 : x9_2 > a1
      ·rw [if_pos c6] at H
       have c6b0 : decide (a1 < x9_2) = true := dT c6
       clear c6
       by_cases c7 : 0 ≤ x9_2
       ·rw [if_pos c7] at H
        have c7b0 : decide (0 ≤ x9_2) = true := dT c7
        clear c7
        by_cases c8 : x9_2 < (x0_2.length : Int)
        ·rw [if_pos c8] at H
         have c8b0 : decide (x9_2 < (x0_2.length : Int)) = true := dT c8
         clear c8
         obtain ⟨bp, ep⟩ : ∃ j_ : Int, (wrap64 (x9_2 - 1)) = j_ := ⟨_, rfl⟩
         replace H : (if 0 ≤ (bp) then (if (bp) < (x0_2.length : Int) then ((impl_joined_1.f ((so x0_2 x9_2).f0) ((so x0_2 x9_2).f1) ((so x0_2 x9_2).f2) ((so x0_2 (bp)).f0) ((so x0_2 (bp)).f1) ((so x0_2 (bp)).f2)).bind fun ky => (if ky < 0 then (impl_Mark_68.l1 k2 ((x0_2.set (x9_2 : Int).toNat (⟨(so x0_2 (bp)).f0, (so x0_2 (bp)).f1, (so x0_2 (bp)).f2⟩ : S34)).set ((bp) : Int).toNat (⟨(so x0_2 x9_2).f0, (so x0_2 x9_2).f1, (so x0_2 x9_2).f2⟩ : S34)) a1 a2 x8_1 bp) else (impl_Mark_68.l0 k2 x0_2 a1 a2 (wrap64 (x8_1 + 1))))) else (none)) else (none)) = some r := by first | (rw [ep] at H; exact H) | (simp only [ep] at H ⊢; exact H)
         have hji9w : (IntKind.i64.wrap (x9_2 - 1)) = bp := (i64_w _).trans ep
         by_cases cq : 0 ≤ (bp)
         ·rw [if_pos cq] at H
          have c10b0 : decide (0 ≤ (bp)) = true := dT cq
          clear cq
          by_cases b4 : (bp) < (x0_2.length : Int)
          ·rw [if_pos b4] at H
           have c11b0 : decide ((bp) < (x0_2.length : Int)) = true := dT b4
           clear b4
           obtain ⟨ky, pZ, H⟩ := oA_ H
           try dsimp only at H
           by_cases bU : ky < 0
           ·rw [if_pos bU] at H
            have c13b0 : decide (ky < 0) = true := dT bU
            clear bU
            obtain ⟨y387, hy387⟩ : ∃ y_ : List (S34), y_ = (x0_2.set (x9_2 : Int).toNat (⟨(so x0_2 (bp)).f0, (so x0_2 (bp)).f1, (so x0_2 (bp)).f2⟩ : S34)) := ⟨_, rfl⟩
            replace H : (impl_Mark_68.l1 k2 (y387.set ((bp) : Int).toNat (⟨(so x0_2 x9_2).f0, (so x0_2 x9_2).f1, (so x0_2 x9_2).f2⟩ : S34)) a1 a2 x8_1 bp) = some r := zh_ hy387
            have Ny387 := aM hy387
            clear hy387
            obtain ⟨y388, hy388⟩ : ∃ y_ : List (S34), y_ = (y387.set ((bp) : Int).toNat (⟨(so x0_2 x9_2).f0, (so x0_2 x9_2).f1, (so x0_2 x9_2).f2⟩ : S34)) := ⟨_, rfl⟩
            replace H : (impl_Mark_68.l1 k2 y388 a1 a2 x8_1 bp) = some r := zh_ hy388
            have Ny388 := aM hy388
            clear hy388
            have H' := aM H
            clear H
            try go_wp2
            replace aX := aM (aa aX.out)
            replace HK := aM (Kept.drew HK.out)
            replace HB := aM (bD HB.out)
            obtain ⟨sS, qL, eo17⟩ := Kd.R_slice aX.out
            (first | subst eo17 | (injection eo17 with f1_ f2_ f3_; have f4_ := f1_.symm; have f5_ := f3_.symm; clear f1_ f2_ f3_; subst f4_; subst f5_))
            have p382 : 0 ≤ (x9_2 : Int) := oD z2
            have q382 : x9_2 < (x0_2.length : Int) := oD z2
            obtain ⟨ad382, e382, hx382_0, hx382_1, hx382_2⟩ := at_T34 (ah aX.out).2.2 x9_2 p382 q382
            cases e382
            replace p382 := eq_true p382
            replace q382 := eq_true q382
            have p383 : 0 ≤ ((bp) : Int) := oD z2
            have q383 : (bp) < (x0_2.length : Int) := oD z2
            obtain ⟨ad383, e383, hx383_0, hx383_1, hx383_2⟩ := at_T34 (ah aX.out).2.2 (bp) p383 q383
            obtain rfl : ad382 = ad383 := (by injection e383)
            replace p383 := eq_true p383
            replace q383 := eq_true q383
            refine start_ (n := 17) (S := fun w' => w'.cell? (ad382.add ((x9_2).toNat * 3)) = some (.int .i64 ((so x0_2 x9_2).f0)) ∧ w'.cell? ⟨(ad382.add ((x9_2).toNat * 3)).block, (ad382.add ((x9_2).toNat * 3)).off + 1, none⟩ = some (.int .i64 ((so x0_2 x9_2).f1)) ∧ w'.cell? ⟨(ad382.add ((x9_2).toNat * 3)).block, (ad382.add ((x9_2).toNat * 3)).off + 2, none⟩ = some (.string ((so x0_2 x9_2).f2)) ∧ w'.cell? (ad382.add (((bp)).toNat * 3)) = some (.int .i64 ((so x0_2 (bp)).f0)) ∧ w'.cell? ⟨(ad382.add (((bp)).toNat * 3)).block, (ad382.add (((bp)).toNat * 3)).off + 1, none⟩ = some (.int .i64 ((so x0_2 (bp)).f1)) ∧ w'.cell? ⟨(ad382.add (((bp)).toNat * 3)).block, (ad382.add (((bp)).toNat * 3)).off + 2, none⟩ = some (.string ((so x0_2 (bp)).f2))) (ds := []) #[false, false, false, false, false, false, false, false, false, false, false, false, false, false, false, false, false] z0 rfl rfl ⟨hx382_0, hx382_1, hx382_2, hx383_0, hx383_1, hx383_2⟩ (fun hHeld => ?_); refine with_tabW impl_Mark_68.tab4 impl_Mark_68.bits4 (fun HT_ HW_ => ?_)
            (first | generalize wr.drew = w16 at aX HK HB hx382_0 hx382_1 hx382_2 hx383_0 hx383_1 hx383_2 hHeld ⊢ | generalize wr.drew = w16 at aX HK HB hHeld ⊢)
            refine pA 0 18 ?_
            refine pA 1 19 ?_
            refine pA 2 20 ?_
            refine pA 3 21 ?_
            refine pA 4 22 ?_
            refine pA 5 23 ?_
            refine pA 6 24 ?_
            refine pA 7 25 ?_
            refine pA 9 27 ?_
            refine pA 10 28 ?_
            refine pA 11 29 ?_
            refine pA 12 30 ?_
            refine t6_ 8 26 ?_
            refine t6_ 13 31 ?_
            refine one_ (i := 14) (N := some 32) #[true, true, true, true, true, true, true, true, true, true, true, true, true, true, true, false, false] rfl rfl (one_of HT_.out z0) (by decide) (fun K hK => ?_)
            refine goesV_ Try.func43 z0 rfl #[.agg #[.int .i64 ((so x0_2 x9_2).f0), .int .i64 ((so x0_2 x9_2).f1), .string ((so x0_2 x9_2).f2)], .agg #[.int .i64 ((so x0_2 (bp)).f0), .int .i64 ((so x0_2 (bp)).f1), .string ((so x0_2 (bp)).f2)]] (by rfl) rfl rfl (by (try simp only [List.map_toArray, List.map_cons, List.map_nil]); first | done | (simp only [ep]; rfl) | rfl | (simp only [List.length_drop, List.length_take]; rfl)) ?_
            with_reducible refine (impl_joined_1.calls ((so x0_2 x9_2).f0) ((so x0_2 x9_2).f1) ((so x0_2 x9_2).f2) ((so x0_2 (bp)).f0) ((so x0_2 (bp)).f1) ((so x0_2 (bp)).f2) ky _ pZ.out).mono ?_
            rintro e w18 ⟨rfl, hb⟩
            have HS0_ := (hb.cell (World.block_lt_of_cell? _ _ (hHeld.1))).trans (hHeld.1)
            have HS1_ := (hb.cell (World.block_lt_of_cell? _ _ (hHeld.2.1))).trans (hHeld.2.1)
            have HS2_ := (hb.cell (World.block_lt_of_cell? _ _ (hHeld.2.2.1))).trans (hHeld.2.2.1)
            have HS3_ := (hb.cell (World.block_lt_of_cell? _ _ (hHeld.2.2.2.1))).trans (hHeld.2.2.2.1)
            have HS4_ := (hb.cell (World.block_lt_of_cell? _ _ (hHeld.2.2.2.2.1))).trans (hHeld.2.2.2.2.1)
            have HS5_ := (hb.cell (World.block_lt_of_cell? _ _ (hHeld.2.2.2.2.2))).trans (hHeld.2.2.2.2.2)
            refine ⟨_, rfl, ?_⟩
            replace aX := aM (af z5 hb)
            replace HK := aM (Kept.below (S := (fun k_ => P0_ k_)) (by repeat (first | (with_reducible first | exact HK.out | apply Kept.alloc | apply Kept.drewN | apply Kept.drew) | exact HK.out)) hb)
            replace HB := aM (ap z9 hb)
            (try clear hb)
            skip
            skip
            skip
            refine hK.out _ _ ⟨HS0_, HS1_, HS2_, HS3_, HS4_, HS5_⟩ (fun hHeld => ?_)
            clear hK K
            refine norm_ (a' := ?_) ?_ ?_
            rotate_left
            ·show Act.put _ (some 32) _ = _
             simp only [Act.put, sA, sB, sC, i64_w, i32_w]
             rfl
            refine pA 15 33 ?_
            refine pA 16 34 ?_
            refine done_ (done_of HT_.out z0) ?_
            try go_wp2
            replace aX := aM (aa aX.out)
            replace HK := aM (Kept.drew HK.out)
            replace HB := aM (bD HB.out)
            have p385 : 0 ≤ ((bp) : Int) := oD z2
            have q385 : (bp) < (x0_2.length : Int) := oD z2
            obtain ⟨ad385, e385, hx385_0, hx385_1, hx385_2⟩ := at_T34 (ah aX.out).2.2 (bp) p385 q385
            obtain rfl : ad382 = ad385 := (by injection e385)
            replace p385 := eq_true p385
            replace q385 := eq_true q385
            have p386 : 0 ≤ (x9_2 : Int) := oD z2
            have q386 : x9_2 < (x0_2.length : Int) := oD z2
            obtain ⟨ad386, e386, hx386_0, hx386_1, hx386_2⟩ := at_T34 (ah aX.out).2.2 x9_2 p386 q386
            obtain rfl : ad382 = ad386 := (by injection e386)
            replace p386 := eq_true p386
            replace q386 := eq_true q386
            have p14 : 0 ≤ (x9_2 : Int) := oD z2
            have q14 : (x9_2 : Int) < ((x0_2.length : Int) : Int) := oD z2
            obtain ⟨go14, sK, eo14, sE, gl14, cl14, HG14⟩ := Kd.R_form aX.out (by omega)
            (first | cases eo14 | (injection eo14 with ea_ en_ ec_; (first | subst ea_ | (injection ea_ with ea_; subst ea_)); subst ec_; clear en_))
            have GB14 := aM sE
            have GG14 := aM HG14
            clear sE gl14 HG14
            have HMgo14 := aM (show (P0_ go14 ∨ w.heap.size ≤ go14) from (aX.out.1 _ rfl))
            (first | simp only [add_plain] at hx382_0 | skip)
            (first | simp only [add_plain] at hx382_1 | skip)
            (first | simp only [add_plain] at hx382_2 | skip)
            (first | simp only [add_plain] at hx383_0 | skip)
            (first | simp only [add_plain] at hx383_1 | skip)
            (first | simp only [add_plain] at hx383_2 | skip)
            (first | simp only [add_plain] at hx385_0 | skip)
            (first | simp only [add_plain] at hx385_1 | skip)
            (first | simp only [add_plain] at hx385_2 | skip)
            (first | simp only [add_plain] at hx386_0 | skip)
            (first | simp only [add_plain] at hx386_1 | skip)
            (first | simp only [add_plain] at hx386_2 | skip)
            obtain ⟨ce14, hcl14, hM14, hcc14, hfr14⟩ := Kd.R_elem aX.out z34 (x9_2 : Int) p14 q14
            obtain rfl := k34_openM hM14
            have hx14_0 : World.cell? _ ⟨go14, (x9_2 : Int).toNat * 3, none⟩ = some (.int .i64 ((so x0_2 x9_2).f0)) := hcc14 0 _ rfl
            have hx14_1 : World.cell? _ ⟨go14, (x9_2 : Int).toNat * 3 + 1, none⟩ = some (.int .i64 ((so x0_2 x9_2).f1)) := hcc14 1 _ rfl
            have hx14_2 : World.cell? _ ⟨go14, (x9_2 : Int).toNat * 3 + 2, none⟩ = some (.string ((so x0_2 x9_2).f2)) := hcc14 2 _ rfl
            have hf14_0 : World.frozen? _ ⟨go14, (x9_2 : Int).toNat * 3, none⟩ = false := hfr14 0
            have hf14_1 : World.frozen? _ ⟨go14, (x9_2 : Int).toNat * 3 + 1, none⟩ = false := hfr14 1
            have hf14_2 : World.frozen? _ ⟨go14, (x9_2 : Int).toNat * 3 + 2, none⟩ = false := hfr14 2
            clear hcl14 hcc14 hfr14; (try clear hM14)
            replace p14 := eq_true p14
            replace q14 := eq_true q14
            obtain ⟨ce20, hcl20, hM20, hcc20, hfr20⟩ := Kd.R_elem aX.out z34 (x9_2 : Int) (oD z2) (by have h_ : (x9_2 : Int) < ((x0_2.length : Int) : Int) := oD z2; first | exact h_ | (have e_ := (ah aX.out).1; omega) | simpa using h_)
            obtain rfl := k34_openM hM20
            have HP20 := (Kd.R_seg aX.out (x9_2 : Int) (oD z2) (by have h_ : (x9_2 : Int) < ((x0_2.length : Int) : Int) := oD z2; first | exact h_ | (have e_ := (ah aX.out).1; omega) | simpa using h_) (seg := [.int .i64 ((so x0_2 (bp)).f0), .int .i64 ((so x0_2 (bp)).f1), .string ((so x0_2 (bp)).f2)]) (j := 0) hcl20 hcc20 (show 3 ≤ 3 from by decide) (x' := (⟨(so x0_2 (bp)).f0, (so x0_2 (bp)).f1, (so x0_2 (bp)).f2⟩ : S34)) (k34_mkM _ _ _ (⟨(so x0_2 (bp)).f0, (so x0_2 (bp)).f1, (so x0_2 (bp)).f2⟩ : S34) ) (fun _ hk => hk)).1
            rw [← Ny387.out] at HP20
            have HQ20 := aM HP20
            clear hcl20 hcc20 hfr20 HP20; (try clear hM20)
            have p15 : 0 ≤ ((bp) : Int) := oD z2
            have q15 : ((bp) : Int) < ((x0_2.length : Int) : Int) := oD z2
            obtain ⟨ce15, hcl15, hM15, hcc15, hfr15⟩ := Kd.R_elem HQ20.out z34 ((bp) : Int) p15 q15
            obtain rfl := k34_openM hM15
            have hx15_0 : World.cell? _ ⟨go14, ((bp) : Int).toNat * 3, none⟩ = some (.int .i64 ((so y387 (bp)).f0)) := hcc15 0 _ rfl
            have hx15_1 : World.cell? _ ⟨go14, ((bp) : Int).toNat * 3 + 1, none⟩ = some (.int .i64 ((so y387 (bp)).f1)) := hcc15 1 _ rfl
            have hx15_2 : World.cell? _ ⟨go14, ((bp) : Int).toNat * 3 + 2, none⟩ = some (.string ((so y387 (bp)).f2)) := hcc15 2 _ rfl
            have hf15_0 : World.frozen? _ ⟨go14, ((bp) : Int).toNat * 3, none⟩ = false := hfr15 0
            have hf15_1 : World.frozen? _ ⟨go14, ((bp) : Int).toNat * 3 + 1, none⟩ = false := hfr15 1
            have hf15_2 : World.frozen? _ ⟨go14, ((bp) : Int).toNat * 3 + 2, none⟩ = false := hfr15 2
            clear hcl15 hcc15 hfr15; (try clear hM15)
            replace p15 := eq_true p15
            replace q15 := eq_true q15
            obtain ⟨ce21, hcl21, hM21, hcc21, hfr21⟩ := Kd.R_elem HQ20.out z34 ((bp) : Int) (oD z2) (by have h_ : ((bp) : Int) < ((x0_2.length : Int) : Int) := oD z2; first | exact h_ | (have e_ := (ah aX.out).1; omega) | simpa using h_)
            obtain rfl := k34_openM hM21
            have HP21 := (Kd.R_seg HQ20.out ((bp) : Int) (oD z2) (by have h_ : ((bp) : Int) < ((x0_2.length : Int) : Int) := oD z2; first | exact h_ | (have e_ := (ah aX.out).1; omega) | simpa using h_) (seg := [.int .i64 ((so x0_2 x9_2).f0), .int .i64 ((so x0_2 x9_2).f1), .string ((so x0_2 x9_2).f2)]) (j := 0) hcl21 hcc21 (show 3 ≤ 3 from by decide) (x' := (⟨(so x0_2 x9_2).f0, (so x0_2 x9_2).f1, (so x0_2 x9_2).f2⟩ : S34)) (k34_mkM _ _ _ (⟨(so x0_2 x9_2).f0, (so x0_2 x9_2).f1, (so x0_2 x9_2).f2⟩ : S34) ) (fun _ hk => hk)).1
            rw [← Ny388.out] at HP21
            have HQ21 := aM HP21
            clear hcl21 hcc21 hfr21 HP21; (try clear hM21)
            refine start_ (n := 18) (S := fun w' => w'.cell? ⟨go14, ((bp)).toNat * 3, none⟩ = some (.int .i64 ((so x0_2 (bp)).f0)) ∧ w'.cell? ⟨go14, ((bp)).toNat * 3 + 1, none⟩ = some (.int .i64 ((so x0_2 (bp)).f1)) ∧ w'.cell? ⟨go14, ((bp)).toNat * 3 + 2, none⟩ = some (.string ((so x0_2 (bp)).f2)) ∧ w'.cell? ⟨go14, ((x9_2).toNat * 3), none⟩ = some (.int .i64 ((so x0_2 x9_2).f0)) ∧ w'.cell? ⟨go14, ((x9_2).toNat * 3) + 1, none⟩ = some (.int .i64 ((so x0_2 x9_2).f1)) ∧ w'.cell? ⟨go14, ((x9_2).toNat * 3) + 2, none⟩ = some (.string ((so x0_2 x9_2).f2))) (ds := [15, 17]) #[false, false, false, false, false, false, false, false, false, false, false, false, false, false, false, false, false, false] z0 rfl rfl ⟨hx385_0, hx385_1, hx385_2, hx386_0, hx386_1, hx386_2⟩ (fun hHeld => ?_); refine with_tabW impl_Mark_68.tab6 impl_Mark_68.bits6 (fun HT_ HW_ => ?_)
            (first | generalize w18.drew = w19 at aX HK HB GG14 HQ20 HQ21 hf14_0 hf14_1 hf14_2 hf15_0 hf15_1 hf15_2 hx14_0 hx14_1 hx14_2 hx15_0 hx15_1 hx15_2 hx382_0 hx382_1 hx382_2 hx383_0 hx383_1 hx383_2 hx385_0 hx385_1 hx385_2 hx386_0 hx386_1 hx386_2 hHeld ⊢ | generalize w18.drew = w19 at aX HK HB GG14 HQ20 HQ21 hf14_0 hf14_1 hf14_2 hf15_0 hf15_1 hf15_2 hx14_0 hx14_1 hx14_2 hx15_0 hx15_1 hx15_2 hHeld ⊢)
            refine pA 0 37 ?_
            refine pA 1 38 ?_
            refine pA 2 39 ?_
            refine pA 3 40 ?_
            refine pA 4 41 ?_
            refine pA 5 42 ?_
            refine pA 6 43 ?_
            refine pA 7 44 ?_
            refine pA 8 45 ?_
            refine pA 10 47 ?_
            refine pA 11 48 ?_
            refine pA 12 49 ?_
            refine t6_ 9 46 ?_
            refine t6_ 13 50 ?_
            refine pA 14 51 ?_
            refine last_ (i := 15) (N := none) #[true, true, true, true, true, true, true, true, true, true, true, true, true, true, true, true, false, false] rfl rfl (one_of HT_.out z0) (by decide) (fun K hK => ?_)
            refine skip_ (w1 := ?_) (by rfl) rfl ?_ ?_
            rotate_left
            ·go_simp
             rfl
            refine hK.out _ _ ?_
            clear hK K
            refine pA 16 52 ?_
            have hsw1 := sw_ne ep (oD c7b0) (oD c10b0)
            have hsw2 : ¬ bp.toNat = x9_2.toNat := fun e => hsw1 e.symm
            obtain ⟨_, _, _, _, hfrs⟩ := Kd.R_elem aX.out z34 ((bp) : Int) (oD c10b0) (oD c11b0)
            have hfs_0 : World.frozen? _ ⟨go14, ((bp) : Int).toNat * 3, none⟩ = false := hfrs 0
            have hfs_1 : World.frozen? _ ⟨go14, ((bp) : Int).toNat * 3 + 1, none⟩ = false := hfrs 1
            have hfs_2 : World.frozen? _ ⟨go14, ((bp) : Int).toNat * 3 + 2, none⟩ = false := hfrs 2
            clear hfrs
            refine last_ (i := 17) (N := none) #[true, true, true, true, true, true, true, true, true, true, true, true, true, true, true, true, true, true] rfl rfl (one_of HT_.out z0) (by decide) (fun K hK => ?_)
            refine skip_ (w1 := ?_) (by rfl) rfl ?_ ?_
            rotate_left
            ·go_simp
             rfl
            refine hK.out _ _ ?_
            clear hK K
            refine done_ (done_of HT_.out z0) ?_
            try go_wp2
            go_roundg k2
            case measure => have := HK1.out; have := HK2.out; omega
            case rel => exact ⟨(y388), (bp), (by first | rfl | (simp; done) | (simp only [← ep] <;> (first | rfl | (simp; done) | (simp; generalize ByteArray.toList _ = u_; cases u_ <;> (first | rfl | (simp; done))))) | (simp [*]; done)), (by first | exact H' | (simp only [ep]; exact H') | (simp only [← ep]; exact H')), ⟨by have := HK1.out; have := HK2.out; omega⟩, ⟨kR_ HQ21.out⟩, ⟨by repeat (first | (with_reducible first | exact HK.out | apply Kept.alloc | apply Kept.drewN | apply Kept.drew | refine Kept.setCell ?_ HMgo14.out _ | refine Kept.setCell ?_ HMgo14.out _ | refine Kept.setCell ?_ HMgo14.out _ | refine Kept.setCell ?_ HMgo14.out _ | refine Kept.setCell ?_ HMgo14.out _ | refine Kept.setCell ?_ HMgo14.out _) | exact HK.out)⟩, ⟨zb_⟩⟩
           ·rw [if_neg bU] at H
            have c13b0 : decide (ky < 0) = false := dF bU
            clear bU
            have H' := aM H
            clear H
            try go_wp2
            replace aX := aM (aa aX.out)
            replace HK := aM (Kept.drew HK.out)
            replace HB := aM (bD HB.out)
            obtain ⟨rf, qJ, eo23⟩ := Kd.R_slice aX.out
            (first | subst eo23 | (injection eo23 with f1_ f2_ f3_; have f4_ := f1_.symm; have f5_ := f3_.symm; clear f1_ f2_ f3_; subst f4_; subst f5_))
            have p382 : 0 ≤ (x9_2 : Int) := oD z2
            have q382 : x9_2 < (x0_2.length : Int) := oD z2
            obtain ⟨ad382, e382, hx382_0, hx382_1, hx382_2⟩ := at_T34 (ah aX.out).2.2 x9_2 p382 q382
            cases e382
            replace p382 := eq_true p382
            replace q382 := eq_true q382
            have p383 : 0 ≤ ((bp) : Int) := oD z2
            have q383 : (bp) < (x0_2.length : Int) := oD z2
            obtain ⟨ad383, e383, hx383_0, hx383_1, hx383_2⟩ := at_T34 (ah aX.out).2.2 (bp) p383 q383
            obtain rfl : ad382 = ad383 := (by injection e383)
            replace p383 := eq_true p383
            replace q383 := eq_true q383
            refine start_ (n := 17) (S := fun w' => w'.cell? (ad382.add ((x9_2).toNat * 3)) = some (.int .i64 ((so x0_2 x9_2).f0)) ∧ w'.cell? ⟨(ad382.add ((x9_2).toNat * 3)).block, (ad382.add ((x9_2).toNat * 3)).off + 1, none⟩ = some (.int .i64 ((so x0_2 x9_2).f1)) ∧ w'.cell? ⟨(ad382.add ((x9_2).toNat * 3)).block, (ad382.add ((x9_2).toNat * 3)).off + 2, none⟩ = some (.string ((so x0_2 x9_2).f2)) ∧ w'.cell? (ad382.add (((bp)).toNat * 3)) = some (.int .i64 ((so x0_2 (bp)).f0)) ∧ w'.cell? ⟨(ad382.add (((bp)).toNat * 3)).block, (ad382.add (((bp)).toNat * 3)).off + 1, none⟩ = some (.int .i64 ((so x0_2 (bp)).f1)) ∧ w'.cell? ⟨(ad382.add (((bp)).toNat * 3)).block, (ad382.add (((bp)).toNat * 3)).off + 2, none⟩ = some (.string ((so x0_2 (bp)).f2))) (ds := []) #[false, false, false, false, false, false, false, false, false, false, false, false, false, false, false, false, false] z0 rfl rfl ⟨hx382_0, hx382_1, hx382_2, hx383_0, hx383_1, hx383_2⟩ (fun hHeld => ?_); refine with_tabW impl_Mark_68.tab4 impl_Mark_68.bits4 (fun HT_ HW_ => ?_)
            (first | generalize wr.drew = w22 at aX HK HB hx382_0 hx382_1 hx382_2 hx383_0 hx383_1 hx383_2 hHeld ⊢ | generalize wr.drew = w22 at aX HK HB hHeld ⊢)
            refine pA 0 18 ?_
            refine pA 1 19 ?_
            refine pA 2 20 ?_
            refine pA 3 21 ?_
            refine pA 4 22 ?_
            refine pA 5 23 ?_
            refine pA 6 24 ?_
            refine pA 7 25 ?_
            refine pA 9 27 ?_
            refine pA 10 28 ?_
            refine pA 11 29 ?_
            refine pA 12 30 ?_
            refine t6_ 8 26 ?_
            refine t6_ 13 31 ?_
            refine one_ (i := 14) (N := some 32) #[true, true, true, true, true, true, true, true, true, true, true, true, true, true, true, false, false] rfl rfl (one_of HT_.out z0) (by decide) (fun K hK => ?_)
            refine goesV_ Try.func43 z0 rfl #[.agg #[.int .i64 ((so x0_2 x9_2).f0), .int .i64 ((so x0_2 x9_2).f1), .string ((so x0_2 x9_2).f2)], .agg #[.int .i64 ((so x0_2 (bp)).f0), .int .i64 ((so x0_2 (bp)).f1), .string ((so x0_2 (bp)).f2)]] (by rfl) rfl rfl (by (try simp only [List.map_toArray, List.map_cons, List.map_nil]); first | done | (simp only [ep]; rfl) | rfl | (simp only [List.length_drop, List.length_take]; rfl)) ?_
            with_reducible refine (impl_joined_1.calls ((so x0_2 x9_2).f0) ((so x0_2 x9_2).f1) ((so x0_2 x9_2).f2) ((so x0_2 (bp)).f0) ((so x0_2 (bp)).f1) ((so x0_2 (bp)).f2) ky _ pZ.out).mono ?_
            rintro e w24 ⟨rfl, hb⟩
            have HS0_ := (hb.cell (World.block_lt_of_cell? _ _ (hHeld.1))).trans (hHeld.1)
            have HS1_ := (hb.cell (World.block_lt_of_cell? _ _ (hHeld.2.1))).trans (hHeld.2.1)
            have HS2_ := (hb.cell (World.block_lt_of_cell? _ _ (hHeld.2.2.1))).trans (hHeld.2.2.1)
            have HS3_ := (hb.cell (World.block_lt_of_cell? _ _ (hHeld.2.2.2.1))).trans (hHeld.2.2.2.1)
            have HS4_ := (hb.cell (World.block_lt_of_cell? _ _ (hHeld.2.2.2.2.1))).trans (hHeld.2.2.2.2.1)
            have HS5_ := (hb.cell (World.block_lt_of_cell? _ _ (hHeld.2.2.2.2.2))).trans (hHeld.2.2.2.2.2)
            refine ⟨_, rfl, ?_⟩
            replace aX := aM (af z5 hb)
            replace HK := aM (Kept.below (S := (fun k_ => P0_ k_)) (by repeat (first | (with_reducible first | exact HK.out | apply Kept.alloc | apply Kept.drewN | apply Kept.drew) | exact HK.out)) hb)
            replace HB := aM (ap z9 hb)
            (try clear hb)
            skip
            skip
            skip
            refine hK.out _ _ ⟨HS0_, HS1_, HS2_, HS3_, HS4_, HS5_⟩ (fun hHeld => ?_)
            clear hK K
            refine norm_ (a' := ?_) ?_ ?_
            rotate_left
            ·show Act.put _ (some 32) _ = _
             simp only [Act.put, sA, sB, sC, i64_w, i32_w]
             rfl
            refine pA 15 33 ?_
            refine pA 16 34 ?_
            refine done_ (done_of HT_.out z0) ?_
            try go_wp2
            go_roundg k2
            case measure => have := HK1.out; have := HK2.out; omega
            case rel => exact ⟨(x0_2), (wrap64 (x8_1 + 1)), z1, (by first | exact H' | (simp only [ep]; exact H') | (simp only [← ep]; exact H')), ⟨by have := HK1.out; have := HK2.out; omega⟩, ⟨y8⟩, ⟨y16⟩, ⟨y6⟩⟩
          ·rw [if_neg b4] at H
           exact absurd H (by simp)
         ·rw [if_neg cq] at H
          exact absurd H (by simp)
        ·rw [if_neg c8] at H
         exact absurd H (by simp)
       ·rw [if_neg c7] at H
        exact absurd H (by simp)
      ·rw [if_neg c6] at H
       have c6b0 : decide (a1 < x9_2) = false := dF c6
       clear c6
       have H' := aM H
       clear H
       try go_wp2
       replace aX := aM (aa aX.out)
       replace HK := aM (Kept.drew HK.out)
       replace HB := aM (bD HB.out)
       refine start_ (n := 17) (S := fun w' => True) (ds := []) #[false, false, false, false, false, false, false, false, false, false, false, false, false, false, false, false, false] z0 rfl rfl trivial (fun hHeld => ?_); refine with_tabW impl_Mark_68.tab4 impl_Mark_68.bits4 (fun HT_ HW_ => ?_)
       generalize wr.drew = w25 at aX HK HB hHeld ⊢
       refine pA 0 18 ?_
       refine pA 1 19 ?_
       refine pA 2 20 ?_
       refine pA 3 21 ?_
       refine pB 4 22 ?_
       refine pB 5 23 ?_
       refine pB 6 24 ?_
       refine pB 7 25 ?_
       refine pB 8 26 ?_
       refine pB 9 27 ?_
       refine pB 10 28 ?_
       refine pB 11 29 ?_
       refine pB 12 30 ?_
       refine pB 13 31 ?_
       refine pB 14 32 ?_
       refine pB 15 33 ?_
       refine pA 16 34 ?_
       refine done_ (done_of HT_.out z0) ?_
       try go_wp2
       go_roundg k2
       case measure => have := HK1.out; have := HK2.out; omega
       case rel => exact ⟨(x0_2), (wrap64 (x8_1 + 1)), z1, H', ⟨by have := HK1.out; have := HK2.out; omega⟩, ⟨y8⟩, ⟨y16⟩, ⟨y6⟩⟩
   ·rw [if_neg c5] at H
    have c5b0 : decide (x8_1 < a2) = false := dF c5
    clear c5
    obtain rfl := sI H
    go_wp2
    first | go_end0 | ((try simp only [Exit.inBlock, Exit.then]); refine bodyPost_ret (results_none rfl _ _ _) rfl ?_)
    exact ⟨y5, y8, y6, y16⟩

/-! ### bits_Len: function 59, by hand -/
def bl4 (a0 : Int) : Int := if a0 < 1 then 0 else if a0 < 2 then 1 else if a0 < 4 then 2 else if a0 < 8 then 3 else 4
def bits_Len.f (a0 : Int) : Option Int := if 0 ≤ a0 ∧ a0 ≤ 12 then some (bl4 a0) else none
set_option maxHeartbeats 1000000 in
set_option maxRecDepth 100000 in
theorem bits_Len.calls (a0 : Int) (r : Int) (w : World) (h : bits_Len.f a0 = some r) :
  Calls Try.prog 59 #[.int .u64 a0] w fun e w' => e = .returned (.int .i64 r) ∧ Drawn0 w w' := by
 unfold bits_Len.f at h
 split at h
 case isFalse => cases h
 case isTrue hl =>
  obtain rfl := sI h
  clear h
  obtain ⟨h0, h1⟩ := hl
  have hc : a0 = 0 ∨ a0 = 1 ∨ a0 = 2 ∨ a0 = 3 ∨ a0 = 4 ∨ a0 = 5 ∨ a0 = 6 ∨ a0 = 7 ∨ a0 = 8 ∨ a0 = 9 ∨ a0 = 10 ∨ a0 = 11 ∨ a0 = 12 := by omega
  clear h0 h1
  rcases hc with rfl | rfl | rfl | rfl | rfl | rfl | rfl | rfl | rfl | rfl | rfl | rfl | rfl
  all_goals
   go_enter Try.func59, Try.ntmps59
   go_wp2
   go_ret
   exact ⟨by kernel_rfl, Drawn0.refl w⟩

/-! ### impl_Mark_58: function 58, by hand -/
def impl_Mark_58.f (k : Nat) (l0 : List (S34)) (a1 : Int) (a2 : Int) (a3 : Int)  : Option ((List (S34))) := if wrap64 (a2 - a1) ≤ 12 then impl_Mark_68.f k l0 a1 a2 else none
theorem impl_Mark_58.mono : ∀ a0 a1 a2 a3 k, LeO (impl_Mark_58.f k a0 a1 a2 a3) (impl_Mark_58.f (k + 1) a0 a1 a2 a3) := by
 intro a0 a1 a2 a3 k
 unfold impl_Mark_58.f
 exact LeO.ite (impl_Mark_68.mono _ _ _ _) (LeO.refl _)
set_option maxHeartbeats 2000000 in
theorem impl_Mark_58.calls (k : Nat) (P0_ : Nat → Prop) (u9000_ : Value) (l0 : List (S34)) (a1 : Int) (a2 : Int) (a3 : Int)  (r : List (S34)) (w0 w : World) (hB : Below w0.heap.size w0 w) (ho0 : Kd.R k34 34 w w0.heap.size P0_ u9000_ l0) (h : impl_Mark_58.f k l0 a1 a2 a3 = some r) :
  Calls Try.prog 58 #[u9000_, .int .i64 a1, .int .i64 a2, .int .i64 a3, .func (.func 43) #[] #[]] w fun e w' => e = .returned (.tuple #[]) ∧ Kd.R k34 34 w' w0.heap.size (fun k_ => (P0_ k_ ∨ w.heap.size ≤ k_)) u9000_ r ∧ Below w0.heap.size w0 w' ∧ Kept w w' (fun k_ => P0_ k_) := by
 unfold impl_Mark_58.f at h
 split at h
 case isFalse => cases h
 case isTrue hl =>
  have hw : IntKind.i64.wrap (a2 - a1) = wrap64 (a2 - a1) := i64_w _
  have hd : decide (wrap64 (a2 - a1) ≤ 12) = true := dT hl
  have HC := aM (impl_Mark_68.calls k P0_ u9000_ l0 a1 a2 r w0 w hB ho0 h)
  clear hB ho0 h hl
  go_enter Try.func58, Try.ntmps58
  go_wp2
  refine wp_loop_rounds 1 ?_
  rw [rounds_succ]
  go_wp2_with (first | (go_at_call 68; refine HC.out.mono ?_; rintro e w1 ⟨rfl, h1, h2, h3⟩; have H1 := aM h1; have H2 := aM h2; have H3 := aM h3; clear h1 h2 h3))
  (try simp only [Exit.inBlock, Exit.then])
  refine bodyPost_ret (results_none rfl _ _ _) rfl ?_
  exact ⟨rfl, H1.out, H2.out, H3.out⟩

/-! ### impl_Mark_42: function 42 -/
def impl_Mark_42.f (k : Nat) (l0 : List (S34))  : Option ((List (S34))) := (bits_Len.f (IntKind.u64.wrap ((l0.length : Int)))).bind fun l6 => ((impl_Mark_58.f k l0 0 (l0.length : Int) l6).bind fun oa => (some oa))
theorem impl_Mark_42.mono : ∀ a0 k, LeO (impl_Mark_42.f k a0) (impl_Mark_42.f (k + 1) a0) := by
 intro a0 k
 unfold impl_Mark_42.f
 with_reducible repeat' first | exact impl_Mark_58.mono _ _ _ _ _ | exact lR_ _ | exact lN_ _ | refine lI_ ?_ ?_ | refine lB_ ?_ fun _ => ?_
theorem impl_Mark_42.calls (k : Nat) (P0_ : Nat → Prop) (u9000_ : Value) (l0 : List (S34))  (r : List (S34)) (w0 w : World) (hB : Below w0.heap.size w0 w) (ho0 : Kd.R k34 34 w w0.heap.size P0_ u9000_ l0) (h : impl_Mark_42.f k l0 = some r) :
  Calls Try.prog 42 #[u9000_, .func (.func 43) #[] #[]] w fun e w' => e = .returned (.tuple #[]) ∧ Kd.R k34 34 w' w0.heap.size (fun k_ => (P0_ k_ ∨ w.heap.size ≤ k_)) u9000_ r ∧ Below w0.heap.size w0 w' ∧ Kept w w' (fun k_ => P0_ k_) := by
 have iU := aM (show Kd.R k34 34 w w0.heap.size (fun k_ => (P0_ k_ ∨ w.heap.size ≤ k_)) u9000_ l0 from ag ho0 (fun k_ hk => (.inl hk)))
 have HK := aM (Kept.refl w (fun k_ => P0_ k_))
 have HW0 := aM hB.size
 have HB := aM hB
 clear hB
 have H : ((bits_Len.f (IntKind.u64.wrap ((l0.length : Int)))).bind fun l6 => ((impl_Mark_58.f k l0 0 (l0.length : Int) l6).bind fun oa => (some oa))) = some r := h
 clear h
 obtain ⟨l6, A3, H⟩ := oA_ H
 try dsimp only at H
 obtain ⟨oa, A4, H⟩ := oA_ H
 try dsimp only at H
 obtain rfl := sI H
 obtain ⟨lY, fy, eo5⟩ := Kd.R_slice iU.out
 subst eo5
 go_enter Try.func42, Try.ntmps42
 go_wp2_with (first | ((with_reducible refine ax (f := 59) rfl ?_); refine aC (some 11) rfl rfl Try.func59 z0 rfl #[.int .u64 (IntKind.u64.wrap ((l0.length : Int)))] rfl z10 ?_; (with_reducible refine (bits_Len.calls (IntKind.u64.wrap ((l0.length : Int))) l6 _ A3.out).mono ?_); rintro e w' ⟨rfl, ⟨nd, rfl⟩⟩; refine ⟨_, rfl, ?_⟩) | ((with_reducible refine ax (f := 58) rfl ?_); refine aC (some 13) rfl rfl Try.func58 z0 rfl #[.slice lY l0.length fy, .int .i64 0, .int .i64 (l0.length : Int), .int .i64 l6, .func (.func 43) #[] #[]] rfl z10 ?_; (with_reducible refine (impl_Mark_58.calls k (fun k_ => some k_ = (.slice lY l0.length fy : Value).ownBlock) (.slice lY l0.length fy) l0 0 (l0.length : Int) l6  oa w0 _ ?side1 ?side2 A4.out).mono ?_); (case side1 => exact y52); (case side2 => exact Kd.R_tight rfl iU.out); rintro e w6 ⟨rfl, hy0, hb, hkp⟩; refine ⟨_, rfl, ?_⟩; replace HK := aM (Kept.then_ (S := (fun k_ => P0_ k_)) (by repeat (first | (with_reducible first | exact HK.out | apply Kept.alloc | apply Kept.drewN | apply Kept.drew) | exact HK.out)) hkp (fun k_ hs_ => (fun e_ => (iU.out.1 k_ e_.symm)) hs_)); replace iU := aM (Kd.R_reok rfl hy0 (fun k_ e_ => iU.out.1 k_ e_)); replace HB := aM hb; (try clear hb); (try clear hkp); (try clear hy0)))
 first | go_end0 | ((try simp only [Exit.inBlock, Exit.then]); refine bodyPost_ret (results_none rfl _ _ _) rfl ?_)
 exact ⟨y5, y7, y6, y16⟩

end Go.Proofs.Ytjbllgdehpomiaa.AFnMarks
