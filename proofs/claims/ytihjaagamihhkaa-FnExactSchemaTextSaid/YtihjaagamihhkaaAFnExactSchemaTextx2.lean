-- this session's own text: written by wip/tools/ownprint.py over the kit's print
import Derived.Test.YtihjaagamihhkaaAFnExactSchemaTextx0
import Derived.Test.YtihjaagamihhkaaAFnExactSchemaTextx1
namespace Go.Proofs.Ytihjaagamihhkaa.AFnExactSchemaText
open Go.RowKit Go.Proofs.YtihjaagamihhkaaW.PrintWords Go.Proofs.YtihjaagamihhkaaW.PrintLast Go.Proofs.YtihjaagamihhkaaW.PrintMore
attribute [local go_sem] max2_int min2_int max_two min_two max_three min_three max_four min_four   -- for this text's walks alone
set_option linter.unusedVariables false
set_option linter.unusedSimpArgs false

/-- A state of type 57 at block g of W; what its slices lead to came in by w0. -/
def IsS57 (w0 W : World) (g : Nat) (f0 : ByteArray) (f1 : Int) (f2 : Bool) (f3 : Int) : Prop := W.heap[g]? = some (.cells #[.string f0, .int .i64 f1, .bool f2, .int .i64 f3] 57 (0, 0)) ∧ w0.heap.size ≤ g
theorem IsS57.grown {w0 W : World} {g : Nat} {f0 : ByteArray} {f1 : Int} {f2 : Bool} {f3 : Int} {W1 : World} {row : Option Nat} (h : IsS57 w0 W g f0 f1 f2 f3) (hw : W.grownBy W1 row) (hne : some g ≠ row) : IsS57 w0 W1 g f0 f1 f2 f3 := by
 obtain ⟨hb, hg⟩ := h
 exact ⟨blk_grown hb hw hne, hg⟩
theorem IsS57.own_neN {w0 W : World} {g : Nat} {f0 : ByteArray} {f1 : Int} {f2 : Bool} {f3 : Int} {α : Type} {d : Kd α} {e : Nat} {base : Nat} {ok : Nat → Prop} {v : Value} {xs : List α} (h : IsS57 w0 W g f0 f1 f2 f3) (ho : Kd.N d e W base ok v xs) (ht : e ≠ 57) : some g ≠ v.ownBlock := by
 obtain ⟨hb, hg⟩ := h
 exact Kd.N_ne ho hb ht
theorem IsS57.fresh {w0 W : World} {g : Nat} {f0 : ByteArray} {f1 : Int} {f2 : Bool} {f3 : Int} (h : IsS57 w0 W g f0 f1 f2 f3) : ∀ k, W.heap.size ≤ k → k ≠ g := by
 obtain ⟨hb, hg⟩ := h
 exact Kd.freshB hb
theorem IsS57.kept {w0 W : World} {g : Nat} {f0 : ByteArray} {f1 : Int} {f2 : Bool} {f3 : Int} {W1 : World} {S : Nat → Prop} (h : IsS57 w0 W g f0 f1 f2 f3) (hk : Kept W W1 S) (hne : ¬ S g) : IsS57 w0 W1 g f0 f1 f2 f3 := by
 obtain ⟨hb, hg⟩ := h
 exact ⟨blk_kept hb hk hne, hg⟩
theorem IsS57.below {w0 W : World} {g : Nat} {f0 : ByteArray} {f1 : Int} {f2 : Bool} {f3 : Int} {W1 : World} (h : IsS57 w0 W g f0 f1 f2 f3) (hw : Below W.heap.size W W1) : IsS57 w0 W1 g f0 f1 f2 f3 := h.grown (grown_of_below hw none) (by simp)
theorem IsS57.alloc {w0 W : World} {g : Nat} {f0 : ByteArray} {f1 : Int} {f2 : Bool} {f3 : Int} (h : IsS57 w0 W g f0 f1 f2 f3) (o : Obj) : IsS57 w0 (W.alloc o) g f0 f1 f2 f3 := h.below (bA (Below.refl _ _) o)
theorem IsS57.drewN {w0 W : World} {g : Nat} {f0 : ByteArray} {f1 : Int} {f2 : Bool} {f3 : Int} (h : IsS57 w0 W g f0 f1 f2 f3) (m : Nat) : IsS57 w0 (W.drewN m) g f0 f1 f2 f3 := h
theorem IsS57.drew {w0 W : World} {g : Nat} {f0 : ByteArray} {f1 : Int} {f2 : Bool} {f3 : Int} (h : IsS57 w0 W g f0 f1 f2 f3) : IsS57 w0 W.drew g f0 f1 f2 f3 := h
theorem IsS57.at_ {w0 W : World} {g : Nat} {f0 : ByteArray} {f1 : Int} {f2 : Bool} {f3 : Int} {w' : World} {m : Nat} (hq : W.drewN m = w') (h : IsS57 w0 W g f0 f1 f2 f3) : IsS57 w0 w' g f0 f1 f2 f3 := by subst hq; exact IsS57.drewN h m
theorem IsS57.apart {w0 W : World} {g : Nat} {f0 : ByteArray} {f1 : Int} {f2 : Bool} {f3 : Int} {α : Type} {d : Kd α} {e : Nat} {base : Nat} {ok : Nat → Prop} {v : Value} {xs : List α} (h : IsS57 w0 W g f0 f1 f2 f3) (ho : d.R e W base ok v xs) (ht : ∀ q, q ∈ e :: d.E → q ≠ 57) : d.R e W base (fun k => ok k ∧ k ≠ g) v xs := by
 obtain ⟨hb, hg⟩ := h
 exact Kd.R_types ho hb ht
theorem IsS57.own_ne {w0 W : World} {g : Nat} {f0 : ByteArray} {f1 : Int} {f2 : Bool} {f3 : Int} {α : Type} {d : Kd α} {e : Nat} {base : Nat} {ok : Nat → Prop} {v : Value} {xs : List α} (h : IsS57 w0 W g f0 f1 f2 f3) (ho : d.R e W base ok v xs) (ht : e ≠ 57) : some g ≠ v.ownBlock := by
 obtain ⟨hb, hg⟩ := h
 exact Kd.R_ne ho hb ht
theorem IsS57.apartQ {w0 W : World} {g : Nat} {f0 : ByteArray} {f1 : Int} {f2 : Bool} {f3 : Int} {α : Type} {d : Kd α} {e : Nat} {base : Nat} {ok : Nat → Prop} {v : Value} {xs : List α} (h : IsS57 w0 W g f0 f1 f2 f3) (ho : d.Q e W base ok v xs) (ht : ∀ q, q ∈ e :: d.E → q ≠ 57) : d.Q e W base (fun k => ok k ∧ k ≠ g) v xs := by
 obtain ⟨hb, hg⟩ := h
 exact Kd.Q_types ho hb ht
theorem IsS57.own_neQ {w0 W : World} {g : Nat} {f0 : ByteArray} {f1 : Int} {f2 : Bool} {f3 : Int} {α : Type} {d : Kd α} {e : Nat} {base : Nat} {ok : Nat → Prop} {v : Value} {xs : List α} (h : IsS57 w0 W g f0 f1 f2 f3) (ho : d.Q e W base ok v xs) (ht : e ≠ 57) : some g ≠ v.ownBlock := by
 obtain ⟨hb, hg⟩ := h
 exact Kd.Q_ne ho hb ht
theorem IsS57.apartS {w0 W : World} {g : Nat} {f0 : ByteArray} {f1 : Int} {f2 : Bool} {f3 : Int} {α : Type} {d : Kd α} {e : Nat} {base : Nat} {ok : Nat → Prop} {v : Value} {xs : List α} (h : IsS57 w0 W g f0 f1 f2 f3) (ho : d.S e W base ok v xs) (ht : ∀ q, q ∈ e :: d.E → q ≠ 57) : d.S e W base (fun k => ok k ∧ k ≠ g) v xs := by
 obtain ⟨hb, hg⟩ := h
 exact Kd.S_types ho hb ht
theorem IsS57.own_neS {w0 W : World} {g : Nat} {f0 : ByteArray} {f1 : Int} {f2 : Bool} {f3 : Int} {α : Type} {d : Kd α} {e : Nat} {base : Nat} {ok : Nat → Prop} {v : Value} {xs : List α} (h : IsS57 w0 W g f0 f1 f2 f3) (ho : d.S e W base ok v xs) (ht : e ≠ 57) : some g ≠ v.ownBlock := by
 obtain ⟨hb, hg⟩ := h
 exact Kd.S_ne ho hb ht
theorem IsS57.lt {w0 W : World} {g : Nat} {f0 : ByteArray} {f1 : Int} {f2 : Bool} {f3 : Int} (h : IsS57 w0 W g f0 f1 f2 f3) : g < W.heap.size := by
 obtain ⟨hb, hg⟩ := h
 exact blk_lt hb
theorem IsS57.ge {w0 W : World} {g : Nat} {f0 : ByteArray} {f1 : Int} {f2 : Bool} {f3 : Int} (h : IsS57 w0 W g f0 f1 f2 f3) : w0.heap.size ≤ g := by
 obtain ⟨hb, hg⟩ := h
 exact hg
theorem IsS57.ne_blk {w0 W : World} {g : Nat} {f0 : ByteArray} {f1 : Int} {f2 : Bool} {f3 : Int} {a : Nat} {cs : Array Value} {t : TypeId} {fr : Nat × Nat} (h : IsS57 w0 W g f0 f1 f2 f3) (hb2 : W.heap[a]? = some (.cells cs t fr)) (ht : t ≠ 57) : g ≠ a := by
 obtain ⟨hb, hg⟩ := h
 rintro rfl
 rw [hb] at hb2
 injection hb2 with hb2
 injection hb2 with _ ht2
 exact ht ht2.symm
theorem IsS57.far {w0 W : World} {g : Nat} {f0 : ByteArray} {f1 : Int} {f2 : Bool} {f3 : Int} {p : Addr} (h : IsS57 w0 W g f0 f1 f2 f3) (hne : g ≠ p.block) (u : Value) : IsS57 w0 (W.setCell p u) g f0 f1 f2 f3 := by
 obtain ⟨hb, hg⟩ := h
 exact ⟨blk_far hb hne u, hg⟩
theorem cellS57_0 {W : World} {g : Nat} {f0 : ByteArray} {f1 : Int} {f2 : Bool} {f3 : Int} (h : W.heap[g]? = some (.cells #[.string f0, .int .i64 f1, .bool f2, .int .i64 f3] 57 (0, 0))) : W.cell? ⟨g, 0, none⟩ = some (.string f0) := (bC h 0).trans rfl
theorem IsS57.set_0 {w0 W : World} {g : Nat} {f0 : ByteArray} {f1 : Int} {f2 : Bool} {f3 : Int} (h : IsS57 w0 W g f0 f1 f2 f3) (x : ByteArray) : IsS57 w0 (W.setCell ⟨g, 0, none⟩ (.string x)) g x f1 f2 f3 := by
 obtain ⟨hb, hg⟩ := h
 exact ⟨by simpa using blk_set hb 0 (.string x), hg⟩
theorem cellS57_1 {W : World} {g : Nat} {f0 : ByteArray} {f1 : Int} {f2 : Bool} {f3 : Int} (h : W.heap[g]? = some (.cells #[.string f0, .int .i64 f1, .bool f2, .int .i64 f3] 57 (0, 0))) : W.cell? ⟨g, 1, none⟩ = some (.int .i64 f1) := (bC h 1).trans rfl
theorem IsS57.set_1 {w0 W : World} {g : Nat} {f0 : ByteArray} {f1 : Int} {f2 : Bool} {f3 : Int} (h : IsS57 w0 W g f0 f1 f2 f3) (x : Int) : IsS57 w0 (W.setCell ⟨g, 1, none⟩ (.int .i64 x)) g f0 x f2 f3 := by
 obtain ⟨hb, hg⟩ := h
 exact ⟨by simpa using blk_set hb 1 (.int .i64 x), hg⟩
theorem cellS57_2 {W : World} {g : Nat} {f0 : ByteArray} {f1 : Int} {f2 : Bool} {f3 : Int} (h : W.heap[g]? = some (.cells #[.string f0, .int .i64 f1, .bool f2, .int .i64 f3] 57 (0, 0))) : W.cell? ⟨g, 2, none⟩ = some (.bool f2) := (bC h 2).trans rfl
theorem IsS57.set_2 {w0 W : World} {g : Nat} {f0 : ByteArray} {f1 : Int} {f2 : Bool} {f3 : Int} (h : IsS57 w0 W g f0 f1 f2 f3) (x : Bool) : IsS57 w0 (W.setCell ⟨g, 2, none⟩ (.bool x)) g f0 f1 x f3 := by
 obtain ⟨hb, hg⟩ := h
 exact ⟨by simpa using blk_set hb 2 (.bool x), hg⟩
theorem cellS57_3 {W : World} {g : Nat} {f0 : ByteArray} {f1 : Int} {f2 : Bool} {f3 : Int} (h : W.heap[g]? = some (.cells #[.string f0, .int .i64 f1, .bool f2, .int .i64 f3] 57 (0, 0))) : W.cell? ⟨g, 3, none⟩ = some (.int .i64 f3) := (bC h 3).trans rfl
theorem IsS57.set_3 {w0 W : World} {g : Nat} {f0 : ByteArray} {f1 : Int} {f2 : Bool} {f3 : Int} (h : IsS57 w0 W g f0 f1 f2 f3) (x : Int) : IsS57 w0 (W.setCell ⟨g, 3, none⟩ (.int .i64 x)) g f0 f1 f2 x := by
 obtain ⟨hb, hg⟩ := h
 exact ⟨by simpa using blk_set hb 3 (.int .i64 x), hg⟩
theorem IsS57.new (w0 W : World) (f0 : ByteArray) (f1 : Int) (f2 : Bool) (f3 : Int) (hB : Below w0.heap.size w0 W) : IsS57 w0 (W.alloc (.cells #[.string f0, .int .i64 f1, .bool f2, .int .i64 f3] 57)) W.heap.size f0 f1 f2 f3 := ⟨by simpa using heap_alloc_new W _, hB.size⟩

/-! ### spec_l6R_next: function 37 -/
def spec_l6R_next.f (s0_0 : ByteArray) (s0_1 : Int) (s0_2 : Bool) (s0_3 : Int) : Option (Int × ByteArray × Int × Bool × Int) := if s0_1 < (s0_0.size : Int) then (if 0 ≤ s0_1 then (some (bt s0_0 s0_1, s0_0, s0_1, s0_2, s0_3)) else (none)) else (some (0, s0_0, s0_1, s0_2, s0_3))
set_option maxHeartbeats 8000000 in
set_option maxRecDepth 100000 in
theorem spec_l6R_next.calls (g : Nat) (s0_0 : ByteArray) (s0_1 : Int) (s0_2 : Bool) (s0_3 : Int) (r1 : Int) (r2 : ByteArray) (r3 : Int) (r4 : Bool) (r5 : Int) (w0 w : World) (hI : IsS57 w0 w g s0_0 s0_1 s0_2 s0_3) (hB : Below w0.heap.size w0 w) (h : spec_l6R_next.f s0_0 s0_1 s0_2 s0_3 = some (r1, r2, r3, r4, r5)) :
  Calls Try.prog 37 #[.pointer (some ⟨g, 0, none⟩)] w fun e w' => e = .returned (.int .u8 r1) ∧ IsS57 w0 w' g r2 r3 r4 r5 ∧ Below w0.heap.size w0 w' ∧ KeepBut w w' g none := by
 have HI0 := aM hI
 have HK := aM (KeepBut.refl w g none)
 have HL := aM hB.size
 clear hI
 have HW0 := aM hB.size
 have HB := aM hB
 clear hB
 have H : (if s0_1 < (s0_0.size : Int) then (if 0 ≤ s0_1 then (some (bt s0_0 s0_1, s0_0, s0_1, s0_2, s0_3)) else (none)) else (some (0, s0_0, s0_1, s0_2, s0_3))) = some (r1, r2, r3, r4, r5) := h
 clear h
 by_cases c2 : s0_1 < (s0_0.size : Int)
 ·rw [if_pos c2] at H
  have c2b0 : decide (s0_1 < (s0_0.size : Int)) = true := dT c2
  clear c2
  by_cases c3 : 0 ≤ s0_1
  ·rw [if_pos c3] at H
   have c3b0 : decide (0 ≤ s0_1) = true := dT c3
   clear c3
   simp only [Option.some.injEq, Prod.mk.injEq] at H
   obtain ⟨rfl, rfl, rfl, rfl, rfl⟩ := H
   obtain ⟨HGz5, hgz5⟩ := HI0.out
   have hcz5_0 := cellS57_0 HGz5
   have hcz5_1 := cellS57_1 HGz5
   have hcz5_2 := cellS57_2 HGz5
   have hcz5_3 := cellS57_3 HGz5
   have hfz5_0 := bF HGz5 0
   have hfz5_1 := bF HGz5 1
   have hfz5_2 := bF HGz5 2
   have hfz5_3 := bF HGz5 3
   clear HGz5 hgz5
   have p4 : 0 ≤ (s0_1 : Int) := oD z1
   have q4 : s0_1 < (s0_0.size : Int) := oD z1
   have hx4 := bt_at s0_0 s0_1
   replace p4 := eq_true p4
   replace q4 := eq_true q4
   go_enter Try.func37, Try.ntmps37
   go_wp2
   repeat (go_quiet (fail); try go_wp2)
   go_ret
   exact ⟨y2, by (try simp only [Int.add_zero]); repeat (first | (with_reducible first | exact HI0.out | apply IsS57.alloc | apply IsS57.drewN | apply IsS57.drew | apply IsS57.set_0 | apply IsS57.set_1 | apply IsS57.set_2 | apply IsS57.set_3) | exact HI0.out), by repeat (first | (with_reducible first | exact HB.out | apply bA | apply pD | apply bD | refine ai ?_ (IsS57.ge HI0.out)) | exact HB.out), y9⟩
  ·rw [if_neg c3] at H
   exact absurd H (by simp)
 ·rw [if_neg c2] at H
  have c2b0 : decide (s0_1 < (s0_0.size : Int)) = false := dF c2
  clear c2
  simp only [Option.some.injEq, Prod.mk.injEq] at H
  obtain ⟨rfl, rfl, rfl, rfl, rfl⟩ := H
  obtain ⟨HGz6, hgz6⟩ := HI0.out
  have hcz6_0 := cellS57_0 HGz6
  have hcz6_1 := cellS57_1 HGz6
  have hcz6_2 := cellS57_2 HGz6
  have hcz6_3 := cellS57_3 HGz6
  have hfz6_0 := bF HGz6 0
  have hfz6_1 := bF HGz6 1
  have hfz6_2 := bF HGz6 2
  have hfz6_3 := bF HGz6 3
  clear HGz6 hgz6
  go_enter Try.func37, Try.ntmps37
  go_wp2
  repeat (go_quiet (fail); try go_wp2)
  go_ret
  exact ⟨y2, by (try simp only [Int.add_zero]); repeat (first | (with_reducible first | exact HI0.out | apply IsS57.alloc | apply IsS57.drewN | apply IsS57.drew | apply IsS57.set_0 | apply IsS57.set_1 | apply IsS57.set_2 | apply IsS57.set_3) | exact HI0.out), by repeat (first | (with_reducible first | exact HB.out | apply bA | apply pD | apply bD | refine ai ?_ (IsS57.ge HI0.out)) | exact HB.out), y9⟩

/-! ### spec_l6Symbol: function 49 -/
def spec_l6Symbol.f (a0 : Int) : Option (Bool) := (spec_l1Open.f a0).bind fun b6 => (if b6 = true then (some true) else (some (a0 == 116)))
set_option maxHeartbeats 8000000 in
set_option maxRecDepth 100000 in
theorem spec_l6Symbol.calls (a0 : Int) (r : Bool) (w : World) (h : spec_l6Symbol.f a0 = some r) :
  Calls Try.prog 49 #[.int .u8 a0] w fun e w' => e = .returned (.bool r) ∧ Drawn0 w w' := by
 have H : ((spec_l1Open.f a0).bind fun b6 => (if b6 = true then (some true) else (some (a0 == 116)))) = some r := h
 clear h
 replace H := oB H
 obtain ⟨b6, bT, H⟩ := H
 try dsimp only at H
 have A2 := aM bT
 clear bT
 by_cases c3 : b6 = true
 ·subst c3
  rw [if_pos rfl] at H
  obtain rfl := sI H
  go_enter Try.func49, Try.ntmps49
  go_wp2_with (first | ((with_reducible refine al (f := 27) rfl ?_); refine goesL_ (some 4) rfl rfl Try.func27 z0 rfl #[.int .u8 a0] rfl z6 ?_; (with_reducible refine (spec_l1Open.calls a0 true _ A2.out).mono ?_); rintro e w' ⟨rfl, ⟨nd, rfl⟩⟩; refine ⟨_, rfl, ?_⟩))
  go_ret
  exact ⟨y0, y1⟩
 ·replace c3 := Bool.eq_false_iff.mpr c3
  subst c3
  rw [if_neg (show ¬ (false = true) by decide)] at H
  obtain rfl := sI H
  go_enter Try.func49, Try.ntmps49
  go_wp2_with (first | ((with_reducible refine al (f := 27) rfl ?_); refine goesL_ (some 4) rfl rfl Try.func27 z0 rfl #[.int .u8 a0] rfl z6 ?_; (with_reducible refine (spec_l1Open.calls a0 false _ A2.out).mono ?_); rintro e w' ⟨rfl, ⟨nd, rfl⟩⟩; refine ⟨_, rfl, ?_⟩))
  go_ret
  exact ⟨y0, y1⟩

-- NOT PRINTED: function 44 (spec_l6R_one)

-- NOT PRINTED: function 36 (spec_l6R_row)

-- NOT PRINTED: function 32 (spec_l6R_either)

/-! ### spec_l1In: function 33 -/
def spec_l1In.f (a0 : Int) (a1 : Int) (a2 : Int) : Option (Bool) := if a0 ≥ a1 then (some (decide (a0 ≤ a2))) else (some false)
set_option maxHeartbeats 8000000 in
set_option maxRecDepth 100000 in
theorem spec_l1In.calls (a0 : Int) (a1 : Int) (a2 : Int) (r : Bool) (w : World) (h : spec_l1In.f a0 a1 a2 = some r) :
  Calls Try.prog 33 #[.int .i64 a0, .int .i64 a1, .int .i64 a2] w fun e w' => e = .returned (.bool r) ∧ Drawn0 w w' := by
 have H : (if a0 ≥ a1 then (some (decide (a0 ≤ a2))) else (some false)) = some r := h
 clear h
 by_cases c4 : a0 ≥ a1
 ·rw [if_pos c4] at H
  have c4b0 : decide (a1 ≤ a0) = true := dT c4
  clear c4
  obtain rfl := sI H
  go_enter Try.func33, Try.ntmps33
  go_wp2
  go_ret
  exact ⟨y0, y1⟩
 ·rw [if_neg c4] at H
  have c4b0 : decide (a1 ≤ a0) = false := dF c4
  clear c4
  obtain rfl := sI H
  go_enter Try.func33, Try.ntmps33
  go_wp2
  go_ret
  exact ⟨y0, y1⟩

-- NOT PRINTED: function 28 (spec_l6Read)

/-! ### ex_Base.txt, by hand -/
/-! ### readers of expressions: what they answer -/
/-! expressions: what both readers answer, as plain functions -/
def symB (c : Int) : Bool := decide (65 ≤ c ∧ c ≤ 70) || decide (c = 116)
def sufB (c : Int) : Bool := decide (c = 42) || (decide (c = 63) || decide (c = 43))
def iN (s : ByteArray) : Int := if s.toList = [] then 0 else bt s 0
def iSuf : Nat → ByteArray → Option ByteArray
 | 0, _ => none
 | k + 1, s => if sufB (iN s) = true then iSuf k (s.extract 1 s.size) else some s
mutual
def iAtom : Nat → ByteArray → Int → Option (Bool × ByteArray × Int)
 | 0, _, _ => none
 | k + 1, s, n => if (symB (iN s) || (decide (iN s = 46) || (decide (iN s = 45) || decide (iN s = 33)))) = true then some (true, s.extract 1 s.size, n)
  else if iN s ≠ 40 then some (false, s, n) else if n = 19 then some (false, s, n)
  else (iParted k (s.extract 1 s.size) (wrap64 (n + 1)) 0).bind fun o => if o.1 = false then some o else if iN o.2.1 ≠ 41 then some (false, o.2.1, o.2.2) else some (true, o.2.1.extract 1 o.2.1.size, wrap64 (o.2.2 - 1))
def iRow : Nat → ByteArray → Int → Nat → Option (Bool × ByteArray × Int)
 | 0, _, _, _ => none
 | k + 1, s, n, m => if iN s ≠ 0 ∧ iN s ≠ 124 ∧ iN s ≠ 41 then (iAtom k s n).bind fun o => if o.1 = false then some o else (iSuf k o.2.1).bind fun r => if m < 1000000000000 then iRow k r o.2.2 (m + 1) else none
  else some (decide (m ≠ 0), s, n)
def iParted : Nat → ByteArray → Int → Nat → Option (Bool × ByteArray × Int)
 | 0, _, _, _ => none
 | k + 1, s, n, m => (iRow k s n 0).bind fun o => if o.1 = false then some o else if m < 1000000000000 then (if iN o.2.1 = 124 then iParted k (o.2.1.extract 1 o.2.1.size) o.2.2 (m + 1) else some o) else none
end
def sN (s : ByteArray) (a : Int) : Int := if a < (s.size : Int) then bt s a else 0
def sSuf : Nat → ByteArray → Int → Bool → Option Int
 | 0, _, _, _ => none
 | k + 1, s, a, b => if b = true then some a else if 0 ≤ a then (if sufB (sN s a) = true then sSuf k s (wrap64 (a + 1)) b else some a) else none
mutual
def sOne : Nat → ByteArray → Int → Bool → Int → Option (Int × Bool × Int)
 | 0, _, _, _, _ => none
 | k + 1, s, a, b, d => if 0 ≤ a then (if (symB (sN s a) || (decide (sN s a = 46) || (decide (sN s a = 45) || decide (sN s a = 33)))) = true then (sSuf k s (wrap64 (a + 1)) b).bind fun x => some (x, b, d)
  else if sN s a = 40 then (sEither k s (wrap64 (a + 1)) b d).bind fun o => if 0 ≤ o.1 then ((sSuf k s (wrap64 (o.1 + 1)) (o.2.1 || decide (sN s o.1 ≠ 41))).bind fun x => some (x, o.2.1 || decide (sN s o.1 ≠ 41), o.2.2)) else none
  else some (wrap64 (a + 1), true, d)) else none
def sRow : Nat → ByteArray → Int → Bool → Int → Nat → Option (Int × Bool × Int)
 | 0, _, _, _, _, _ => none
 | k + 1, s, a, b, d, m => if b = false ∧ a < (s.size : Int) then (if 0 ≤ a then (if sN s a ≠ 124 ∧ sN s a ≠ 41 then (sOne k s a b d).bind fun o => if m < 1000000000000 then sRow k s o.1 o.2.1 o.2.2 (m + 1) else none
  else some (a, b || decide (m = 0), d)) else none) else some (a, b || decide (m = 0), d)
def sRows : Nat → ByteArray → Int → Bool → Int → Nat → Option (Int × Bool × Int)
 | 0, _, _, _, _, _ => none
 | k + 1, s, a, b, d, m => if b = false then (if 0 ≤ a then (if sN s a = 124 then (sRow k s (wrap64 (a + 1)) b d 0).bind fun o => if m < 1000000000000 then sRows k s o.1 o.2.1 o.2.2 (m + 1) else none else some (a, b, d)) else none) else some (a, b, d)
def sEither : Nat → ByteArray → Int → Bool → Int → Option (Int × Bool × Int)
 | 0, _, _, _, _ => none
 | k + 1, s, a, b, d => (sRow k s a (b || decide (wrap64 (d + 1) > 20)) (wrap64 (d + 1)) 0).bind fun o => (sRows k s o.1 o.2.1 o.2.2 0).bind fun q => some (q.1, q.2.1, wrap64 (q.2.2 - 1))
end
def rU (m : Nat) : List Unit := List.replicate m ()
theorem rU_len (m : Nat) : (rU m).length = m := List.length_replicate
theorem rU_snoc (m : Nat) : rU m ++ [()] = rU (m + 1) := by unfold rU; rw [List.replicate_succ']

end Go.Proofs.Ytihjaagamihhkaa.AFnExactSchemaText
