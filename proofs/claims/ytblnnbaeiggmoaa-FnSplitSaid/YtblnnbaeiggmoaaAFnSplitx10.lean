-- this session's own text: written by wip/tools/ownprint.py over the kit's print
import Derived.Test.YtblnnbaeiggmoaaAFnSplitx0
import Derived.Test.YtblnnbaeiggmoaaAFnSplitx5
namespace Go.Proofs.Ytblnnbaeiggmoaa.AFnSplit
open Go.RowKit Go.Proofs.YtblnnbaeiggmoaaW.PrintWords Go.Proofs.YtblnnbaeiggmoaaW.PrintLast Go.Proofs.YtblnnbaeiggmoaaW.PrintMore
attribute [local go_sem] max2_int min2_int max_two min_two max_three min_three max_four min_four   -- for this text's walks alone
set_option linter.unusedVariables false
set_option linter.unusedSimpArgs false

/-- A state of type 90 at block g of W; what its slices lead to came in by w0. -/
def IsS90 (w0 W : World) (g : Nat) (f0 : List Int) (f1 : Int) (f2 : Int) : Prop := ∃ A0 c0, W.heap[g]? = some (.cells #[.slice A0 f0.length c0, .int .i64 f1, .int .u64 f2] 90 (0, 0)) ∧ w0.heap.size ≤ g ∧ Kd.C (Kd.int .u8) w0 A0 f0.length f0
theorem IsS90.grown {w0 W : World} {g : Nat} {f0 : List Int} {f1 : Int} {f2 : Int} {W1 : World} {row : Option Nat} (h : IsS90 w0 W g f0 f1 f2) (hw : W.grownBy W1 row) (hne : some g ≠ row) : IsS90 w0 W1 g f0 f1 f2 := by
 obtain ⟨A0, c0, hb, hg, hr0⟩ := h
 exact ⟨A0, c0, blk_grown hb hw hne, hg, hr0⟩
theorem IsS90.kept {w0 W : World} {g : Nat} {f0 : List Int} {f1 : Int} {f2 : Int} {W1 : World} {S : Nat → Prop} (h : IsS90 w0 W g f0 f1 f2) (hk : Kept W W1 S) (hne : ¬ S g) : IsS90 w0 W1 g f0 f1 f2 := by
 obtain ⟨A0, c0, hb, hg, hr0⟩ := h
 exact ⟨A0, c0, blk_kept hb hk hne, hg, hr0⟩
theorem IsS90.below {w0 W : World} {g : Nat} {f0 : List Int} {f1 : Int} {f2 : Int} {W1 : World} (h : IsS90 w0 W g f0 f1 f2) (hw : Below W.heap.size W W1) : IsS90 w0 W1 g f0 f1 f2 := h.grown (grown_of_below hw none) (by simp)
theorem IsS90.alloc {w0 W : World} {g : Nat} {f0 : List Int} {f1 : Int} {f2 : Int} (h : IsS90 w0 W g f0 f1 f2) (o : Obj) : IsS90 w0 (W.alloc o) g f0 f1 f2 := h.below (bA (Below.refl _ _) o)
theorem IsS90.drewN {w0 W : World} {g : Nat} {f0 : List Int} {f1 : Int} {f2 : Int} (h : IsS90 w0 W g f0 f1 f2) (m : Nat) : IsS90 w0 (W.drewN m) g f0 f1 f2 := h
theorem IsS90.drew {w0 W : World} {g : Nat} {f0 : List Int} {f1 : Int} {f2 : Int} (h : IsS90 w0 W g f0 f1 f2) : IsS90 w0 W.drew g f0 f1 f2 := h
theorem IsS90.at_ {w0 W : World} {g : Nat} {f0 : List Int} {f1 : Int} {f2 : Int} {w' : World} {m : Nat} (hq : W.drewN m = w') (h : IsS90 w0 W g f0 f1 f2) : IsS90 w0 w' g f0 f1 f2 := by subst hq; exact IsS90.drewN h m
theorem IsS90.apart {w0 W : World} {g : Nat} {f0 : List Int} {f1 : Int} {f2 : Int} {α : Type} {d : Kd α} {e : Nat} {base : Nat} {ok : Nat → Prop} {v : Value} {xs : List α} (h : IsS90 w0 W g f0 f1 f2) (ho : d.R e W base ok v xs) (ht : ∀ q, q ∈ e :: d.E → q ≠ 90) : d.R e W base (fun k => ok k ∧ k ≠ g) v xs := by
 obtain ⟨A0, c0, hb, hg, hr0⟩ := h
 exact aq ho hb ht
theorem IsS90.own_ne {w0 W : World} {g : Nat} {f0 : List Int} {f1 : Int} {f2 : Int} {α : Type} {d : Kd α} {e : Nat} {base : Nat} {ok : Nat → Prop} {v : Value} {xs : List α} (h : IsS90 w0 W g f0 f1 f2) (ho : d.R e W base ok v xs) (ht : e ≠ 90) : some g ≠ v.ownBlock := by
 obtain ⟨A0, c0, hb, hg, hr0⟩ := h
 exact Kd.R_ne ho hb ht
theorem IsS90.lt {w0 W : World} {g : Nat} {f0 : List Int} {f1 : Int} {f2 : Int} (h : IsS90 w0 W g f0 f1 f2) : g < W.heap.size := by
 obtain ⟨A0, c0, hb, hg, hr0⟩ := h
 exact ay hb
theorem IsS90.ge {w0 W : World} {g : Nat} {f0 : List Int} {f1 : Int} {f2 : Int} (h : IsS90 w0 W g f0 f1 f2) : w0.heap.size ≤ g := by
 obtain ⟨A0, c0, hb, hg, hr0⟩ := h
 exact hg
theorem IsS90.far {w0 W : World} {g : Nat} {f0 : List Int} {f1 : Int} {f2 : Int} {p : Addr} (h : IsS90 w0 W g f0 f1 f2) (hne : g ≠ p.block) (u : Value) : IsS90 w0 (W.setCell p u) g f0 f1 f2 := by
 obtain ⟨A0, c0, hb, hg, hr0⟩ := h
 exact ⟨A0, c0, aw hb hne u, hg, hr0⟩
theorem cellS90_0 {W : World} {g : Nat} {A0 : Option Addr} {c0 : Nat} {f0 : List Int} {f1 : Int} {f2 : Int} (h : W.heap[g]? = some (.cells #[.slice A0 f0.length c0, .int .i64 f1, .int .u64 f2] 90 (0, 0))) : W.cell? ⟨g, 0, none⟩ = some (.slice A0 f0.length c0) := (bC h 0).trans rfl
theorem cellS90_1 {W : World} {g : Nat} {A0 : Option Addr} {c0 : Nat} {f0 : List Int} {f1 : Int} {f2 : Int} (h : W.heap[g]? = some (.cells #[.slice A0 f0.length c0, .int .i64 f1, .int .u64 f2] 90 (0, 0))) : W.cell? ⟨g, 1, none⟩ = some (.int .i64 f1) := (bC h 1).trans rfl
theorem IsS90.set_1 {w0 W : World} {g : Nat} {f0 : List Int} {f1 : Int} {f2 : Int} (h : IsS90 w0 W g f0 f1 f2) (x : Int) : IsS90 w0 (W.setCell ⟨g, 1, none⟩ (.int .i64 x)) g f0 x f2 := by
 obtain ⟨A0, c0, hb, hg, hr0⟩ := h
 exact ⟨A0, c0, by simpa using blk_set hb 1 (.int .i64 x), hg, hr0⟩
theorem cellS90_2 {W : World} {g : Nat} {A0 : Option Addr} {c0 : Nat} {f0 : List Int} {f1 : Int} {f2 : Int} (h : W.heap[g]? = some (.cells #[.slice A0 f0.length c0, .int .i64 f1, .int .u64 f2] 90 (0, 0))) : W.cell? ⟨g, 2, none⟩ = some (.int .u64 f2) := (bC h 2).trans rfl
theorem IsS90.set_2 {w0 W : World} {g : Nat} {f0 : List Int} {f1 : Int} {f2 : Int} (h : IsS90 w0 W g f0 f1 f2) (x : Int) : IsS90 w0 (W.setCell ⟨g, 2, none⟩ (.int .u64 x)) g f0 f1 x := by
 obtain ⟨A0, c0, hb, hg, hr0⟩ := h
 exact ⟨A0, c0, by simpa using blk_set hb 2 (.int .u64 x), hg, hr0⟩
theorem IsS90.new (w0 W : World) (A0 : Option Addr) (c0 : Nat) (f0 : List Int) (f1 : Int) (f2 : Int) (hB : Below w0.heap.size w0 W) (hr0 : Kd.C (Kd.int .u8) w0 A0 f0.length f0) : IsS90 w0 (W.alloc (.cells #[.slice A0 f0.length c0, .int .i64 f1, .int .u64 f2] 90)) W.heap.size f0 f1 f2 := ⟨A0, c0, by simpa using heap_alloc_new W _, hB.size, hr0⟩

/-! ### spec_l1Cur_next: function 79 -/
def spec_l1Cur_next.f (s0_0 : List Int) (s0_1 : Int) (s0_2 : Int) : Option (Int × Int × Int) := if s0_1 < (s0_0.length : Int) then (if 0 ≤ s0_1 then (if (wrap64 (s0_1 + 1)) ≤ (s0_0.length : Int) then (some (wrap64 (rd s0_0 s0_1), wrap64 (s0_1 + 1), IntKind.u64.wrap ((IntKind.u64.wrap ((IntKind.u64.wrap (s0_2 * 6364136223846793005)) + (IntKind.u64.wrap (wrap64 (rd s0_0 s0_1))))) + 1442695040888963407))) else (some (wrap64 (Go.bits .and .u64 ((IntKind.u64.wrap ((IntKind.u64.wrap ((IntKind.u64.wrap (s0_2 * 6364136223846793005)) + (IntKind.u64.wrap (wrap64 (rd s0_0 s0_1))))) + 1442695040888963407)) / 1099511627776) 255), wrap64 (s0_1 + 1), IntKind.u64.wrap ((IntKind.u64.wrap ((IntKind.u64.wrap (s0_2 * 6364136223846793005)) + (IntKind.u64.wrap (wrap64 (rd s0_0 s0_1))))) + 1442695040888963407)))) else (none)) else (if (wrap64 (s0_1 + 1)) ≤ (s0_0.length : Int) then (some (0, wrap64 (s0_1 + 1), IntKind.u64.wrap ((IntKind.u64.wrap ((IntKind.u64.wrap (s0_2 * 6364136223846793005)) + 0)) + 1442695040888963407))) else (some (wrap64 (Go.bits .and .u64 ((IntKind.u64.wrap ((IntKind.u64.wrap ((IntKind.u64.wrap (s0_2 * 6364136223846793005)) + 0)) + 1442695040888963407)) / 1099511627776) 255), wrap64 (s0_1 + 1), IntKind.u64.wrap ((IntKind.u64.wrap ((IntKind.u64.wrap (s0_2 * 6364136223846793005)) + 0)) + 1442695040888963407))))
set_option maxHeartbeats 8000000 in
set_option maxRecDepth 100000 in
theorem spec_l1Cur_next.calls (g : Nat) (s0_0 : List Int) (s0_1 : Int) (s0_2 : Int) (r1 : Int) (r2 : Int) (r3 : Int) (w0 w : World) (hI : IsS90 w0 w g s0_0 s0_1 s0_2) (hB : Below w0.heap.size w0 w) (h : spec_l1Cur_next.f s0_0 s0_1 s0_2 = some (r1, r2, r3)) :
  Calls Try.prog 79 #[.pointer (some ⟨g, 0, none⟩)] w fun e w' => e = .returned (.int .i64 r1) ∧ IsS90 w0 w' g s0_0 r2 r3 ∧ Below w0.heap.size w0 w' ∧ KeepBut w w' g none := by
 have HI0 := aM hI
 have HK := aM (KeepBut.refl w g none)
 have HL := aM hB.size
 clear hI
 have HW0 := aM hB.size
 have HB := aM hB
 clear hB
 have H : (if s0_1 < (s0_0.length : Int) then (if 0 ≤ s0_1 then (if (wrap64 (s0_1 + 1)) ≤ (s0_0.length : Int) then (some (wrap64 (rd s0_0 s0_1), wrap64 (s0_1 + 1), IntKind.u64.wrap ((IntKind.u64.wrap ((IntKind.u64.wrap (s0_2 * 6364136223846793005)) + (IntKind.u64.wrap (wrap64 (rd s0_0 s0_1))))) + 1442695040888963407))) else (some (wrap64 (Go.bits .and .u64 ((IntKind.u64.wrap ((IntKind.u64.wrap ((IntKind.u64.wrap (s0_2 * 6364136223846793005)) + (IntKind.u64.wrap (wrap64 (rd s0_0 s0_1))))) + 1442695040888963407)) / 1099511627776) 255), wrap64 (s0_1 + 1), IntKind.u64.wrap ((IntKind.u64.wrap ((IntKind.u64.wrap (s0_2 * 6364136223846793005)) + (IntKind.u64.wrap (wrap64 (rd s0_0 s0_1))))) + 1442695040888963407)))) else (none)) else (if (wrap64 (s0_1 + 1)) ≤ (s0_0.length : Int) then (some (0, wrap64 (s0_1 + 1), IntKind.u64.wrap ((IntKind.u64.wrap ((IntKind.u64.wrap (s0_2 * 6364136223846793005)) + 0)) + 1442695040888963407))) else (some (wrap64 (Go.bits .and .u64 ((IntKind.u64.wrap ((IntKind.u64.wrap ((IntKind.u64.wrap (s0_2 * 6364136223846793005)) + 0)) + 1442695040888963407)) / 1099511627776) 255), wrap64 (s0_1 + 1), IntKind.u64.wrap ((IntKind.u64.wrap ((IntKind.u64.wrap (s0_2 * 6364136223846793005)) + 0)) + 1442695040888963407))))) = some (r1, r2, r3) := h
 clear h
 by_cases c2 : s0_1 < (s0_0.length : Int)
 ·rw [if_pos c2] at H
  have c2b0 : decide (s0_1 < (s0_0.length : Int)) = true := dT c2
  clear c2
  by_cases c3 : 0 ≤ s0_1
  ·rw [if_pos c3] at H
   have c3b0 : decide (0 ≤ s0_1) = true := dT c3
   clear c3
   by_cases c4 : (wrap64 (s0_1 + 1)) ≤ (s0_0.length : Int)
   ·rw [if_pos c4] at H
    have c4b0 : decide ((wrap64 (s0_1 + 1)) ≤ (s0_0.length : Int)) = true := dT c4
    clear c4
    simp only [Option.some.injEq, Prod.mk.injEq] at H
    obtain ⟨rfl, rfl, rfl⟩ := H
    obtain ⟨ASz5_0, cSz5_0, HGz5, hgz5, HSz5_0⟩ := HI0.out
    have hcz5_0 := cellS90_0 HGz5
    have hcz5_1 := cellS90_1 HGz5
    have hcz5_2 := cellS90_2 HGz5
    have hfz5_1 := bF HGz5 1
    have hfz5_2 := bF HGz5 2
    clear HGz5 hgz5
    have p193 : 0 ≤ (s0_1 : Int) := oD z3
    have q193 : s0_1 < (s0_0.length : Int) := oD z3
    obtain ⟨ad193, e193, hx193_0⟩ := Kd.at_int HSz5_0 s0_1 p193 q193
    cases e193
    replace hx193_0 := pw_cell_below HB.out hx193_0
    replace p193 := eq_true p193
    replace q193 := eq_true q193
    go_enter Try.func79, Try.ntmps79
    go_wp2
    repeat (go_quiet (fail); try go_wp2)
    go_ret
    exact ⟨y4, y19, y13, y14⟩
   ·rw [if_neg c4] at H
    have c4b0 : decide ((wrap64 (s0_1 + 1)) ≤ (s0_0.length : Int)) = false := dF c4
    clear c4
    simp only [Option.some.injEq, Prod.mk.injEq] at H
    obtain ⟨rfl, rfl, rfl⟩ := H
    obtain ⟨ASz6_0, cSz6_0, HGz6, hgz6, HSz6_0⟩ := HI0.out
    have lh := cellS90_0 HGz6
    have mY := cellS90_1 HGz6
    have mX := cellS90_2 HGz6
    have mI := bF HGz6 1
    have mH := bF HGz6 2
    clear HGz6 hgz6
    have p193 : 0 ≤ (s0_1 : Int) := oD z3
    have q193 : s0_1 < (s0_0.length : Int) := oD z3
    obtain ⟨ad193, e193, hx193_0⟩ := Kd.at_int HSz6_0 s0_1 p193 q193
    cases e193
    replace hx193_0 := pw_cell_below HB.out hx193_0
    replace p193 := eq_true p193
    replace q193 := eq_true q193
    go_enter Try.func79, Try.ntmps79
    go_wp2
    repeat (go_quiet (fail); try go_wp2)
    go_ret
    exact ⟨y4, y19, y13, y14⟩
  ·rw [if_neg c3] at H
   exact absurd H (by simp)
 ·rw [if_neg c2] at H
  have c2b0 : decide (s0_1 < (s0_0.length : Int)) = false := dF c2
  clear c2
  by_cases c7 : (wrap64 (s0_1 + 1)) ≤ (s0_0.length : Int)
  ·rw [if_pos c7] at H
   have c7b0 : decide ((wrap64 (s0_1 + 1)) ≤ (s0_0.length : Int)) = true := dT c7
   clear c7
   simp only [Option.some.injEq, Prod.mk.injEq] at H
   obtain ⟨rfl, rfl, rfl⟩ := H
   obtain ⟨ASz8_0, cSz8_0, HGz8, hgz8, HSz8_0⟩ := HI0.out
   have k9 := cellS90_0 HGz8
   have k8 := cellS90_1 HGz8
   have k7 := cellS90_2 HGz8
   have kX := bF HGz8 1
   have kW := bF HGz8 2
   clear HGz8 hgz8
   go_enter Try.func79, Try.ntmps79
   go_wp2
   repeat (go_quiet (fail); try go_wp2)
   go_ret
   exact ⟨y4, y19, y13, y14⟩
  ·rw [if_neg c7] at H
   have c7b0 : decide ((wrap64 (s0_1 + 1)) ≤ (s0_0.length : Int)) = false := dF c7
   clear c7
   simp only [Option.some.injEq, Prod.mk.injEq] at H
   obtain ⟨rfl, rfl, rfl⟩ := H
   obtain ⟨ASz9_0, cSz9_0, HGz9, hgz9, HSz9_0⟩ := HI0.out
   have jc := cellS90_0 HGz9
   have jb := cellS90_1 HGz9
   have ja := cellS90_2 HGz9
   have i9 := bF HGz9 1
   have i7 := bF HGz9 2
   clear HGz9 hgz9
   go_enter Try.func79, Try.ntmps79
   go_wp2
   repeat (go_quiet (fail); try go_wp2)
   go_ret
   exact ⟨y4, y19, y13, y14⟩

/-! ### spec_l1Cur_pick: function 66 -/
def spec_l1Cur_pick.f (s0_0 : List Int) (s0_1 : Int) (s0_2 : Int) (a1 : Int) : Option (Int × Int × Int) := if a1 ≤ 1 then (some (0, s0_1, s0_2)) else ((spec_l1Cur_next.f s0_0 s0_1 s0_2).bind fun hO => (if a1 > 200 then ((spec_l1Cur_next.f s0_0 hO.2.1 hO.2.2).bind fun lF => (if a1 = 0 then (none) else (some (Int.tmod (wrap64 ((wrap64 (hO.1 * 256)) + lF.1)) a1, lF.2.1, lF.2.2)))) else (if a1 = 0 then (none) else (some (Int.tmod hO.1 a1, hO.2.1, hO.2.2)))))
set_option maxHeartbeats 8000000 in
set_option maxRecDepth 100000 in
theorem spec_l1Cur_pick.calls (g : Nat) (s0_0 : List Int) (s0_1 : Int) (s0_2 : Int) (a1 : Int) (r1 : Int) (r2 : Int) (r3 : Int) (w0 w : World) (hI : IsS90 w0 w g s0_0 s0_1 s0_2) (hB : Below w0.heap.size w0 w) (h : spec_l1Cur_pick.f s0_0 s0_1 s0_2 a1 = some (r1, r2, r3)) :
  Calls Try.prog 66 #[.pointer (some ⟨g, 0, none⟩), .int .i64 a1] w fun e w' => e = .returned (.int .i64 r1) ∧ IsS90 w0 w' g s0_0 r2 r3 ∧ Below w0.heap.size w0 w' ∧ KeepBut w w' g none := by
 have HI0 := aM hI
 have HK := aM (KeepBut.refl w g none)
 have HL := aM hB.size
 clear hI
 have HW0 := aM hB.size
 have HB := aM hB
 clear hB
 have H : (if a1 ≤ 1 then (some (0, s0_1, s0_2)) else ((spec_l1Cur_next.f s0_0 s0_1 s0_2).bind fun hO => (if a1 > 200 then ((spec_l1Cur_next.f s0_0 hO.2.1 hO.2.2).bind fun lF => (if a1 = 0 then (none) else (some (Int.tmod (wrap64 ((wrap64 (hO.1 * 256)) + lF.1)) a1, lF.2.1, lF.2.2)))) else (if a1 = 0 then (none) else (some (Int.tmod hO.1 a1, hO.2.1, hO.2.2)))))) = some (r1, r2, r3) := h
 clear h
 by_cases c3 : a1 ≤ 1
 ·rw [if_pos c3] at H
  have c3b0 : decide (a1 ≤ 1) = true := dT c3
  clear c3
  simp only [Option.some.injEq, Prod.mk.injEq] at H
  obtain ⟨rfl, rfl, rfl⟩ := H
  go_enter Try.func66, Try.ntmps66
  go_wp2
  go_ret
  exact ⟨y4, y19, y13, y14⟩
 ·rw [if_neg c3] at H
  have c3b0 : decide (a1 ≤ 1) = false := dF c3
  clear c3
  obtain ⟨⟨vl, tB, tz⟩, A4, H⟩ := oA_ H
  try dsimp only at H
  by_cases c5 : a1 > 200
  ·rw [if_pos c5] at H
   have c5b0 : decide (200 < a1) = true := dT c5
   clear c5
   obtain ⟨⟨t197, tw, t199⟩, A6, H⟩ := oA_ H
   try dsimp only at H
   by_cases c7 : a1 = 0
   ·rw [if_pos c7] at H
    exact absurd H (by simp)
   ·rw [if_neg c7] at H
    have c7b0 : (a1 == 0) = false := qF c7
    have c7b1 : (a1 != 0) = true := nT c7
    simp only [Option.some.injEq, Prod.mk.injEq] at H
    obtain ⟨rfl, rfl, rfl⟩ := H
    go_enter Try.func66, Try.ntmps66
    go_wp2_with (first | ((with_reducible refine aK (f := 79) rfl ?_); refine aT (some 9) rfl rfl Try.func79 z1 rfl #[.pointer (some ⟨g, 0, none⟩)] rfl z33 ?_; (with_reducible refine (spec_l1Cur_next.calls g s0_0 s0_1 s0_2 vl tB tz w0 _ ?side1 ?side2 A4.out).mono ?_); (case side1 => exact y42); (case side2 => exact y35); rintro e w8 ⟨rfl, hi, hb, hk⟩; refine ⟨_, rfl, ?_⟩; replace HK := aM (KeepBut.trans z34 hk (.inl rfl)); replace HB := aM (hb); replace HI0 := aM (hi); (try clear hb); (try clear hk); (try clear hi); (try clear d7)) | ((with_reducible refine aK (f := 79) rfl ?_); refine aT (some 15) rfl rfl Try.func79 z1 rfl #[.pointer (some ⟨g, 0, none⟩)] rfl z33 ?_; (with_reducible refine (spec_l1Cur_next.calls g s0_0 tB tz t197 tw t199 w0 _ ?side1 ?side2 A6.out).mono ?_); (case side1 => exact y42); (case side2 => exact y35); rintro e w9 ⟨rfl, hi, hb, hk⟩; refine ⟨_, rfl, ?_⟩; replace HK := aM (KeepBut.trans z34 hk (.inl rfl)); replace HB := aM (hb); replace HI0 := aM (hi); (try clear hb); (try clear hk); (try clear hi); (try clear d7)))
    go_ret
    exact ⟨y4, y19, y13, y14⟩
  ·rw [if_neg c5] at H
   have c5b0 : decide (200 < a1) = false := dF c5
   clear c5
   by_cases fo : a1 = 0
   ·rw [if_pos fo] at H
    exact absurd H (by simp)
   ·rw [if_neg fo] at H
    have c10b0 : (a1 == 0) = false := qF fo
    have c10b1 : (a1 != 0) = true := nT fo
    simp only [Option.some.injEq, Prod.mk.injEq] at H
    obtain ⟨rfl, rfl, rfl⟩ := H
    go_enter Try.func66, Try.ntmps66
    go_wp2_with (first | ((with_reducible refine aK (f := 79) rfl ?_); refine aT (some 9) rfl rfl Try.func79 z1 rfl #[.pointer (some ⟨g, 0, none⟩)] rfl z33 ?_; (with_reducible refine (spec_l1Cur_next.calls g s0_0 s0_1 s0_2 vl tB tz w0 _ ?side1 ?side2 A4.out).mono ?_); (case side1 => exact y42); (case side2 => exact y35); rintro e w11 ⟨rfl, hi, hb, hk⟩; refine ⟨_, rfl, ?_⟩; replace HK := aM (KeepBut.trans z34 hk (.inl rfl)); replace HB := aM (hb); replace HI0 := aM (hi); (try clear hb); (try clear hk); (try clear hi); (try clear d7)))
    go_ret
    exact ⟨y4, y19, y13, y14⟩

/-! ### spec_l1Cur_one: function 52 -/
def spec_l1Cur_one.f (s0_0 : List Int) (s0_1 : Int) (s0_2 : Int) (a1 : Int) : Option (Bool × Int × Int) := (spec_l1Cur_pick.f s0_0 s0_1 s0_2 a1).bind fun lE => (some ((lE.1 == 0), lE.2.1, lE.2.2))
set_option maxHeartbeats 8000000 in
set_option maxRecDepth 100000 in
theorem spec_l1Cur_one.calls (g : Nat) (s0_0 : List Int) (s0_1 : Int) (s0_2 : Int) (a1 : Int) (r1 : Bool) (r2 : Int) (r3 : Int) (w0 w : World) (hI : IsS90 w0 w g s0_0 s0_1 s0_2) (hB : Below w0.heap.size w0 w) (h : spec_l1Cur_one.f s0_0 s0_1 s0_2 a1 = some (r1, r2, r3)) :
  Calls Try.prog 52 #[.pointer (some ⟨g, 0, none⟩), .int .i64 a1] w fun e w' => e = .returned (.bool r1) ∧ IsS90 w0 w' g s0_0 r2 r3 ∧ Below w0.heap.size w0 w' ∧ KeepBut w w' g none := by
 have HI0 := aM hI
 have HK := aM (KeepBut.refl w g none)
 have HL := aM hB.size
 clear hI
 have HW0 := aM hB.size
 have HB := aM hB
 clear hB
 have H : ((spec_l1Cur_pick.f s0_0 s0_1 s0_2 a1).bind fun lE => (some ((lE.1 == 0), lE.2.1, lE.2.2))) = some (r1, r2, r3) := h
 clear h
 obtain ⟨⟨t200, tv, t202⟩, A3, H⟩ := oA_ H
 try dsimp only at H
 simp only [Option.some.injEq, Prod.mk.injEq] at H
 obtain ⟨rfl, rfl, rfl⟩ := H
 go_enter Try.func52, Try.ntmps52
 go_wp2_with (first | ((with_reducible refine aK (f := 66) rfl ?_); refine aT (some 7) rfl rfl Try.func66 z1 rfl #[.pointer (some ⟨g, 0, none⟩), .int .i64 a1] rfl z33 ?_; (with_reducible refine (spec_l1Cur_pick.calls g s0_0 s0_1 s0_2 a1 t200 tv t202 w0 _ ?side1 ?side2 A3.out).mono ?_); (case side1 => exact y42); (case side2 => exact y35); rintro e w4 ⟨rfl, hi, hb, hk⟩; refine ⟨_, rfl, ?_⟩; replace HK := aM (KeepBut.trans z34 hk (.inl rfl)); replace HB := aM (hb); replace HI0 := aM (hi); (try clear hb); (try clear hk); (try clear hi); (try clear d7)))
 go_ret
 exact ⟨y4, y19, y13, y14⟩

/-! ### spec_l1Cur_of: function 71 -/
def spec_l1Cur_of.f (s0_0 : List Int) (s0_1 : Int) (s0_2 : Int) (l1 : List ByteArray) : Option (ByteArray × Int × Int) := (spec_l1Cur_pick.f s0_0 s0_1 s0_2 (l1.length : Int)).bind fun iK => (if 0 ≤ iK.1 then (if iK.1 < (l1.length : Int) then (some (rdOf ByteArray.empty l1 iK.1, iK.2.1, iK.2.2)) else (none)) else (none))
set_option maxHeartbeats 8000000 in
set_option maxRecDepth 100000 in
theorem spec_l1Cur_of.calls (g : Nat) (s0_0 : List Int) (s0_1 : Int) (s0_2 : Int) (A1 : Option Addr) (c1 : Nat) (l1 : List ByteArray) (r1 : ByteArray) (r2 : Int) (r3 : Int) (w0 w : World) (hI : IsS90 w0 w g s0_0 s0_1 s0_2) (hB : Below w0.heap.size w0 w) (hr1 : Kd.C Kd.string w A1 l1.length l1) (hc1 : l1.length ≤ c1) (hf1 : ∀ ad, A1 = some ad → 0 < l1.length → ad.block ≠ g) (h : spec_l1Cur_of.f s0_0 s0_1 s0_2 l1 = some (r1, r2, r3)) :
  Calls Try.prog 71 #[.pointer (some ⟨g, 0, none⟩), .slice A1 l1.length c1] w fun e w' => e = .returned (.string r1) ∧ IsS90 w0 w' g s0_0 r2 r3 ∧ Below w0.heap.size w0 w' ∧ KeepBut w w' g none := by
 have je := aM hr1
 have gm := aM hc1
 clear hr1 hc1
 have HI0 := aM hI
 have HK := aM (KeepBut.refl w g none)
 have HL := aM hB.size
 clear hI
 have HW0 := aM hB.size
 have HB := aM hB
 clear hB
 have H : ((spec_l1Cur_pick.f s0_0 s0_1 s0_2 (l1.length : Int)).bind fun iK => (if 0 ≤ iK.1 then (if iK.1 < (l1.length : Int) then (some (rdOf ByteArray.empty l1 iK.1, iK.2.1, iK.2.2)) else (none)) else (none))) = some (r1, r2, r3) := h
 clear h
 obtain ⟨⟨nz, tu, t205⟩, A3, H⟩ := oA_ H
 try dsimp only at H
 by_cases c4 : 0 ≤ nz
 ·rw [if_pos c4] at H
  have c4b0 : decide (0 ≤ nz) = true := dT c4
  clear c4
  by_cases c5 : nz < (l1.length : Int)
  ·rw [if_pos c5] at H
   have c5b0 : decide (nz < (l1.length : Int)) = true := dT c5
   clear c5
   simp only [Option.some.injEq, Prod.mk.injEq] at H
   obtain ⟨rfl, rfl, rfl⟩ := H
   go_enter Try.func71, Try.ntmps71
   go_wp2_with (first | ((with_reducible refine aK (f := 66) rfl ?_); refine aT (some 9) rfl rfl Try.func66 z1 rfl #[.pointer (some ⟨g, 0, none⟩), .int .i64 (l1.length : Int)] rfl z33 ?_; (with_reducible refine (spec_l1Cur_pick.calls g s0_0 s0_1 s0_2 (l1.length : Int) nz tu t205 w0 _ ?side1 ?side2 A3.out).mono ?_); (case side1 => exact y42); (case side2 => exact y35); rintro e w6 ⟨rfl, hi, hb, hk⟩; refine ⟨_, rfl, ?_⟩; replace HK := aM (KeepBut.trans z34 hk (.inl rfl)); replace HB := aM (hb); replace HI0 := aM (hi); (try clear hb); (try clear hk); (try clear hi); (try clear d7); have p206 : 0 ≤ (nz : Int) := oD z3; have q206 : nz < (l1.length : Int) := oD z3; obtain ⟨ad206, e206, hx206_0⟩ := Kd.at_string je.out nz p206 q206; cases e206; replace hx206_0 := keep_cell HK.out hx206_0 (by first | (rw [add_block]; exact hf1 _ rfl (by omega)) | exact hf1 _ rfl (by omega) | exact hf1 ad206 rfl (by omega)); replace p206 := eq_true p206; replace q206 := eq_true q206))
   go_ret
   exact ⟨y4, y19, y13, y14⟩
  ·rw [if_neg c5] at H
   exact absurd H (by simp)
 ·rw [if_neg c4] at H
  exact absurd H (by simp)

/-! ### spec_l1Cur_opOn: function 54 -/
mutual
def spec_l1Cur_opOn.l0 : Nat → ByteArray → List (S59) → Int → List Int → Int → Int → Option ((List (S59)) × Int × Int)
 | 0, _, _, _, _, _, _ => none
 | k + 1, x1, x5, x6, x1000, x1001, x1002 => if x6 < (x1.size : Int) then ((spec_l1Cur_pick.f x1000 x1001 x1002 5).bind fun ml => (if (wrap64 (1 + ml.1)) > (wrap64 ((x1.size : Int) - x6)) then (spec_l1Cur_opOn.j1 k x1 x5 x6 (wrap64 ((x1.size : Int) - x6)) x1000 ml.2.1 ml.2.2) else (spec_l1Cur_opOn.j1 k x1 x5 x6 (wrap64 (1 + ml.1)) x1000 ml.2.1 ml.2.2))) else ((spec_l1Cur_one.f x1000 x1001 x1002 3).bind fun nS => (if nS.1 = true then ((spec_l1Cur_of.f x1000 nS.2.1 nS.2.2 (([(⟨#[101, 110, 100]⟩ : ByteArray), (⟨#[46]⟩ : ByteArray)] : List ByteArray))).bind fun lC => (if x5.length < 3518437208883 then (some ((x5 ++ [(⟨0, lC.1, (⟨#[]⟩ : ByteArray)⟩ : S59)]), lC.2.1, lC.2.2)) else (none))) else (some (x5, nS.2.1, nS.2.2))))
def spec_l1Cur_opOn.j1 : Nat → ByteArray → List (S59) → Int → Int → List Int → Int → Int → Option ((List (S59)) × Int × Int)
 | 0, _, _, _, _, _, _, _ => none
 | k + 1, x1, x5, x6, x7, x1000, x1001, x1002 => (spec_l1Cur_pick.f x1000 x1001 x1002 4).bind fun j6 => (if j6.1 = 0 then (if 0 ≤ x6 then (if x6 ≤ (wrap64 (x6 + x7)) then (if (wrap64 (x6 + x7)) ≤ (x1.size : Int) then (if x5.length < 3518437208883 then (spec_l1Cur_opOn.l0 k x1 (x5 ++ [(⟨0, (⟨#[]⟩ : ByteArray), x1.extract (x6 : Int).toNat ((wrap64 (x6 + x7)) : Int).toNat⟩ : S59)]) (wrap64 (x6 + x7)) x1000 j6.2.1 j6.2.2) else (none)) else (none)) else (none)) else (none)) else (if j6.1 = 1 then ((spec_l1Cur_of.f x1000 j6.2.1 j6.2.2 (([(⟨#[120]⟩ : ByteArray), (⟨#[121, 121]⟩ : ByteArray), (⟨#[65, 47]⟩ : ByteArray), (⟨#[110, 101, 119]⟩ : ByteArray), (⟨#[66]⟩ : ByteArray)] : List ByteArray))).bind fun lD => (if x5.length < 3518437208883 then (spec_l1Cur_opOn.l0 k x1 (x5 ++ [(⟨0, lD.1, (⟨#[]⟩ : ByteArray)⟩ : S59)]) x6 x1000 lD.2.1 lD.2.2) else (none))) else (if x5.length < 3518437208883 then (spec_l1Cur_opOn.l0 k x1 (x5 ++ [(⟨x7, (⟨#[]⟩ : ByteArray), (⟨#[]⟩ : ByteArray)⟩ : S59)]) (wrap64 (x6 + x7)) x1000 j6.2.1 j6.2.2) else (none))))
end
def spec_l1Cur_opOn.f (k : Nat) (s0_0 : List Int) (s0_1 : Int) (s0_2 : Int) (a1 : ByteArray) : Option ((List (S59)) × Int × Int) := spec_l1Cur_opOn.l0 k a1 ([] : List (S59)) 0 s0_0 s0_1 s0_2
theorem spec_l1Cur_opOn.mono_l : ∀ k, (∀ y0 y1 y2 y3 y4 y5, LeO (spec_l1Cur_opOn.l0 k y0 y1 y2 y3 y4 y5) (spec_l1Cur_opOn.l0 (k + 1) y0 y1 y2 y3 y4 y5)) ∧ (∀ y0 y1 y2 y3 y4 y5 y6, LeO (spec_l1Cur_opOn.j1 k y0 y1 y2 y3 y4 y5 y6) (spec_l1Cur_opOn.j1 (k + 1) y0 y1 y2 y3 y4 y5 y6))
 | 0 => ⟨fun _ _ _ _ _ _ r h => by simp [spec_l1Cur_opOn.l0] at h, fun _ _ _ _ _ _ _ r h => by simp [spec_l1Cur_opOn.j1] at h⟩
 | k + 1 => by
  obtain ⟨ih0, ih1⟩ := spec_l1Cur_opOn.mono_l k
  refine ⟨?_, ?_⟩
  ·intro y0 y1 y2 y3 y4 y5
   unfold spec_l1Cur_opOn.l0
   repeat' first
   | (with_reducible exact ih0 _ _ _ _ _ _)
   | (with_reducible exact ih1 _ _ _ _ _ _ _)
   | (with_reducible exact LeO.refl _)
   | (with_reducible exact LeO.none _)
   | (with_reducible refine LeO.ite ?_ ?_)
   | (with_reducible refine LeO.bind ?_ (fun _ => ?_))
  ·intro y0 y1 y2 y3 y4 y5 y6
   unfold spec_l1Cur_opOn.j1
   repeat' first
   | (with_reducible exact ih0 _ _ _ _ _ _)
   | (with_reducible exact ih1 _ _ _ _ _ _ _)
   | (with_reducible exact LeO.refl _)
   | (with_reducible exact LeO.none _)
   | (with_reducible refine LeO.ite ?_ ?_)
   | (with_reducible refine LeO.bind ?_ (fun _ => ?_))
theorem spec_l1Cur_opOn.mono : ∀ a0 a1 a2 a3 k, LeO (spec_l1Cur_opOn.f k a0 a1 a2 a3) (spec_l1Cur_opOn.f (k + 1) a0 a1 a2 a3) := by
 intro a0 a1 a2 a3 k
 obtain ⟨ih0, ih1⟩ := spec_l1Cur_opOn.mono_l k
 unfold spec_l1Cur_opOn.f
 repeat' first
   | (with_reducible exact ih0 _ _ _ _ _ _)
   | (with_reducible exact ih1 _ _ _ _ _ _ _)
   | (with_reducible exact LeO.refl _)
   | (with_reducible exact LeO.none _)
   | (with_reducible refine LeO.ite ?_ ?_)
   | (with_reducible refine LeO.bind ?_ (fun _ => ?_))
set_option maxHeartbeats 8000000 in
set_option maxRecDepth 100000 in
theorem spec_l1Cur_opOn.calls (k : Nat) (g : Nat) (s0_0 : List Int) (s0_1 : Int) (s0_2 : Int) (a1 : ByteArray) (r1 : List (S59)) (r2 : Int) (r3 : Int) (w0 w : World) (hI : IsS90 w0 w g s0_0 s0_1 s0_2) (hB : Below w0.heap.size w0 w) (h : spec_l1Cur_opOn.f k s0_0 s0_1 s0_2 a1 = some (r1, r2, r3)) :
  Calls Try.prog 54 #[.pointer (some ⟨g, 0, none⟩), .string a1] w fun e w' => ∃ v0_ : Value, e = .returned (v0_) ∧ Kd.R k59 59 w' w.heap.size (fun _ => True) v0_ r1 ∧ IsS90 w0 w' g s0_0 r2 r3 ∧ Below w0.heap.size w0 w' ∧ KeepBut w w' g none := by
 have hu59 := Try.underlying59
 have HI0 := aM hI
 have HK := aM (KeepBut.refl w g none)
 have HL := aM hB.size
 clear hI
 have HW0 := aM hB.size
 have HB := aM hB
 clear hB
 have H : (spec_l1Cur_opOn.l0 k a1 ([] : List (S59)) 0 s0_0 s0_1 s0_2) = some (r1, r2, r3) := h
 clear h
 have H' := aM H
 clear H
 go_enter Try.func54, Try.ntmps54
 go_wp2
 go_loopg [5, 6] k (fun kq v5 v6 w' => ∃ (x5_1 : List (S59)) (x6_1 : Int) (x1001_1 : Int) (x1002_1 : Int), v6 = .int .i64 x6_1 ∧ Aside0 (spec_l1Cur_opOn.l0 kq a1 x5_1 x6_1 s0_0 x1001_1 x1002_1 = some (r1, r2, r3)) ∧ Aside0 (kq ≤ k) ∧ Aside0 (Kd.R k59 59 w' w.heap.size (fun _ => True) v5 x5_1) ∧ Aside0 (IsS90 w0 w' g s0_0 x1001_1 x1002_1) ∧ Aside0 (KeepBut w w' g none) ∧ Aside0 (Below w0.heap.size w0 w'))
 case atStart => exact ⟨(([] : List (S59))), (0), (s0_1), (s0_2), z2, H', ⟨Nat.le_refl _⟩, ⟨y12⟩, ⟨y19⟩, ⟨y14⟩, ⟨y13⟩⟩
 case round =>
  clear H'
  obtain ⟨x5_1, x6_1, x1001_1, x1002_1, rfl, HA, HK1, fE, HI0, HK, HB⟩ := hrel
  cases gk with
  | zero => exact absurd HA.out (by simp [spec_l1Cur_opOn.l0])
  | succ k1 =>
   have H := HA.out
   clear HA
   simp only [spec_l1Cur_opOn.l0] at H
   by_cases c3 : x6_1 < (a1.size : Int)
   ·rw [if_pos c3] at H
    have c3b0 : decide (x6_1 < (a1.size : Int)) = true := dT c3
    clear c3
    obtain ⟨⟨mA, mz, my⟩, A4, H⟩ := oA_ H
    try dsimp only at H
    have jH := aM H
    clear H
    go_upto_if 20 with (first | ((with_reducible refine aK (f := 66) rfl ?_); refine aT (some 13) rfl rfl Try.func66 z1 rfl #[.pointer (some ⟨g, 0, none⟩), .int .i64 5] rfl z33 ?_; (with_reducible refine (spec_l1Cur_pick.calls g s0_0 x1001_1 x1002_1 5 mA mz my w0 _ ?side1 ?side2 A4.out).mono ?_); (case side1 => exact y42); (case side2 => exact y35); rintro e w6 ⟨rfl, hi, hb, hk⟩; refine ⟨_, rfl, ?_⟩; replace fE := aM (ah (Kd.R_keep (IsS90.apart (show IsS90 w0 _ g s0_0 x1001_1 x1002_1 from by (try simp only [Int.add_zero]); repeat (first | (with_reducible first | exact HI0.out | apply IsS90.alloc | apply IsS90.drewN | apply IsS90.drew | apply IsS90.set_1 | apply IsS90.set_2) | exact HI0.out)) z5 z0) hk (fun _ h => h.2)) (fun _ h => h.1)); replace HK := aM (KeepBut.trans z34 hk (.inl rfl)); replace HB := aM (hb); replace HI0 := aM (hi); (try clear hb); (try clear hk); (try clear hi); (try clear d7)))
    (try simp only [Act.put, sA, sB, sC])
    go_cut [7] (fun v7 wc => ∃ (kq : Nat) (x7_4 : Int), v7 = .int .i64 x7_4 ∧ Aside0 (spec_l1Cur_opOn.j1 kq a1 x5_1 x6_1 x7_4 s0_0 mz my = some (r1, r2, r3)) ∧ Aside0 (kq ≤ k1) ∧ Aside0 (Kd.R k59 59 wc w.heap.size (fun _ => True) u5 x5_1) ∧ Aside0 (IsS90 w0 wc g s0_0 mz my) ∧ Aside0 (KeepBut w wc g none) ∧ Aside0 (Below w0.heap.size w0 wc))
    case first =>
     have H := jH.out
     clear jH
     by_cases c7 : (wrap64 (1 + mA)) > (wrap64 ((a1.size : Int) - x6_1))
     ·rw [if_pos c7] at H
      have c7b0 : decide ((wrap64 ((a1.size : Int) - x6_1)) < (wrap64 (1 + mA))) = true := dT c7
      clear c7
      (first | rw [c7b0] | (simp only [i64_w, i32_w]; rw [c7b0]) | skip)
      have H' := aM H
      clear H
      go_wp2
      go_meet
      case rel => exact ⟨_, (wrap64 ((a1.size : Int) - x6_1)), z2, H', ⟨y2⟩, ⟨kR_ fE.out⟩, ⟨y19⟩, ⟨y14⟩, ⟨y13⟩⟩
     ·rw [if_neg c7] at H
      have c7b0 : decide ((wrap64 ((a1.size : Int) - x6_1)) < (wrap64 (1 + mA))) = false := dF c7
      clear c7
      (first | rw [c7b0] | (simp only [i64_w, i32_w]; rw [c7b0]) | skip)
      have H' := aM H
      clear H
      go_wp2
      go_meet
      case rel => exact ⟨_, (wrap64 (1 + mA)), z2, H', ⟨y2⟩, ⟨kR_ fE.out⟩, ⟨y19⟩, ⟨y14⟩, ⟨y13⟩⟩
    case rest =>
     clear jH
     try clear p2
     try clear c3
     try clear c3b0
     try clear p2
     obtain ⟨kq, x7_4, rfl, HA, jg, fE, HI0, HK, HB⟩ := hcut
     cases kq with
     | zero => exact absurd HA.out (by simp [spec_l1Cur_opOn.j1])
     | succ kj4 =>
      have H := HA.out
      clear HA
      simp only [spec_l1Cur_opOn.j1] at H
      obtain ⟨⟨i1, kP, kO⟩, A8, H⟩ := oA_ H
      try dsimp only at H
      by_cases c9 : i1 = 0
      ·rw [if_pos c9] at H
       have c9b0 : (i1 == 0) = true := qT c9
       have c9b1 : (i1 != 0) = false := nF c9
       clear c9
       by_cases fo : 0 ≤ x6_1
       ·rw [if_pos fo] at H
        have c10b0 := eq_true fo
        have c10b1 : decide (0 ≤ x6_1) = true := dT fo
        clear fo
        by_cases fY : x6_1 ≤ (wrap64 (x6_1 + x7_4))
        ·rw [if_pos fY] at H
         have c11b0 := eq_true fY
         have c11b1 : decide (x6_1 ≤ (wrap64 (x6_1 + x7_4))) = true := dT fY
         by_cases gj : (wrap64 (x6_1 + x7_4)) ≤ (a1.size : Int)
         ·rw [if_pos gj] at H
          have c12b0 := eq_true gj
          have c12b1 : decide ((wrap64 (x6_1 + x7_4)) ≤ (a1.size : Int)) = true := dT gj
          by_cases fZ : x5_1.length < 3518437208883
          ·rw [if_pos fZ] at H
           have LMc13 := aM fZ
           clear fZ
           obtain ⟨y213, hy213⟩ : ∃ y_ : List (S59), y_ = (x5_1 ++ [(⟨0, (⟨#[]⟩ : ByteArray), a1.extract (x6_1 : Int).toNat ((wrap64 (x6_1 + x7_4)) : Int).toNat⟩ : S59)]) := ⟨_, rfl⟩
           replace H : (spec_l1Cur_opOn.l0 kj4 a1 y213 (wrap64 (x6_1 + x7_4)) s0_0 kP kO) = some (r1, r2, r3) := by first | (rw [hy213]; with_reducible exact H) | (have H2_ := (Option.bind_some _ _).symm.trans H; rw [hy213]; with_reducible exact H2_) | (have H2_ := (Option.bind_some _ _).symm.trans H; with_reducible exact H2_) | with_reducible exact H | (rw [hy213]; exact H) | exact H
           have Ny213 := aM hy213
           clear hy213
           have H' := aM H
           clear H
           go_wp2_with (first | ((with_reducible refine aK (f := 66) rfl ?_); refine aT (some 26) rfl rfl Try.func66 z1 rfl #[.pointer (some ⟨g, 0, none⟩), .int .i64 4] rfl z33 ?_; (with_reducible refine (spec_l1Cur_pick.calls g s0_0 mz my 4 i1 kP kO w0 _ ?side1 ?side2 A8.out).mono ?_); (case side1 => exact y42); (case side2 => exact y35); rintro e w14 ⟨rfl, hi, hb, hk⟩; refine ⟨_, rfl, ?_⟩; replace fE := aM (ah (Kd.R_keep (IsS90.apart (show IsS90 w0 _ g s0_0 mz my from by (try simp only [Int.add_zero]); repeat (first | (with_reducible first | exact HI0.out | apply IsS90.alloc | apply IsS90.drewN | apply IsS90.drew | apply IsS90.set_1 | apply IsS90.set_2) | exact HI0.out)) z5 z0) hk (fun _ h => h.2)) (fun _ h => h.1)); replace HK := aM (KeepBut.trans z34 hk (.inl rfl)); replace HB := aM (hb); replace HI0 := aM (hi); (try clear hb); (try clear hk); (try clear hi); (try clear d7)) | ((with_reducible refine gate_builtin (b := .append) (xs := #[.tmp 37, .tmp 45]) rfl ?_); at_builtin; refine aX k59 w.heap.size rfl (.tmp 37) (.tmp 45) 34 59 (.agg #[(.int .i64 0), (.string ⟨#[]⟩), (.string ⟨#[]⟩)]) 40 rfl Try.underlying34 info59 rfl z0 (by omega) u5 x5_1 (⟨0, (⟨#[]⟩ : ByteArray), a1.extract (x6_1 : Int).toNat ((wrap64 (x6_1 + x7_4)) : Int).toNat⟩ : S59) [.int .i64 0, .string ⟨#[]⟩, .string (a1.extract (x6_1 : Int).toNat ((wrap64 (x6_1 + x7_4)) : Int).toNat)] (fun _ => True) (fun _ => False) rfl rfl ?aP (fun _ hk => hk.elim) ?aF ?aO (Below.refl _ _) ?aS ?aL ?_; (case aP => exact k59_mkM _ _ _ (⟨0, (⟨#[]⟩ : ByteArray), a1.extract (x6_1 : Int).toNat ((wrap64 (x6_1 + x7_4)) : Int).toNat⟩ : S59)); (case aF => exact (fun _ _ => trivial)); (case aO => exact z5); (case aS => exact (keep_size (w := w) (g := g) (row := none) z34)); (case aL => have := LMc13.out; omega); intro v214 w15 ho hb hg hat; rw [← Ny213.out] at ho; replace HB := aM (below_weaken z41 HL.out hb); replace HI0 := aM (IsS90.grown z42 hg (IsS90.own_ne HI0.out fE.out z0)); replace HK := aM (KeepBut.trans z34 (KeepBut.of_grown hg g) (Kd.R_base2 fE.out)); have HO215 := aM (ho); clear fE; clear ho hb hg hat))
           go_roundg kj4
           case measure => have := HK1.out; have := jg.out; omega
           case rel => exact ⟨(y213), (wrap64 (x6_1 + x7_4)), (kP), (kO), z2, H', ⟨by have := HK1.out; have := jg.out; omega⟩, ⟨kR_ HO215.out⟩, ⟨y19⟩, ⟨y14⟩, ⟨y13⟩⟩
          ·rw [if_neg fZ] at H
           exact absurd H (by simp)
         ·rw [if_neg gj] at H
          exact absurd H (by simp)
        ·rw [if_neg fY] at H
         exact absurd H (by simp)
       ·rw [if_neg fo] at H
        exact absurd H (by simp)
      ·rw [if_neg c9] at H
       have c9b0 : (i1 == 0) = false := qF c9
       have c9b1 : (i1 != 0) = true := nT c9
       by_cases gE : i1 = 1
       ·rw [if_pos gE] at H
        have c16b0 : (i1 == 1) = true := qT gE
        have c16b1 : (i1 != 1) = false := nF gE
        clear gE
        obtain ⟨y216, hy216⟩ : ∃ y_ : List ByteArray, y_ = (([(⟨#[120]⟩ : ByteArray), (⟨#[121, 121]⟩ : ByteArray), (⟨#[65, 47]⟩ : ByteArray), (⟨#[110, 101, 119]⟩ : ByteArray), (⟨#[66]⟩ : ByteArray)] : List ByteArray)) := ⟨_, rfl⟩
        replace H : ((spec_l1Cur_of.f s0_0 kP kO y216).bind fun lD => (if x5_1.length < 3518437208883 then (spec_l1Cur_opOn.l0 kj4 a1 (x5_1 ++ [(⟨0, lD.1, (⟨#[]⟩ : ByteArray)⟩ : S59)]) x6_1 s0_0 lD.2.1 lD.2.2) else (none))) = some (r1, r2, r3) := by first | (rw [hy216]; with_reducible exact H) | (have H2_ := (Option.bind_some _ _).symm.trans H; rw [hy216]; with_reducible exact H2_) | (have H2_ := (Option.bind_some _ _).symm.trans H; with_reducible exact H2_) | with_reducible exact H | (rw [hy216]; exact H) | exact H
        have Ny216 := aM hy216
        clear hy216
        obtain ⟨⟨qx, qw, tr⟩, uk, H⟩ := oA_ H
        try dsimp only at H
        by_cases hH : x5_1.length < 3518437208883
        ·rw [if_pos hH] at H
         have LMc18 := aM hH
         clear hH
         obtain ⟨y222, hy222⟩ : ∃ y_ : List (S59), y_ = (x5_1 ++ [(⟨0, qx, (⟨#[]⟩ : ByteArray)⟩ : S59)]) := ⟨_, rfl⟩
         replace H : (spec_l1Cur_opOn.l0 kj4 a1 y222 x6_1 s0_0 qw tr) = some (r1, r2, r3) := by first | (rw [hy222]; with_reducible exact H) | (have H2_ := (Option.bind_some _ _).symm.trans H; rw [hy222]; with_reducible exact H2_) | (have H2_ := (Option.bind_some _ _).symm.trans H; with_reducible exact H2_) | with_reducible exact H | (rw [hy222]; exact H) | exact H
         have Ny222 := aM hy222
         clear hy222
         have H' := aM H
         clear H
         go_wp2_with (first | ((with_reducible refine aK (f := 66) rfl ?_); refine aT (some 26) rfl rfl Try.func66 z1 rfl #[.pointer (some ⟨g, 0, none⟩), .int .i64 4] rfl z33 ?_; (with_reducible refine (spec_l1Cur_pick.calls g s0_0 mz my 4 i1 kP kO w0 _ ?side1 ?side2 A8.out).mono ?_); (case side1 => exact y42); (case side2 => exact y35); rintro e w19 ⟨rfl, hi, hb, hk⟩; refine ⟨_, rfl, ?_⟩; replace fE := aM (ah (Kd.R_keep (IsS90.apart (show IsS90 w0 _ g s0_0 mz my from by (try simp only [Int.add_zero]); repeat (first | (with_reducible first | exact HI0.out | apply IsS90.alloc | apply IsS90.drewN | apply IsS90.drew | apply IsS90.set_1 | apply IsS90.set_2) | exact HI0.out)) z5 z0) hk (fun _ h => h.2)) (fun _ h => h.1)); replace HK := aM (KeepBut.trans z34 hk (.inl rfl)); replace HB := aM (hb); replace HI0 := aM (hi); (try clear hb); (try clear hk); (try clear hi); (try clear d7)) | ((with_reducible refine aN (N := 54) rfl ?_); refine Kd.R_lit Kd.string _ 9 ?hg (N := 54) ?hd (xs := ([(⟨#[120]⟩ : ByteArray), (⟨#[121, 121]⟩ : ByteArray), (⟨#[65, 47]⟩ : ByteArray), (⟨#[110, 101, 119]⟩ : ByteArray), (⟨#[66]⟩ : ByteArray)] : List ByteArray)) (inner := [.string (⟨#[120]⟩ : ByteArray), .string (⟨#[121, 121]⟩ : ByteArray), .string (⟨#[65, 47]⟩ : ByteArray), .string (⟨#[110, 101, 119]⟩ : ByteArray), .string (⟨#[66]⟩ : ByteArray)]) (ok := fun _ => True) (okp := fun _ => True) ?hr ?hp (fun _ hk => hk) trivial (Below.refl _ _) (Nat.le_refl _) (by simp) ?_; (case hd => rfl); (case hg => rfl); (case hr => first | (go_simp; done) | (go_simp; rfl)); (case hp => exact (Reps.one (show Kd.M Kd.string _ _ _ (⟨#[120]⟩ : ByteArray) [.string (⟨#[120]⟩ : ByteArray)] from rfl) (Reps.one (show Kd.M Kd.string _ _ _ (⟨#[121, 121]⟩ : ByteArray) [.string (⟨#[121, 121]⟩ : ByteArray)] from rfl) (Reps.one (show Kd.M Kd.string _ _ _ (⟨#[65, 47]⟩ : ByteArray) [.string (⟨#[65, 47]⟩ : ByteArray)] from rfl) (Reps.one (show Kd.M Kd.string _ _ _ (⟨#[110, 101, 119]⟩ : ByteArray) [.string (⟨#[110, 101, 119]⟩ : ByteArray)] from rfl) (Reps.one (show Kd.M Kd.string _ _ _ (⟨#[66]⟩ : ByteArray) [.string (⟨#[66]⟩ : ByteArray)] from rfl) (Reps.none _ _))))))); intro v217 w20 ho21 hb hg_ hnew_; clear hg_ hnew_; (first | rw [← Ny216.out] at ho21 | (simp only [Int.reduceToNat] at ho21; rw [← Ny216.out] at ho21)); replace fE := aM (ag z5 hb); have i4 := aM (aW ho21 (keep_size (w := w) (g := g) (row := none) z34)); replace HK := aM (KeepBut.trans z34 (KeepBut.of_below hb g none) (.inl rfl)); replace HB := aM (aA z41 hb); replace HI0 := aM (IsS90.below z42 hb); clear hb ho21; obtain ⟨Ao22, co22, eo22⟩ := Kd.R_slice i4.out; subst eo22) | ((with_reducible refine aK (f := 71) rfl ?_); refine aT (some 55) rfl rfl Try.func71 z1 rfl #[.pointer (some ⟨g, 0, none⟩), .slice Ao22 y216.length co22] rfl z33 ?_; (with_reducible refine (spec_l1Cur_of.calls g s0_0 kP kO _ _ y216 qx qw tr w0 _ ?side1 ?side2 ?side3 ?side4 ?side5 uk.out).mono ?_); (case side1 => exact y42); (case side2 => exact y35); (case side3 => repeat (first | exact (ai i4.out).2.2 | (with_reducible refine aH ?_ _) | (with_reducible refine aI ?_ _) | (with_reducible refine aJ ?_))); (case side4 => exact (ai i4.out).2.1); (case side5 => exact far_slice (IsS90.own_ne HI0.out i4.out z0)); rintro e w23 ⟨rfl, hi, hb, hk⟩; refine ⟨_, rfl, ?_⟩; replace fE := aM (ah (Kd.R_keep (IsS90.apart (show IsS90 w0 _ g s0_0 kP kO from by (try simp only [Int.add_zero]); repeat (first | (with_reducible first | exact HI0.out | apply IsS90.alloc | apply IsS90.drewN | apply IsS90.drew | apply IsS90.set_1 | apply IsS90.set_2) | exact HI0.out)) z5 z0) hk (fun _ h => h.2)) (fun _ h => h.1)); replace i4 := aM (ah (Kd.R_keep (IsS90.apart (show IsS90 w0 _ g s0_0 kP kO from by (try simp only [Int.add_zero]); repeat (first | (with_reducible first | exact HI0.out | apply IsS90.alloc | apply IsS90.drewN | apply IsS90.drew | apply IsS90.set_1 | apply IsS90.set_2) | exact HI0.out)) (kR_ i4.out) z0) hk (fun _ h => h.2)) (fun _ h => h.1)); replace HK := aM (KeepBut.trans z34 hk (.inl rfl)); replace HB := aM (hb); replace HI0 := aM (hi); (try clear hb); (try clear hk); (try clear hi); (try clear d7)) | ((with_reducible refine gate_builtin (b := .append) (xs := #[.tmp 52, .tmp 57]) rfl ?_); at_builtin; refine aX k59 w.heap.size rfl (.tmp 52) (.tmp 57) 34 59 (.agg #[(.int .i64 0), (.string ⟨#[]⟩), (.string ⟨#[]⟩)]) 40 rfl Try.underlying34 info59 rfl z0 (by omega) u5 x5_1 (⟨0, qx, (⟨#[]⟩ : ByteArray)⟩ : S59) [.int .i64 0, .string qx, .string ⟨#[]⟩] (fun _ => True) (fun _ => False) rfl rfl ?aP (fun _ hk => hk.elim) ?aF ?aO (Below.refl _ _) ?aS ?aL ?_; (case aP => exact k59_mkM _ _ _ (⟨0, qx, (⟨#[]⟩ : ByteArray)⟩ : S59)); (case aF => exact (fun _ _ => trivial)); (case aO => exact z5); (case aS => exact (keep_size (w := w) (g := g) (row := none) z34)); (case aL => have := LMc18.out; omega); intro v223 w24 ho hb hg hat; rw [← Ny222.out] at ho; replace i4 := aM (Kd.R_over' (kR_ i4.out) (Kd.R_typed z5) z0 hg); replace HB := aM (below_weaken z41 HL.out hb); replace HI0 := aM (IsS90.grown z42 hg (IsS90.own_ne HI0.out fE.out z0)); replace HK := aM (KeepBut.trans z34 (KeepBut.of_grown hg g) (Kd.R_base2 fE.out)); have HO224 := aM (ho); clear fE; clear ho hb hg hat))
         go_roundg kj4
         case measure => have := HK1.out; have := jg.out; omega
         case rel => exact ⟨(y222), (x6_1), (qw), (tr), z2, H', ⟨by have := HK1.out; have := jg.out; omega⟩, ⟨kR_ HO224.out⟩, ⟨y19⟩, ⟨y14⟩, ⟨y13⟩⟩
        ·rw [if_neg hH] at H
         exact absurd H (by simp)
       ·rw [if_neg gE] at H
        have c16b0 : (i1 == 1) = false := qF gE
        have c16b1 : (i1 != 1) = true := nT gE
        by_cases j3 : x5_1.length < 3518437208883
        ·rw [if_pos j3] at H
         have LMc25 := aM j3
         clear j3
         obtain ⟨y225, hy225⟩ : ∃ y_ : List (S59), y_ = (x5_1 ++ [(⟨x7_4, (⟨#[]⟩ : ByteArray), (⟨#[]⟩ : ByteArray)⟩ : S59)]) := ⟨_, rfl⟩
         replace H : (spec_l1Cur_opOn.l0 kj4 a1 y225 (wrap64 (x6_1 + x7_4)) s0_0 kP kO) = some (r1, r2, r3) := by first | (rw [hy225]; with_reducible exact H) | (have H2_ := (Option.bind_some _ _).symm.trans H; rw [hy225]; with_reducible exact H2_) | (have H2_ := (Option.bind_some _ _).symm.trans H; with_reducible exact H2_) | with_reducible exact H | (rw [hy225]; exact H) | exact H
         have Ny225 := aM hy225
         clear hy225
         have H' := aM H
         clear H
         go_wp2_with (first | ((with_reducible refine aK (f := 66) rfl ?_); refine aT (some 26) rfl rfl Try.func66 z1 rfl #[.pointer (some ⟨g, 0, none⟩), .int .i64 4] rfl z33 ?_; (with_reducible refine (spec_l1Cur_pick.calls g s0_0 mz my 4 i1 kP kO w0 _ ?side1 ?side2 A8.out).mono ?_); (case side1 => exact y42); (case side2 => exact y35); rintro e w26 ⟨rfl, hi, hb, hk⟩; refine ⟨_, rfl, ?_⟩; replace fE := aM (ah (Kd.R_keep (IsS90.apart (show IsS90 w0 _ g s0_0 mz my from by (try simp only [Int.add_zero]); repeat (first | (with_reducible first | exact HI0.out | apply IsS90.alloc | apply IsS90.drewN | apply IsS90.drew | apply IsS90.set_1 | apply IsS90.set_2) | exact HI0.out)) z5 z0) hk (fun _ h => h.2)) (fun _ h => h.1)); replace HK := aM (KeepBut.trans z34 hk (.inl rfl)); replace HB := aM (hb); replace HI0 := aM (hi); (try clear hb); (try clear hk); (try clear hi); (try clear d7)) | ((with_reducible refine gate_builtin (b := .append) (xs := #[.tmp 27, .tmp 30]) rfl ?_); at_builtin; refine aX k59 w.heap.size rfl (.tmp 27) (.tmp 30) 34 59 (.agg #[(.int .i64 0), (.string ⟨#[]⟩), (.string ⟨#[]⟩)]) 40 rfl Try.underlying34 info59 rfl z0 (by omega) u5 x5_1 (⟨x7_4, (⟨#[]⟩ : ByteArray), (⟨#[]⟩ : ByteArray)⟩ : S59) [.int .i64 x7_4, .string ⟨#[]⟩, .string ⟨#[]⟩] (fun _ => True) (fun _ => False) rfl rfl ?aP (fun _ hk => hk.elim) ?aF ?aO (Below.refl _ _) ?aS ?aL ?_; (case aP => exact k59_mkM _ _ _ (⟨x7_4, (⟨#[]⟩ : ByteArray), (⟨#[]⟩ : ByteArray)⟩ : S59)); (case aF => exact (fun _ _ => trivial)); (case aO => exact z5); (case aS => exact (keep_size (w := w) (g := g) (row := none) z34)); (case aL => have := LMc25.out; omega); intro v226 w27 ho hb hg hat; rw [← Ny225.out] at ho; replace HB := aM (below_weaken z41 HL.out hb); replace HI0 := aM (IsS90.grown z42 hg (IsS90.own_ne HI0.out fE.out z0)); replace HK := aM (KeepBut.trans z34 (KeepBut.of_grown hg g) (Kd.R_base2 fE.out)); have HO227 := aM (ho); clear fE; clear ho hb hg hat))
         go_roundg kj4
         case measure => have := HK1.out; have := jg.out; omega
         case rel => exact ⟨(y225), (wrap64 (x6_1 + x7_4)), (kP), (kO), z2, H', ⟨by have := HK1.out; have := jg.out; omega⟩, ⟨kR_ HO227.out⟩, ⟨y19⟩, ⟨y14⟩, ⟨y13⟩⟩
        ·rw [if_neg j3] at H
         exact absurd H (by simp)
   ·rw [if_neg c3] at H
    have c3b0 : decide (x6_1 < (a1.size : Int)) = false := dF c3
    clear c3
    obtain ⟨⟨t228, ny, qa⟩, wb, H⟩ := oA_ H
    try dsimp only at H
    by_cases jO : t228 = true
    ·subst jO
     rw [if_pos rfl] at H
     obtain ⟨y231, hy231⟩ : ∃ y_ : List ByteArray, y_ = (([(⟨#[101, 110, 100]⟩ : ByteArray), (⟨#[46]⟩ : ByteArray)] : List ByteArray)) := ⟨_, rfl⟩
     replace H : ((spec_l1Cur_of.f s0_0 ny qa y231).bind fun lC => (if x5_1.length < 3518437208883 then (some ((x5_1 ++ [(⟨0, lC.1, (⟨#[]⟩ : ByteArray)⟩ : S59)]), lC.2.1, lC.2.2)) else (none))) = some (r1, r2, r3) := by first | (rw [hy231]; with_reducible exact H) | (have H2_ := (Option.bind_some _ _).symm.trans H; rw [hy231]; with_reducible exact H2_) | (have H2_ := (Option.bind_some _ _).symm.trans H; with_reducible exact H2_) | with_reducible exact H | (rw [hy231]; exact H) | exact H
     have Ny231 := aM hy231
     clear hy231
     obtain ⟨⟨qv, u9, uZ⟩, ip, H⟩ := oA_ H
     try dsimp only at H
     by_cases rC : x5_1.length < 3518437208883
     ·rw [if_pos rC] at H
      have LMc31 := aM rC
      clear rC
      obtain ⟨y237, hy237⟩ : ∃ y_ : List (S59), y_ = (x5_1 ++ [(⟨0, qv, (⟨#[]⟩ : ByteArray)⟩ : S59)]) := ⟨_, rfl⟩
      replace H : (some (y237, u9, uZ)) = some (r1, r2, r3) := by first | (rw [hy237]; with_reducible exact H) | (have H2_ := (Option.bind_some _ _).symm.trans H; rw [hy237]; with_reducible exact H2_) | (have H2_ := (Option.bind_some _ _).symm.trans H; with_reducible exact H2_) | with_reducible exact H | (rw [hy237]; exact H) | exact H
      have Ny237 := aM hy237
      clear hy237
      simp only [Option.some.injEq, Prod.mk.injEq] at H
      obtain ⟨rfl, rfl, rfl⟩ := H
      go_wp2_with (first | ((with_reducible refine aK (f := 52) rfl ?_); refine aT (some 60) rfl rfl Try.func52 z1 rfl #[.pointer (some ⟨g, 0, none⟩), .int .i64 3] rfl z33 ?_; (with_reducible refine (spec_l1Cur_one.calls g s0_0 x1001_1 x1002_1 3 true ny qa w0 _ ?side1 ?side2 wb.out).mono ?_); (case side1 => exact y42); (case side2 => exact y35); rintro e w32 ⟨rfl, hi, hb, hk⟩; refine ⟨_, rfl, ?_⟩; replace fE := aM (ah (Kd.R_keep (IsS90.apart (show IsS90 w0 _ g s0_0 x1001_1 x1002_1 from by (try simp only [Int.add_zero]); repeat (first | (with_reducible first | exact HI0.out | apply IsS90.alloc | apply IsS90.drewN | apply IsS90.drew | apply IsS90.set_1 | apply IsS90.set_2) | exact HI0.out)) z5 z0) hk (fun _ h => h.2)) (fun _ h => h.1)); replace HK := aM (KeepBut.trans z34 hk (.inl rfl)); replace HB := aM (hb); replace HI0 := aM (hi); (try clear hb); (try clear hk); (try clear hi); (try clear d7)) | ((with_reducible refine aN (N := 63) rfl ?_); refine Kd.R_lit Kd.string _ 9 ?hg (N := 63) ?hd (xs := ([(⟨#[101, 110, 100]⟩ : ByteArray), (⟨#[46]⟩ : ByteArray)] : List ByteArray)) (inner := [.string (⟨#[101, 110, 100]⟩ : ByteArray), .string (⟨#[46]⟩ : ByteArray)]) (ok := fun _ => True) (okp := fun _ => True) ?hr ?hp (fun _ hk => hk) trivial (Below.refl _ _) (Nat.le_refl _) (by simp) ?_; (case hd => rfl); (case hg => rfl); (case hr => first | (go_simp; done) | (go_simp; rfl)); (case hp => exact (Reps.one (show Kd.M Kd.string _ _ _ (⟨#[101, 110, 100]⟩ : ByteArray) [.string (⟨#[101, 110, 100]⟩ : ByteArray)] from rfl) (Reps.one (show Kd.M Kd.string _ _ _ (⟨#[46]⟩ : ByteArray) [.string (⟨#[46]⟩ : ByteArray)] from rfl) (Reps.none _ _)))); intro v232 w33 ho34 hb hg_ hnew_; clear hg_ hnew_; (first | rw [← Ny231.out] at ho34 | (simp only [Int.reduceToNat] at ho34; rw [← Ny231.out] at ho34)); replace fE := aM (ag z5 hb); have i3 := aM (aW ho34 (keep_size (w := w) (g := g) (row := none) z34)); replace HK := aM (KeepBut.trans z34 (KeepBut.of_below hb g none) (.inl rfl)); replace HB := aM (aA z41 hb); replace HI0 := aM (IsS90.below z42 hb); clear hb ho34; obtain ⟨Ao35, co35, eo35⟩ := Kd.R_slice i3.out; subst eo35) | ((with_reducible refine aK (f := 71) rfl ?_); refine aT (some 64) rfl rfl Try.func71 z1 rfl #[.pointer (some ⟨g, 0, none⟩), .slice Ao35 y231.length co35] rfl z33 ?_; (with_reducible refine (spec_l1Cur_of.calls g s0_0 ny qa _ _ y231 qv u9 uZ w0 _ ?side1 ?side2 ?side3 ?side4 ?side5 ip.out).mono ?_); (case side1 => exact y42); (case side2 => exact y35); (case side3 => repeat (first | exact (ai i3.out).2.2 | (with_reducible refine aH ?_ _) | (with_reducible refine aI ?_ _) | (with_reducible refine aJ ?_))); (case side4 => exact (ai i3.out).2.1); (case side5 => exact far_slice (IsS90.own_ne HI0.out i3.out z0)); rintro e w36 ⟨rfl, hi, hb, hk⟩; refine ⟨_, rfl, ?_⟩; replace fE := aM (ah (Kd.R_keep (IsS90.apart (show IsS90 w0 _ g s0_0 ny qa from by (try simp only [Int.add_zero]); repeat (first | (with_reducible first | exact HI0.out | apply IsS90.alloc | apply IsS90.drewN | apply IsS90.drew | apply IsS90.set_1 | apply IsS90.set_2) | exact HI0.out)) z5 z0) hk (fun _ h => h.2)) (fun _ h => h.1)); replace i3 := aM (ah (Kd.R_keep (IsS90.apart (show IsS90 w0 _ g s0_0 ny qa from by (try simp only [Int.add_zero]); repeat (first | (with_reducible first | exact HI0.out | apply IsS90.alloc | apply IsS90.drewN | apply IsS90.drew | apply IsS90.set_1 | apply IsS90.set_2) | exact HI0.out)) (kR_ i3.out) z0) hk (fun _ h => h.2)) (fun _ h => h.1)); replace HK := aM (KeepBut.trans z34 hk (.inl rfl)); replace HB := aM (hb); replace HI0 := aM (hi); (try clear hb); (try clear hk); (try clear hi); (try clear d7)) | ((with_reducible refine gate_builtin (b := .append) (xs := #[.tmp 61, .tmp 66]) rfl ?_); at_builtin; refine aX k59 w.heap.size rfl (.tmp 61) (.tmp 66) 34 59 (.agg #[(.int .i64 0), (.string ⟨#[]⟩), (.string ⟨#[]⟩)]) 40 rfl Try.underlying34 info59 rfl z0 (by omega) u5 x5_1 (⟨0, qv, (⟨#[]⟩ : ByteArray)⟩ : S59) [.int .i64 0, .string qv, .string ⟨#[]⟩] (fun _ => True) (fun _ => False) rfl rfl ?aP (fun _ hk => hk.elim) ?aF ?aO (Below.refl _ _) ?aS ?aL ?_; (case aP => exact k59_mkM _ _ _ (⟨0, qv, (⟨#[]⟩ : ByteArray)⟩ : S59)); (case aF => exact (fun _ _ => trivial)); (case aO => exact z5); (case aS => exact (keep_size (w := w) (g := g) (row := none) z34)); (case aL => have := LMc31.out; omega); intro v238 w37 ho hb hg hat; rw [← Ny237.out] at ho; replace i3 := aM (Kd.R_over' (kR_ i3.out) (Kd.R_typed z5) z0 hg); replace HB := aM (below_weaken z41 HL.out hb); replace HI0 := aM (IsS90.grown z42 hg (IsS90.own_ne HI0.out fE.out z0)); replace HK := aM (KeepBut.trans z34 (KeepBut.of_grown hg g) (Kd.R_base2 fE.out)); have HO239 := aM (ho); clear fE; clear ho hb hg hat))
      go_ret
      exact ⟨_, y4, by (with_reducible repeat (first | apply ae | apply ac | apply aa)); exact HO239.out, y19, y13, y14⟩
     ·rw [if_neg rC] at H
      exact absurd H (by simp)
    ·replace jO := Bool.eq_false_iff.mpr jO
     subst jO
     rw [if_neg nF_] at H
     simp only [Option.some.injEq, Prod.mk.injEq] at H
     obtain ⟨rfl, rfl, rfl⟩ := H
     go_wp2_with (first | ((with_reducible refine aK (f := 52) rfl ?_); refine aT (some 60) rfl rfl Try.func52 z1 rfl #[.pointer (some ⟨g, 0, none⟩), .int .i64 3] rfl z33 ?_; (with_reducible refine (spec_l1Cur_one.calls g s0_0 x1001_1 x1002_1 3 false ny qa w0 _ ?side1 ?side2 wb.out).mono ?_); (case side1 => exact y42); (case side2 => exact y35); rintro e w38 ⟨rfl, hi, hb, hk⟩; refine ⟨_, rfl, ?_⟩; replace fE := aM (ah (Kd.R_keep (IsS90.apart (show IsS90 w0 _ g s0_0 x1001_1 x1002_1 from by (try simp only [Int.add_zero]); repeat (first | (with_reducible first | exact HI0.out | apply IsS90.alloc | apply IsS90.drewN | apply IsS90.drew | apply IsS90.set_1 | apply IsS90.set_2) | exact HI0.out)) z5 z0) hk (fun _ h => h.2)) (fun _ h => h.1)); replace HK := aM (KeepBut.trans z34 hk (.inl rfl)); replace HB := aM (hb); replace HI0 := aM (hi); (try clear hb); (try clear hk); (try clear hi); (try clear d7)))
     go_ret
     exact ⟨_, y4, by (with_reducible repeat (first | apply ae | apply ac | apply aa)); exact fE.out, y19, y13, y14⟩

/-! ### spec_l12Build: function 80, by hand -/
def spec_l12Build.f : Nat → List ByteArray → Option ((List (S101)))
 | 0, _ => none
 | k + 1, l0 => if (l0.length : Int) = 0 then (some ([] : List (S101))) else (if (l0.length : Int) = 1 then (if 0 < (l0.length : Int) then ((spec_l12Piece.f (rdOf ByteArray.empty l0 0)).bind fun qG => (some qG)) else (none)) else (if 0 ≤ (wrap64 (Int.tdiv (wrap64 ((l0.length : Int) + 1)) 2)) then (if (wrap64 (Int.tdiv (wrap64 ((l0.length : Int) + 1)) 2)) ≤ (l0.length : Int) then ((spec_l12Build.f k (l0.take ((wrap64 (Int.tdiv (wrap64 ((l0.length : Int) + 1)) 2)) : Int).toNat)).bind fun mD => ((spec_l12Build.f k (l0.drop ((wrap64 (Int.tdiv (wrap64 ((l0.length : Int) + 1)) 2)) : Int).toNat)).bind fun mC => ((spec_l12Join.f k mD mC).bind fun mB => (some mB)))) else (none)) else (none)))
theorem spec_l12Build.mono_l : ∀ k, (∀ y0, LeO (spec_l12Build.f k y0) (spec_l12Build.f (k + 1) y0))
 | 0 => fun _ r h => by simp [spec_l12Build.f] at h
 | k + 1 => by
  have ih0 := spec_l12Build.mono_l k
  ·intro y0
   unfold spec_l12Build.f
   repeat' first
   | (with_reducible exact ih0 _)
   | (with_reducible exact spec_l12Join.mono _ _ _)
   | (with_reducible exact LeO.refl _)
   | (with_reducible exact LeO.none _)
   | (with_reducible refine LeO.ite ?_ ?_)
   | (with_reducible refine LeO.bind ?_ (fun _ => ?_))
theorem spec_l12Build.mono : ∀ a0 k, LeO (spec_l12Build.f k a0) (spec_l12Build.f (k + 1) a0) := by
 intro a0 k
 have ih0 := spec_l12Build.mono_l k
 exact ih0 a0
def spec_l12Build.T7 : Bool × List (List Nat × List Nat) := (true, [([], []), ([], []), ([0, 1], [0, 1]), ([2], [2]), ([], []), ([], []), ([4, 5], [4, 5]), ([6, 3], [6]), ([3, 7, 7], [3, 7]), ([8, 8, 0, 1, 2, 3, 4, 5, 6, 7, 8], [8])])
def spec_l12Build.B7 : List Nat := [0, 0, 3, 7, 0, 0, 48, 127, 255, 511]
theorem spec_l12Build.tab7 : rtab .any (opsOf Try.f80 7) = spec_l12Build.T7 := by kernel_rfl
theorem spec_l12Build.bits7 : waitsOk spec_l12Build.T7.2 spec_l12Build.B7 = true := by kernel_rfl
set_option maxHeartbeats 8000000 in
set_option maxRecDepth 100000 in
theorem spec_l12Build.calls (k : Nat) : ∀ (A0 : Option Addr) (c0 : Nat) (l0 : List ByteArray) (r : List (S101)) (w : World) (hr0 : Kd.C Kd.string w A0 l0.length l0) (hc0 : l0.length ≤ c0) (h : spec_l12Build.f k l0 = some r),
  Calls Try.prog 80 #[.slice A0 l0.length c0] w fun e w' => ∃ v0_ : Value, e = .returned (v0_) ∧ Kd.R k101 101 w' w.heap.size (fun _ => True) v0_ r ∧ Below w.heap.size w w' := by
 induction k using Nat.strongRecOn with
 | _ k ih =>
 intro A0 c0 l0 r w hr0 hc0 h
 cases k with
 | zero => exact absurd h (by simp [spec_l12Build.f])
 | succ k =>
 simp only [spec_l12Build.f] at h
 have dY := aM hr0
 have en := aM hc0
 clear hr0 hc0
 have HB := aM (Below.refl w.heap.size w)
 have H : (if (l0.length : Int) = 0 then (some ([] : List (S101))) else (if (l0.length : Int) = 1 then (if 0 < (l0.length : Int) then ((spec_l12Piece.f (rdOf ByteArray.empty l0 0)).bind fun qG => (some qG)) else (none)) else (if 0 ≤ (wrap64 (Int.tdiv (wrap64 ((l0.length : Int) + 1)) 2)) then (if (wrap64 (Int.tdiv (wrap64 ((l0.length : Int) + 1)) 2)) ≤ (l0.length : Int) then ((spec_l12Build.f k (l0.take ((wrap64 (Int.tdiv (wrap64 ((l0.length : Int) + 1)) 2)) : Int).toNat)).bind fun mD => ((spec_l12Build.f k (l0.drop ((wrap64 (Int.tdiv (wrap64 ((l0.length : Int) + 1)) 2)) : Int).toNat)).bind fun mC => ((spec_l12Join.f k mD mC).bind fun mB => (some mB)))) else (none)) else (none)))) = some r := h
 clear h
 by_cases c2 : (l0.length : Int) = 0
 ·rw [if_pos c2] at H
  have c2b0 : ((l0.length : Int) == 0) = true := qT c2
  have c2b1 : ((l0.length : Int) != 0) = false := nF c2
  clear c2
  obtain rfl := sI H
  go_enter Try.func80, Try.ntmps80
  go_wp2
  go_ret
  exact ⟨_, y4, y12, y5⟩
 ·rw [if_neg c2] at H
  have c2b0 : ((l0.length : Int) == 0) = false := qF c2
  have c2b1 : ((l0.length : Int) != 0) = true := nT c2
  have c2b2 : ¬ (l0 = []) := fun h_ => c2 (by rw [h_]; rfl)
  by_cases c3 : (l0.length : Int) = 1
  ·rw [if_pos c3] at H
   have c3b0 : ((l0.length : Int) == 1) = true := qT c3
   have c3b1 : ((l0.length : Int) != 1) = false := nF c3
   clear c3
   by_cases c4 : 0 < (l0.length : Int)
   ·rw [if_pos c4] at H
    have c4b0 : decide (0 < (l0.length : Int)) = true := dT c4
    have c4b1 : decide (0 < l0.length) = true := dT (by omega)
    clear c4
    obtain ⟨qG, A5, H⟩ := oA_ H
    try dsimp only at H
    obtain rfl := sI H
    have p139 : 0 ≤ (0 : Int) := (by omega)
    have q139 : 0 < (l0.length : Int) := oD z3
    obtain ⟨ad139, e139, hx139_0⟩ := Kd.at_string dY.out 0 p139 q139
    cases e139
    have qi139 : (0 < l0.length) = True := eq_true (by omega)
    (try rw [show ((0 : Int)).toNat = 0 from rfl] at hx139_0)
    (try rw [Addr.add_zero'] at hx139_0)
    replace p139 := eq_true p139
    replace q139 := eq_true q139
    go_enter Try.func80, Try.ntmps80
    go_wp2_with (first | ((with_reducible refine aK (f := 30) rfl ?_); refine aT (some 13) rfl rfl Try.func30 z1 rfl #[.string (rdOf ByteArray.empty l0 0)] rfl z33 ?_; (with_reducible refine (spec_l12Piece.calls (rdOf ByteArray.empty l0 0) qG _ A5.out).mono ?_); rintro e w6 ⟨v141, rfl, ho0, hb⟩; refine ⟨_, rfl, ?_⟩; have HO142 := aM (aW ho0 (aC z32)); replace HB := aM (aA z32 hb); (try clear hb); (try clear ho0)))
    go_ret
    exact ⟨_, y4, by (with_reducible repeat (first | apply ae | apply ac | apply aa)); exact HO142.out, y5⟩
   ·rw [if_neg c4] at H
    exact absurd H (by simp)
  ·rw [if_neg c3] at H
   have c3b0 : ((l0.length : Int) == 1) = false := qF c3
   have c3b1 : ((l0.length : Int) != 1) = true := nT c3
   obtain ⟨kT, qc⟩ : ∃ j_ : Int, (wrap64 (Int.tdiv (wrap64 ((l0.length : Int) + 1)) 2)) = j_ := ⟨_, rfl⟩
   replace H : (if 0 ≤ (kT) then (if (kT) ≤ (l0.length : Int) then ((spec_l12Build.f k (l0.take ((kT) : Int).toNat)).bind fun mD => ((spec_l12Build.f k (l0.drop ((kT) : Int).toNat)).bind fun mC => ((spec_l12Join.f k mD mC).bind fun mB => (some mB)))) else (none)) else (none)) = some r := by first | (rw [qc] at H; exact H) | (simp only [qc] at H ⊢; exact H)
   have hji7w : (IntKind.i64.wrap (Int.tdiv (wrap64 ((l0.length : Int) + 1)) 2)) = kT := (i64_w _).trans qc
   by_cases c8 : 0 ≤ (kT)
   ·rw [if_pos c8] at H
    have c8b0 := eq_true c8
    have c8b1 : decide (0 ≤ (kT)) = true := dT c8
    clear c8
    by_cases c9 : (kT) ≤ (l0.length : Int)
    ·rw [if_pos c9] at H
     have c9b0 := eq_true c9
     have c9b1 : decide ((kT) ≤ (l0.length : Int)) = true := dT c9
     clear c9
     obtain ⟨mD, i5, H⟩ := oA_ H
     try dsimp only at H
     have c11b0 := eq_true (oD z3 : 0 ≤ (kT))
     have c12b0 := eq_true (oD z3 : (kT) ≤ (l0.length : Int))
     obtain ⟨mC, s8, H⟩ := oA_ H
     try dsimp only at H
     obtain ⟨mB, iP, H⟩ := oA_ H
     try dsimp only at H
     obtain rfl := sI H
     go_enter Try.func80, Try.ntmps80
     try go_wp2
     replace HB := aM (bD HB.out)
     obtain ⟨i016, hi016, _, hsz16, _⟩ := info_parts info9
     obtain ⟨hcut16, hA16, hC16⟩ := print_take_of (P := Try.prog) Value.string ⟨#[]⟩ 60 9 .i64 Try.underlying60 hi016 hsz16 A0 c0 l0 (kT) (oD z3) (oD z3) en.out
     have sy := aM (Kd.C_of_reads (h1 := fun _ => rfl) (hA16 _ (Kd.reads_of_C dY.out)))
     have HC143 := aM hC16
     clear hA16 hC16 hi016 hsz16
     obtain ⟨i017, hi017, _, hsz17, _⟩ := info_parts info9
     obtain ⟨uk, hcut17, hA17, hC17⟩ := print_drop_of (P := Try.prog) Value.string ⟨#[]⟩ 60 9 .i64 Try.underlying60 hi017 hsz17 A0 c0 l0 (kT) (oD z3) (oD z3) en.out
     have sx := aM (Kd.C_of_reads (h1 := fun _ => rfl) (hA17 _ (Kd.reads_of_C dY.out)))
     have HC147 := aM hC17
     clear hA17 hC17 hi017 hsz17
     refine start_ (n := 10) (S := fun w' => True) (ds := []) #[false, false, false, false, false, false, false, false, false, false] z1 rfl rfl trivial (fun hHeld => ?_); refine with_tabW spec_l12Build.tab7 spec_l12Build.bits7 (fun HT_ HW_ => ?_)
     generalize w.drew = w15 at HB sy sx hHeld ⊢
     refine pA 0 18 ?_
     refine pA 1 19 ?_
     refine pA 2 20 ?_
     refine pA 4 22 ?_
     refine pA 5 23 ?_
     refine pA 6 24 ?_
     refine one_ (i := 3) (N := some 21) #[true, true, true, true, true, true, true, false, false, false] rfl rfl (one_of HT_.out z1) z0 (fun K hK => ?_)
     refine goes_ Try.func80 z1 rfl #[.slice A0 (l0.take ((kT) : Int).toNat).length c0] (by rfl) rfl rfl (by (try simp only [List.map_toArray, List.map_cons, List.map_nil]); first | done | (rw [show (l0.take ((kT) : Int).toNat).length = (kT).toNat from (by rw [List.length_take]; have h_ : ((kT) : Int) ≤ (l0.length : Int) := oD z3; omega)] <;> rfl) | (simp only [qc]; rfl) | rfl | (simp only [List.length_drop, List.length_take]; rfl)) ?_
     with_reducible refine (ih k (by omega) _ _ (l0.take ((kT) : Int).toNat) mD _ ?side1 ?side2 i5.out).mono ?_
     (case side1 => repeat (first | exact (aG sy.out HB.out) | (with_reducible refine aH ?_ _) | (with_reducible refine aI ?_ _) | (with_reducible refine aJ ?_)))
     (case side2 => exact HC143.out)
     rintro e w18 ⟨v145, rfl, ho0, hb⟩
     refine ⟨_, rfl, ?_⟩
     have jG := aM (aW ho0 (aC z32))
     replace HB := aM (aA z32 hb)
     (try clear hb)
     skip
     skip
     skip
     (try clear ho0)
     refine hK.out _ _ trivial (fun hHeld => ?_)
     clear hK K
     refine norm_ (a' := ?_) ?_ ?_
     rotate_left
     ·show Act.put _ (some 21) _ = _
      simp only [Act.put, sA, sB, sC, i64_w, i32_w]
      rfl
     refine one_ (i := 7) (N := some 25) #[true, true, true, true, true, true, true, true, false, false] rfl rfl (one_of HT_.out z1) z0 (fun K hK => ?_)
     refine goes_ Try.func80 z1 rfl #[.slice uk (l0.drop ((kT) : Int).toNat).length (c0 - (kT).toNat)] (by rfl) rfl rfl (by (try simp only [List.map_toArray, List.map_cons, List.map_nil]); first | done | (rw [show (l0.drop ((kT) : Int).toNat).length = (l0.length - (kT).toNat) from List.length_drop] <;> rfl) | (simp only [qc]; rfl) | rfl | (simp only [List.length_drop, List.length_take]; rfl)) ?_
     with_reducible refine (ih k (by omega) _ _ (l0.drop ((kT) : Int).toNat) mC _ ?side1 ?side2 s8.out).mono ?_
     (case side1 => repeat (first | exact (aG sx.out HB.out) | (with_reducible refine aH ?_ _) | (with_reducible refine aI ?_ _) | (with_reducible refine aJ ?_)))
     (case side2 => exact HC147.out)
     rintro e w19 ⟨v149, rfl, ho0, hb⟩
     refine ⟨_, rfl, ?_⟩
     have nV := aM (aW (ak ho0 (am (kR_ jG.out))) (aC z32))
     replace jG := aM (aj (kR_ jG.out) (al ho0) hb)
     replace HB := aM (aA z32 hb)
     (try clear hb)
     skip
     skip
     skip
     (try clear ho0)
     obtain ⟨vz, vq, eo20⟩ := Kd.R_slice jG.out
     (first | subst eo20 | (injection eo20 with f1_ f2_ f3_; have f4_ := f1_.symm; have f5_ := f3_.symm; clear f1_ f2_ f3_; subst f4_; subst f5_))
     obtain ⟨tW, qQ, eo21⟩ := Kd.R_slice nV.out
     (first | subst eo21 | (injection eo21 with f1_ f2_ f3_; have f4_ := f1_.symm; have f5_ := f3_.symm; clear f1_ f2_ f3_; subst f4_; subst f5_))
     refine hK.out _ _ trivial (fun hHeld => ?_)
     clear hK K
     refine norm_ (a' := ?_) ?_ ?_
     rotate_left
     ·show Act.put _ (some 25) _ = _
      simp only [Act.put, sA, sB, sC, i64_w, i32_w]
      rfl
     refine one_ (i := 8) (N := some 26) #[true, true, true, true, true, true, true, true, true, false] rfl rfl (one_of HT_.out z1) z0 (fun K hK => ?_)
     refine goes_ Try.func29 z1 rfl #[.slice vz mD.length vq, .slice tW mC.length qQ] (by rfl) rfl rfl z33 ?_
     with_reducible refine (join_own k mD vz vq mC tW qQ mB _ ?side1 ?side2 ?side3 ?side4 iP.out).mono ?_
     (case side1 => repeat (first | exact (ai jG.out).2.2 | (with_reducible refine aH ?_ _) | (with_reducible refine aI ?_ _) | (with_reducible refine aJ ?_)))
     (case side2 => exact (ai jG.out).2.1)
     (case side3 => repeat (first | exact (ai nV.out).2.2 | (with_reducible refine aH ?_ _) | (with_reducible refine aI ?_ _) | (with_reducible refine aJ ?_)))
     (case side4 => exact (ai nV.out).2.1)
     rintro e w22 ⟨vY, qf, rfl, hcase, hb⟩
     refine ⟨_, rfl, ?_⟩
     have bb : Aside0 (Kd.R k101 101 w22 w.heap.size (fun _ => True) (.slice vY mB.length qf) mB) := ⟨by
      rcases hcase with ⟨rfl, rfl, rfl⟩ | ⟨rfl, rfl, rfl⟩ | h_
      ·exact ah (ag (kR_ nV.out) hb) (fun _ _ => trivial)
      ·exact ah (ag (kR_ jG.out) hb) (fun _ _ => trivial)
      ·exact aW h_ (aC z32)⟩
     have bc := aM (aA z32 hb)
     clear HB jG nV hcase hb
     have HO153 := bb
     have HB := bc
     clear bb bc
     refine hK.out _ _ trivial (fun hHeld => ?_)
     clear hK K
     refine norm_ (a' := ?_) ?_ ?_
     rotate_left
     ·show Act.put _ (some 26) _ = _
      simp only [Act.put, sA, sB, sC, i64_w, i32_w]
      rfl
     refine pA 9 2 ?_
     refine done_ (done_of HT_.out z1) ?_
     try go_wp2
     go_ret
     exact ⟨_, by first | rfl | (simp [errW_none, errW_some] <;> rfl) | (simp only [← qc]; first | rfl | (simp [errW_none, errW_some] <;> rfl)) | (simp [*, errW_none, errW_some] <;> rfl), by (with_reducible repeat (first | apply ae | apply ac | apply aa)); exact HO153.out, y5⟩
    ·rw [if_neg c9] at H
     exact absurd H (by simp)
   ·rw [if_neg c8] at H
    exact absurd H (by simp)

end Go.Proofs.Ytblnnbaeiggmoaa.AFnSplit
