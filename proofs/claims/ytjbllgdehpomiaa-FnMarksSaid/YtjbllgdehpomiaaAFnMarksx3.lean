-- this session's own text: written by wip/tools/ownprint.py over the kit's print
import Derived.Test.YtjbllgdehpomiaaAFnMarksx0
namespace Go.Proofs.Ytjbllgdehpomiaa.AFnMarks
open Go.RowKit Go.Proofs.YtjbllgdehpomiaaW.PrintWords Go.Proofs.YtjbllgdehpomiaaW.PrintLast Go.Proofs.YtjbllgdehpomiaaW.PrintMore
attribute [local go_sem] max2_int min2_int max_two min_two max_three min_three max_four min_four   -- for this text's walks alone
set_option linter.unusedVariables false
set_option linter.unusedSimpArgs false
set_option maxHeartbeats 8000000
set_option maxRecDepth 100000
theorem eqA34 (d : Nat) (w : World) (x0 y0 : Int) (x1 y1 : Int) (x2 y2 : ByteArray) :
  (Op.equalIn (d + 2) 34 (.agg #[.int .i64 x0, .int .i64 x1, .string x2]) (.agg #[.int .i64 y0, .int .i64 y1, .string y2])).run Try.prog w = .ok (x0 == y0 && (x1 == y1 && (x2.toList == y2.toList))) w := by
 refine eqA_of Try.underlying34 z0 ?_
 refine eqf_cons (by rfl) (by go_simp; rfl) (by go_simp; rfl) (by go_simp) ?_
 refine eqf_cons (by rfl) (by go_simp; rfl) (by go_simp; rfl) (by go_simp) ?_
 exact eqf_last (by rfl) (by go_simp; rfl) (by go_simp; rfl) (by go_simp)
/-- A state of type 48 at block g of W; what its slices lead to came in by w0. -/
def IsS48 (w0 W : World) (g : Nat) (f0 : List Int) (f1 : Int) (f2 : Int) : Prop := ∃ A0 c0, W.heap[g]? = some (.cells #[.slice A0 f0.length c0, .int .i64 f1, .int .u64 f2] 48 (0, 0)) ∧ w0.heap.size ≤ g ∧ Kd.C (Kd.int .u8) w0 A0 f0.length f0
theorem IsS48.grown {w0 W : World} {g : Nat} {f0 : List Int} {f1 : Int} {f2 : Int} {W1 : World} {row : Option Nat} (h : IsS48 w0 W g f0 f1 f2) (hw : W.grownBy W1 row) (hne : some g ≠ row) : IsS48 w0 W1 g f0 f1 f2 := by
 obtain ⟨A0, c0, hb, hg, hr0⟩ := h
 exact ⟨A0, c0, blk_grown hb hw hne, hg, hr0⟩
theorem IsS48.kept {w0 W : World} {g : Nat} {f0 : List Int} {f1 : Int} {f2 : Int} {W1 : World} {S : Nat → Prop} (h : IsS48 w0 W g f0 f1 f2) (hk : Kept W W1 S) (hne : ¬ S g) : IsS48 w0 W1 g f0 f1 f2 := by
 obtain ⟨A0, c0, hb, hg, hr0⟩ := h
 exact ⟨A0, c0, blk_kept hb hk hne, hg, hr0⟩
theorem IsS48.below {w0 W : World} {g : Nat} {f0 : List Int} {f1 : Int} {f2 : Int} {W1 : World} (h : IsS48 w0 W g f0 f1 f2) (hw : Below W.heap.size W W1) : IsS48 w0 W1 g f0 f1 f2 := h.grown (grown_of_below hw none) (by simp)
theorem IsS48.alloc {w0 W : World} {g : Nat} {f0 : List Int} {f1 : Int} {f2 : Int} (h : IsS48 w0 W g f0 f1 f2) (o : Obj) : IsS48 w0 (W.alloc o) g f0 f1 f2 := h.below (bA (Below.refl _ _) o)
theorem IsS48.drewN {w0 W : World} {g : Nat} {f0 : List Int} {f1 : Int} {f2 : Int} (h : IsS48 w0 W g f0 f1 f2) (m : Nat) : IsS48 w0 (W.drewN m) g f0 f1 f2 := h
theorem IsS48.drew {w0 W : World} {g : Nat} {f0 : List Int} {f1 : Int} {f2 : Int} (h : IsS48 w0 W g f0 f1 f2) : IsS48 w0 W.drew g f0 f1 f2 := h
theorem IsS48.at_ {w0 W : World} {g : Nat} {f0 : List Int} {f1 : Int} {f2 : Int} {w' : World} {m : Nat} (hq : W.drewN m = w') (h : IsS48 w0 W g f0 f1 f2) : IsS48 w0 w' g f0 f1 f2 := by subst hq; exact IsS48.drewN h m
theorem IsS48.apart {w0 W : World} {g : Nat} {f0 : List Int} {f1 : Int} {f2 : Int} {α : Type} {d : Kd α} {e : Nat} {base : Nat} {ok : Nat → Prop} {v : Value} {xs : List α} (h : IsS48 w0 W g f0 f1 f2) (ho : d.R e W base ok v xs) (ht : ∀ q, q ∈ e :: d.E → q ≠ 48) : d.R e W base (fun k => ok k ∧ k ≠ g) v xs := by
 obtain ⟨A0, c0, hb, hg, hr0⟩ := h
 exact Kd.R_types ho hb ht
theorem IsS48.own_ne {w0 W : World} {g : Nat} {f0 : List Int} {f1 : Int} {f2 : Int} {α : Type} {d : Kd α} {e : Nat} {base : Nat} {ok : Nat → Prop} {v : Value} {xs : List α} (h : IsS48 w0 W g f0 f1 f2) (ho : d.R e W base ok v xs) (ht : e ≠ 48) : some g ≠ v.ownBlock := by
 obtain ⟨A0, c0, hb, hg, hr0⟩ := h
 exact Kd.R_ne ho hb ht
theorem IsS48.lt {w0 W : World} {g : Nat} {f0 : List Int} {f1 : Int} {f2 : Int} (h : IsS48 w0 W g f0 f1 f2) : g < W.heap.size := by
 obtain ⟨A0, c0, hb, hg, hr0⟩ := h
 exact blk_lt hb
theorem IsS48.ge {w0 W : World} {g : Nat} {f0 : List Int} {f1 : Int} {f2 : Int} (h : IsS48 w0 W g f0 f1 f2) : w0.heap.size ≤ g := by
 obtain ⟨A0, c0, hb, hg, hr0⟩ := h
 exact hg
theorem IsS48.far {w0 W : World} {g : Nat} {f0 : List Int} {f1 : Int} {f2 : Int} {p : Addr} (h : IsS48 w0 W g f0 f1 f2) (hne : g ≠ p.block) (u : Value) : IsS48 w0 (W.setCell p u) g f0 f1 f2 := by
 obtain ⟨A0, c0, hb, hg, hr0⟩ := h
 exact ⟨A0, c0, blk_far hb hne u, hg, hr0⟩
theorem cellS48_0 {W : World} {g : Nat} {A0 : Option Addr} {c0 : Nat} {f0 : List Int} {f1 : Int} {f2 : Int} (h : W.heap[g]? = some (.cells #[.slice A0 f0.length c0, .int .i64 f1, .int .u64 f2] 48 (0, 0))) : W.cell? ⟨g, 0, none⟩ = some (.slice A0 f0.length c0) := (bC h 0).trans rfl
theorem cellS48_1 {W : World} {g : Nat} {A0 : Option Addr} {c0 : Nat} {f0 : List Int} {f1 : Int} {f2 : Int} (h : W.heap[g]? = some (.cells #[.slice A0 f0.length c0, .int .i64 f1, .int .u64 f2] 48 (0, 0))) : W.cell? ⟨g, 1, none⟩ = some (.int .i64 f1) := (bC h 1).trans rfl
theorem IsS48.set_1 {w0 W : World} {g : Nat} {f0 : List Int} {f1 : Int} {f2 : Int} (h : IsS48 w0 W g f0 f1 f2) (x : Int) : IsS48 w0 (W.setCell ⟨g, 1, none⟩ (.int .i64 x)) g f0 x f2 := by
 obtain ⟨A0, c0, hb, hg, hr0⟩ := h
 exact ⟨A0, c0, by simpa using blk_set hb 1 (.int .i64 x), hg, hr0⟩
theorem cellS48_2 {W : World} {g : Nat} {A0 : Option Addr} {c0 : Nat} {f0 : List Int} {f1 : Int} {f2 : Int} (h : W.heap[g]? = some (.cells #[.slice A0 f0.length c0, .int .i64 f1, .int .u64 f2] 48 (0, 0))) : W.cell? ⟨g, 2, none⟩ = some (.int .u64 f2) := (bC h 2).trans rfl
theorem IsS48.set_2 {w0 W : World} {g : Nat} {f0 : List Int} {f1 : Int} {f2 : Int} (h : IsS48 w0 W g f0 f1 f2) (x : Int) : IsS48 w0 (W.setCell ⟨g, 2, none⟩ (.int .u64 x)) g f0 f1 x := by
 obtain ⟨A0, c0, hb, hg, hr0⟩ := h
 exact ⟨A0, c0, by simpa using blk_set hb 2 (.int .u64 x), hg, hr0⟩
theorem IsS48.new (w0 W : World) (A0 : Option Addr) (c0 : Nat) (f0 : List Int) (f1 : Int) (f2 : Int) (hB : Below w0.heap.size w0 W) (hr0 : Kd.C (Kd.int .u8) w0 A0 f0.length f0) : IsS48 w0 (W.alloc (.cells #[.slice A0 f0.length c0, .int .i64 f1, .int .u64 f2] 48)) W.heap.size f0 f1 f2 := ⟨A0, c0, by simpa using heap_alloc_new W _, hB.size, hr0⟩

/-! ### spec_l1Cur_next: function 49 -/
def spec_l1Cur_next.f (s0_0 : List Int) (s0_1 : Int) (s0_2 : Int) : Option (Int × Int × Int) := if s0_1 < (s0_0.length : Int) then (if 0 ≤ s0_1 then (if (wrap64 (s0_1 + 1)) ≤ (s0_0.length : Int) then (some (wrap64 (rd s0_0 s0_1), wrap64 (s0_1 + 1), IntKind.u64.wrap ((IntKind.u64.wrap ((IntKind.u64.wrap (s0_2 * 6364136223846793005)) + (IntKind.u64.wrap (wrap64 (rd s0_0 s0_1))))) + 1442695040888963407))) else (some (wrap64 (Go.bits .and .u64 ((IntKind.u64.wrap ((IntKind.u64.wrap ((IntKind.u64.wrap (s0_2 * 6364136223846793005)) + (IntKind.u64.wrap (wrap64 (rd s0_0 s0_1))))) + 1442695040888963407)) / 1099511627776) 255), wrap64 (s0_1 + 1), IntKind.u64.wrap ((IntKind.u64.wrap ((IntKind.u64.wrap (s0_2 * 6364136223846793005)) + (IntKind.u64.wrap (wrap64 (rd s0_0 s0_1))))) + 1442695040888963407)))) else (none)) else (if (wrap64 (s0_1 + 1)) ≤ (s0_0.length : Int) then (some (0, wrap64 (s0_1 + 1), IntKind.u64.wrap ((IntKind.u64.wrap ((IntKind.u64.wrap (s0_2 * 6364136223846793005)) + 0)) + 1442695040888963407))) else (some (wrap64 (Go.bits .and .u64 ((IntKind.u64.wrap ((IntKind.u64.wrap ((IntKind.u64.wrap (s0_2 * 6364136223846793005)) + 0)) + 1442695040888963407)) / 1099511627776) 255), wrap64 (s0_1 + 1), IntKind.u64.wrap ((IntKind.u64.wrap ((IntKind.u64.wrap (s0_2 * 6364136223846793005)) + 0)) + 1442695040888963407))))
theorem spec_l1Cur_next.calls (g : Nat) (s0_0 : List Int) (s0_1 : Int) (s0_2 : Int) (r1 : Int) (r2 : Int) (r3 : Int) (w0 w : World) (hI : IsS48 w0 w g s0_0 s0_1 s0_2) (hB : Below w0.heap.size w0 w) (h : spec_l1Cur_next.f s0_0 s0_1 s0_2 = some (r1, r2, r3)) :
  Calls Try.prog 49 #[.pointer (some ⟨g, 0, none⟩)] w fun e w' => e = .returned (.int .i64 r1) ∧ IsS48 w0 w' g s0_0 r2 r3 ∧ Below w0.heap.size w0 w' ∧ KeepBut w w' g none := by
 have HI0 := aM hI
 have HK := aM (KeepBut.refl w g none)
 have HL := aM hB.size
 clear hI
 have HW0 := aM hB.size
 have HB := aM hB
 clear hB
 have H : (if s0_1 < (s0_0.length : Int) then (if 0 ≤ s0_1 then (if (wrap64 (s0_1 + 1)) ≤ (s0_0.length : Int) then (some (wrap64 (rd s0_0 s0_1), wrap64 (s0_1 + 1), IntKind.u64.wrap ((IntKind.u64.wrap ((IntKind.u64.wrap (s0_2 * 6364136223846793005)) + (IntKind.u64.wrap (wrap64 (rd s0_0 s0_1))))) + 1442695040888963407))) else (some (wrap64 (Go.bits .and .u64 ((IntKind.u64.wrap ((IntKind.u64.wrap ((IntKind.u64.wrap (s0_2 * 6364136223846793005)) + (IntKind.u64.wrap (wrap64 (rd s0_0 s0_1))))) + 1442695040888963407)) / 1099511627776) 255), wrap64 (s0_1 + 1), IntKind.u64.wrap ((IntKind.u64.wrap ((IntKind.u64.wrap (s0_2 * 6364136223846793005)) + (IntKind.u64.wrap (wrap64 (rd s0_0 s0_1))))) + 1442695040888963407)))) else (none)) else (if (wrap64 (s0_1 + 1)) ≤ (s0_0.length : Int) then (some (0, wrap64 (s0_1 + 1), IntKind.u64.wrap ((IntKind.u64.wrap ((IntKind.u64.wrap (s0_2 * 6364136223846793005)) + 0)) + 1442695040888963407))) else (some (wrap64 (Go.bits .and .u64 ((IntKind.u64.wrap ((IntKind.u64.wrap ((IntKind.u64.wrap (s0_2 * 6364136223846793005)) + 0)) + 1442695040888963407)) / 1099511627776) 255), wrap64 (s0_1 + 1), IntKind.u64.wrap ((IntKind.u64.wrap ((IntKind.u64.wrap (s0_2 * 6364136223846793005)) + 0)) + 1442695040888963407))))) = some (r1, r2, r3) := h
 clear h
 by_cases c2 : s0_1 < (s0_0.length : Int)
 ·rw [if_pos c2] at H
  have c2b0 : decide (s0_1 < (s0_0.length : Int)) = true := dT c2
  clear c2
  by_cases c3 : 0 ≤ s0_1
  ·rw [if_pos c3] at H
   have c3b0 : decide (0 ≤ s0_1) = true := dT c3
   clear c3
   by_cases c4 : (wrap64 (s0_1 + 1)) ≤ (s0_0.length : Int)
   ·rw [if_pos c4] at H
    have c4b0 : decide ((wrap64 (s0_1 + 1)) ≤ (s0_0.length : Int)) = true := dT c4
    clear c4
    simp only [Option.some.injEq, Prod.mk.injEq] at H
    obtain ⟨rfl, rfl, rfl⟩ := H
    obtain ⟨ASz5_0, cSz5_0, HGz5, hgz5, HSz5_0⟩ := HI0.out
    have hcz5_0 := cellS48_0 HGz5
    have hcz5_1 := cellS48_1 HGz5
    have hcz5_2 := cellS48_2 HGz5
    have hfz5_1 := bF HGz5 1
    have hfz5_2 := bF HGz5 2
    clear HGz5 hgz5
    have p101 : 0 ≤ (s0_1 : Int) := oD z2
    have q101 : s0_1 < (s0_0.length : Int) := oD z2
    obtain ⟨ad101, e101, hx101_0⟩ := Kd.at_int HSz5_0 s0_1 p101 q101
    cases e101
    replace hx101_0 := pw_cell_below HB.out hx101_0
    replace p101 := eq_true p101
    replace q101 := eq_true q101
    go_enter Try.func49, Try.ntmps49
    go_wp2
    repeat (go_quiet (fail); try go_wp2)
    go_ret
    exact ⟨y5, y37, y30, y33⟩
   ·rw [if_neg c4] at H
    have c4b0 : decide ((wrap64 (s0_1 + 1)) ≤ (s0_0.length : Int)) = false := dF c4
    clear c4
    simp only [Option.some.injEq, Prod.mk.injEq] at H
    obtain ⟨rfl, rfl, rfl⟩ := H
    obtain ⟨ASz6_0, cSz6_0, HGz6, hgz6, HSz6_0⟩ := HI0.out
    have kW := cellS48_0 HGz6
    have kV := cellS48_1 HGz6
    have kU := cellS48_2 HGz6
    have kF := bF HGz6 1
    have kE := bF HGz6 2
    clear HGz6 hgz6
    have p101 : 0 ≤ (s0_1 : Int) := oD z2
    have q101 : s0_1 < (s0_0.length : Int) := oD z2
    obtain ⟨ad101, e101, hx101_0⟩ := Kd.at_int HSz6_0 s0_1 p101 q101
    cases e101
    replace hx101_0 := pw_cell_below HB.out hx101_0
    replace p101 := eq_true p101
    replace q101 := eq_true q101
    go_enter Try.func49, Try.ntmps49
    go_wp2
    repeat (go_quiet (fail); try go_wp2)
    go_ret
    exact ⟨y5, y37, y30, y33⟩
  ·rw [if_neg c3] at H
   exact absurd H (by simp)
 ·rw [if_neg c2] at H
  have c2b0 : decide (s0_1 < (s0_0.length : Int)) = false := dF c2
  clear c2
  by_cases c7 : (wrap64 (s0_1 + 1)) ≤ (s0_0.length : Int)
  ·rw [if_pos c7] at H
   have c7b0 : decide ((wrap64 (s0_1 + 1)) ≤ (s0_0.length : Int)) = true := dT c7
   clear c7
   simp only [Option.some.injEq, Prod.mk.injEq] at H
   obtain ⟨rfl, rfl, rfl⟩ := H
   obtain ⟨ASz8_0, cSz8_0, HGz8, hgz8, HSz8_0⟩ := HI0.out
   have fi := cellS48_0 HGz8
   have fh := cellS48_1 HGz8
   have fg := cellS48_2 HGz8
   have e3 := bF HGz8 1
   have e1 := bF HGz8 2
   clear HGz8 hgz8
   go_enter Try.func49, Try.ntmps49
   go_wp2
   repeat (go_quiet (fail); try go_wp2)
   go_ret
   exact ⟨y5, y37, y30, y33⟩
  ·rw [if_neg c7] at H
   have c7b0 : decide ((wrap64 (s0_1 + 1)) ≤ (s0_0.length : Int)) = false := dF c7
   clear c7
   simp only [Option.some.injEq, Prod.mk.injEq] at H
   obtain ⟨rfl, rfl, rfl⟩ := H
   obtain ⟨ASz9_0, cSz9_0, HGz9, hgz9, HSz9_0⟩ := HI0.out
   have dc := cellS48_0 HGz9
   have db := cellS48_1 HGz9
   have da := cellS48_2 HGz9
   have cZ := bF HGz9 1
   have cY := bF HGz9 2
   clear HGz9 hgz9
   go_enter Try.func49, Try.ntmps49
   go_wp2
   repeat (go_quiet (fail); try go_wp2)
   go_ret
   exact ⟨y5, y37, y30, y33⟩

/-! ### spec_l1Cur_pick: function 29 -/
def spec_l1Cur_pick.f (s0_0 : List Int) (s0_1 : Int) (s0_2 : Int) (a1 : Int) : Option (Int × Int × Int) := if a1 ≤ 1 then (some (0, s0_1, s0_2)) else ((spec_l1Cur_next.f s0_0 s0_1 s0_2).bind fun eS => (if a1 > 200 then ((spec_l1Cur_next.f s0_0 eS.2.1 eS.2.2).bind fun jK => (if a1 = 0 then (none) else (some (Int.tmod (wrap64 ((wrap64 (eS.1 * 256)) + jK.1)) a1, jK.2.1, jK.2.2)))) else (if a1 = 0 then (none) else (some (Int.tmod eS.1 a1, eS.2.1, eS.2.2)))))
theorem spec_l1Cur_pick.calls (g : Nat) (s0_0 : List Int) (s0_1 : Int) (s0_2 : Int) (a1 : Int) (r1 : Int) (r2 : Int) (r3 : Int) (w0 w : World) (hI : IsS48 w0 w g s0_0 s0_1 s0_2) (hB : Below w0.heap.size w0 w) (h : spec_l1Cur_pick.f s0_0 s0_1 s0_2 a1 = some (r1, r2, r3)) :
  Calls Try.prog 29 #[.pointer (some ⟨g, 0, none⟩), .int .i64 a1] w fun e w' => e = .returned (.int .i64 r1) ∧ IsS48 w0 w' g s0_0 r2 r3 ∧ Below w0.heap.size w0 w' ∧ KeepBut w w' g none := by
 have HI0 := aM hI
 have HK := aM (KeepBut.refl w g none)
 have HL := aM hB.size
 clear hI
 have HW0 := aM hB.size
 have HB := aM hB
 clear hB
 have H : (if a1 ≤ 1 then (some (0, s0_1, s0_2)) else ((spec_l1Cur_next.f s0_0 s0_1 s0_2).bind fun eS => (if a1 > 200 then ((spec_l1Cur_next.f s0_0 eS.2.1 eS.2.2).bind fun jK => (if a1 = 0 then (none) else (some (Int.tmod (wrap64 ((wrap64 (eS.1 * 256)) + jK.1)) a1, jK.2.1, jK.2.2)))) else (if a1 = 0 then (none) else (some (Int.tmod eS.1 a1, eS.2.1, eS.2.2)))))) = some (r1, r2, r3) := h
 clear h
 by_cases c3 : a1 ≤ 1
 ·rw [if_pos c3] at H
  have c3b0 : decide (a1 ≤ 1) = true := dT c3
  clear c3
  simp only [Option.some.injEq, Prod.mk.injEq] at H
  obtain ⟨rfl, rfl, rfl⟩ := H
  go_enter Try.func29, Try.ntmps29
  go_wp2
  go_ret
  exact ⟨y5, y37, y30, y33⟩
 ·rw [if_neg c3] at H
  have c3b0 : decide (a1 ≤ 1) = false := dF c3
  clear c3
  obtain ⟨⟨sn, qA, qz⟩, A4, H⟩ := oA_ H
  try dsimp only at H
  by_cases c5 : a1 > 200
  ·rw [if_pos c5] at H
   have c5b0 : decide (200 < a1) = true := dT c5
   clear c5
   obtain ⟨⟨t105, t106, t107⟩, A6, H⟩ := oA_ H
   try dsimp only at H
   by_cases c7 : a1 = 0
   ·rw [if_pos c7] at H
    exact absurd H (by simp)
   ·rw [if_neg c7] at H
    have c7b0 : (a1 == 0) = false := qF c7
    have c7b1 : (a1 != 0) = true := nT c7
    simp only [Option.some.injEq, Prod.mk.injEq] at H
    obtain ⟨rfl, rfl, rfl⟩ := H
    go_enter Try.func29, Try.ntmps29
    go_wp2_with (first | ((with_reducible refine ax (f := 49) rfl ?_); refine aC (some 9) rfl rfl Try.func49 z0 rfl #[.pointer (some ⟨g, 0, none⟩)] rfl z10 ?_; (with_reducible refine (spec_l1Cur_next.calls g s0_0 s0_1 s0_2 sn qA qz w0 _ ?side1 ?side2 A4.out).mono ?_); (case side1 => exact y68); (case side2 => exact y54); rintro e w8 ⟨rfl, hi, hb, hk⟩; refine ⟨_, rfl, ?_⟩; replace HK := aM (KeepBut.trans z11 hk (.inl rfl)); replace HB := aM hb; replace HI0 := aM hi; (try clear hb hk hi); (try clear cj)) | ((with_reducible refine ax (f := 49) rfl ?_); refine aC (some 15) rfl rfl Try.func49 z0 rfl #[.pointer (some ⟨g, 0, none⟩)] rfl z10 ?_; (with_reducible refine (spec_l1Cur_next.calls g s0_0 qA qz t105 t106 t107 w0 _ ?side1 ?side2 A6.out).mono ?_); (case side1 => exact y68); (case side2 => exact y54); rintro e w9 ⟨rfl, hi, hb, hk⟩; refine ⟨_, rfl, ?_⟩; replace HK := aM (KeepBut.trans z11 hk (.inl rfl)); replace HB := aM hb; replace HI0 := aM hi; (try clear hb hk hi); (try clear cj)))
    go_ret
    exact ⟨y5, y37, y30, y33⟩
  ·rw [if_neg c5] at H
   have c5b0 : decide (200 < a1) = false := dF c5
   clear c5
   by_cases cq : a1 = 0
   ·rw [if_pos cq] at H
    exact absurd H (by simp)
   ·rw [if_neg cq] at H
    have c10b0 : (a1 == 0) = false := qF cq
    have c10b1 : (a1 != 0) = true := nT cq
    simp only [Option.some.injEq, Prod.mk.injEq] at H
    obtain ⟨rfl, rfl, rfl⟩ := H
    go_enter Try.func29, Try.ntmps29
    go_wp2_with (first | ((with_reducible refine ax (f := 49) rfl ?_); refine aC (some 9) rfl rfl Try.func49 z0 rfl #[.pointer (some ⟨g, 0, none⟩)] rfl z10 ?_; (with_reducible refine (spec_l1Cur_next.calls g s0_0 s0_1 s0_2 sn qA qz w0 _ ?side1 ?side2 A4.out).mono ?_); (case side1 => exact y68); (case side2 => exact y54); rintro e w11 ⟨rfl, hi, hb, hk⟩; refine ⟨_, rfl, ?_⟩; replace HK := aM (KeepBut.trans z11 hk (.inl rfl)); replace HB := aM hb; replace HI0 := aM hi; (try clear hb hk hi); (try clear cj)))
    go_ret
    exact ⟨y5, y37, y30, y33⟩

/-! ### spec_l1Cur_of: function 30 -/
def spec_l1Cur_of.f (s0_0 : List Int) (s0_1 : Int) (s0_2 : Int) (l1 : List ByteArray) : Option (ByteArray × Int × Int) := (spec_l1Cur_pick.f s0_0 s0_1 s0_2 (l1.length : Int)).bind fun fW => (if 0 ≤ fW.1 then (if fW.1 < (l1.length : Int) then (some (rdOf ByteArray.empty l1 fW.1, fW.2.1, fW.2.2)) else (none)) else (none))
theorem spec_l1Cur_of.calls (g : Nat) (s0_0 : List Int) (s0_1 : Int) (s0_2 : Int) (A1 : Option Addr) (c1 : Nat) (l1 : List ByteArray) (r1 : ByteArray) (r2 : Int) (r3 : Int) (w0 w : World) (hI : IsS48 w0 w g s0_0 s0_1 s0_2) (hB : Below w0.heap.size w0 w) (hr1 : Kd.C Kd.string w A1 l1.length l1) (hc1 : l1.length ≤ c1) (hf1 : ∀ ad, A1 = some ad → 0 < l1.length → ad.block ≠ g) (h : spec_l1Cur_of.f s0_0 s0_1 s0_2 l1 = some (r1, r2, r3)) :
  Calls Try.prog 30 #[.pointer (some ⟨g, 0, none⟩), .slice A1 l1.length c1] w fun e w' => e = .returned (.string r1) ∧ IsS48 w0 w' g s0_0 r2 r3 ∧ Below w0.heap.size w0 w' ∧ KeepBut w w' g none := by
 have lp := aM hr1
 have pU := aM hc1
 clear hr1 hc1
 have HI0 := aM hI
 have HK := aM (KeepBut.refl w g none)
 have HL := aM hB.size
 clear hI
 have HW0 := aM hB.size
 have HB := aM hB
 clear hB
 have H : ((spec_l1Cur_pick.f s0_0 s0_1 s0_2 (l1.length : Int)).bind fun fW => (if 0 ≤ fW.1 then (if fW.1 < (l1.length : Int) then (some (rdOf ByteArray.empty l1 fW.1, fW.2.1, fW.2.2)) else (none)) else (none))) = some (r1, r2, r3) := h
 clear h
 obtain ⟨⟨ls, t109, t110⟩, A3, H⟩ := oA_ H
 try dsimp only at H
 by_cases c4 : 0 ≤ ls
 ·rw [if_pos c4] at H
  have c4b0 : decide (0 ≤ ls) = true := dT c4
  clear c4
  by_cases c5 : ls < (l1.length : Int)
  ·rw [if_pos c5] at H
   have c5b0 : decide (ls < (l1.length : Int)) = true := dT c5
   clear c5
   simp only [Option.some.injEq, Prod.mk.injEq] at H
   obtain ⟨rfl, rfl, rfl⟩ := H
   go_enter Try.func30, Try.ntmps30
   go_wp2_with (first | ((with_reducible refine ax (f := 29) rfl ?_); refine aC (some 9) rfl rfl Try.func29 z0 rfl #[.pointer (some ⟨g, 0, none⟩), .int .i64 (l1.length : Int)] rfl z10 ?_; (with_reducible refine (spec_l1Cur_pick.calls g s0_0 s0_1 s0_2 (l1.length : Int) ls t109 t110 w0 _ ?side1 ?side2 A3.out).mono ?_); (case side1 => exact y68); (case side2 => exact y54); rintro e w6 ⟨rfl, hi, hb, hk⟩; refine ⟨_, rfl, ?_⟩; replace HK := aM (KeepBut.trans z11 hk (.inl rfl)); replace HB := aM hb; replace HI0 := aM hi; (try clear hb hk hi); (try clear cj); have p111 : 0 ≤ (ls : Int) := oD z2; have q111 : ls < (l1.length : Int) := oD z2; obtain ⟨ad111, e111, hx111_0⟩ := Kd.at_string lp.out ls p111 q111; cases e111; replace hx111_0 := keep_cell HK.out hx111_0 (by first | (rw [add_block]; exact hf1 _ rfl (by omega)) | exact hf1 _ rfl (by omega) | exact hf1 ad111 rfl (by omega)); replace p111 := eq_true p111; replace q111 := eq_true q111))
   go_ret
   exact ⟨y5, y37, y30, y33⟩
  ·rw [if_neg c5] at H
   exact absurd H (by simp)
 ·rw [if_neg c4] at H
  exact absurd H (by simp)

/-! ### spec_l1Cur_one: function 36 -/
def spec_l1Cur_one.f (s0_0 : List Int) (s0_1 : Int) (s0_2 : Int) (a1 : Int) : Option (Bool × Int × Int) := (spec_l1Cur_pick.f s0_0 s0_1 s0_2 a1).bind fun jJ => (some ((jJ.1 == 0), jJ.2.1, jJ.2.2))
theorem spec_l1Cur_one.calls (g : Nat) (s0_0 : List Int) (s0_1 : Int) (s0_2 : Int) (a1 : Int) (r1 : Bool) (r2 : Int) (r3 : Int) (w0 w : World) (hI : IsS48 w0 w g s0_0 s0_1 s0_2) (hB : Below w0.heap.size w0 w) (h : spec_l1Cur_one.f s0_0 s0_1 s0_2 a1 = some (r1, r2, r3)) :
  Calls Try.prog 36 #[.pointer (some ⟨g, 0, none⟩), .int .i64 a1] w fun e w' => e = .returned (.bool r1) ∧ IsS48 w0 w' g s0_0 r2 r3 ∧ Below w0.heap.size w0 w' ∧ KeepBut w w' g none := by
 have HI0 := aM hI
 have HK := aM (KeepBut.refl w g none)
 have HL := aM hB.size
 clear hI
 have HW0 := aM hB.size
 have HB := aM hB
 clear hB
 have H : ((spec_l1Cur_pick.f s0_0 s0_1 s0_2 a1).bind fun jJ => (some ((jJ.1 == 0), jJ.2.1, jJ.2.2))) = some (r1, r2, r3) := h
 clear h
 obtain ⟨⟨t112, t113, t114⟩, A3, H⟩ := oA_ H
 try dsimp only at H
 simp only [Option.some.injEq, Prod.mk.injEq] at H
 obtain ⟨rfl, rfl, rfl⟩ := H
 go_enter Try.func36, Try.ntmps36
 go_wp2_with (first | ((with_reducible refine ax (f := 29) rfl ?_); refine aC (some 7) rfl rfl Try.func29 z0 rfl #[.pointer (some ⟨g, 0, none⟩), .int .i64 a1] rfl z10 ?_; (with_reducible refine (spec_l1Cur_pick.calls g s0_0 s0_1 s0_2 a1 t112 t113 t114 w0 _ ?side1 ?side2 A3.out).mono ?_); (case side1 => exact y68); (case side2 => exact y54); rintro e w4 ⟨rfl, hi, hb, hk⟩; refine ⟨_, rfl, ?_⟩; replace HK := aM (KeepBut.trans z11 hk (.inl rfl)); replace HB := aM hb; replace HI0 := aM hi; (try clear hb hk hi); (try clear cj)))
 go_ret
 exact ⟨y5, y37, y30, y33⟩

/-! ### spec_l1Cur_opOn: function 34 -/
mutual
def spec_l1Cur_opOn.l0 : Nat → ByteArray → List (S68) → Int → List Int → Int → Int → Option ((List (S68)) × Int × Int)
 | 0, _, _, _, _, _, _ => none
 | k + 1, x1, x5, x6, x1000, x1001, x1002 => if x6 < (x1.size : Int) then ((spec_l1Cur_pick.f x1000 x1001 x1002 5).bind fun kk => (if (wrap64 (1 + kk.1)) > (wrap64 ((x1.size : Int) - x6)) then (spec_l1Cur_opOn.j1 k x1 x5 x6 (wrap64 ((x1.size : Int) - x6)) x1000 kk.2.1 kk.2.2) else (spec_l1Cur_opOn.j1 k x1 x5 x6 (wrap64 (1 + kk.1)) x1000 kk.2.1 kk.2.2))) else ((spec_l1Cur_one.f x1000 x1001 x1002 3).bind fun lJ => (if lJ.1 = true then ((spec_l1Cur_of.f x1000 lJ.2.1 lJ.2.2 (([(⟨#[101, 110, 100]⟩ : ByteArray), (⟨#[46]⟩ : ByteArray)] : List ByteArray))).bind fun jH => (if x5.length < 3518437208883 then (some ((x5 ++ [(⟨0, jH.1, (⟨#[]⟩ : ByteArray)⟩ : S68)]), jH.2.1, jH.2.2)) else (none))) else (some (x5, lJ.2.1, lJ.2.2))))
def spec_l1Cur_opOn.j1 : Nat → ByteArray → List (S68) → Int → Int → List Int → Int → Int → Option ((List (S68)) × Int × Int)
 | 0, _, _, _, _, _, _, _ => none
 | k + 1, x1, x5, x6, x7, x1000, x1001, x1002 => (spec_l1Cur_pick.f x1000 x1001 x1002 4).bind fun iP => (if iP.1 = 0 then (if 0 ≤ x6 then (if x6 ≤ (wrap64 (x6 + x7)) then (if (wrap64 (x6 + x7)) ≤ (x1.size : Int) then (if x5.length < 3518437208883 then (spec_l1Cur_opOn.l0 k x1 (x5 ++ [(⟨0, (⟨#[]⟩ : ByteArray), x1.extract (x6 : Int).toNat ((wrap64 (x6 + x7)) : Int).toNat⟩ : S68)]) (wrap64 (x6 + x7)) x1000 iP.2.1 iP.2.2) else (none)) else (none)) else (none)) else (none)) else (if iP.1 = 1 then ((spec_l1Cur_of.f x1000 iP.2.1 iP.2.2 (([(⟨#[120]⟩ : ByteArray), (⟨#[121, 121]⟩ : ByteArray), (⟨#[65, 47]⟩ : ByteArray), (⟨#[110, 101, 119]⟩ : ByteArray), (⟨#[66]⟩ : ByteArray)] : List ByteArray))).bind fun jI => (if x5.length < 3518437208883 then (spec_l1Cur_opOn.l0 k x1 (x5 ++ [(⟨0, jI.1, (⟨#[]⟩ : ByteArray)⟩ : S68)]) x6 x1000 jI.2.1 jI.2.2) else (none))) else (if x5.length < 3518437208883 then (spec_l1Cur_opOn.l0 k x1 (x5 ++ [(⟨x7, (⟨#[]⟩ : ByteArray), (⟨#[]⟩ : ByteArray)⟩ : S68)]) (wrap64 (x6 + x7)) x1000 iP.2.1 iP.2.2) else (none))))
end
def spec_l1Cur_opOn.f (k : Nat) (s0_0 : List Int) (s0_1 : Int) (s0_2 : Int) (a1 : ByteArray) : Option ((List (S68)) × Int × Int) := spec_l1Cur_opOn.l0 k a1 ([] : List (S68)) 0 s0_0 s0_1 s0_2
theorem spec_l1Cur_opOn.mono_l : ∀ k, (∀ y0 y1 y2 y3 y4 y5, LeO (spec_l1Cur_opOn.l0 k y0 y1 y2 y3 y4 y5) (spec_l1Cur_opOn.l0 (k + 1) y0 y1 y2 y3 y4 y5)) ∧ (∀ y0 y1 y2 y3 y4 y5 y6, LeO (spec_l1Cur_opOn.j1 k y0 y1 y2 y3 y4 y5 y6) (spec_l1Cur_opOn.j1 (k + 1) y0 y1 y2 y3 y4 y5 y6))
 | 0 => ⟨fun _ _ _ _ _ _ r h => by simp [spec_l1Cur_opOn.l0] at h, fun _ _ _ _ _ _ _ r h => by simp [spec_l1Cur_opOn.j1] at h⟩
 | k + 1 => by
  obtain ⟨ih0, ih1⟩ := spec_l1Cur_opOn.mono_l k
  refine ⟨?_, ?_⟩
  ·intro y0 y1 y2 y3 y4 y5
   unfold spec_l1Cur_opOn.l0
   with_reducible repeat' first | exact ih0 _ _ _ _ _ _ | exact ih1 _ _ _ _ _ _ _ | exact lR_ _ | exact lN_ _ | refine lI_ ?_ ?_ | refine lB_ ?_ fun _ => ?_
  ·intro y0 y1 y2 y3 y4 y5 y6
   unfold spec_l1Cur_opOn.j1
   with_reducible repeat' first | exact ih0 _ _ _ _ _ _ | exact ih1 _ _ _ _ _ _ _ | exact lR_ _ | exact lN_ _ | refine lI_ ?_ ?_ | refine lB_ ?_ fun _ => ?_
theorem spec_l1Cur_opOn.mono : ∀ a0 a1 a2 a3 k, LeO (spec_l1Cur_opOn.f k a0 a1 a2 a3) (spec_l1Cur_opOn.f (k + 1) a0 a1 a2 a3) := by
 intro a0 a1 a2 a3 k
 obtain ⟨ih0, ih1⟩ := spec_l1Cur_opOn.mono_l k
 unfold spec_l1Cur_opOn.f
 with_reducible repeat' first | exact ih0 _ _ _ _ _ _ | exact ih1 _ _ _ _ _ _ _ | exact lR_ _ | exact lN_ _ | refine lI_ ?_ ?_ | refine lB_ ?_ fun _ => ?_
theorem spec_l1Cur_opOn.calls (k : Nat) (g : Nat) (s0_0 : List Int) (s0_1 : Int) (s0_2 : Int) (a1 : ByteArray) (r1 : List (S68)) (r2 : Int) (r3 : Int) (w0 w : World) (hI : IsS48 w0 w g s0_0 s0_1 s0_2) (hB : Below w0.heap.size w0 w) (h : spec_l1Cur_opOn.f k s0_0 s0_1 s0_2 a1 = some (r1, r2, r3)) :
  Calls Try.prog 34 #[.pointer (some ⟨g, 0, none⟩), .string a1] w fun e w' => ∃ v0_ : Value, e = .returned (v0_) ∧ Kd.R k68 68 w' w.heap.size (fun _ => True) v0_ r1 ∧ IsS48 w0 w' g s0_0 r2 r3 ∧ Below w0.heap.size w0 w' ∧ KeepBut w w' g none := by
 have hu68 := Try.underlying68
 have HI0 := aM hI
 have HK := aM (KeepBut.refl w g none)
 have HL := aM hB.size
 clear hI
 have HW0 := aM hB.size
 have HB := aM hB
 clear hB
 have H : (spec_l1Cur_opOn.l0 k a1 ([] : List (S68)) 0 s0_0 s0_1 s0_2) = some (r1, r2, r3) := h
 clear h
 have H' := aM H
 clear H
 go_enter Try.func34, Try.ntmps34
 go_wp2
 go_loopg [5, 6] k (fun kq v5 v6 w' => ∃ (x5_1 : List (S68)) (x6_1 : Int) (x1001_1 : Int) (x1002_1 : Int), v6 = .int .i64 x6_1 ∧ Aside0 (spec_l1Cur_opOn.l0 kq a1 x5_1 x6_1 s0_0 x1001_1 x1002_1 = some (r1, r2, r3)) ∧ Aside0 (kq ≤ k) ∧ Aside0 (Kd.R k68 68 w' w.heap.size (fun _ => True) v5 x5_1) ∧ Aside0 (IsS48 w0 w' g s0_0 x1001_1 x1002_1) ∧ Aside0 (KeepBut w w' g none) ∧ Aside0 (Below w0.heap.size w0 w'))
 case atStart => exact ⟨(([] : List (S68))), (0), (s0_1), (s0_2), z1, H', ⟨Nat.le_refl _⟩, ⟨y29⟩, ⟨y37⟩, ⟨y33⟩, ⟨y30⟩⟩
 case round =>
  clear H'
  obtain ⟨x5_1, x6_1, x1001_1, x1002_1, rfl, HA, HK1, bi, HI0, HK, HB⟩ := hrel
  cases gk with
  | zero => exact absurd HA.out (by simp [spec_l1Cur_opOn.l0])
  | succ k1 =>
   have H := HA.out
   clear HA
   simp only [spec_l1Cur_opOn.l0] at H
   by_cases c3 : x6_1 < (a1.size : Int)
   ·rw [if_pos c3] at H
    have c3b0 : decide (x6_1 < (a1.size : Int)) = true := dT c3
    clear c3
    obtain ⟨⟨oF, kC, kB⟩, A4, H⟩ := oA_ H
    try dsimp only at H
    have mg := aM H
    clear H
    go_upto_if 20 with (first | ((with_reducible refine ax (f := 29) rfl ?_); refine aC (some 13) rfl rfl Try.func29 z0 rfl #[.pointer (some ⟨g, 0, none⟩), .int .i64 5] rfl z10 ?_; (with_reducible refine (spec_l1Cur_pick.calls g s0_0 x1001_1 x1002_1 5 oF kC kB w0 _ ?side1 ?side2 A4.out).mono ?_); (case side1 => exact y68); (case side2 => exact y54); rintro e w6 ⟨rfl, hi, hb, hk⟩; refine ⟨_, rfl, ?_⟩; replace bi := aM (ag (Kd.R_keep (IsS48.apart (show IsS48 w0 _ g s0_0 x1001_1 x1002_1 from ziHI0_) z3 (by decide)) hk (fun _ h => h.2)) (fun _ h => h.1)); replace HK := aM (KeepBut.trans z11 hk (.inl rfl)); replace HB := aM hb; replace HI0 := aM hi; (try clear hb hk hi); (try clear cj)))
    (try simp only [Act.put, sA, sB, sC])
    go_cut [7] (fun v7 wc => ∃ (kq : Nat) (x7_4 : Int), v7 = .int .i64 x7_4 ∧ Aside0 (spec_l1Cur_opOn.j1 kq a1 x5_1 x6_1 x7_4 s0_0 kC kB = some (r1, r2, r3)) ∧ Aside0 (kq ≤ k1) ∧ Aside0 (Kd.R k68 68 wc w.heap.size (fun _ => True) u5 x5_1) ∧ Aside0 (IsS48 w0 wc g s0_0 kC kB) ∧ Aside0 (KeepBut w wc g none) ∧ Aside0 (Below w0.heap.size w0 wc))
    case first =>
     have H := mg.out
     clear mg
     by_cases c7 : (wrap64 (1 + oF)) > (wrap64 ((a1.size : Int) - x6_1))
     ·rw [if_pos c7] at H
      have c7b0 : decide ((wrap64 ((a1.size : Int) - x6_1)) < (wrap64 (1 + oF))) = true := dT c7
      clear c7
      (first | rw [c7b0] | (simp only [i64_w, i32_w]; rw [c7b0]) | skip)
      have H' := aM H
      clear H
      go_wp2
      go_meet
      case rel => exact ⟨_, (wrap64 ((a1.size : Int) - x6_1)), z1, H', ⟨y3⟩, ⟨y9⟩, ⟨y37⟩, ⟨y33⟩, ⟨y30⟩⟩
     ·rw [if_neg c7] at H
      have c7b0 : decide ((wrap64 ((a1.size : Int) - x6_1)) < (wrap64 (1 + oF))) = false := dF c7
      clear c7
      (first | rw [c7b0] | (simp only [i64_w, i32_w]; rw [c7b0]) | skip)
      have H' := aM H
      clear H
      go_wp2
      go_meet
      case rel => exact ⟨_, (wrap64 (1 + oF)), z1, H', ⟨y3⟩, ⟨y9⟩, ⟨y37⟩, ⟨y33⟩, ⟨y30⟩⟩
    case rest =>
     clear mg
     try clear p2
     try clear c3
     try clear c3b0
     try clear p2
     obtain ⟨kq, x7_4, rfl, HA, kn, bi, HI0, HK, HB⟩ := hcut
     cases kq with
     | zero => exact absurd HA.out (by simp [spec_l1Cur_opOn.j1])
     | succ kj4 =>
      have H := HA.out
      clear HA
      simp only [spec_l1Cur_opOn.j1] at H
      obtain ⟨⟨iF, jp, jo⟩, A8, H⟩ := oA_ H
      try dsimp only at H
      by_cases c9 : iF = 0
      ·rw [if_pos c9] at H
       have c9b0 : (iF == 0) = true := qT c9
       have c9b1 : (iF != 0) = false := nF c9
       clear c9
       by_cases cq : 0 ≤ x6_1
       ·rw [if_pos cq] at H
        have c10b0 := eq_true cq
        have c10b1 : decide (0 ≤ x6_1) = true := dT cq
        clear cq
        by_cases b4 : x6_1 ≤ (wrap64 (x6_1 + x7_4))
        ·rw [if_pos b4] at H
         have c11b0 := eq_true b4
         have c11b1 : decide (x6_1 ≤ (wrap64 (x6_1 + x7_4))) = true := dT b4
         by_cases bT : (wrap64 (x6_1 + x7_4)) ≤ (a1.size : Int)
         ·rw [if_pos bT] at H
          have c12b0 := eq_true bT
          have c12b1 : decide ((wrap64 (x6_1 + x7_4)) ≤ (a1.size : Int)) = true := dT bT
          by_cases bU : x5_1.length < 3518437208883
          ·rw [if_pos bU] at H
           have LMc13 := aM bU
           clear bU
           obtain ⟨y121, hy121⟩ : ∃ y_ : List (S68), y_ = (x5_1 ++ [(⟨0, (⟨#[]⟩ : ByteArray), a1.extract (x6_1 : Int).toNat ((wrap64 (x6_1 + x7_4)) : Int).toNat⟩ : S68)]) := ⟨_, rfl⟩
           replace H : (spec_l1Cur_opOn.l0 kj4 a1 y121 (wrap64 (x6_1 + x7_4)) s0_0 jp jo) = some (r1, r2, r3) := zh_ hy121
           have Ny121 := aM hy121
           clear hy121
           have H' := aM H
           clear H
           go_wp2_with (first | ((with_reducible refine ax (f := 29) rfl ?_); refine aC (some 26) rfl rfl Try.func29 z0 rfl #[.pointer (some ⟨g, 0, none⟩), .int .i64 4] rfl z10 ?_; (with_reducible refine (spec_l1Cur_pick.calls g s0_0 kC kB 4 iF jp jo w0 _ ?side1 ?side2 A8.out).mono ?_); (case side1 => exact y68); (case side2 => exact y54); rintro e w14 ⟨rfl, hi, hb, hk⟩; refine ⟨_, rfl, ?_⟩; replace bi := aM (ag (Kd.R_keep (IsS48.apart (show IsS48 w0 _ g s0_0 kC kB from ziHI0_) z3 (by decide)) hk (fun _ h => h.2)) (fun _ h => h.1)); replace HK := aM (KeepBut.trans z11 hk (.inl rfl)); replace HB := aM hb; replace HI0 := aM hi; (try clear hb hk hi); (try clear cj)) | ((with_reducible refine gate_builtin (b := .append) (xs := #[.tmp 37, .tmp 45]) rfl ?_); at_builtin; refine aE k68 w.heap.size rfl (.tmp 37) (.tmp 45) 23 68 (.agg #[(.int .i64 0), (.string ⟨#[]⟩), (.string ⟨#[]⟩)]) 40 rfl Try.underlying23 info68 rfl (by decide) (by omega) u5 x5_1 (⟨0, (⟨#[]⟩ : ByteArray), a1.extract (x6_1 : Int).toNat ((wrap64 (x6_1 + x7_4)) : Int).toNat⟩ : S68) [.int .i64 0, .string ⟨#[]⟩, .string (a1.extract (x6_1 : Int).toNat ((wrap64 (x6_1 + x7_4)) : Int).toNat)] (fun _ => True) (fun _ => False) rfl rfl ?aP (fun _ hk => hk.elim) ?aF ?aO (Below.refl _ _) ?aS ?aL ?_; (case aP => exact k68_mkM _ _ _ (⟨0, (⟨#[]⟩ : ByteArray), a1.extract (x6_1 : Int).toNat ((wrap64 (x6_1 + x7_4)) : Int).toNat⟩ : S68)); (case aF => exact (fun _ _ => trivial)); (case aO => exact z3); (case aS => exact (keep_size (w := w) (g := g) (row := none) z11)); (case aL => have := LMc13.out; omega); intro v122 w15 ho hb hg hat; rw [← Ny121.out] at ho; replace HB := aM (below_weaken z16 HL.out hb); replace HI0 := aM (IsS48.grown z19 hg (IsS48.own_ne HI0.out bi.out (by decide))); replace HK := aM (KeepBut.trans z11 (KeepBut.of_grown hg g) (Kd.R_base2 bi.out)); have HO123 := aM (ho); clear bi; clear ho hb hg hat))
           go_roundg kj4
           case measure => have := HK1.out; have := kn.out; omega
           case rel => exact ⟨(y121), (wrap64 (x6_1 + x7_4)), (jp), (jo), z1, H', ⟨by have := HK1.out; have := kn.out; omega⟩, ⟨kR_ HO123.out⟩, ⟨y37⟩, ⟨y33⟩, ⟨y30⟩⟩
          ·rw [if_neg bU] at H
           exact absurd H (by simp)
         ·rw [if_neg bT] at H
          exact absurd H (by simp)
        ·rw [if_neg b4] at H
         exact absurd H (by simp)
       ·rw [if_neg cq] at H
        exact absurd H (by simp)
      ·rw [if_neg c9] at H
       have c9b0 : (iF == 0) = false := qF c9
       have c9b1 : (iF != 0) = true := nT c9
       by_cases dV : iF = 1
       ·rw [if_pos dV] at H
        have c16b0 : (iF == 1) = true := qT dV
        have c16b1 : (iF != 1) = false := nF dV
        clear dV
        obtain ⟨y124, hy124⟩ : ∃ y_ : List ByteArray, y_ = (([(⟨#[120]⟩ : ByteArray), (⟨#[121, 121]⟩ : ByteArray), (⟨#[65, 47]⟩ : ByteArray), (⟨#[110, 101, 119]⟩ : ByteArray), (⟨#[66]⟩ : ByteArray)] : List ByteArray)) := ⟨_, rfl⟩
        replace H : ((spec_l1Cur_of.f s0_0 jp jo y124).bind fun jI => (if x5_1.length < 3518437208883 then (spec_l1Cur_opOn.l0 kj4 a1 (x5_1 ++ [(⟨0, jI.1, (⟨#[]⟩ : ByteArray)⟩ : S68)]) x6_1 s0_0 jI.2.1 jI.2.2) else (none))) = some (r1, r2, r3) := zh_ hy124
        have Ny124 := aM hy124
        clear hy124
        obtain ⟨⟨oE, qy, qx⟩, rk, H⟩ := oA_ H
        try dsimp only at H
        by_cases cJ : x5_1.length < 3518437208883
        ·rw [if_pos cJ] at H
         have LMc18 := aM cJ
         clear cJ
         obtain ⟨y130, hy130⟩ : ∃ y_ : List (S68), y_ = (x5_1 ++ [(⟨0, oE, (⟨#[]⟩ : ByteArray)⟩ : S68)]) := ⟨_, rfl⟩
         replace H : (spec_l1Cur_opOn.l0 kj4 a1 y130 x6_1 s0_0 qy qx) = some (r1, r2, r3) := zh_ hy130
         have Ny130 := aM hy130
         clear hy130
         have H' := aM H
         clear H
         go_wp2_with (first | ((with_reducible refine ax (f := 29) rfl ?_); refine aC (some 26) rfl rfl Try.func29 z0 rfl #[.pointer (some ⟨g, 0, none⟩), .int .i64 4] rfl z10 ?_; (with_reducible refine (spec_l1Cur_pick.calls g s0_0 kC kB 4 iF jp jo w0 _ ?side1 ?side2 A8.out).mono ?_); (case side1 => exact y68); (case side2 => exact y54); rintro e w19 ⟨rfl, hi, hb, hk⟩; refine ⟨_, rfl, ?_⟩; replace bi := aM (ag (Kd.R_keep (IsS48.apart (show IsS48 w0 _ g s0_0 kC kB from ziHI0_) z3 (by decide)) hk (fun _ h => h.2)) (fun _ h => h.1)); replace HK := aM (KeepBut.trans z11 hk (.inl rfl)); replace HB := aM hb; replace HI0 := aM hi; (try clear hb hk hi); (try clear cj)) | ((with_reducible refine ay (N := 54) rfl ?_); refine Kd.R_lit Kd.string _ 9 ?hg (N := 54) ?hd (xs := ([(⟨#[120]⟩ : ByteArray), (⟨#[121, 121]⟩ : ByteArray), (⟨#[65, 47]⟩ : ByteArray), (⟨#[110, 101, 119]⟩ : ByteArray), (⟨#[66]⟩ : ByteArray)] : List ByteArray)) (inner := [.string (⟨#[120]⟩ : ByteArray), .string (⟨#[121, 121]⟩ : ByteArray), .string (⟨#[65, 47]⟩ : ByteArray), .string (⟨#[110, 101, 119]⟩ : ByteArray), .string (⟨#[66]⟩ : ByteArray)]) (ok := fun _ => True) (okp := fun _ => True) ?hr ?hp (fun _ hk => hk) trivial (Below.refl _ _) (Nat.le_refl _) (by simp) ?_; (case hd => rfl); (case hg => rfl); (case hr => first | (go_simp; done) | (go_simp; rfl)); (case hp => exact (Reps.one (show Kd.M Kd.string _ _ _ (⟨#[120]⟩ : ByteArray) [.string (⟨#[120]⟩ : ByteArray)] from rfl) (Reps.one (show Kd.M Kd.string _ _ _ (⟨#[121, 121]⟩ : ByteArray) [.string (⟨#[121, 121]⟩ : ByteArray)] from rfl) (Reps.one (show Kd.M Kd.string _ _ _ (⟨#[65, 47]⟩ : ByteArray) [.string (⟨#[65, 47]⟩ : ByteArray)] from rfl) (Reps.one (show Kd.M Kd.string _ _ _ (⟨#[110, 101, 119]⟩ : ByteArray) [.string (⟨#[110, 101, 119]⟩ : ByteArray)] from rfl) (Reps.one (show Kd.M Kd.string _ _ _ (⟨#[66]⟩ : ByteArray) [.string (⟨#[66]⟩ : ByteArray)] from rfl) (Reps.none _ _))))))); intro v125 w20 ho21 hb hg_ hnew_; clear hg_ hnew_; (first | rw [← Ny124.out] at ho21 | (simp only [Int.reduceToNat] at ho21; rw [← Ny124.out] at ho21)); replace bi := aM (af z3 hb); have gR := aM (aD ho21 (keep_size (w := w) (g := g) (row := none) z11)); replace HK := aM (KeepBut.trans z11 (KeepBut.of_below hb g none) (.inl rfl)); replace HB := aM (ap z16 hb); replace HI0 := aM (IsS48.below z19 hb); clear hb ho21; obtain ⟨rg, pE, eo22⟩ := Kd.R_slice gR.out; subst eo22) | ((with_reducible refine ax (f := 30) rfl ?_); refine aC (some 55) rfl rfl Try.func30 z0 rfl #[.pointer (some ⟨g, 0, none⟩), .slice rg y124.length pE] rfl z10 ?_; (with_reducible refine (spec_l1Cur_of.calls g s0_0 jp jo _ _ y124 oE qy qx w0 _ ?side1 ?side2 ?side3 ?side4 ?side5 rk.out).mono ?_); (case side1 => exact y68); (case side2 => exact y54); (case side3 => repeat (first | exact (ah gR.out).2.2 | (with_reducible refine au ?_ _) | (with_reducible refine av ?_ _) | (with_reducible refine aw ?_))); (case side4 => exact (ah gR.out).2.1); (case side5 => exact far_slice (IsS48.own_ne HI0.out gR.out (by decide))); rintro e w23 ⟨rfl, hi, hb, hk⟩; refine ⟨_, rfl, ?_⟩; replace bi := aM (ag (Kd.R_keep (IsS48.apart (show IsS48 w0 _ g s0_0 jp jo from ziHI0_) z3 (by decide)) hk (fun _ h => h.2)) (fun _ h => h.1)); replace gR := aM (ag (Kd.R_keep (IsS48.apart (show IsS48 w0 _ g s0_0 jp jo from ziHI0_) (kR_ gR.out) (by decide)) hk (fun _ h => h.2)) (fun _ h => h.1)); replace HK := aM (KeepBut.trans z11 hk (.inl rfl)); replace HB := aM hb; replace HI0 := aM hi; (try clear hb hk hi); (try clear cj)) | ((with_reducible refine gate_builtin (b := .append) (xs := #[.tmp 52, .tmp 57]) rfl ?_); at_builtin; refine aE k68 w.heap.size rfl (.tmp 52) (.tmp 57) 23 68 (.agg #[(.int .i64 0), (.string ⟨#[]⟩), (.string ⟨#[]⟩)]) 40 rfl Try.underlying23 info68 rfl (by decide) (by omega) u5 x5_1 (⟨0, oE, (⟨#[]⟩ : ByteArray)⟩ : S68) [.int .i64 0, .string oE, .string ⟨#[]⟩] (fun _ => True) (fun _ => False) rfl rfl ?aP (fun _ hk => hk.elim) ?aF ?aO (Below.refl _ _) ?aS ?aL ?_; (case aP => exact k68_mkM _ _ _ (⟨0, oE, (⟨#[]⟩ : ByteArray)⟩ : S68)); (case aF => exact (fun _ _ => trivial)); (case aO => exact z3); (case aS => exact (keep_size (w := w) (g := g) (row := none) z11)); (case aL => have := LMc18.out; omega); intro v131 w24 ho hb hg hat; rw [← Ny130.out] at ho; replace gR := aM (Kd.R_over' (kR_ gR.out) (Kd.R_typed z3) (by decide) hg); replace HB := aM (below_weaken z16 HL.out hb); replace HI0 := aM (IsS48.grown z19 hg (IsS48.own_ne HI0.out bi.out (by decide))); replace HK := aM (KeepBut.trans z11 (KeepBut.of_grown hg g) (Kd.R_base2 bi.out)); have HO132 := aM (ho); clear bi; clear ho hb hg hat))
         go_roundg kj4
         case measure => have := HK1.out; have := kn.out; omega
         case rel => exact ⟨(y130), (x6_1), (qy), (qx), z1, H', ⟨by have := HK1.out; have := kn.out; omega⟩, ⟨kR_ HO132.out⟩, ⟨y37⟩, ⟨y33⟩, ⟨y30⟩⟩
        ·rw [if_neg cJ] at H
         exact absurd H (by simp)
       ·rw [if_neg dV] at H
        have c16b0 : (iF == 1) = false := qF dV
        have c16b1 : (iF != 1) = true := nT dV
        by_cases im : x5_1.length < 3518437208883
        ·rw [if_pos im] at H
         have LMc25 := aM im
         clear im
         obtain ⟨y133, hy133⟩ : ∃ y_ : List (S68), y_ = (x5_1 ++ [(⟨x7_4, (⟨#[]⟩ : ByteArray), (⟨#[]⟩ : ByteArray)⟩ : S68)]) := ⟨_, rfl⟩
         replace H : (spec_l1Cur_opOn.l0 kj4 a1 y133 (wrap64 (x6_1 + x7_4)) s0_0 jp jo) = some (r1, r2, r3) := zh_ hy133
         have Ny133 := aM hy133
         clear hy133
         have H' := aM H
         clear H
         go_wp2_with (first | ((with_reducible refine ax (f := 29) rfl ?_); refine aC (some 26) rfl rfl Try.func29 z0 rfl #[.pointer (some ⟨g, 0, none⟩), .int .i64 4] rfl z10 ?_; (with_reducible refine (spec_l1Cur_pick.calls g s0_0 kC kB 4 iF jp jo w0 _ ?side1 ?side2 A8.out).mono ?_); (case side1 => exact y68); (case side2 => exact y54); rintro e w26 ⟨rfl, hi, hb, hk⟩; refine ⟨_, rfl, ?_⟩; replace bi := aM (ag (Kd.R_keep (IsS48.apart (show IsS48 w0 _ g s0_0 kC kB from ziHI0_) z3 (by decide)) hk (fun _ h => h.2)) (fun _ h => h.1)); replace HK := aM (KeepBut.trans z11 hk (.inl rfl)); replace HB := aM hb; replace HI0 := aM hi; (try clear hb hk hi); (try clear cj)) | ((with_reducible refine gate_builtin (b := .append) (xs := #[.tmp 27, .tmp 30]) rfl ?_); at_builtin; refine aE k68 w.heap.size rfl (.tmp 27) (.tmp 30) 23 68 (.agg #[(.int .i64 0), (.string ⟨#[]⟩), (.string ⟨#[]⟩)]) 40 rfl Try.underlying23 info68 rfl (by decide) (by omega) u5 x5_1 (⟨x7_4, (⟨#[]⟩ : ByteArray), (⟨#[]⟩ : ByteArray)⟩ : S68) [.int .i64 x7_4, .string ⟨#[]⟩, .string ⟨#[]⟩] (fun _ => True) (fun _ => False) rfl rfl ?aP (fun _ hk => hk.elim) ?aF ?aO (Below.refl _ _) ?aS ?aL ?_; (case aP => exact k68_mkM _ _ _ (⟨x7_4, (⟨#[]⟩ : ByteArray), (⟨#[]⟩ : ByteArray)⟩ : S68)); (case aF => exact (fun _ _ => trivial)); (case aO => exact z3); (case aS => exact (keep_size (w := w) (g := g) (row := none) z11)); (case aL => have := LMc25.out; omega); intro v134 w27 ho hb hg hat; rw [← Ny133.out] at ho; replace HB := aM (below_weaken z16 HL.out hb); replace HI0 := aM (IsS48.grown z19 hg (IsS48.own_ne HI0.out bi.out (by decide))); replace HK := aM (KeepBut.trans z11 (KeepBut.of_grown hg g) (Kd.R_base2 bi.out)); have HO135 := aM (ho); clear bi; clear ho hb hg hat))
         go_roundg kj4
         case measure => have := HK1.out; have := kn.out; omega
         case rel => exact ⟨(y133), (wrap64 (x6_1 + x7_4)), (jp), (jo), z1, H', ⟨by have := HK1.out; have := kn.out; omega⟩, ⟨kR_ HO135.out⟩, ⟨y37⟩, ⟨y33⟩, ⟨y30⟩⟩
        ·rw [if_neg im] at H
         exact absurd H (by simp)
   ·rw [if_neg c3] at H
    have c3b0 : decide (x6_1 < (a1.size : Int)) = false := dF c3
    clear c3
    obtain ⟨⟨t136, nH, nG⟩, tL, H⟩ := oA_ H
    try dsimp only at H
    by_cases gW : t136 = true
    ·subst gW
     rw [if_pos rfl] at H
     obtain ⟨y139, hy139⟩ : ∃ y_ : List ByteArray, y_ = (([(⟨#[101, 110, 100]⟩ : ByteArray), (⟨#[46]⟩ : ByteArray)] : List ByteArray)) := ⟨_, rfl⟩
     replace H : ((spec_l1Cur_of.f s0_0 nH nG y139).bind fun jH => (if x5_1.length < 3518437208883 then (some ((x5_1 ++ [(⟨0, jH.1, (⟨#[]⟩ : ByteArray)⟩ : S68)]), jH.2.1, jH.2.2)) else (none))) = some (r1, r2, r3) := zh_ hy139
     have Ny139 := aM hy139
     clear hy139
     obtain ⟨⟨oC, sm, sl⟩, dm, H⟩ := oA_ H
     try dsimp only at H
     by_cases js : x5_1.length < 3518437208883
     ·rw [if_pos js] at H
      have LMc31 := aM js
      clear js
      obtain ⟨y145, hy145⟩ : ∃ y_ : List (S68), y_ = (x5_1 ++ [(⟨0, oC, (⟨#[]⟩ : ByteArray)⟩ : S68)]) := ⟨_, rfl⟩
      replace H : (some (y145, sm, sl)) = some (r1, r2, r3) := zh_ hy145
      have Ny145 := aM hy145
      clear hy145
      simp only [Option.some.injEq, Prod.mk.injEq] at H
      obtain ⟨rfl, rfl, rfl⟩ := H
      go_wp2_with (first | ((with_reducible refine ax (f := 36) rfl ?_); refine aC (some 60) rfl rfl Try.func36 z0 rfl #[.pointer (some ⟨g, 0, none⟩), .int .i64 3] rfl z10 ?_; (with_reducible refine (spec_l1Cur_one.calls g s0_0 x1001_1 x1002_1 3 true nH nG w0 _ ?side1 ?side2 tL.out).mono ?_); (case side1 => exact y68); (case side2 => exact y54); rintro e w32 ⟨rfl, hi, hb, hk⟩; refine ⟨_, rfl, ?_⟩; replace bi := aM (ag (Kd.R_keep (IsS48.apart (show IsS48 w0 _ g s0_0 x1001_1 x1002_1 from ziHI0_) z3 (by decide)) hk (fun _ h => h.2)) (fun _ h => h.1)); replace HK := aM (KeepBut.trans z11 hk (.inl rfl)); replace HB := aM hb; replace HI0 := aM hi; (try clear hb hk hi); (try clear cj)) | ((with_reducible refine ay (N := 63) rfl ?_); refine Kd.R_lit Kd.string _ 9 ?hg (N := 63) ?hd (xs := ([(⟨#[101, 110, 100]⟩ : ByteArray), (⟨#[46]⟩ : ByteArray)] : List ByteArray)) (inner := [.string (⟨#[101, 110, 100]⟩ : ByteArray), .string (⟨#[46]⟩ : ByteArray)]) (ok := fun _ => True) (okp := fun _ => True) ?hr ?hp (fun _ hk => hk) trivial (Below.refl _ _) (Nat.le_refl _) (by simp) ?_; (case hd => rfl); (case hg => rfl); (case hr => first | (go_simp; done) | (go_simp; rfl)); (case hp => exact (Reps.one (show Kd.M Kd.string _ _ _ (⟨#[101, 110, 100]⟩ : ByteArray) [.string (⟨#[101, 110, 100]⟩ : ByteArray)] from rfl) (Reps.one (show Kd.M Kd.string _ _ _ (⟨#[46]⟩ : ByteArray) [.string (⟨#[46]⟩ : ByteArray)] from rfl) (Reps.none _ _)))); intro v140 w33 ho34 hb hg_ hnew_; clear hg_ hnew_; (first | rw [← Ny139.out] at ho34 | (simp only [Int.reduceToNat] at ho34; rw [← Ny139.out] at ho34)); replace bi := aM (af z3 hb); have gQ := aM (aD ho34 (keep_size (w := w) (g := g) (row := none) z11)); replace HK := aM (KeepBut.trans z11 (KeepBut.of_below hb g none) (.inl rfl)); replace HB := aM (ap z16 hb); replace HI0 := aM (IsS48.below z19 hb); clear hb ho34; obtain ⟨Ao35, co35, eo35⟩ := Kd.R_slice gQ.out; subst eo35) | ((with_reducible refine ax (f := 30) rfl ?_); refine aC (some 64) rfl rfl Try.func30 z0 rfl #[.pointer (some ⟨g, 0, none⟩), .slice Ao35 y139.length co35] rfl z10 ?_; (with_reducible refine (spec_l1Cur_of.calls g s0_0 nH nG _ _ y139 oC sm sl w0 _ ?side1 ?side2 ?side3 ?side4 ?side5 dm.out).mono ?_); (case side1 => exact y68); (case side2 => exact y54); (case side3 => repeat (first | exact (ah gQ.out).2.2 | (with_reducible refine au ?_ _) | (with_reducible refine av ?_ _) | (with_reducible refine aw ?_))); (case side4 => exact (ah gQ.out).2.1); (case side5 => exact far_slice (IsS48.own_ne HI0.out gQ.out (by decide))); rintro e w36 ⟨rfl, hi, hb, hk⟩; refine ⟨_, rfl, ?_⟩; replace bi := aM (ag (Kd.R_keep (IsS48.apart (show IsS48 w0 _ g s0_0 nH nG from ziHI0_) z3 (by decide)) hk (fun _ h => h.2)) (fun _ h => h.1)); replace gQ := aM (ag (Kd.R_keep (IsS48.apart (show IsS48 w0 _ g s0_0 nH nG from ziHI0_) (kR_ gQ.out) (by decide)) hk (fun _ h => h.2)) (fun _ h => h.1)); replace HK := aM (KeepBut.trans z11 hk (.inl rfl)); replace HB := aM hb; replace HI0 := aM hi; (try clear hb hk hi); (try clear cj)) | ((with_reducible refine gate_builtin (b := .append) (xs := #[.tmp 61, .tmp 66]) rfl ?_); at_builtin; refine aE k68 w.heap.size rfl (.tmp 61) (.tmp 66) 23 68 (.agg #[(.int .i64 0), (.string ⟨#[]⟩), (.string ⟨#[]⟩)]) 40 rfl Try.underlying23 info68 rfl (by decide) (by omega) u5 x5_1 (⟨0, oC, (⟨#[]⟩ : ByteArray)⟩ : S68) [.int .i64 0, .string oC, .string ⟨#[]⟩] (fun _ => True) (fun _ => False) rfl rfl ?aP (fun _ hk => hk.elim) ?aF ?aO (Below.refl _ _) ?aS ?aL ?_; (case aP => exact k68_mkM _ _ _ (⟨0, oC, (⟨#[]⟩ : ByteArray)⟩ : S68)); (case aF => exact (fun _ _ => trivial)); (case aO => exact z3); (case aS => exact (keep_size (w := w) (g := g) (row := none) z11)); (case aL => have := LMc31.out; omega); intro v146 w37 ho hb hg hat; rw [← Ny145.out] at ho; replace gQ := aM (Kd.R_over' (kR_ gQ.out) (Kd.R_typed z3) (by decide) hg); replace HB := aM (below_weaken z16 HL.out hb); replace HI0 := aM (IsS48.grown z19 hg (IsS48.own_ne HI0.out bi.out (by decide))); replace HK := aM (KeepBut.trans z11 (KeepBut.of_grown hg g) (Kd.R_base2 bi.out)); have HO147 := aM (ho); clear bi; clear ho hb hg hat))
      go_ret
      exact ⟨_, y5, by (with_reducible repeat (first | apply ac | apply ab | apply aa)); exact HO147.out, y37, y30, y33⟩
     ·rw [if_neg js] at H
      exact absurd H (by simp)
    ·replace gW := Bool.eq_false_iff.mpr gW
     subst gW
     rw [if_neg nF_] at H
     simp only [Option.some.injEq, Prod.mk.injEq] at H
     obtain ⟨rfl, rfl, rfl⟩ := H
     go_wp2_with (first | ((with_reducible refine ax (f := 36) rfl ?_); refine aC (some 60) rfl rfl Try.func36 z0 rfl #[.pointer (some ⟨g, 0, none⟩), .int .i64 3] rfl z10 ?_; (with_reducible refine (spec_l1Cur_one.calls g s0_0 x1001_1 x1002_1 3 false nH nG w0 _ ?side1 ?side2 tL.out).mono ?_); (case side1 => exact y68); (case side2 => exact y54); rintro e w38 ⟨rfl, hi, hb, hk⟩; refine ⟨_, rfl, ?_⟩; replace bi := aM (ag (Kd.R_keep (IsS48.apart (show IsS48 w0 _ g s0_0 x1001_1 x1002_1 from ziHI0_) z3 (by decide)) hk (fun _ h => h.2)) (fun _ h => h.1)); replace HK := aM (KeepBut.trans z11 hk (.inl rfl)); replace HB := aM hb; replace HI0 := aM hi; (try clear hb hk hi); (try clear cj)))
     go_ret
     exact ⟨_, y5, y9, y37, y30, y33⟩

/-! ### spec_l1Cur_inner: function 63 -/
mutual
def spec_l1Cur_inner.l0 : Nat → Int → Int → ByteArray → List Int → Int → Int → Option (ByteArray × Int × Int)
 | 0, _, _, _, _, _, _ => none
 | k + 1, x1, x2, x7, x1000, x1001, x1002 => if x1 > 0 then (if x2 > 0 then ((spec_l1Cur_one.f x1000 x1001 x1002 3).bind fun o1 => (spec_l1Cur_inner.j1 k x1 x2 x7 o1.1 x1000 o1.2.1 o1.2.2)) else (spec_l1Cur_inner.j1 k x1 x2 x7 false x1000 x1001 x1002)) else (some (x7, x1001, x1002))
def spec_l1Cur_inner.j1 : Nat → Int → Int → ByteArray → Bool → List Int → Int → Int → Option (ByteArray × Int × Int)
 | 0, _, _, _, _, _, _, _ => none
 | k + 1, x1, x2, x7, x17, x1000, x1001, x1002 => if x17 = true then ((spec_l1Cur_pick.f x1000 x1001 x1002 4).bind fun o0 => ((some (([(wrap64 (65 + o0.1)) % 256] : List Int) : List Int)).bind fun y154 => ((spec_l1Cur_pick.f x1000 o0.2.1 o0.2.2 4).bind fun jG => ((spec_l1Cur_inner.f k x1000 jG.2.1 jG.2.2 jG.1 (wrap64 (x2 - 1))).bind fun eR => (if (strOfNums y154).size + eR.1.size ≤ 9223372036854775807 then (if ((strOfNums y154) ++ eR.1).size + 1 ≤ 9223372036854775807 then (if x7.size + (((strOfNums y154) ++ eR.1) ++ (⟨#[47]⟩ : ByteArray)).size ≤ 9223372036854775807 then (spec_l1Cur_inner.l0 k (wrap64 (x1 - 1)) x2 (x7 ++ (((strOfNums y154) ++ eR.1) ++ (⟨#[47]⟩ : ByteArray))) x1000 eR.2.1 eR.2.2) else (none)) else (none)) else (none)))))) else ((spec_l1Cur_of.f x1000 x1001 x1002 (([(⟨#[97]⟩ : ByteArray), (⟨#[98]⟩ : ByteArray), (⟨#[97, 98]⟩ : ByteArray), (⟨#[120]⟩ : ByteArray), (⟨#[32]⟩ : ByteArray), (⟨#[111, 110, 101]⟩ : ByteArray), (⟨#[49]⟩ : ByteArray), (⟨#[122, 46]⟩ : ByteArray)] : List ByteArray))).bind fun ir => (if x7.size + ir.1.size ≤ 9223372036854775807 then (spec_l1Cur_inner.l0 k (wrap64 (x1 - 1)) x2 (x7 ++ ir.1) x1000 ir.2.1 ir.2.2) else (none)))
def spec_l1Cur_inner.f : Nat → List Int → Int → Int → Int → Int → Option (ByteArray × Int × Int)
 | 0, _, _, _, _, _ => none
 | k + 1, s0_0, s0_1, s0_2, a1, a2 => spec_l1Cur_inner.l0 k a1 a2 (⟨#[]⟩ : ByteArray) s0_0 s0_1 s0_2
end
theorem spec_l1Cur_inner.mono_l : ∀ k, (∀ y0 y1 y2 y3 y4, LeO (spec_l1Cur_inner.f k y0 y1 y2 y3 y4) (spec_l1Cur_inner.f (k + 1) y0 y1 y2 y3 y4)) ∧ (∀ y0 y1 y2 y3 y4 y5, LeO (spec_l1Cur_inner.l0 k y0 y1 y2 y3 y4 y5) (spec_l1Cur_inner.l0 (k + 1) y0 y1 y2 y3 y4 y5)) ∧ (∀ y0 y1 y2 y3 y4 y5 y6, LeO (spec_l1Cur_inner.j1 k y0 y1 y2 y3 y4 y5 y6) (spec_l1Cur_inner.j1 (k + 1) y0 y1 y2 y3 y4 y5 y6))
 | 0 => ⟨fun _ _ _ _ _ r h => by simp [spec_l1Cur_inner.f] at h, fun _ _ _ _ _ _ r h => by simp [spec_l1Cur_inner.l0] at h, fun _ _ _ _ _ _ _ r h => by simp [spec_l1Cur_inner.j1] at h⟩
 | k + 1 => by
  obtain ⟨ih0, ih1, ih2⟩ := spec_l1Cur_inner.mono_l k
  refine ⟨?_, ?_, ?_⟩
  ·intro y0 y1 y2 y3 y4
   unfold spec_l1Cur_inner.f
   with_reducible repeat' first | exact ih0 _ _ _ _ _ | exact ih1 _ _ _ _ _ _ | exact ih2 _ _ _ _ _ _ _ | exact lR_ _ | exact lN_ _ | refine lI_ ?_ ?_ | refine lB_ ?_ fun _ => ?_
  ·intro y0 y1 y2 y3 y4 y5
   unfold spec_l1Cur_inner.l0
   with_reducible repeat' first | exact ih0 _ _ _ _ _ | exact ih1 _ _ _ _ _ _ | exact ih2 _ _ _ _ _ _ _ | exact lR_ _ | exact lN_ _ | refine lI_ ?_ ?_ | refine lB_ ?_ fun _ => ?_
  ·intro y0 y1 y2 y3 y4 y5 y6
   unfold spec_l1Cur_inner.j1
   with_reducible repeat' first | exact ih0 _ _ _ _ _ | exact ih1 _ _ _ _ _ _ | exact ih2 _ _ _ _ _ _ _ | exact lR_ _ | exact lN_ _ | refine lI_ ?_ ?_ | refine lB_ ?_ fun _ => ?_
theorem spec_l1Cur_inner.mono : ∀ a0 a1 a2 a3 a4 k, LeO (spec_l1Cur_inner.f k a0 a1 a2 a3 a4) (spec_l1Cur_inner.f (k + 1) a0 a1 a2 a3 a4) := by
 intro a0 a1 a2 a3 a4 k
 obtain ⟨ih0, ih1, ih2⟩ := spec_l1Cur_inner.mono_l k
 exact ih0 a0 a1 a2 a3 a4
def spec_l1Cur_inner.T5 : Bool × List (List Nat × List Nat) := (true, [([], []), ([], []), ([1], [1]), ([2], [2]), ([3], [3]), ([4], [4]), ([5], [5]), ([], []), ([], []), ([8, 2], [8]), ([], []), ([10], [10]), ([7, 9, 11, 9], [7, 9, 11]), ([6, 12], [6, 12]), ([13], [13]), ([0, 14], [0, 14]), ([15, 12, 0, 1, 2, 3, 4, 5, 6, 7, 8, 9, 10, 11, 12, 13, 14, 15], [0, 15])])
def spec_l1Cur_inner.B5 : List Nat := [0, 0, 2, 6, 14, 30, 62, 0, 0, 262, 0, 1024, 3974, 8190, 16382, 32767, 65535]
theorem spec_l1Cur_inner.tab5 : rtab .any (opsOf Try.f63 5) = spec_l1Cur_inner.T5 := by kernel_rfl
theorem spec_l1Cur_inner.bits5 : waitsOk spec_l1Cur_inner.T5.2 spec_l1Cur_inner.B5 = true := by kernel_rfl
theorem spec_l1Cur_inner.calls (k : Nat) : ∀ (g : Nat) (s0_0 : List Int) (s0_1 : Int) (s0_2 : Int) (a1 : Int) (a2 : Int) (r1 : ByteArray) (r2 : Int) (r3 : Int) (w0 w : World) (hI : IsS48 w0 w g s0_0 s0_1 s0_2) (hB : Below w0.heap.size w0 w) (h : spec_l1Cur_inner.f k s0_0 s0_1 s0_2 a1 a2 = some (r1, r2, r3)),
  Calls Try.prog 63 #[.pointer (some ⟨g, 0, none⟩), .int .i64 a1, .int .i64 a2] w fun e w' => e = .returned (.string r1) ∧ IsS48 w0 w' g s0_0 r2 r3 ∧ Below w0.heap.size w0 w' ∧ KeepBut w w' g none := by
 induction k using Nat.strongRecOn with
 | _ k ih =>
 intro g s0_0 s0_1 s0_2 a1 a2 r1 r2 r3 w0 w hI hB h
 cases k with
 | zero => exact absurd h (by simp [spec_l1Cur_inner.f])
 | succ k =>
 simp only [spec_l1Cur_inner.f] at h
 have HI0 := aM hI
 have HK := aM (KeepBut.refl w g none)
 have HL := aM hB.size
 clear hI
 have HW0 := aM hB.size
 have HB := aM hB
 clear hB
 have H : (spec_l1Cur_inner.l0 k a1 a2 (⟨#[]⟩ : ByteArray) s0_0 s0_1 s0_2) = some (r1, r2, r3) := h
 clear h
 have H' := aM H
 clear H
 go_enter Try.func63, Try.ntmps63
 go_wp2
 go_loopg [1, 7] k (fun kq v1 v7 w' => ∃ (x1_1 : Int) (x7_1 : ByteArray) (x1001_1 : Int) (x1002_1 : Int), v1 = .int .i64 x1_1 ∧ v7 = .string x7_1 ∧ Aside0 (spec_l1Cur_inner.l0 kq x1_1 a2 x7_1 s0_0 x1001_1 x1002_1 = some (r1, r2, r3)) ∧ Aside0 (kq ≤ k) ∧ Aside0 (IsS48 w0 w' g s0_0 x1001_1 x1002_1) ∧ Aside0 (KeepBut w w' g none) ∧ Aside0 (Below w0.heap.size w0 w'))
 case atStart => exact ⟨(a1), ((⟨#[]⟩ : ByteArray)), (s0_1), (s0_2), z1, z1, H', ⟨Nat.le_refl _⟩, ⟨y37⟩, ⟨y33⟩, ⟨y30⟩⟩
 case round =>
  clear H'
  obtain ⟨x1_1, x7_1, x1001_1, x1002_1, rfl, rfl, HA, HK1, HI0, HK, HB⟩ := hrel
  cases gk with
  | zero => exact absurd HA.out (by simp [spec_l1Cur_inner.l0])
  | succ k1 =>
   have H := HA.out
   clear HA
   simp only [spec_l1Cur_inner.l0] at H
   by_cases c4 : x1_1 > 0
   ·rw [if_pos c4] at H
    have c4b0 : decide (0 < x1_1) = true := dT c4
    clear c4
    have mg := aM H
    clear H
    go_upto_region 4 with (fail)
    go_cut [17] (fun v17 wc => ∃ (kq : Nat) (x17_4 : Bool) (x1001_4 : Int) (x1002_4 : Int), v17 = .bool x17_4 ∧ Aside0 (spec_l1Cur_inner.j1 kq x1_1 a2 x7_1 x17_4 s0_0 x1001_4 x1002_4 = some (r1, r2, r3)) ∧ Aside0 (kq ≤ k1) ∧ Aside0 (IsS48 w0 wc g s0_0 x1001_4 x1002_4) ∧ Aside0 (KeepBut w wc g none) ∧ Aside0 (Below w0.heap.size w0 wc))
    case first =>
     have H := mg.out
     clear mg
     by_cases c6 : a2 > 0
     ·rw [if_pos c6] at H
      have c6b0 : decide (0 < a2) = true := dT c6
      clear c6
      (first | rw [c6b0] | (simp only [i64_w, i32_w]; rw [c6b0]) | skip)
      obtain ⟨⟨sk, sj, si⟩, A7, H⟩ := oA_ H
      try dsimp only at H
      have H' := aM H
      clear H
      go_wp2_with (first | (go_at_call 36; (with_reducible refine (spec_l1Cur_one.calls g s0_0 x1001_1 x1002_1 3 sk sj si w0 _ ?side1 ?side2 A7.out).mono ?_); (case side1 => exact y68); (case side2 => exact y54); rintro e w8 ⟨rfl, hi, hb, hk⟩; replace HK := aM (KeepBut.trans z11 hk (.inl rfl)); replace HB := aM hb; replace HI0 := aM hi; (try clear hb hk hi); (try clear cj)))
      go_meet
      case rel => exact ⟨_, (sk), (sj), (si), z1, H', ⟨y3⟩, ⟨y37⟩, ⟨y33⟩, ⟨y30⟩⟩
     ·rw [if_neg c6] at H
      have c6b0 : decide (0 < a2) = false := dF c6
      clear c6
      (first | rw [c6b0] | (simp only [i64_w, i32_w]; rw [c6b0]) | skip)
      have H' := aM H
      clear H
      go_wp2
      go_meet
      case rel => exact ⟨_, (false), (x1001_1), (x1002_1), z1, H', ⟨y3⟩, ⟨y37⟩, ⟨y33⟩, ⟨y30⟩⟩
    case rest =>
     clear mg
     try clear p2
     try clear c4
     try clear c4b0
     try clear p2
     obtain ⟨kq, x17_4, x1001_4, x1002_4, rfl, HA, kn, HI0, HK, HB⟩ := hcut
     cases kq with
     | zero => exact absurd HA.out (by simp [spec_l1Cur_inner.j1])
     | succ kj4 =>
      have H := HA.out
      clear HA
      simp only [spec_l1Cur_inner.j1] at H
      by_cases c9 : x17_4 = true
      ·subst c9
       rw [if_pos rfl] at H
       obtain ⟨⟨g5, jn, jm⟩, iA, H⟩ := oA_ H
       try dsimp only at H
       obtain ⟨y154, hy154⟩ : ∃ y_ : List Int, y_ = (([(wrap64 (65 + g5)) % 256] : List Int)) := ⟨_, rfl⟩
       replace H : ((spec_l1Cur_pick.f s0_0 jn jm 4).bind fun jG => ((spec_l1Cur_inner.f kj4 s0_0 jG.2.1 jG.2.2 jG.1 (wrap64 (a2 - 1))).bind fun eR => (if (strOfNums y154).size + eR.1.size ≤ 9223372036854775807 then (if ((strOfNums y154) ++ eR.1).size + 1 ≤ 9223372036854775807 then (if x7_1.size + (((strOfNums y154) ++ eR.1) ++ (⟨#[47]⟩ : ByteArray)).size ≤ 9223372036854775807 then (spec_l1Cur_inner.l0 kj4 (wrap64 (x1_1 - 1)) a2 (x7_1 ++ (((strOfNums y154) ++ eR.1) ++ (⟨#[47]⟩ : ByteArray))) s0_0 eR.2.1 eR.2.2) else (none)) else (none)) else (none)))) = some (r1, r2, r3) := zh_ hy154
       have Ny154 := aM hy154
       clear hy154
       obtain ⟨⟨gV, g4, g3⟩, pJ, H⟩ := oA_ H
       try dsimp only at H
       obtain ⟨⟨gG, kc, kb⟩, pZ, H⟩ := oA_ H
       try dsimp only at H
       by_cases bU : (strOfNums y154).size + gG.size ≤ 9223372036854775807
       ·rw [if_pos bU] at H
        have c13b0 := eq_true bU
        have c13b1 : decide ((strOfNums y154).size + gG.size ≤ 9223372036854775807) = true := dT bU
        try have c13b2 : (9223372036854775807 < (strOfNums y154).size + gG.size) = False := eq_false (Nat.not_lt.2 bU)
        by_cases cO : ((strOfNums y154) ++ gG).size + 1 ≤ 9223372036854775807
        ·rw [if_pos cO] at H
         have c14b0 := eq_true cO
         have c14b1 : decide (((strOfNums y154) ++ gG).size + 1 ≤ 9223372036854775807) = true := dT cO
         try have c14b2 : (9223372036854775807 < ((strOfNums y154) ++ gG).size + 1) = False := eq_false (Nat.not_lt.2 cO)
         (try (have c14b2s := c14b2; simp only [aG] at c14b2s))
         by_cases ce : x7_1.size + (((strOfNums y154) ++ gG) ++ (⟨#[47]⟩ : ByteArray)).size ≤ 9223372036854775807
         ·rw [if_pos ce] at H
          have c15b0 := eq_true ce
          have c15b1 : decide (x7_1.size + (((strOfNums y154) ++ gG) ++ (⟨#[47]⟩ : ByteArray)).size ≤ 9223372036854775807) = true := dT ce
          try have c15b2 : (9223372036854775807 < x7_1.size + (((strOfNums y154) ++ gG) ++ (⟨#[47]⟩ : ByteArray)).size) = False := eq_false (Nat.not_lt.2 ce)
          (try (have c15b2s := c15b2; simp only [aG, show (⟨#[47]⟩ : ByteArray).size = 1 from rfl] at c15b2s))
          have H' := aM H
          clear H
          try go_wp2
          replace HI0 := aM (IsS48.drew HI0.out)
          replace HK := aM (keep_drew HK.out)
          replace HB := aM (bD HB.out)
          refine start_ (n := 17) (S := fun w' => True) (ds := []) #[false, false, false, false, false, false, false, false, false, false, false, false, false, false, false, false, false] z0 rfl rfl trivial (fun hHeld => ?_); refine with_tabW spec_l1Cur_inner.tab5 spec_l1Cur_inner.bits5 (fun HT_ HW_ => ?_)
          generalize wc.drew = w16 at HI0 HK HB hHeld ⊢
          refine pA 0 18 ?_
          refine pA 1 19 ?_
          refine pA 7 25 ?_
          refine pA 8 26 ?_
          refine pA 10 28 ?_
          refine pA 11 29 ?_
          refine one_ (i := 2) (N := some 20) #[true, true, true, false, false, false, false, true, true, false, true, true, false, false, false, false, false] rfl rfl (one_of HT_.out z0) (by decide) (fun K hK => ?_)
          refine goes_ Try.func29 z0 rfl #[.pointer (some ⟨g, 0, none⟩), .int .i64 4] (by rfl) rfl rfl z10 ?_
          with_reducible refine (spec_l1Cur_pick.calls g s0_0 x1001_4 x1002_4 4 g5 jn jm w0 _ ?side1 ?side2 iA.out).mono ?_
          (case side1 => exact y68)
          (case side2 => exact y54)
          rintro e w17 ⟨rfl, hi, hb, hk⟩
          refine ⟨_, rfl, ?_⟩
          replace HK := aM (KeepBut.trans z11 hk (.inl rfl))
          replace HB := aM (hb)
          replace HI0 := aM (hi)
          (try clear hb)
          skip
          (try clear hk)
          (try clear hi)
          (try clear cj)
          refine hK.out _ _ trivial (fun hHeld => ?_)
          clear hK K
          refine norm_ (a' := ?_) ?_ ?_
          rotate_left
          ·show Act.put _ (some 20) _ = _
           simp only [Act.put, sA, sB, sC, i64_w, i32_w]
           rfl
          refine pA 3 21 ?_
          refine pA 4 22 ?_
          refine join_ (σ := Value) 4 #[true, true, true, true, true, true, true, true, true, true, true, true, true, false, false, false, false] (fun s_ => [(23, s_), (24, .string (strOfNums y154)), (27, .int .i64 gV), (30, .string gG)]) (fun s_ w' => (Kd.R (Kd.int .u8) 5 w' w.heap.size (fun _ => True) s_ y154) ∧ (IsS48 w0 w' g s0_0 kc kb) ∧ (KeepBut w w' g none) ∧ (Below w0.heap.size w0 w')) ?_ ?_
          rotate_left
          ·intro hJ5_6_9_12
           refine join_ (σ := Value) 5 #[true, true, true, true, true, true, true, true, true, true, true, true, false, false, false, false, false] (fun s_ => [(23, s_), (24, .string (strOfNums y154)), (27, .int .i64 gV)]) (fun s_ w' => (Kd.R (Kd.int .u8) 5 w' w.heap.size (fun _ => True) s_ y154) ∧ (IsS48 w0 w' g s0_0 g4 g3) ∧ (KeepBut w w' g none) ∧ (Below w0.heap.size w0 w')) ?_ ?_
           rotate_left
           ·intro hJ5_6_9
            refine join_ (σ := Value) 5 #[true, true, true, true, true, true, false, true, true, true, true, true, true, false, false, false, false] (fun s_ => [(23, s_), (27, .int .i64 gV), (30, .string gG)]) (fun s_ w' => (Kd.R (Kd.int .u8) 5 w' w.heap.size (fun _ => True) s_ y154) ∧ (IsS48 w0 w' g s0_0 kc kb) ∧ (KeepBut w w' g none) ∧ (Below w0.heap.size w0 w')) ?_ ?_
            rotate_left
            ·intro hJ5_9_12
             refine join_ (σ := Value) 6 #[true, true, true, true, true, true, true, true, true, false, true, true, false, false, false, false, false] (fun s_ => [(23, s_), (24, .string (strOfNums y154))]) (fun s_ w' => (Kd.R (Kd.int .u8) 5 w' w.heap.size (fun _ => True) s_ y154) ∧ (IsS48 w0 w' g s0_0 jn jm) ∧ (KeepBut w w' g none) ∧ (Below w0.heap.size w0 w')) ?_ ?_
             rotate_left
             ·intro hJ5_6
              refine join_ (σ := Value) 6 #[true, true, true, true, true, true, false, true, true, true, true, true, false, false, false, false, false] (fun s_ => [(23, s_), (27, .int .i64 gV)]) (fun s_ w' => (Kd.R (Kd.int .u8) 5 w' w.heap.size (fun _ => True) s_ y154) ∧ (IsS48 w0 w' g s0_0 g4 g3) ∧ (KeepBut w w' g none) ∧ (Below w0.heap.size w0 w')) ?_ ?_
              rotate_left
              ·intro hJ5_9
               refine join_ (σ := Unit) 6 #[true, true, true, true, true, false, false, true, true, true, true, true, true, false, false, false, false] (fun s_ => [(27, .int .i64 gV), (30, .string gG)]) (fun s_ w' => (IsS48 w0 w' g s0_0 kc kb) ∧ (KeepBut w w' g none) ∧ (Below w0.heap.size w0 w')) ?_ ?_
               rotate_left
               ·intro hJ9_12
                refine join_ (σ := Value) 7 #[true, true, true, true, true, true, false, true, true, false, true, true, false, false, false, false, false] (fun s_ => [(23, s_)]) (fun s_ w' => (Kd.R (Kd.int .u8) 5 w' w.heap.size (fun _ => True) s_ y154) ∧ (IsS48 w0 w' g s0_0 jn jm) ∧ (KeepBut w w' g none) ∧ (Below w0.heap.size w0 w')) ?_ ?_
                rotate_left
                ·intro hJ5
                 refine join_ (σ := Unit) 7 #[true, true, true, true, true, false, false, true, true, true, true, true, false, false, false, false, false] (fun s_ => [(27, .int .i64 gV)]) (fun s_ w' => (IsS48 w0 w' g s0_0 g4 g3) ∧ (KeepBut w w' g none) ∧ (Below w0.heap.size w0 w')) ?_ ?_
                 rotate_left
                 ·intro hJ9
                  refine two_ (i := 5) (j := 9) (Ni := some 23) (Nj := some 27) #[true, true, true, true, true, true, false, true, true, false, true, true, false, false, false, false, false] #[true, true, true, true, true, false, false, true, true, true, true, true, false, false, false, false, false] rfl rfl rfl rfl (two_of HT_.out z0) (by decide) (by decide) (fun K hK => ?_) (fun K hK => ?_)
                  ·skip
                   refine Kd.R_lit_step (Kd.int .u8) _ 5 ?hg (N := 23) ?hd (xs := ([(wrap64 (65 + g5)) % 256] : List Int)) (inner := [.int .u8 ((wrap64 (65 + g5)) % 256)]) (ok := fun _ => True) (okp := fun _ => True) ?hr ?hp (fun _ hk => hk) trivial (Below.refl _ _) (Nat.le_refl _) (by simp) ?_; (case hd => rfl); (case hg => rfl); (case hr => first | (go_simp; done) | (go_simp; rfl)); (case hp => exact (Reps.one (show Kd.M (Kd.int .u8) _ _ _ ((wrap64 (65 + g5)) % 256) [.int .u8 ((wrap64 (65 + g5)) % 256)] from rfl) (Reps.none _ _)))
                   intro v155 w18 ho19 hb hg_ hnew_
                   clear hg_ hnew_
                   (first | rw [← Ny154.out] at ho19 | (simp only [Int.reduceToNat] at ho19; rw [← Ny154.out] at ho19))
                   have b6 := aM (aD ho19 (keep_size (w := w) (g := g) (row := none) z11))
                   replace HK := aM (KeepBut.trans z11 (KeepBut.of_below hb g none) (.inl rfl))
                   replace HB := aM (ap z16 hb)
                   replace HI0 := aM (IsS48.below z19 hb)
                   clear hb ho19
                   refine hK.out _ _ trivial (fun hHeld => ?_)
                   clear hK K
                   refine norm_ (a' := ?_) ?_ ?_
                   rotate_left
                   ·show Act.put _ (some 23) _ = _
                    simp only [Act.put, sA, sB, sC, i64_w, i32_w]
                    rfl
                   exact norm_ z20 (hJ5 (v155) _ ⟨(kR_ b6.out), z19, z11, z16⟩)
                  ·skip
                   refine goes_ Try.func29 z0 rfl #[.pointer (some ⟨g, 0, none⟩), .int .i64 4] (by rfl) rfl rfl z10 ?_
                   with_reducible refine (spec_l1Cur_pick.calls g s0_0 jn jm 4 gV g4 g3 w0 _ ?side1 ?side2 pJ.out).mono ?_
                   (case side1 => exact y68)
                   (case side2 => exact y54)
                   rintro e w18 ⟨rfl, hi, hb, hk⟩
                   refine ⟨_, rfl, ?_⟩
                   replace HK := aM (KeepBut.trans z11 hk (.inl rfl))
                   replace HB := aM (hb)
                   replace HI0 := aM (hi)
                   (try clear hb)
                   skip
                   (try clear hk)
                   (try clear hi)
                   (try clear cj)
                   refine hK.out _ _ trivial (fun hHeld => ?_)
                   clear hK K
                   refine norm_ (a' := ?_) ?_ ?_
                   rotate_left
                   ·show Act.put _ (some 27) _ = _
                    simp only [Act.put, sA, sB, sC, i64_w, i32_w]
                    rfl
                   exact norm_ z20 (hJ9 () _ ⟨z19, z11, z16⟩)
                 ·skip
                  rintro _ w19 ⟨h0_, h1_, h2_⟩
                  have aI : Aside0 (IsS48 w0 w19 g s0_0 g4 g3) := ⟨h0_⟩
                  have aJ : Aside0 (KeepBut w w19 g none) := ⟨h1_⟩
                  have aK : Aside0 (Below w0.heap.size w0 w19) := ⟨h2_⟩
                  clear HI0
                  clear HK
                  clear HB
                  clear h0_ h1_ h2_
                  have HI0 := aI
                  have HK := aJ
                  have HB := aK
                  clear aI aJ aK
                  have hHeld := trivial
                  refine norm_ (a' := ?_) ?_ ?_
                  rotate_left
                  ·simp only [putAll, Act.put, sA, sB, sC]
                   rfl
                  refine two_ (i := 5) (j := 12) (Ni := some 23) (Nj := some 30) #[true, true, true, true, true, true, false, true, true, true, true, true, false, false, false, false, false] #[true, true, true, true, true, false, false, true, true, true, true, true, true, false, false, false, false] rfl rfl rfl rfl (two_of HT_.out z0) (by decide) (by decide) (fun K hK => ?_) (fun K hK => ?_)
                  ·skip
                   refine Kd.R_lit_step (Kd.int .u8) _ 5 ?hg (N := 23) ?hd (xs := ([(wrap64 (65 + g5)) % 256] : List Int)) (inner := [.int .u8 ((wrap64 (65 + g5)) % 256)]) (ok := fun _ => True) (okp := fun _ => True) ?hr ?hp (fun _ hk => hk) trivial (Below.refl _ _) (Nat.le_refl _) (by simp) ?_; (case hd => rfl); (case hg => rfl); (case hr => first | (go_simp; done) | (go_simp; rfl)); (case hp => exact (Reps.one (show Kd.M (Kd.int .u8) _ _ _ ((wrap64 (65 + g5)) % 256) [.int .u8 ((wrap64 (65 + g5)) % 256)] from rfl) (Reps.none _ _)))
                   intro v155 w20 ho21 hb hg_ hnew_
                   clear hg_ hnew_
                   (first | rw [← Ny154.out] at ho21 | (simp only [Int.reduceToNat] at ho21; rw [← Ny154.out] at ho21))
                   have b6 := aM (aD ho21 (keep_size (w := w) (g := g) (row := none) z11))
                   replace HK := aM (KeepBut.trans z11 (KeepBut.of_below hb g none) (.inl rfl))
                   replace HB := aM (ap z16 hb)
                   replace HI0 := aM (IsS48.below z19 hb)
                   clear hb ho21
                   refine hK.out _ _ trivial (fun hHeld => ?_)
                   clear hK K
                   refine norm_ (a' := ?_) ?_ ?_
                   rotate_left
                   ·show Act.put _ (some 23) _ = _
                    simp only [Act.put, sA, sB, sC, i64_w, i32_w]
                    rfl
                   exact norm_ z20 (hJ5_9 (v155) _ ⟨(kR_ b6.out), z19, z11, z16⟩)
                  ·skip
                   refine goes_ Try.func63 z0 rfl #[.pointer (some ⟨g, 0, none⟩), .int .i64 gV, .int .i64 (wrap64 (a2 - 1))] (by rfl) rfl rfl z10 ?_
                   with_reducible refine (ih kj4 (by have := HK1.out; have := kn.out; omega) g s0_0 g4 g3 gV (wrap64 (a2 - 1)) gG kc kb w0 _ ?side1 ?side2 pZ.out).mono ?_
                   (case side1 => exact y68)
                   (case side2 => exact y54)
                   rintro e w20 ⟨rfl, hi, hb, hk⟩
                   refine ⟨_, rfl, ?_⟩
                   replace HK := aM (KeepBut.trans z11 hk (.inl rfl))
                   replace HB := aM (hb)
                   replace HI0 := aM (hi)
                   (try clear hb)
                   skip
                   (try clear hk)
                   (try clear hi)
                   (try clear cj)
                   refine hK.out _ _ trivial (fun hHeld => ?_)
                   clear hK K
                   refine norm_ (a' := ?_) ?_ ?_
                   rotate_left
                   ·show Act.put _ (some 30) _ = _
                    simp only [Act.put, sA, sB, sC, i64_w, i32_w]
                    rfl
                   exact norm_ z20 (hJ9_12 () _ ⟨z19, z11, z16⟩)
                ·skip
                 rintro v155 w20 ⟨h0_, h1_, h2_, h3_⟩
                 have aI : Aside0 (Kd.R (Kd.int .u8) 5 w20 w.heap.size (fun _ => True) v155 y154) := ⟨h0_⟩
                 have aJ : Aside0 (IsS48 w0 w20 g s0_0 jn jm) := ⟨h1_⟩
                 have aK : Aside0 (KeepBut w w20 g none) := ⟨h2_⟩
                 have aN : Aside0 (Below w0.heap.size w0 w20) := ⟨h3_⟩
                 clear HI0
                 clear HK
                 clear HB
                 clear h0_ h1_ h2_ h3_
                 have b6 := aI
                 have HI0 := aJ
                 have HK := aK
                 have HB := aN
                 clear aI aJ aK aN
                 have hHeld := trivial
                 refine norm_ (a' := ?_) ?_ ?_
                 rotate_left
                 ·simp only [putAll, Act.put, sA, sB, sC]
                  rfl
                 refine two_ (i := 6) (j := 9) (Ni := some 24) (Nj := some 27) #[true, true, true, true, true, true, true, true, true, false, true, true, false, false, false, false, false] #[true, true, true, true, true, true, false, true, true, true, true, true, false, false, false, false, false] rfl rfl rfl rfl (two_of HT_.out z0) (by decide) (by decide) (fun K hK => ?_) (fun K hK => ?_)
                 ·skip
                  have hcv21 := own_string (P := Try.prog) Try.underlying22 Try.underlying5 Try.underlying9 (Kd.own_of_R b6.out)
                  refine value_ (w1 := ?_) (v := ?_) (by rfl) rfl ?_ ?_
                  rotate_left 2
                  ·go_simp
                   constructor
                   ·rfl
                   ·rfl
                  clear hcv21
                  refine hK.out _ _ trivial (fun hHeld => ?_)
                  clear hK K
                  refine norm_ (a' := ?_) ?_ ?_
                  rotate_left
                  ·show Act.put _ (some 24) _ = _
                   simp only [Act.put, sA, sB, sC, i64_w, i32_w]
                   rfl
                  exact norm_ z20 (hJ5_6 (v155) _ ⟨(kR_ b6.out), z19, z11, z16⟩)
                 ·skip
                  refine goes_ Try.func29 z0 rfl #[.pointer (some ⟨g, 0, none⟩), .int .i64 4] (by rfl) rfl rfl z10 ?_
                  with_reducible refine (spec_l1Cur_pick.calls g s0_0 jn jm 4 gV g4 g3 w0 _ ?side1 ?side2 pJ.out).mono ?_
                  (case side1 => exact y68)
                  (case side2 => exact y54)
                  rintro e w21 ⟨rfl, hi, hb, hk⟩
                  refine ⟨_, rfl, ?_⟩
                  replace b6 := aM (ag (Kd.R_keep (IsS48.apart (show IsS48 w0 _ g s0_0 jn jm from ziHI0_) (kR_ b6.out) (by decide)) hk (fun _ h => h.2)) (fun _ h => h.1))
                  replace HK := aM (KeepBut.trans z11 hk (.inl rfl))
                  replace HB := aM (hb)
                  replace HI0 := aM (hi)
                  (try clear hb)
                  skip
                  (try clear hk)
                  (try clear hi)
                  (try clear cj)
                  refine hK.out _ _ trivial (fun hHeld => ?_)
                  clear hK K
                  refine norm_ (a' := ?_) ?_ ?_
                  rotate_left
                  ·show Act.put _ (some 27) _ = _
                   simp only [Act.put, sA, sB, sC, i64_w, i32_w]
                   rfl
                  exact norm_ z20 (hJ5_9 (v155) _ ⟨(kR_ b6.out), z19, z11, z16⟩)
               ·skip
                rintro _ w20 ⟨h0_, h1_, h2_⟩
                have aI : Aside0 (IsS48 w0 w20 g s0_0 kc kb) := ⟨h0_⟩
                have aJ : Aside0 (KeepBut w w20 g none) := ⟨h1_⟩
                have aK : Aside0 (Below w0.heap.size w0 w20) := ⟨h2_⟩
                clear HI0
                clear HK
                clear HB
                clear h0_ h1_ h2_
                have HI0 := aI
                have HK := aJ
                have HB := aK
                clear aI aJ aK
                have hHeld := trivial
                refine norm_ (a' := ?_) ?_ ?_
                rotate_left
                ·simp only [putAll, Act.put, sA, sB, sC]
                 rfl
                refine one_ (i := 5) (N := some 23) #[true, true, true, true, true, true, false, true, true, true, true, true, true, false, false, false, false] rfl rfl (one_of HT_.out z0) (by decide) (fun K hK => ?_)
                refine Kd.R_lit_step (Kd.int .u8) _ 5 ?hg (N := 23) ?hd (xs := ([(wrap64 (65 + g5)) % 256] : List Int)) (inner := [.int .u8 ((wrap64 (65 + g5)) % 256)]) (ok := fun _ => True) (okp := fun _ => True) ?hr ?hp (fun _ hk => hk) trivial (Below.refl _ _) (Nat.le_refl _) (by simp) ?_; (case hd => rfl); (case hg => rfl); (case hr => first | (go_simp; done) | (go_simp; rfl)); (case hp => exact (Reps.one (show Kd.M (Kd.int .u8) _ _ _ ((wrap64 (65 + g5)) % 256) [.int .u8 ((wrap64 (65 + g5)) % 256)] from rfl) (Reps.none _ _)))
                intro v155 w21 ho22 hb hg_ hnew_
                clear hg_ hnew_
                (first | rw [← Ny154.out] at ho22 | (simp only [Int.reduceToNat] at ho22; rw [← Ny154.out] at ho22))
                have b6 := aM (aD ho22 (keep_size (w := w) (g := g) (row := none) z11))
                replace HK := aM (KeepBut.trans z11 (KeepBut.of_below hb g none) (.inl rfl))
                replace HB := aM (ap z16 hb)
                replace HI0 := aM (IsS48.below z19 hb)
                clear hb ho22
                refine hK.out _ _ trivial (fun hHeld => ?_)
                clear hK K
                refine norm_ (a' := ?_) ?_ ?_
                rotate_left
                ·show Act.put _ (some 23) _ = _
                 simp only [Act.put, sA, sB, sC, i64_w, i32_w]
                 rfl
                exact norm_ z20 (hJ5_9_12 (v155) _ ⟨(kR_ b6.out), z19, z11, z16⟩)
              ·skip
               rintro v155 w21 ⟨h0_, h1_, h2_, h3_⟩
               have aI : Aside0 (Kd.R (Kd.int .u8) 5 w21 w.heap.size (fun _ => True) v155 y154) := ⟨h0_⟩
               have aJ : Aside0 (IsS48 w0 w21 g s0_0 g4 g3) := ⟨h1_⟩
               have aK : Aside0 (KeepBut w w21 g none) := ⟨h2_⟩
               have aN : Aside0 (Below w0.heap.size w0 w21) := ⟨h3_⟩
               clear HI0
               clear HK
               clear HB
               clear h0_ h1_ h2_ h3_
               have b6 := aI
               have HI0 := aJ
               have HK := aK
               have HB := aN
               clear aI aJ aK aN
               have hHeld := trivial
               refine norm_ (a' := ?_) ?_ ?_
               rotate_left
               ·simp only [putAll, Act.put, sA, sB, sC]
                rfl
               refine two_ (i := 6) (j := 12) (Ni := some 24) (Nj := some 30) #[true, true, true, true, true, true, true, true, true, true, true, true, false, false, false, false, false] #[true, true, true, true, true, true, false, true, true, true, true, true, true, false, false, false, false] rfl rfl rfl rfl (two_of HT_.out z0) (by decide) (by decide) (fun K hK => ?_) (fun K hK => ?_)
               ·skip
                have hcv22 := own_string (P := Try.prog) Try.underlying22 Try.underlying5 Try.underlying9 (Kd.own_of_R b6.out)
                refine value_ (w1 := ?_) (v := ?_) (by rfl) rfl ?_ ?_
                rotate_left 2
                ·go_simp
                 constructor
                 ·rfl
                 ·rfl
                clear hcv22
                refine hK.out _ _ trivial (fun hHeld => ?_)
                clear hK K
                refine norm_ (a' := ?_) ?_ ?_
                rotate_left
                ·show Act.put _ (some 24) _ = _
                 simp only [Act.put, sA, sB, sC, i64_w, i32_w]
                 rfl
                exact norm_ z20 (hJ5_6_9 (v155) _ ⟨(kR_ b6.out), z19, z11, z16⟩)
               ·skip
                refine goes_ Try.func63 z0 rfl #[.pointer (some ⟨g, 0, none⟩), .int .i64 gV, .int .i64 (wrap64 (a2 - 1))] (by rfl) rfl rfl z10 ?_
                with_reducible refine (ih kj4 (by have := HK1.out; have := kn.out; omega) g s0_0 g4 g3 gV (wrap64 (a2 - 1)) gG kc kb w0 _ ?side1 ?side2 pZ.out).mono ?_
                (case side1 => exact y68)
                (case side2 => exact y54)
                rintro e w22 ⟨rfl, hi, hb, hk⟩
                refine ⟨_, rfl, ?_⟩
                replace b6 := aM (ag (Kd.R_keep (IsS48.apart (show IsS48 w0 _ g s0_0 g4 g3 from ziHI0_) (kR_ b6.out) (by decide)) hk (fun _ h => h.2)) (fun _ h => h.1))
                replace HK := aM (KeepBut.trans z11 hk (.inl rfl))
                replace HB := aM (hb)
                replace HI0 := aM (hi)
                (try clear hb)
                skip
                (try clear hk)
                (try clear hi)
                (try clear cj)
                refine hK.out _ _ trivial (fun hHeld => ?_)
                clear hK K
                refine norm_ (a' := ?_) ?_ ?_
                rotate_left
                ·show Act.put _ (some 30) _ = _
                 simp only [Act.put, sA, sB, sC, i64_w, i32_w]
                 rfl
                exact norm_ z20 (hJ5_9_12 (v155) _ ⟨(kR_ b6.out), z19, z11, z16⟩)
             ·skip
              rintro v155 w21 ⟨h0_, h1_, h2_, h3_⟩
              have aI : Aside0 (Kd.R (Kd.int .u8) 5 w21 w.heap.size (fun _ => True) v155 y154) := ⟨h0_⟩
              have aJ : Aside0 (IsS48 w0 w21 g s0_0 jn jm) := ⟨h1_⟩
              have aK : Aside0 (KeepBut w w21 g none) := ⟨h2_⟩
              have aN : Aside0 (Below w0.heap.size w0 w21) := ⟨h3_⟩
              clear HI0
              clear HK
              clear HB
              clear h0_ h1_ h2_ h3_
              have b6 := aI
              have HI0 := aJ
              have HK := aK
              have HB := aN
              clear aI aJ aK aN
              have hHeld := trivial
              refine norm_ (a' := ?_) ?_ ?_
              rotate_left
              ·simp only [putAll, Act.put, sA, sB, sC]
               rfl
              refine one_ (i := 9) (N := some 27) #[true, true, true, true, true, true, true, true, true, true, true, true, false, false, false, false, false] rfl rfl (one_of HT_.out z0) (by decide) (fun K hK => ?_)
              refine goes_ Try.func29 z0 rfl #[.pointer (some ⟨g, 0, none⟩), .int .i64 4] (by rfl) rfl rfl z10 ?_
              with_reducible refine (spec_l1Cur_pick.calls g s0_0 jn jm 4 gV g4 g3 w0 _ ?side1 ?side2 pJ.out).mono ?_
              (case side1 => exact y68)
              (case side2 => exact y54)
              rintro e w22 ⟨rfl, hi, hb, hk⟩
              refine ⟨_, rfl, ?_⟩
              replace b6 := aM (ag (Kd.R_keep (IsS48.apart (show IsS48 w0 _ g s0_0 jn jm from ziHI0_) (kR_ b6.out) (by decide)) hk (fun _ h => h.2)) (fun _ h => h.1))
              replace HK := aM (KeepBut.trans z11 hk (.inl rfl))
              replace HB := aM (hb)
              replace HI0 := aM (hi)
              (try clear hb)
              skip
              (try clear hk)
              (try clear hi)
              (try clear cj)
              refine hK.out _ _ trivial (fun hHeld => ?_)
              clear hK K
              refine norm_ (a' := ?_) ?_ ?_
              rotate_left
              ·show Act.put _ (some 27) _ = _
               simp only [Act.put, sA, sB, sC, i64_w, i32_w]
               rfl
              exact norm_ z20 (hJ5_6_9 (v155) _ ⟨(kR_ b6.out), z19, z11, z16⟩)
            ·skip
             rintro v155 w22 ⟨h0_, h1_, h2_, h3_⟩
             have aI : Aside0 (Kd.R (Kd.int .u8) 5 w22 w.heap.size (fun _ => True) v155 y154) := ⟨h0_⟩
             have aJ : Aside0 (IsS48 w0 w22 g s0_0 kc kb) := ⟨h1_⟩
             have aK : Aside0 (KeepBut w w22 g none) := ⟨h2_⟩
             have aN : Aside0 (Below w0.heap.size w0 w22) := ⟨h3_⟩
             clear HI0
             clear HK
             clear HB
             clear h0_ h1_ h2_ h3_
             have b6 := aI
             have HI0 := aJ
             have HK := aK
             have HB := aN
             clear aI aJ aK aN
             have hHeld := trivial
             refine norm_ (a' := ?_) ?_ ?_
             rotate_left
             ·simp only [putAll, Act.put, sA, sB, sC]
              rfl
             refine one_ (i := 6) (N := some 24) #[true, true, true, true, true, true, true, true, true, true, true, true, true, false, false, false, false] rfl rfl (one_of HT_.out z0) (by decide) (fun K hK => ?_)
             have hcv23 := own_string (P := Try.prog) Try.underlying22 Try.underlying5 Try.underlying9 (Kd.own_of_R b6.out)
             refine value_ (w1 := ?_) (v := ?_) (by rfl) rfl ?_ ?_
             rotate_left 2
             ·go_simp
              constructor
              ·rfl
              ·rfl
             clear hcv23
             refine hK.out _ _ trivial (fun hHeld => ?_)
             clear hK K
             refine norm_ (a' := ?_) ?_ ?_
             rotate_left
             ·show Act.put _ (some 24) _ = _
              simp only [Act.put, sA, sB, sC, i64_w, i32_w]
              rfl
             exact norm_ z20 (hJ5_6_9_12 (v155) _ ⟨(kR_ b6.out), z19, z11, z16⟩)
           ·skip
            rintro v155 w22 ⟨h0_, h1_, h2_, h3_⟩
            have aI : Aside0 (Kd.R (Kd.int .u8) 5 w22 w.heap.size (fun _ => True) v155 y154) := ⟨h0_⟩
            have aJ : Aside0 (IsS48 w0 w22 g s0_0 g4 g3) := ⟨h1_⟩
            have aK : Aside0 (KeepBut w w22 g none) := ⟨h2_⟩
            have aN : Aside0 (Below w0.heap.size w0 w22) := ⟨h3_⟩
            clear HI0
            clear HK
            clear HB
            clear h0_ h1_ h2_ h3_
            have b6 := aI
            have HI0 := aJ
            have HK := aK
            have HB := aN
            clear aI aJ aK aN
            have hHeld := trivial
            refine norm_ (a' := ?_) ?_ ?_
            rotate_left
            ·simp only [putAll, Act.put, sA, sB, sC]
             rfl
            refine one_ (i := 12) (N := some 30) #[true, true, true, true, true, true, true, true, true, true, true, true, true, false, false, false, false] rfl rfl (one_of HT_.out z0) (by decide) (fun K hK => ?_)
            refine goes_ Try.func63 z0 rfl #[.pointer (some ⟨g, 0, none⟩), .int .i64 gV, .int .i64 (wrap64 (a2 - 1))] (by rfl) rfl rfl z10 ?_
            with_reducible refine (ih kj4 (by have := HK1.out; have := kn.out; omega) g s0_0 g4 g3 gV (wrap64 (a2 - 1)) gG kc kb w0 _ ?side1 ?side2 pZ.out).mono ?_
            (case side1 => exact y68)
            (case side2 => exact y54)
            rintro e w23 ⟨rfl, hi, hb, hk⟩
            refine ⟨_, rfl, ?_⟩
            replace b6 := aM (ag (Kd.R_keep (IsS48.apart (show IsS48 w0 _ g s0_0 g4 g3 from ziHI0_) (kR_ b6.out) (by decide)) hk (fun _ h => h.2)) (fun _ h => h.1))
            replace HK := aM (KeepBut.trans z11 hk (.inl rfl))
            replace HB := aM (hb)
            replace HI0 := aM (hi)
            (try clear hb)
            skip
            (try clear hk)
            (try clear hi)
            (try clear cj)
            refine hK.out _ _ trivial (fun hHeld => ?_)
            clear hK K
            refine norm_ (a' := ?_) ?_ ?_
            rotate_left
            ·show Act.put _ (some 30) _ = _
             simp only [Act.put, sA, sB, sC, i64_w, i32_w]
             rfl
            exact norm_ z20 (hJ5_6_9_12 (v155) _ ⟨(kR_ b6.out), z19, z11, z16⟩)
          rintro v155 w23 ⟨h0_, h1_, h2_, h3_⟩
          have aI : Aside0 (Kd.R (Kd.int .u8) 5 w23 w.heap.size (fun _ => True) v155 y154) := ⟨h0_⟩
          have aJ : Aside0 (IsS48 w0 w23 g s0_0 kc kb) := ⟨h1_⟩
          have aK : Aside0 (KeepBut w w23 g none) := ⟨h2_⟩
          have aN : Aside0 (Below w0.heap.size w0 w23) := ⟨h3_⟩
          clear HI0
          clear HK
          clear HB
          clear h0_ h1_ h2_ h3_
          have b6 := aI
          have HI0 := aJ
          have HK := aK
          have HB := aN
          clear aI aJ aK aN
          have hHeld := trivial
          refine norm_ (a' := ?_) ?_ ?_
          rotate_left
          ·simp only [putAll, Act.put, sA, sB, sC]
           rfl
          refine pA 13 31 ?_
          refine pA 14 32 ?_
          refine pA 15 33 ?_
          refine pA 16 7 ?_
          refine done_ (done_of HT_.out z0) ?_
          try go_wp2
          go_roundg kj4
          case measure => have := HK1.out; have := kn.out; omega
          case rel => exact ⟨(wrap64 (x1_1 - 1)), (x7_1 ++ (((strOfNums y154) ++ gG) ++ (⟨#[47]⟩ : ByteArray))), (kc), (kb), z1, z1, H', ⟨by have := HK1.out; have := kn.out; omega⟩, ⟨y37⟩, ⟨y33⟩, ⟨y30⟩⟩
         ·rw [if_neg ce] at H
          exact absurd H (by simp)
        ·rw [if_neg cO] at H
         exact absurd H (by simp)
       ·rw [if_neg bU] at H
        exact absurd H (by simp)
      ·replace c9 := Bool.eq_false_iff.mpr c9
       subst c9
       rw [if_neg nF_] at H
       obtain ⟨y163, hy163⟩ : ∃ y_ : List ByteArray, y_ = (([(⟨#[97]⟩ : ByteArray), (⟨#[98]⟩ : ByteArray), (⟨#[97, 98]⟩ : ByteArray), (⟨#[120]⟩ : ByteArray), (⟨#[32]⟩ : ByteArray), (⟨#[111, 110, 101]⟩ : ByteArray), (⟨#[49]⟩ : ByteArray), (⟨#[122, 46]⟩ : ByteArray)] : List ByteArray)) := ⟨_, rfl⟩
       replace H : ((spec_l1Cur_of.f s0_0 x1001_4 x1002_4 y163).bind fun ir => (if x7_1.size + ir.1.size ≤ 9223372036854775807 then (spec_l1Cur_inner.l0 kj4 (wrap64 (x1_1 - 1)) a2 (x7_1 ++ ir.1) s0_0 ir.2.1 ir.2.2) else (none))) = some (r1, r2, r3) := zh_ hy163
       have Ny163 := aM hy163
       clear hy163
       obtain ⟨⟨oA, sh, sg⟩, tH, H⟩ := oA_ H
       try dsimp only at H
       by_cases im : x7_1.size + oA.size ≤ 9223372036854775807
       ·rw [if_pos im] at H
        have c25b0 := eq_true im
        have c25b1 : decide (x7_1.size + oA.size ≤ 9223372036854775807) = true := dT im
        try have c25b2 : (9223372036854775807 < x7_1.size + oA.size) = False := eq_false (Nat.not_lt.2 im)
        have H' := aM H
        clear H
        go_wp2_with (first | ((with_reducible refine ay (N := 36) rfl ?_); refine Kd.R_lit Kd.string _ 9 ?hg (N := 36) ?hd (xs := ([(⟨#[97]⟩ : ByteArray), (⟨#[98]⟩ : ByteArray), (⟨#[97, 98]⟩ : ByteArray), (⟨#[120]⟩ : ByteArray), (⟨#[32]⟩ : ByteArray), (⟨#[111, 110, 101]⟩ : ByteArray), (⟨#[49]⟩ : ByteArray), (⟨#[122, 46]⟩ : ByteArray)] : List ByteArray)) (inner := [.string (⟨#[97]⟩ : ByteArray), .string (⟨#[98]⟩ : ByteArray), .string (⟨#[97, 98]⟩ : ByteArray), .string (⟨#[120]⟩ : ByteArray), .string (⟨#[32]⟩ : ByteArray), .string (⟨#[111, 110, 101]⟩ : ByteArray), .string (⟨#[49]⟩ : ByteArray), .string (⟨#[122, 46]⟩ : ByteArray)]) (ok := fun _ => True) (okp := fun _ => True) ?hr ?hp (fun _ hk => hk) trivial (Below.refl _ _) (Nat.le_refl _) (by simp) ?_; (case hd => rfl); (case hg => rfl); (case hr => first | (go_simp; done) | (go_simp; rfl)); (case hp => exact (Reps.one (show Kd.M Kd.string _ _ _ (⟨#[97]⟩ : ByteArray) [.string (⟨#[97]⟩ : ByteArray)] from rfl) (Reps.one (show Kd.M Kd.string _ _ _ (⟨#[98]⟩ : ByteArray) [.string (⟨#[98]⟩ : ByteArray)] from rfl) (Reps.one (show Kd.M Kd.string _ _ _ (⟨#[97, 98]⟩ : ByteArray) [.string (⟨#[97, 98]⟩ : ByteArray)] from rfl) (Reps.one (show Kd.M Kd.string _ _ _ (⟨#[120]⟩ : ByteArray) [.string (⟨#[120]⟩ : ByteArray)] from rfl) (Reps.one (show Kd.M Kd.string _ _ _ (⟨#[32]⟩ : ByteArray) [.string (⟨#[32]⟩ : ByteArray)] from rfl) (Reps.one (show Kd.M Kd.string _ _ _ (⟨#[111, 110, 101]⟩ : ByteArray) [.string (⟨#[111, 110, 101]⟩ : ByteArray)] from rfl) (Reps.one (show Kd.M Kd.string _ _ _ (⟨#[49]⟩ : ByteArray) [.string (⟨#[49]⟩ : ByteArray)] from rfl) (Reps.one (show Kd.M Kd.string _ _ _ (⟨#[122, 46]⟩ : ByteArray) [.string (⟨#[122, 46]⟩ : ByteArray)] from rfl) (Reps.none _ _)))))))))); intro v164 w26 ho27 hb hg_ hnew_; clear hg_ hnew_; (first | rw [← Ny163.out] at ho27 | (simp only [Int.reduceToNat] at ho27; rw [← Ny163.out] at ho27)); have jO := aM (aD ho27 (keep_size (w := w) (g := g) (row := none) z11)); replace HK := aM (KeepBut.trans z11 (KeepBut.of_below hb g none) (.inl rfl)); replace HB := aM (ap z16 hb); replace HI0 := aM (IsS48.below z19 hb); clear hb ho27; obtain ⟨nO, ma, eo28⟩ := Kd.R_slice jO.out; subst eo28) | ((with_reducible refine ax (f := 30) rfl ?_); refine aC (some 37) rfl rfl Try.func30 z0 rfl #[.pointer (some ⟨g, 0, none⟩), .slice nO y163.length ma] rfl z10 ?_; (with_reducible refine (spec_l1Cur_of.calls g s0_0 x1001_4 x1002_4 _ _ y163 oA sh sg w0 _ ?side1 ?side2 ?side3 ?side4 ?side5 tH.out).mono ?_); (case side1 => exact y68); (case side2 => exact y54); (case side3 => repeat (first | exact (ah jO.out).2.2 | (with_reducible refine au ?_ _) | (with_reducible refine av ?_ _) | (with_reducible refine aw ?_))); (case side4 => exact (ah jO.out).2.1); (case side5 => exact far_slice (IsS48.own_ne HI0.out jO.out (by decide))); rintro e w29 ⟨rfl, hi, hb, hk⟩; refine ⟨_, rfl, ?_⟩; replace jO := aM (ag (Kd.R_keep (IsS48.apart (show IsS48 w0 _ g s0_0 x1001_4 x1002_4 from ziHI0_) (kR_ jO.out) (by decide)) hk (fun _ h => h.2)) (fun _ h => h.1)); replace HK := aM (KeepBut.trans z11 hk (.inl rfl)); replace HB := aM hb; replace HI0 := aM hi; (try clear hb hk hi); (try clear cj)))
        go_roundg kj4
        case measure => have := HK1.out; have := kn.out; omega
        case rel => exact ⟨(wrap64 (x1_1 - 1)), (x7_1 ++ oA), (sh), (sg), z1, z1, H', ⟨by have := HK1.out; have := kn.out; omega⟩, ⟨y37⟩, ⟨y33⟩, ⟨y30⟩⟩
       ·rw [if_neg im] at H
        exact absurd H (by simp)
   ·rw [if_neg c4] at H
    have c4b0 : decide (0 < x1_1) = false := dF c4
    clear c4
    simp only [Option.some.injEq, Prod.mk.injEq] at H
    obtain ⟨rfl, rfl, rfl⟩ := H
    go_wp2
    go_ret
    exact ⟨y5, y37, y30, y33⟩

end Go.Proofs.Ytjbllgdehpomiaa.AFnMarks
