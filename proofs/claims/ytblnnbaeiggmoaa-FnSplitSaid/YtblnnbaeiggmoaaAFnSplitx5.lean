-- this session's own text: written by wip/tools/ownprint.py over the kit's print
import Derived.Test.YtblnnbaeiggmoaaAFnSplitx0
import Derived.Test.YtblnnbaeiggmoaaAFnSplitx2
namespace Go.Proofs.Ytblnnbaeiggmoaa.AFnSplit
open Go.RowKit Go.Proofs.YtblnnbaeiggmoaaW.PrintWords Go.Proofs.YtblnnbaeiggmoaaW.PrintLast Go.Proofs.YtblnnbaeiggmoaaW.PrintMore
attribute [local go_sem] max2_int min2_int max_two min_two max_three min_three max_four min_four   -- for this text's walks alone
set_option linter.unusedVariables false
set_option linter.unusedSimpArgs false

/-! ### spec_l12Join: function 29, by hand -/
def spec_l12Join.l0 : Nat → List (S101) → List (S101) → List (S101) → List (S101) → Int → Int → Option ((List (S101)))
 | 0, _, _, _, _, _, _ => none
 | k + 1, x0, x1, x5, x22, x23, x24 => if x24 < x23 then (if 0 ≤ x24 then (if x24 < (x22.length : Int) then (if ((rd_T101 x22 x24).f0) ≥ 0 then (if x5.length < 2932031007402 then (spec_l12Join.l0 k x0 x1 (x5 ++ [(⟨wrap64 (((rd_T101 x22 x24).f0) + (x0.length : Int)), wrap64 (((rd_T101 x22 x24).f1) + (x0.length : Int)), (rd_T101 x22 x24).f2, (rd_T101 x22 x24).f3, (rd_T101 x22 x24).f4⟩ : S101)]) x22 x23 (wrap64 (x24 + 1))) else (none)) else (if x5.length < 2932031007402 then (spec_l12Join.l0 k x0 x1 (x5 ++ [(⟨(rd_T101 x22 x24).f0, (rd_T101 x22 x24).f1, (rd_T101 x22 x24).f2, (rd_T101 x22 x24).f3, (rd_T101 x22 x24).f4⟩ : S101)]) x22 x23 (wrap64 (x24 + 1))) else (none))) else (none)) else (none)) else (if 0 ≤ (wrap64 ((x0.length : Int) - 1)) then (if (wrap64 ((x0.length : Int) - 1)) < (x0.length : Int) then (if 0 ≤ (wrap64 ((x1.length : Int) - 1)) then (if (wrap64 ((x1.length : Int) - 1)) < (x1.length : Int) then (if ((rd_T101 x1 (wrap64 ((x1.length : Int) - 1))).f4) > ((rd_T101 x0 (wrap64 ((x0.length : Int) - 1))).f4) then (if x5.length < 2932031007402 then (some (x5 ++ [(⟨wrap64 ((x0.length : Int) - 1), wrap64 ((x5.length : Int) - 1), (⟨#[]⟩ : ByteArray), wrap64 (((rd_T101 x0 (wrap64 ((x0.length : Int) - 1))).f3) + ((rd_T101 x1 (wrap64 ((x1.length : Int) - 1))).f3)), wrap64 (((rd_T101 x1 (wrap64 ((x1.length : Int) - 1))).f4) + 1)⟩ : S101)])) else (none)) else (if x5.length < 2932031007402 then (some (x5 ++ [(⟨wrap64 ((x0.length : Int) - 1), wrap64 ((x5.length : Int) - 1), (⟨#[]⟩ : ByteArray), wrap64 (((rd_T101 x0 (wrap64 ((x0.length : Int) - 1))).f3) + ((rd_T101 x1 (wrap64 ((x1.length : Int) - 1))).f3)), wrap64 (((rd_T101 x0 (wrap64 ((x0.length : Int) - 1))).f4) + 1)⟩ : S101)])) else (none))) else (none)) else (none)) else (none)) else (none))
def spec_l12Join.f (k : Nat) (l0 : List (S101)) (l1 : List (S101)) : Option ((List (S101))) := if (l0.length : Int) = 0 then (some l1) else (if (l1.length : Int) = 0 then (some l0) else ((some (([] : List (S101)) : List (S101))).bind fun y157 => (if y157.length + l0.length < 2932031007402 then (spec_l12Join.l0 k l0 l1 (y157 ++ l0) l1 (l1.length : Int) 0) else (none))))
theorem spec_l12Join.mono_l : ∀ k, (∀ y0 y1 y2 y3 y4 y5, LeO (spec_l12Join.l0 k y0 y1 y2 y3 y4 y5) (spec_l12Join.l0 (k + 1) y0 y1 y2 y3 y4 y5))
 | 0 => fun _ _ _ _ _ _ r h => by simp [spec_l12Join.l0] at h
 | k + 1 => by
  have ih0 := spec_l12Join.mono_l k
  ·intro y0 y1 y2 y3 y4 y5
   unfold spec_l12Join.l0
   repeat' first
   | (with_reducible exact ih0 _ _ _ _ _ _)
   | (with_reducible exact LeO.refl _)
   | (with_reducible exact LeO.none _)
   | (with_reducible refine LeO.ite ?_ ?_)
   | (with_reducible refine LeO.bind ?_ (fun _ => ?_))
theorem spec_l12Join.mono : ∀ a0 a1 k, LeO (spec_l12Join.f k a0 a1) (spec_l12Join.f (k + 1) a0 a1) := by
 intro a0 a1 k
 have ih0 := spec_l12Join.mono_l k
 unfold spec_l12Join.f
 repeat' first
   | (with_reducible exact ih0 _ _ _ _ _ _)
   | (with_reducible exact LeO.refl _)
   | (with_reducible exact LeO.none _)
   | (with_reducible refine LeO.ite ?_ ?_)
   | (with_reducible refine LeO.bind ?_ (fun _ => ?_))
def RdAt (w : World) (r : List S101) (e : Ending) (w' : World) : Prop := ∃ A c, e = .returned (.slice A r.length c) ∧ Kd.C k101 w' A r.length r ∧ r.length ≤ c ∧ Below w.heap.size w w'
/-- .. and the row that comes back is one of the two, or a new one. -/
def JnAt (w : World) (A0 : Option Addr) (c0 : Nat) (l0 : List S101) (A1 : Option Addr) (c1 : Nat) (l1 r : List S101) (e : Ending) (w' : World) : Prop := ∃ A c, e = .returned (.slice A r.length c) ∧ ((A = A1 ∧ c = c1 ∧ r = l1) ∨ (A = A0 ∧ c = c0 ∧ r = l0) ∨ Kd.R k101 101 w' w.heap.size (fun _ => True) (.slice A r.length c) r) ∧ Below w.heap.size w w'
set_option maxHeartbeats 8000000 in
set_option maxRecDepth 100000 in
theorem join_own (k : Nat) (l0 : List S101) (A0 : Option Addr) (c0 : Nat) (l1 : List S101) (A1 : Option Addr) (c1 : Nat) (r : List S101) (w : World) (hr0 : Kd.C k101 w A0 l0.length l0) (hc0 : l0.length ≤ c0) (hr1 : Kd.C k101 w A1 l1.length l1) (hc1 : l1.length ≤ c1) (h : spec_l12Join.f k l0 l1 = some r) :
  Calls Try.prog 29 #[.slice A0 l0.length c0, .slice A1 l1.length c1] w (JnAt w A0 c0 l0 A1 c1 l1 r) := by
 have hu101 := Try.underlying101
 have dY := aM hr0
 have je := aM hr1
 have en := aM hc0
 have gm := aM hc1
 unfold spec_l12Join.f at h
 by_cases e0 : (l0.length : Int) = 0
 ·rw [if_pos e0] at h
  obtain rfl := sI h
  have q0 : ((l0.length : Int) == 0) = true := qT e0
  clear h e0 hr0 hr1 hc0 hc1
  go_enter Try.func29, Try.ntmps29
  go_wp2
  go_ret
  exact ⟨A1, c1, rfl, .inl ⟨rfl, rfl, rfl⟩, Below.refl _ _⟩
 rw [if_neg e0] at h
 have q0 : ((l0.length : Int) == 0) = false := qF e0
 by_cases e1 : (l1.length : Int) = 0
 ·rw [if_pos e1] at h
  obtain rfl := sI h
  have q1 : ((l1.length : Int) == 0) = true := qT e1
  clear h e0 e1 hr0 hr1 hc0 hc1
  go_enter Try.func29, Try.ntmps29
  go_wp2
  go_ret
  exact ⟨A0, c0, rfl, .inr (.inl ⟨rfl, rfl, rfl⟩), Below.refl _ _⟩
 rw [if_neg e1] at h
 have q1 : ((l1.length : Int) == 0) = false := qF e1
 replace h : (if ([] : List S101).length + l0.length < 2932031007402 then (spec_l12Join.l0 k l0 l1 ([] ++ l0) l1 (l1.length : Int) 0) else none) = some r := h
 rw [List.nil_append] at h
 split at h
 case isFalse => cases h
 case isTrue hlen =>
 have HH := aM h
 have LM0 : Aside0 (([] : List S101).length + l0.length < 2932031007402) := ⟨hlen⟩
 clear h e0 e1 hr0 hr1 hc0 hc1 hlen
 go_enter Try.func29, Try.ntmps29
 go_wp2_with (first | ((with_reducible refine aN (N := 19) rfl ?_); refine Kd.R_lit k101 _ 101 ?hg (N := 19) ?hd (xs := ([] : List (S101))) (inner := []) (ok := fun _ => True) (okp := fun _ => True) ?hr ?hp (fun _ hk => hk) trivial (Below.refl _ _) (Nat.le_refl _) (by simp) ?_; (case hd => rfl); (case hg => rfl); (case hr => first | (go_simp; done) | (go_simp; rfl)); (case hp => exact (Reps.none _ _)); intro v1 w1 ho1 hb1 hg_ hnew_; have HV1 := aM ho1; have HB1 : Aside0 (Below w.heap.size w w1) := ⟨hb1⟩; have HRA := aM (aG dY.out hb1); clear ho1 hb1 hg_ hnew_) | ((with_reducible refine gate_builtin (b := .append) (xs := #[.tmp 19, .tmp 20]) rfl ?_); at_builtin; refine Kd.R_append_rows k101 (w0 := w) w.heap.size rfl (.tmp 19) (.tmp 20) 28 101 (.agg #[(.int .i64 0), (.int .i64 0), (.string ⟨#[]⟩), (.int .i64 0), (.int .i64 0)]) 48 rfl Try.underlying28 info101 rfl z0 (by omega) v1 [] l0 _ _ _ (fun _ => True) (fun _ => False) rfl rfl ?aO ?aR (fun _ _ h => h) (fun _ h => h.elim) (fun _ _ => trivial) ?aB ?aS ?aL ?_; (case aR => repeat (first | exact HRA.out | (with_reducible refine aH ?_ _) | (with_reducible refine aI ?_ _) | (with_reducible refine aJ ?_))); (case aB => exact (by repeat (first | (with_reducible first | exact HB1.out | apply bA | apply pD | apply bD) | exact HB1.out))); (case aO => exact (kR_ HV1.out)); (case aS => exact (aC (by repeat (first | (with_reducible first | exact HB1.out | apply bA | apply pD | apply bD) | exact HB1.out)))); (case aL => have := LM0.out; simp only [List.length_nil] at *; omega); intro v2 w2 ho hb hg hat; rw [List.nil_append] at ho; have HV2 := aM ho; have HB2 := aM hb; clear ho hb hg hat))
 go_loopg [5, 24] k (fun kq v5 v24 w' => ∃ (x5 : List S101) (i : Int), v24 = .int .i64 i ∧ Aside0 (spec_l12Join.l0 kq l0 l1 x5 l1 (l1.length : Int) i = some r) ∧ Aside0 (kq ≤ k) ∧ Aside0 (Kd.R k101 101 w' w.heap.size (fun _ => True) v5 x5) ∧ Aside0 (Below w.heap.size w w'))
 case atStart => exact ⟨l0, 0, (by first | rfl | (simp; done)), HH, ⟨Nat.le_refl _⟩, ⟨kR_ HV2.out⟩, ⟨by repeat (first | (with_reducible first | exact HB2.out | apply bA | apply pD | apply bD) | exact HB2.out)⟩⟩
 case round =>
  clear HH HV2 HB2 HV1 HB1 HRA
  obtain ⟨x5, i, rfl, HA, HK1, ie, HB⟩ := hrel
  cases gk with
  | zero => exact absurd HA.out (by simp [spec_l12Join.l0])
  | succ k1 =>
   have H := HA.out
   clear HA
   simp only [spec_l12Join.l0] at H
   obtain ⟨sL, sf, eo5⟩ := Kd.R_slice ie.out
   subst eo5
   by_cases t1 : i < (l1.length : Int)
   ·rw [if_pos t1] at H
    have d1 : decide (i < (l1.length : Int)) = true := dT t1
    by_cases t2 : 0 ≤ i
    ·rw [if_pos t2, if_pos t1] at H
     have d2 : decide (0 ≤ i) = true := dT t2
     obtain ⟨ad, e_, hx0, hx1, hx2, hx3, hx4⟩ := at_T101 (aG je.out HB.out) i t2 t1
     cases e_
     replace t1 := eq_true t1
     replace t2 := eq_true t2
     by_cases t3 : (rd_T101 l1 i).f0 ≥ 0
     ·rw [if_pos t3] at H
      have d3 : decide (0 ≤ (rd_T101 l1 i).f0) = true := dT t3
      clear t3
      by_cases t4 : x5.length < 2932031007402
      ·rw [if_pos t4] at H
       have LM := aM t4
       clear t4
       go_upto_region 8 with (fail)
       go_cut [7] (fun v_ wc_ => ∃ g_, v_ = .pointer (some ⟨g_, 0, none⟩) ∧ Aside0 (g_ = wr.heap.size) ∧ Aside0 (wc_.heap[g_]? = some (.cells #[.int .i64 ((rd_T101 l1 i).f0), .int .i64 ((rd_T101 l1 i).f1), .string ((rd_T101 l1 i).f2), .int .i64 ((rd_T101 l1 i).f3), .int .i64 ((rd_T101 l1 i).f4)] 101 (0, 0))) ∧ Aside0 (Below wr.heap.size wr wc_))
       case first =>
        go_wp2_with (fail)
        go_meet
        exact ⟨_, rfl, ⟨rfl⟩, ⟨blk_new _ _⟩, ⟨bA (Below.refl _ _) _⟩⟩
       case rest =>
        obtain ⟨gx, rfl, hg_, BK_gx, hb_⟩ := hcut
        have bb := aM (ag (Kd.R_elderB ie.out gx (Nat.le_of_eq hg_.out.symm)) hb_.out); have bc := aM (aA HB.out hb_.out); have GE_gx : Aside0 (w.heap.size ≤ gx) := ⟨by rw [hg_.out]; exact HB.out.size⟩
        clear ie HB; have ie := bb; have HB := bc; clear bb bc hg_ hb_
        have hcgx_0 : wc.cell? ⟨gx, 0, none⟩ = some (.int .i64 ((rd_T101 l1 i).f0)) := (bC BK_gx.out 0).trans rfl; have hfgx_0 := bF BK_gx.out 0; have hcgx_1 : wc.cell? ⟨gx, 1, none⟩ = some (.int .i64 ((rd_T101 l1 i).f1)) := (bC BK_gx.out 1).trans rfl; have hfgx_1 := bF BK_gx.out 1; have hcgx_2 : wc.cell? ⟨gx, 2, none⟩ = some (.string ((rd_T101 l1 i).f2)) := (bC BK_gx.out 2).trans rfl; have hfgx_2 := bF BK_gx.out 2; have hcgx_3 : wc.cell? ⟨gx, 3, none⟩ = some (.int .i64 ((rd_T101 l1 i).f3)) := (bC BK_gx.out 3).trans rfl; have hfgx_3 := bF BK_gx.out 3; have hcgx_4 : wc.cell? ⟨gx, 4, none⟩ = some (.int .i64 ((rd_T101 l1 i).f4)) := (bC BK_gx.out 4).trans rfl; have hfgx_4 := bF BK_gx.out 4
        clear hx0 hx1 hx2 hx3 hx4
        go_upto_region 11 with (fail)
        go_cut [] (fun wd_ => Aside0 (wd_.heap[gx]? = some (.cells #[.int .i64 (wrap64 ((rd_T101 l1 i).f0 + (l0.length : Int))), .int .i64 (wrap64 ((rd_T101 l1 i).f1 + (l0.length : Int))), .string ((rd_T101 l1 i).f2), .int .i64 ((rd_T101 l1 i).f3), .int .i64 ((rd_T101 l1 i).f4)] 101 (0, 0))) ∧ Aside0 (Kd.R k101 101 wd_ w.heap.size (fun k_ => True ∧ k_ ≠ gx) (.slice sL x5.length sf) x5) ∧ Aside0 (Below w.heap.size w wd_))
        case first =>
         go_wp2_with (fail)
         go_meet
         exact ⟨⟨by (with_reducible repeat (first | refine au ?_ _ | refine ar ?_ | refine av ?_ _)); refine ax (cs := #[.int .i64 (wrap64 ((rd_T101 l1 i).f0 + (l0.length : Int))), .int .i64 ((rd_T101 l1 i).f1), .string ((rd_T101 l1 i).f2), .int .i64 ((rd_T101 l1 i).f3), .int .i64 ((rd_T101 l1 i).f4)]) ?_ 1 _ rfl; (with_reducible repeat (first | refine au ?_ _ | refine ar ?_ | refine av ?_ _)); refine ax (cs := #[.int .i64 ((rd_T101 l1 i).f0), .int .i64 ((rd_T101 l1 i).f1), .string ((rd_T101 l1 i).f2), .int .i64 ((rd_T101 l1 i).f3), .int .i64 ((rd_T101 l1 i).f4)]) ?_ 0 _ rfl; (with_reducible repeat (first | refine au ?_ _ | refine ar ?_ | refine av ?_ _)); exact BK_gx.out⟩, ⟨by (with_reducible repeat (first | apply ae | apply ac | apply aa)); exact (ap (p := ⟨gx, 1, none⟩) (ap (p := ⟨gx, 0, none⟩) ie.out (fun _ hk => hk.2) (.int .i64 (wrap64 ((rd_T101 l1 i).f0 + (l0.length : Int))))) (fun _ hk => hk.2) (.int .i64 (wrap64 ((rd_T101 l1 i).f1 + (l0.length : Int)))))⟩, ⟨by repeat (first | (with_reducible first | exact HB.out | apply bA | apply pD | apply bD | refine az ?_ GE_gx.out) | exact HB.out)⟩⟩
        case rest =>
         obtain ⟨CB_, CO_, CL_⟩ := hcut
         clear ie HB BK_gx hcgx_0 hfgx_0 hcgx_1 hfgx_1 hcgx_2 hfgx_2 hcgx_3 hfgx_3 hcgx_4 hfgx_4; have ie := CO_; have HB := CL_; have BK_gx := CB_; clear CO_ CL_ CB_
         have hcgx_0 : wc.cell? ⟨gx, 0, none⟩ = some (.int .i64 (wrap64 ((rd_T101 l1 i).f0 + (l0.length : Int)))) := (bC BK_gx.out 0).trans rfl; have hfgx_0 := bF BK_gx.out 0; have hcgx_1 : wc.cell? ⟨gx, 1, none⟩ = some (.int .i64 (wrap64 ((rd_T101 l1 i).f1 + (l0.length : Int)))) := (bC BK_gx.out 1).trans rfl; have hfgx_1 := bF BK_gx.out 1; have hcgx_2 : wc.cell? ⟨gx, 2, none⟩ = some (.string ((rd_T101 l1 i).f2)) := (bC BK_gx.out 2).trans rfl; have hfgx_2 := bF BK_gx.out 2; have hcgx_3 : wc.cell? ⟨gx, 3, none⟩ = some (.int .i64 ((rd_T101 l1 i).f3)) := (bC BK_gx.out 3).trans rfl; have hfgx_3 := bF BK_gx.out 3; have hcgx_4 : wc.cell? ⟨gx, 4, none⟩ = some (.int .i64 ((rd_T101 l1 i).f4)) := (bC BK_gx.out 4).trans rfl; have hfgx_4 := bF BK_gx.out 4
         go_wp2_with (first | ((with_reducible refine gate_builtin (b := .append) (xs := #[.tmp 43, .tmp 45]) rfl ?_); at_builtin; refine aX k101 (w0 := w) w.heap.size rfl (.tmp 43) (.tmp 45) 28 101 (.agg #[(.int .i64 0), (.int .i64 0), (.string ⟨#[]⟩), (.int .i64 0), (.int .i64 0)]) 48 rfl Try.underlying28 info101 rfl z0 (by omega) (.slice sL x5.length sf) x5 (⟨wrap64 ((rd_T101 l1 i).f0 + (l0.length : Int)), wrap64 ((rd_T101 l1 i).f1 + (l0.length : Int)), (rd_T101 l1 i).f2, (rd_T101 l1 i).f3, (rd_T101 l1 i).f4⟩ : S101) [.int .i64 (wrap64 ((rd_T101 l1 i).f0 + (l0.length : Int))), .int .i64 (wrap64 ((rd_T101 l1 i).f1 + (l0.length : Int))), .string ((rd_T101 l1 i).f2), .int .i64 ((rd_T101 l1 i).f3), .int .i64 ((rd_T101 l1 i).f4)] (fun k_ => k_ ≠ gx) (fun _ => False) rfl (by first | (go_simp; done) | (go_simp; rfl)) ?aP (fun _ hk => hk.elim) ?aF ?aO ?aB ?aS ?aL ?_; (case aP => exact k101_mkM _ _ _ (⟨wrap64 ((rd_T101 l1 i).f0 + (l0.length : Int)), wrap64 ((rd_T101 l1 i).f1 + (l0.length : Int)), (rd_T101 l1 i).f2, (rd_T101 l1 i).f3, (rd_T101 l1 i).f4⟩ : S101)); (case aB => exact z32); (case aF => exact (fun k_ hk => Kd.freshB (g := gx) (kB_ BK_gx.out) k_ hk)); (case aO => exact (kM_ ie.out (fun _ hk => hk.2))); (case aS => exact (aC z32)); (case aL => have := LM.out; omega);  intro v9 w9 ho hb hg hat; have bb := aM ho; have bc := aM hb; clear ie HB; have ie := bb; have HB := bc; clear bb bc ho hb hg hat))
         go_roundg k1
         case measure => have := HK1.out; omega
         case rel => exact ⟨_, wrap64 (i + 1), (by first | rfl | (simp; done)), ⟨H⟩, ⟨y0⟩, ⟨kM_ ie.out (fun _ _ => trivial)⟩, ⟨y5⟩⟩
      ·rw [if_neg t4] at H
       exact absurd H (by simp)
     ·rw [if_neg t3] at H
      have d3 : decide (0 ≤ (rd_T101 l1 i).f0) = false := dF t3
      clear t3
      by_cases t4 : x5.length < 2932031007402
      ·rw [if_pos t4] at H
       have LM := aM t4
       clear t4
       go_upto_region 8 with (fail)
       go_cut [7] (fun v_ wc_ => ∃ g_, v_ = .pointer (some ⟨g_, 0, none⟩) ∧ Aside0 (g_ = wr.heap.size) ∧ Aside0 (wc_.heap[g_]? = some (.cells #[.int .i64 ((rd_T101 l1 i).f0), .int .i64 ((rd_T101 l1 i).f1), .string ((rd_T101 l1 i).f2), .int .i64 ((rd_T101 l1 i).f3), .int .i64 ((rd_T101 l1 i).f4)] 101 (0, 0))) ∧ Aside0 (Below wr.heap.size wr wc_))
       case first =>
        go_wp2_with (fail)
        go_meet
        exact ⟨_, rfl, ⟨rfl⟩, ⟨blk_new _ _⟩, ⟨bA (Below.refl _ _) _⟩⟩
       case rest =>
        obtain ⟨gx, rfl, hg_, BK_gx, hb_⟩ := hcut
        have bb := aM (ag (Kd.R_elderB ie.out gx (Nat.le_of_eq hg_.out.symm)) hb_.out); have bc := aM (aA HB.out hb_.out); have GE_gx : Aside0 (w.heap.size ≤ gx) := ⟨by rw [hg_.out]; exact HB.out.size⟩
        clear ie HB; have ie := bb; have HB := bc; clear bb bc hg_ hb_
        have hcgx_0 : wc.cell? ⟨gx, 0, none⟩ = some (.int .i64 ((rd_T101 l1 i).f0)) := (bC BK_gx.out 0).trans rfl; have hfgx_0 := bF BK_gx.out 0; have hcgx_1 : wc.cell? ⟨gx, 1, none⟩ = some (.int .i64 ((rd_T101 l1 i).f1)) := (bC BK_gx.out 1).trans rfl; have hfgx_1 := bF BK_gx.out 1; have hcgx_2 : wc.cell? ⟨gx, 2, none⟩ = some (.string ((rd_T101 l1 i).f2)) := (bC BK_gx.out 2).trans rfl; have hfgx_2 := bF BK_gx.out 2; have hcgx_3 : wc.cell? ⟨gx, 3, none⟩ = some (.int .i64 ((rd_T101 l1 i).f3)) := (bC BK_gx.out 3).trans rfl; have hfgx_3 := bF BK_gx.out 3; have hcgx_4 : wc.cell? ⟨gx, 4, none⟩ = some (.int .i64 ((rd_T101 l1 i).f4)) := (bC BK_gx.out 4).trans rfl; have hfgx_4 := bF BK_gx.out 4
        clear hx0 hx1 hx2 hx3 hx4
        go_wp2_with (first | ((with_reducible refine gate_builtin (b := .append) (xs := #[.tmp 43, .tmp 45]) rfl ?_); at_builtin; refine aX k101 (w0 := w) w.heap.size rfl (.tmp 43) (.tmp 45) 28 101 (.agg #[(.int .i64 0), (.int .i64 0), (.string ⟨#[]⟩), (.int .i64 0), (.int .i64 0)]) 48 rfl Try.underlying28 info101 rfl z0 (by omega) (.slice sL x5.length sf) x5 (⟨(rd_T101 l1 i).f0, (rd_T101 l1 i).f1, (rd_T101 l1 i).f2, (rd_T101 l1 i).f3, (rd_T101 l1 i).f4⟩ : S101) [.int .i64 ((rd_T101 l1 i).f0), .int .i64 ((rd_T101 l1 i).f1), .string ((rd_T101 l1 i).f2), .int .i64 ((rd_T101 l1 i).f3), .int .i64 ((rd_T101 l1 i).f4)] (fun k_ => k_ ≠ gx) (fun _ => False) rfl (by first | (go_simp; done) | (go_simp; rfl)) ?aP (fun _ hk => hk.elim) ?aF ?aO ?aB ?aS ?aL ?_; (case aP => exact k101_mkM _ _ _ (⟨(rd_T101 l1 i).f0, (rd_T101 l1 i).f1, (rd_T101 l1 i).f2, (rd_T101 l1 i).f3, (rd_T101 l1 i).f4⟩ : S101)); (case aB => exact z32); (case aF => exact (fun k_ hk => Kd.freshB (g := gx) (kB_ BK_gx.out) k_ hk)); (case aO => exact (kM_ ie.out (fun _ hk => hk.2))); (case aS => exact (aC z32)); (case aL => have := LM.out; omega);  intro v9 w9 ho hb hg hat; have bb := aM ho; have bc := aM hb; clear ie HB; have ie := bb; have HB := bc; clear bb bc ho hb hg hat))
        go_roundg k1
        case measure => have := HK1.out; omega
        case rel => exact ⟨_, wrap64 (i + 1), (by first | rfl | (simp; done)), ⟨H⟩, ⟨y0⟩, ⟨kM_ ie.out (fun _ _ => trivial)⟩, ⟨y5⟩⟩
      ·rw [if_neg t4] at H
       exact absurd H (by simp)
    ·rw [if_neg t2] at H
     exact absurd H (by simp)
   ·rw [if_neg t1] at H
    have d1 : decide (i < (l1.length : Int)) = false := dF t1
    clear t1
    obtain ⟨a, ha⟩ : ∃ j : Int, wrap64 ((l0.length : Int) - 1) = j := ⟨_, rfl⟩
    obtain ⟨b, hb⟩ : ∃ j : Int, wrap64 ((l1.length : Int) - 1) = j := ⟨_, rfl⟩
    have haw : IntKind.i64.wrap ((l0.length : Int) - 1) = a := (i64_w _).trans ha
    have hbw : IntKind.i64.wrap ((l1.length : Int) - 1) = b := (i64_w _).trans hb
    rw [ha, hb] at H
    clear ha hb
    by_cases t5 : 0 ≤ a
    ·by_cases t6 : a < (l0.length : Int)
     ·rw [if_pos t5, if_pos t6] at H
      by_cases t7 : 0 ≤ b
      ·by_cases t8 : b < (l1.length : Int)
       ·rw [if_pos t7, if_pos t8] at H
        obtain ⟨ada, ea_, ha0, ha1, ha2, ha3, ha4⟩ := at_T101 (aG dY.out HB.out) a t5 t6
        cases ea_
        replace t5 := eq_true t5
        replace t6 := eq_true t6
        go_upto_region 14 with (fail)
        go_cut [8] (fun v_ wc_ => ∃ g_, v_ = .pointer (some ⟨g_, 0, none⟩) ∧ Aside0 (g_ = wr.heap.size) ∧ Aside0 (wc_.heap[g_]? = some (.cells #[.int .i64 ((rd_T101 l0 a).f0), .int .i64 ((rd_T101 l0 a).f1), .string ((rd_T101 l0 a).f2), .int .i64 ((rd_T101 l0 a).f3), .int .i64 ((rd_T101 l0 a).f4)] 101 (0, 0))) ∧ Aside0 (Below wr.heap.size wr wc_))
        case first =>
         go_wp2_with (fail)
         go_meet
         exact ⟨_, rfl, ⟨rfl⟩, ⟨blk_new _ _⟩, ⟨bA (Below.refl _ _) _⟩⟩
        case rest =>
         obtain ⟨gl, rfl, hg_, BK_gl, hb_⟩ := hcut
         have bb := aM (ag (Kd.R_elderB ie.out gl (Nat.le_of_eq hg_.out.symm)) hb_.out); have bc := aM (aA HB.out hb_.out); have GE_gl : Aside0 (w.heap.size ≤ gl) := ⟨by rw [hg_.out]; exact HB.out.size⟩
         clear ie HB; have ie := bb; have HB := bc; clear bb bc hg_ hb_
         have hcgl_0 : wc.cell? ⟨gl, 0, none⟩ = some (.int .i64 ((rd_T101 l0 a).f0)) := (bC BK_gl.out 0).trans rfl; have hfgl_0 := bF BK_gl.out 0; have hcgl_1 : wc.cell? ⟨gl, 1, none⟩ = some (.int .i64 ((rd_T101 l0 a).f1)) := (bC BK_gl.out 1).trans rfl; have hfgl_1 := bF BK_gl.out 1; have hcgl_2 : wc.cell? ⟨gl, 2, none⟩ = some (.string ((rd_T101 l0 a).f2)) := (bC BK_gl.out 2).trans rfl; have hfgl_2 := bF BK_gl.out 2; have hcgl_3 : wc.cell? ⟨gl, 3, none⟩ = some (.int .i64 ((rd_T101 l0 a).f3)) := (bC BK_gl.out 3).trans rfl; have hfgl_3 := bF BK_gl.out 3; have hcgl_4 : wc.cell? ⟨gl, 4, none⟩ = some (.int .i64 ((rd_T101 l0 a).f4)) := (bC BK_gl.out 4).trans rfl; have hfgl_4 := bF BK_gl.out 4
         clear ha0 ha1 ha2 ha3 ha4
         obtain ⟨adb, eb_, hb0, hb1, hb2, hb3, hb4⟩ := at_T101 (aG je.out HB.out) b t7 t8
         cases eb_
         replace t7 := eq_true t7
         replace t8 := eq_true t8
         go_upto_region 15 with (fail)
         go_cut [9] (fun v_ wc_ => ∃ g_, v_ = .pointer (some ⟨g_, 0, none⟩) ∧ Aside0 (g_ = wc.heap.size) ∧ Aside0 (wc_.heap[g_]? = some (.cells #[.int .i64 ((rd_T101 l1 b).f0), .int .i64 ((rd_T101 l1 b).f1), .string ((rd_T101 l1 b).f2), .int .i64 ((rd_T101 l1 b).f3), .int .i64 ((rd_T101 l1 b).f4)] 101 (0, 0))) ∧ Aside0 (Below wc.heap.size wc wc_))
         case first =>
          go_wp2_with (fail)
          go_meet
          exact ⟨_, rfl, ⟨rfl⟩, ⟨blk_new _ _⟩, ⟨bA (Below.refl _ _) _⟩⟩
         case rest =>
          obtain ⟨gr, rfl, hg_, BK_gr, hb_⟩ := hcut
          have bb := aM (ag (Kd.R_elderB ie.out gr (Nat.le_of_eq hg_.out.symm)) hb_.out); have bc := aM (aA HB.out hb_.out); have GE_gr : Aside0 (w.heap.size ≤ gr) := ⟨by rw [hg_.out]; exact HB.out.size⟩
          have mgl_ := aM (af BK_gl.out hb_.out); have NE_gl : Aside0 (gl ≠ gr) := ⟨fun e_ => by have := ay BK_gl.out; rw [hg_.out] at e_; omega⟩
          clear ie HB; have ie := bb; have HB := bc; clear bb bc hg_ hb_; clear BK_gl hcgl_0 hfgl_0 hcgl_1 hfgl_1 hcgl_2 hfgl_2 hcgl_3 hfgl_3 hcgl_4 hfgl_4; have BK_gl := mgl_; clear mgl_
          have hcgr_0 : wc.cell? ⟨gr, 0, none⟩ = some (.int .i64 ((rd_T101 l1 b).f0)) := (bC BK_gr.out 0).trans rfl; have hfgr_0 := bF BK_gr.out 0; have hcgr_1 : wc.cell? ⟨gr, 1, none⟩ = some (.int .i64 ((rd_T101 l1 b).f1)) := (bC BK_gr.out 1).trans rfl; have hfgr_1 := bF BK_gr.out 1; have hcgr_2 : wc.cell? ⟨gr, 2, none⟩ = some (.string ((rd_T101 l1 b).f2)) := (bC BK_gr.out 2).trans rfl; have hfgr_2 := bF BK_gr.out 2; have hcgr_3 : wc.cell? ⟨gr, 3, none⟩ = some (.int .i64 ((rd_T101 l1 b).f3)) := (bC BK_gr.out 3).trans rfl; have hfgr_3 := bF BK_gr.out 3; have hcgr_4 : wc.cell? ⟨gr, 4, none⟩ = some (.int .i64 ((rd_T101 l1 b).f4)) := (bC BK_gr.out 4).trans rfl; have hfgr_4 := bF BK_gr.out 4
          have hcgl_0 : wc.cell? ⟨gl, 0, none⟩ = some (.int .i64 ((rd_T101 l0 a).f0)) := (bC BK_gl.out 0).trans rfl; have hfgl_0 := bF BK_gl.out 0; have hcgl_1 : wc.cell? ⟨gl, 1, none⟩ = some (.int .i64 ((rd_T101 l0 a).f1)) := (bC BK_gl.out 1).trans rfl; have hfgl_1 := bF BK_gl.out 1; have hcgl_2 : wc.cell? ⟨gl, 2, none⟩ = some (.string ((rd_T101 l0 a).f2)) := (bC BK_gl.out 2).trans rfl; have hfgl_2 := bF BK_gl.out 2; have hcgl_3 : wc.cell? ⟨gl, 3, none⟩ = some (.int .i64 ((rd_T101 l0 a).f3)) := (bC BK_gl.out 3).trans rfl; have hfgl_3 := bF BK_gl.out 3; have hcgl_4 : wc.cell? ⟨gl, 4, none⟩ = some (.int .i64 ((rd_T101 l0 a).f4)) := (bC BK_gl.out 4).trans rfl; have hfgl_4 := bF BK_gl.out 4
          clear hb0 hb1 hb2 hb3 hb4
          by_cases t9 : (rd_T101 l1 b).f4 > (rd_T101 l0 a).f4
          ·rw [if_pos t9] at H
           have d9 : decide ((rd_T101 l0 a).f4 < (rd_T101 l1 b).f4) = true := dT t9
           clear t9
           by_cases t4 : x5.length < 2932031007402
           ·rw [if_pos t4] at H
            have LM := aM t4
            clear t4
            obtain rfl := sI H
            go_wp2_with (first | ((with_reducible refine gate_builtin (b := .append) (xs := #[.tmp 68, .tmp 83]) rfl ?_); at_builtin; refine aX k101 (w0 := w) w.heap.size rfl (.tmp 68) (.tmp 83) 28 101 (.agg #[(.int .i64 0), (.int .i64 0), (.string ⟨#[]⟩), (.int .i64 0), (.int .i64 0)]) 48 rfl Try.underlying28 info101 rfl z0 (by omega) (.slice sL x5.length sf) x5 (⟨a, wrap64 ((x5.length : Int) - 1), (⟨#[]⟩ : ByteArray), wrap64 ((rd_T101 l0 a).f3 + (rd_T101 l1 b).f3), wrap64 ((rd_T101 l1 b).f4 + 1)⟩ : S101) [.int .i64 a, .int .i64 (wrap64 ((x5.length : Int) - 1)), .string ⟨#[]⟩, .int .i64 (wrap64 ((rd_T101 l0 a).f3 + (rd_T101 l1 b).f3)), .int .i64 (wrap64 ((rd_T101 l1 b).f4 + 1))] (fun k_ => k_ ≠ gl ∧ k_ ≠ gr) (fun _ => False) rfl (by first | (go_simp; done) | (go_simp; rfl)) ?aP (fun _ hk => hk.elim) ?aF ?aO ?aB ?aS ?aL ?_; (case aP => exact k101_mkM _ _ _ (⟨a, wrap64 ((x5.length : Int) - 1), (⟨#[]⟩ : ByteArray), wrap64 ((rd_T101 l0 a).f3 + (rd_T101 l1 b).f3), wrap64 ((rd_T101 l1 b).f4 + 1)⟩ : S101)); (case aB => exact z32); (case aF => exact (fun k_ hk => ⟨Kd.freshB (g := gl) (kB_ BK_gl.out) k_ hk, Kd.freshB (g := gr) (kB_ BK_gr.out) k_ hk⟩)); (case aO => exact (kM_ ie.out (fun _ hk => ⟨hk.1.2, hk.2⟩))); (case aS => exact (aC z32)); (case aL => have := LM.out; omega);  intro v9 w9 ho hb hg hat; have vy := aM ho; have HB9 := aM hb; clear ho hb hg hat))
            go_ret
            obtain ⟨A9, c9, eo9⟩ := Kd.R_slice vy.out
            subst eo9
            exact ⟨A9, c9, rfl, .inr (.inr (ah vy.out (fun _ _ => trivial))), HB9.out⟩
           ·rw [if_neg t4] at H
            exact absurd H (by simp)
          ·rw [if_neg t9] at H
           have d9 : decide ((rd_T101 l0 a).f4 < (rd_T101 l1 b).f4) = false := dF t9
           clear t9
           by_cases t4 : x5.length < 2932031007402
           ·rw [if_pos t4] at H
            have LM := aM t4
            clear t4
            obtain rfl := sI H
            go_wp2_with (first | ((with_reducible refine gate_builtin (b := .append) (xs := #[.tmp 68, .tmp 83]) rfl ?_); at_builtin; refine aX k101 (w0 := w) w.heap.size rfl (.tmp 68) (.tmp 83) 28 101 (.agg #[(.int .i64 0), (.int .i64 0), (.string ⟨#[]⟩), (.int .i64 0), (.int .i64 0)]) 48 rfl Try.underlying28 info101 rfl z0 (by omega) (.slice sL x5.length sf) x5 (⟨a, wrap64 ((x5.length : Int) - 1), (⟨#[]⟩ : ByteArray), wrap64 ((rd_T101 l0 a).f3 + (rd_T101 l1 b).f3), wrap64 ((rd_T101 l0 a).f4 + 1)⟩ : S101) [.int .i64 a, .int .i64 (wrap64 ((x5.length : Int) - 1)), .string ⟨#[]⟩, .int .i64 (wrap64 ((rd_T101 l0 a).f3 + (rd_T101 l1 b).f3)), .int .i64 (wrap64 ((rd_T101 l0 a).f4 + 1))] (fun k_ => k_ ≠ gl ∧ k_ ≠ gr) (fun _ => False) rfl (by first | (go_simp; done) | (go_simp; rfl)) ?aP (fun _ hk => hk.elim) ?aF ?aO ?aB ?aS ?aL ?_; (case aP => exact k101_mkM _ _ _ (⟨a, wrap64 ((x5.length : Int) - 1), (⟨#[]⟩ : ByteArray), wrap64 ((rd_T101 l0 a).f3 + (rd_T101 l1 b).f3), wrap64 ((rd_T101 l0 a).f4 + 1)⟩ : S101)); (case aB => exact z32); (case aF => exact (fun k_ hk => ⟨Kd.freshB (g := gl) (kB_ BK_gl.out) k_ hk, Kd.freshB (g := gr) (kB_ BK_gr.out) k_ hk⟩)); (case aO => exact (kM_ ie.out (fun _ hk => ⟨hk.1.2, hk.2⟩))); (case aS => exact (aC z32)); (case aL => have := LM.out; omega);  intro v9 w9 ho hb hg hat; have vy := aM ho; have HB9 := aM hb; clear ho hb hg hat))
            go_ret
            obtain ⟨A9, c9, eo9⟩ := Kd.R_slice vy.out
            subst eo9
            exact ⟨A9, c9, rfl, .inr (.inr (ah vy.out (fun _ _ => trivial))), HB9.out⟩
           ·rw [if_neg t4] at H
            exact absurd H (by simp)
       ·rw [if_pos t7, if_neg t8] at H
        exact absurd H (by simp)
      ·rw [if_neg t7] at H
       exact absurd H (by simp)
     ·rw [if_pos t5, if_neg t6] at H
      exact absurd H (by simp)
    ·rw [if_neg t5] at H
     exact absurd H (by simp)
theorem join_rd (k : Nat) (l0 : List S101) (A0 : Option Addr) (c0 : Nat) (l1 : List S101) (A1 : Option Addr) (c1 : Nat) (r : List S101) (w : World) (hr0 : Kd.C k101 w A0 l0.length l0) (hc0 : l0.length ≤ c0) (hr1 : Kd.C k101 w A1 l1.length l1) (hc1 : l1.length ≤ c1) (h : spec_l12Join.f k l0 l1 = some r) :
  Calls Try.prog 29 #[.slice A0 l0.length c0, .slice A1 l1.length c1] w (RdAt w r) := by
 refine (join_own k l0 A0 c0 l1 A1 c1 r w hr0 hc0 hr1 hc1 h).mono ?_
 rintro e w' ⟨A, c, rfl, h, hb⟩
 rcases h with ⟨rfl, rfl, rfl⟩ | ⟨rfl, rfl, rfl⟩ | h
 ·exact ⟨_, _, rfl, aG hr1 hb, hc1, hb⟩
 ·exact ⟨_, _, rfl, aG hr0 hb, hc0, hb⟩
 ·exact ⟨_, _, rfl, (ai h).2.2, (ai h).2.1, hb⟩

/-! ### spec_l12Piece: function 30 -/
def spec_l12Piece.f (a0 : ByteArray) : Option ((List (S101))) := some (([(⟨(-1), (-1), a0, (a0.size : Int), 0⟩ : S101)] : List (S101)))
set_option maxHeartbeats 8000000 in
set_option maxRecDepth 100000 in
theorem spec_l12Piece.calls (a0 : ByteArray) (r : List (S101)) (w : World) (h : spec_l12Piece.f a0 = some r) :
  Calls Try.prog 30 #[.string a0] w fun e w' => ∃ v0_ : Value, e = .returned (v0_) ∧ Kd.R k101 101 w' w.heap.size (fun _ => True) v0_ r ∧ Below w.heap.size w w' := by
 have hu101 := Try.underlying101
 have HB := aM (Below.refl w.heap.size w)
 have H : (some (([(⟨(-1), (-1), a0, (a0.size : Int), 0⟩ : S101)] : List (S101)))) = some r := h
 clear h
 obtain ⟨y149, hy149⟩ : ∃ y_ : List (S101), y_ = (([(⟨(-1), (-1), a0, (a0.size : Int), 0⟩ : S101)] : List (S101))) := ⟨_, rfl⟩
 replace H : (some y149) = some r := by first | (rw [hy149]; with_reducible exact H) | (have H2_ := (Option.bind_some _ _).symm.trans H; rw [hy149]; with_reducible exact H2_) | (have H2_ := (Option.bind_some _ _).symm.trans H; with_reducible exact H2_) | with_reducible exact H | (rw [hy149]; exact H) | exact H
 have Ny149 := aM hy149
 clear hy149
 obtain rfl := sI H
 go_enter Try.func30, Try.ntmps30
 go_wp2_with (first | ((with_reducible refine aN (N := 7) rfl ?_); refine Kd.R_lit k101 _ 101 ?hg (N := 7) ?hd (xs := ([(⟨(-1), (-1), a0, (a0.size : Int), 0⟩ : S101)] : List (S101))) (inner := [.int .i64 (-1), .int .i64 (-1), .string a0, .int .i64 (a0.size : Int), .int .i64 0]) (ok := fun _ => True) (okp := fun _ => True) ?hr ?hp (fun _ hk => hk) trivial (Below.refl _ _) (Nat.le_refl _) (by simp) ?_; (case hd => rfl); (case hg => rfl); (case hr => first | (go_simp; done) | (go_simp; rfl)); (case hp => exact (Reps.c5 (show Kd.M k101 _ _ _ (⟨(-1), (-1), a0, (a0.size : Int), 0⟩ : S101) [.int .i64 (-1), .int .i64 (-1), .string a0, .int .i64 (a0.size : Int), .int .i64 0] from (k101_mkM _ _ _ (⟨(-1), (-1), a0, (a0.size : Int), 0⟩ : S101) )) (Reps.none _ _))); intro v150 w2 ho3 hb hg_ hnew_; clear hg_ hnew_; (first | rw [← Ny149.out] at ho3 | (simp only [Int.reduceToNat] at ho3; rw [← Ny149.out] at ho3)); have HO151 := aM (aW ho3 (aC z32)); replace HB := aM (aA z32 hb); clear hb ho3))
 go_ret
 exact ⟨_, y4, by (with_reducible repeat (first | apply ae | apply ac | apply aa)); exact HO151.out, y5⟩

/-! ### spec_l12Size: function 50 -/
def spec_l12Size.f (l0 : List (S101)) : Option (Int) := if (l0.length : Int) = 0 then (some 0) else (if 0 ≤ (wrap64 ((l0.length : Int) - 1)) then (if (wrap64 ((l0.length : Int) - 1)) < (l0.length : Int) then (some ((rd_T101 l0 (wrap64 ((l0.length : Int) - 1))).f3)) else (none)) else (none))
set_option maxHeartbeats 8000000 in
set_option maxRecDepth 100000 in
theorem spec_l12Size.calls (A0 : Option Addr) (c0 : Nat) (l0 : List (S101)) (r : Int) (w : World) (hr0 : Kd.C k101 w A0 l0.length l0) (hc0 : l0.length ≤ c0) (h : spec_l12Size.f l0 = some r) :
  Calls Try.prog 50 #[.slice A0 l0.length c0] w fun e w' => e = .returned (.int .i64 r) ∧ Drawn0 w w' := by
 have dY := aM hr0
 have en := aM hc0
 clear hr0 hc0
 have H : (if (l0.length : Int) = 0 then (some 0) else (if 0 ≤ (wrap64 ((l0.length : Int) - 1)) then (if (wrap64 ((l0.length : Int) - 1)) < (l0.length : Int) then (some ((rd_T101 l0 (wrap64 ((l0.length : Int) - 1))).f3)) else (none)) else (none))) = some r := h
 clear h
 by_cases c2 : (l0.length : Int) = 0
 ·rw [if_pos c2] at H
  have c2b0 : ((l0.length : Int) == 0) = true := qT c2
  have c2b1 : ((l0.length : Int) != 0) = false := nF c2
  clear c2
  obtain rfl := sI H
  go_enter Try.func50, Try.ntmps50
  go_wp2
  go_ret
  exact ⟨y1, y3⟩
 ·rw [if_neg c2] at H
  have c2b0 : ((l0.length : Int) == 0) = false := qF c2
  have c2b1 : ((l0.length : Int) != 0) = true := nT c2
  have c2b2 : ¬ (l0 = []) := fun h_ => c2 (by rw [h_]; rfl)
  obtain ⟨qO, rS⟩ : ∃ j_ : Int, (wrap64 ((l0.length : Int) - 1)) = j_ := ⟨_, rfl⟩
  replace H : (if 0 ≤ (qO) then (if (qO) < (l0.length : Int) then (some ((rd_T101 l0 (qO)).f3)) else (none)) else (none)) = some r := by first | (rw [rS] at H; exact H) | (simp only [rS] at H ⊢; exact H)
  have hji3w : (IntKind.i64.wrap ((l0.length : Int) - 1)) = qO := (i64_w _).trans rS
  by_cases c4 : 0 ≤ (qO)
  ·rw [if_pos c4] at H
   have c4b0 : decide (0 ≤ (qO)) = true := dT c4
   clear c4
   by_cases c5 : (qO) < (l0.length : Int)
   ·rw [if_pos c5] at H
    have c5b0 : decide ((qO) < (l0.length : Int)) = true := dT c5
    clear c5
    obtain rfl := sI H
    have p152 : 0 ≤ ((qO) : Int) := oD z3
    have q152 : (qO) < (l0.length : Int) := oD z3
    obtain ⟨ad152, e152, hx152_0, hx152_1, hx152_2, hx152_3, hx152_4⟩ := at_T101 dY.out (qO) p152 q152
    cases e152
    replace p152 := eq_true p152
    replace q152 := eq_true q152
    go_enter Try.func50, Try.ntmps50
    go_wp2
    go_ret
    exact ⟨by first | rfl | (simp; done) | (simp only [← rS] <;> (first | rfl | (simp; done) | (simp; generalize ByteArray.toList _ = u_; cases u_ <;> (first | rfl | (simp; done))))) | (simp [*]; done), y3⟩
   ·rw [if_neg c5] at H
    exact absurd H (by simp)
  ·rw [if_neg c4] at H
   exact absurd H (by simp)

/-! ### spec_l12Part: function 62 -/
def spec_l12Part.l0 : Nat → Int → List (S101) → List (S101) → Int → Int → Option ((List (S101)))
 | 0, _, _, _, _, _ => none
 | k + 1, x5, x6, x16, x17, x18 => if x18 < x17 then (if 0 ≤ x18 then (if x18 < (x16.length : Int) then (if ((rd_T101 x16 x18).f0) ≥ 0 then (if x6.length < 2932031007402 then (spec_l12Part.l0 k x5 (x6 ++ [(⟨wrap64 (((rd_T101 x16 x18).f0) - x5), wrap64 (((rd_T101 x16 x18).f1) - x5), (rd_T101 x16 x18).f2, (rd_T101 x16 x18).f3, (rd_T101 x16 x18).f4⟩ : S101)]) x16 x17 (wrap64 (x18 + 1))) else (none)) else (if x6.length < 2932031007402 then (spec_l12Part.l0 k x5 (x6 ++ [(⟨(rd_T101 x16 x18).f0, (rd_T101 x16 x18).f1, (rd_T101 x16 x18).f2, (rd_T101 x16 x18).f3, (rd_T101 x16 x18).f4⟩ : S101)]) x16 x17 (wrap64 (x18 + 1))) else (none))) else (none)) else (none)) else (some x6)
def spec_l12Part.f (k : Nat) (l0 : List (S101)) (a1 : Int) : Option ((List (S101))) := (spec_l12First.f k l0 a1).bind fun ej => (if 0 ≤ ej then (if ej ≤ (wrap64 (a1 + 1)) then (if (wrap64 (a1 + 1)) ≤ (l0.length : Int) then ((some ((l0.take ((wrap64 (a1 + 1)) : Int).toNat).drop (ej : Int).toNat : List (S101))).bind fun y154 => (spec_l12Part.l0 k ej ([] : List (S101)) y154 (y154.length : Int) 0)) else (none)) else (none)) else (none))
theorem spec_l12Part.mono_l : ∀ k, (∀ y0 y1 y2 y3 y4, LeO (spec_l12Part.l0 k y0 y1 y2 y3 y4) (spec_l12Part.l0 (k + 1) y0 y1 y2 y3 y4))
 | 0 => fun _ _ _ _ _ r h => by simp [spec_l12Part.l0] at h
 | k + 1 => by
  have ih0 := spec_l12Part.mono_l k
  ·intro y0 y1 y2 y3 y4
   unfold spec_l12Part.l0
   repeat' first
   | (with_reducible exact ih0 _ _ _ _ _)
   | (with_reducible exact spec_l12First.mono _ _ _)
   | (with_reducible exact LeO.refl _)
   | (with_reducible exact LeO.none _)
   | (with_reducible refine LeO.ite ?_ ?_)
   | (with_reducible refine LeO.bind ?_ (fun _ => ?_))
theorem spec_l12Part.mono : ∀ a0 a1 k, LeO (spec_l12Part.f k a0 a1) (spec_l12Part.f (k + 1) a0 a1) := by
 intro a0 a1 k
 have ih0 := spec_l12Part.mono_l k
 unfold spec_l12Part.f
 repeat' first
   | (with_reducible exact ih0 _ _ _ _ _)
   | (with_reducible exact spec_l12First.mono _ _ _)
   | (with_reducible exact LeO.refl _)
   | (with_reducible exact LeO.none _)
   | (with_reducible refine LeO.ite ?_ ?_)
   | (with_reducible refine LeO.bind ?_ (fun _ => ?_))
set_option maxHeartbeats 8000000 in
set_option maxRecDepth 100000 in
theorem spec_l12Part.calls (k : Nat) (A0 : Option Addr) (c0 : Nat) (l0 : List (S101)) (a1 : Int) (r : List (S101)) (w : World) (hr0 : Kd.C k101 w A0 l0.length l0) (hc0 : l0.length ≤ c0) (h : spec_l12Part.f k l0 a1 = some r) :
  Calls Try.prog 62 #[.slice A0 l0.length c0, .int .i64 a1] w fun e w' => ∃ v0_ : Value, e = .returned (v0_) ∧ Kd.R k101 101 w' w.heap.size (fun _ => True) v0_ r ∧ Below w.heap.size w w' := by
 have hu101 := Try.underlying101
 have dY := aM hr0
 have en := aM hc0
 clear hr0 hc0
 have HB := aM (Below.refl w.heap.size w)
 have H : ((spec_l12First.f k l0 a1).bind fun ej => (if 0 ≤ ej then (if ej ≤ (wrap64 (a1 + 1)) then (if (wrap64 (a1 + 1)) ≤ (l0.length : Int) then ((some ((l0.take ((wrap64 (a1 + 1)) : Int).toNat).drop (ej : Int).toNat : List (S101))).bind fun y154 => (spec_l12Part.l0 k ej ([] : List (S101)) y154 (y154.length : Int) 0)) else (none)) else (none)) else (none))) = some r := h
 clear h
 obtain ⟨ej, A3, H⟩ := oA_ H
 try dsimp only at H
 by_cases c4 : 0 ≤ ej
 ·rw [if_pos c4] at H
  have c4b0 := eq_true c4
  have c4b1 : decide (0 ≤ ej) = true := dT c4
  clear c4
  by_cases c5 : ej ≤ (wrap64 (a1 + 1))
  ·rw [if_pos c5] at H
   have c5b0 := eq_true c5
   have c5b1 : decide (ej ≤ (wrap64 (a1 + 1))) = true := dT c5
   by_cases c6 : (wrap64 (a1 + 1)) ≤ (l0.length : Int)
   ·rw [if_pos c6] at H
    have c6b0 := eq_true c6
    have c6b1 : decide ((wrap64 (a1 + 1)) ≤ (l0.length : Int)) = true := dT c6
    obtain ⟨y154, hy154⟩ : ∃ y_ : List (S101), y_ = ((l0.take ((wrap64 (a1 + 1)) : Int).toNat).drop (ej : Int).toNat) := ⟨_, rfl⟩
    replace H : (spec_l12Part.l0 k ej ([] : List (S101)) y154 (y154.length : Int) 0) = some r := by first | (rw [hy154]; with_reducible exact H) | (have H2_ := (Option.bind_some _ _).symm.trans H; rw [hy154]; with_reducible exact H2_) | (have H2_ := (Option.bind_some _ _).symm.trans H; with_reducible exact H2_) | with_reducible exact H | (rw [hy154]; exact H) | exact H
    have Ny154 := aM hy154
    clear hy154
    have H' := aM H
    clear H
    go_enter Try.func62, Try.ntmps62
    go_wp2_with (first | ((with_reducible refine aK (f := 59) rfl ?_); refine aT (some 11) rfl rfl Try.func59 z1 rfl #[.slice A0 l0.length c0, .int .i64 a1] rfl z33 ?_; (with_reducible refine (spec_l12First.calls k _ _ l0 a1 ej _ ?side1 ?side2 A3.out).mono ?_); (case side1 => exact y34); (case side2 => exact en.out); rintro e w7 ⟨rfl, hb⟩; refine ⟨_, rfl, ?_⟩; replace HB := aM (aA z32 hb); (try clear hb); have q8 : ((wrap64 (a1 + 1)) : Int) ≤ ((l0.length : Int) : Int) := oD z3; obtain ⟨i08, hi08, _, hsz8, _⟩ := info_parts info101; have hroom8 : l0.length ≤ c0 := en.out; have hC8 : Kd.C k101 _ A0 l0.length l0 := dY.out; have ql8 : (ej : Int) ≤ ((wrap64 (a1 + 1)) : Int) := oD z3; have q08 : (0 : Int) ≤ (ej : Int) := oD z3; have hcut8 := cut_mid (P := Try.prog) 28 101 .i64 .i64 Try.underlying28 hi08 5 hsz8 A0 l0.length c0 ej (wrap64 (a1 + 1)) q08 ql8 q8 hroom8; have hr8 := Kd.C_mid (lo := (ej : Int).toNat) (hi := ((wrap64 (a1 + 1)) : Int).toNat) (c := c0) hC8 (by omega) (by omega) hroom8; obtain ⟨A8, hA8⟩ : ∃ A1, A1 = (if c0 = (ej : Int).toNat then A0 else (A0 : Option Addr).map (·.add ((ej : Int).toNat * 5))) := ⟨_, rfl⟩; obtain ⟨c8, hc8⟩ : ∃ c1, c1 = c0 - (ej : Int).toNat := ⟨_, rfl⟩; have hy8 : y154.length = ((wrap64 (a1 + 1)) : Int).toNat - (ej : Int).toNat := (by rw [Ny154.out, List.length_drop, List.length_take] <;> omega); rw [show ((l0).take ((wrap64 (a1 + 1)) : Int).toNat).drop (ej : Int).toNat = y154 from Ny154.out.symm] at hr8; replace hr8 : Kd.C k101 _ A8 y154.length y154 := (by rw [hA8]; exact hr8); rw [← hy8, ← hA8, ← hc8] at hcut8; have sw := aM hr8; have HC157 := aM (show y154.length ≤ c8 from by rw [hy8, hc8]; exact Nat.sub_le_sub_right (Nat.le_trans (by omega) hroom8) _); clear hr8 hC8 hroom8 hi08 hsz8 hc8; have KY8 := aM hy8; have KA8 := aM hA8; clear hy8 hA8; replace q8 := eq_true q8))
    go_loopg [6, 18] k (fun kq v6 v18 w' => ∃ (x6_1 : List (S101)) (x18_1 : Int), v18 = .int .i64 x18_1 ∧ Aside0 (spec_l12Part.l0 kq ej x6_1 y154 (y154.length : Int) x18_1 = some r) ∧ Aside0 (kq ≤ k) ∧ Aside0 (Kd.R k101 101 w' w.heap.size (fun _ => True) v6 x6_1) ∧ Aside0 (Below w.heap.size w w'))
    case atStart => exact ⟨(([] : List (S101))), (0), z2, H', ⟨Nat.le_refl _⟩, ⟨y12⟩, ⟨y5⟩⟩
    case round =>
     clear H'
     try clear c1
     try clear c4
     try clear c4b0
     try clear c4b1
     try clear c5
     try clear c5b0
     try clear c5b1
     try clear c6
     try clear c6b0
     try clear c6b1
     try clear c8
     try clear q8
     try clear q08
     try clear q8
     obtain ⟨x6_1, x18_1, rfl, HA, HK1, jZ, HB⟩ := hrel
     cases gk with
     | zero => exact absurd HA.out (by simp [spec_l12Part.l0])
     | succ k1 =>
      have H := HA.out
      clear HA
      simp only [spec_l12Part.l0] at H
      by_cases c9 : x18_1 < (y154.length : Int)
      ·rw [if_pos c9] at H
       have c9b0 : decide (x18_1 < (y154.length : Int)) = true := dT c9
       clear c9
       by_cases fo : 0 ≤ x18_1
       ·rw [if_pos fo] at H
        have c10b0 : decide (0 ≤ x18_1) = true := dT fo
        clear fo
        by_cases fY : x18_1 < (y154.length : Int)
        ·rw [if_pos fY] at H
         have c11b0 : decide (x18_1 < (y154.length : Int)) = true := dT fY
         clear fY
         by_cases gj : ((rd_T101 y154 x18_1).f0) ≥ 0
         ·rw [if_pos gj] at H
          have c12b0 : decide (0 ≤ ((rd_T101 y154 x18_1).f0)) = true := dT gj
          clear gj
          by_cases fZ : x6_1.length < 2932031007402
          ·rw [if_pos fZ] at H
           have LMc13 := aM fZ
           clear fZ
           obtain ⟨y160, hy160⟩ : ∃ y_ : List (S101), y_ = (x6_1 ++ [(⟨wrap64 (((rd_T101 y154 x18_1).f0) - ej), wrap64 (((rd_T101 y154 x18_1).f1) - ej), (rd_T101 y154 x18_1).f2, (rd_T101 y154 x18_1).f3, (rd_T101 y154 x18_1).f4⟩ : S101)]) := ⟨_, rfl⟩
           replace H : (spec_l12Part.l0 k1 ej y160 y154 (y154.length : Int) (wrap64 (x18_1 + 1))) = some r := by first | (rw [hy160]; with_reducible exact H) | (have H2_ := (Option.bind_some _ _).symm.trans H; rw [hy160]; with_reducible exact H2_) | (have H2_ := (Option.bind_some _ _).symm.trans H; with_reducible exact H2_) | with_reducible exact H | (rw [hy160]; exact H) | exact H
           have Ny160 := aM hy160
           clear hy160
           have H' := aM H
           clear H
           have p158 : 0 ≤ (x18_1 : Int) := oD z3
           have q158 : x18_1 < (y154.length : Int) := oD z3
           obtain ⟨ad158, e158, hx158_0, hx158_1, hx158_2, hx158_3, hx158_4⟩ := at_T101 sw.out x18_1 p158 q158
           cases e158
           replace hx158_0 := (HB.out.cell (World.block_lt_of_cell? w _ hx158_0)).trans hx158_0
           replace hx158_1 := (HB.out.cell (World.block_lt_of_cell? w _ hx158_1)).trans hx158_1
           replace hx158_2 := (HB.out.cell (World.block_lt_of_cell? w _ hx158_2)).trans hx158_2
           replace hx158_3 := (HB.out.cell (World.block_lt_of_cell? w _ hx158_3)).trans hx158_3
           replace hx158_4 := (HB.out.cell (World.block_lt_of_cell? w _ hx158_4)).trans hx158_4
           replace p158 := eq_true p158
           replace q158 := eq_true q158
           go_upto_region 8 with (((with_reducible refine aN (N := 8) rfl ?_); refine aQ ?hg (N := 8) ?hd (cs := #[.int .i64 0, .int .i64 0, .string ⟨#[]⟩, .int .i64 0, .int .i64 0]) (t := 101) ?hr ?_; (case hd => rfl); (case hg => rfl); (case hr => first | (go_simp; done) | (go_simp; rfl)); intro dw hg w14 hbox hb; replace jZ := aM (ag (Kd.R_elderB (kR_ jZ.out) dw (Nat.le_of_eq hg.symm)) hb); have ep := aM (hbox); have GW159 := aM ((by rw [hg]; exact (aC z32) : w.heap.size ≤ dw)); have lQ := aM ((by rw [hg]; exact (aC z32) : w.heap.size ≤ dw)); replace HB := aM (aA z32 hb); clear hb hbox hg; obtain ⟨kG, kF, kE, hcz15_3, hcz15_4, ku, kt, ks, hfz15_3, hfz15_4⟩ := cc5 ep.out))
           go_cut [] (fun wc_ => Aside0 (wc_.heap[dw]? = some (.cells #[.int .i64 (wrap64 (((rd_T101 y154 x18_1).f0) - ej)), .int .i64 (wrap64 (((rd_T101 y154 x18_1).f1) - ej)), .string ((rd_T101 y154 x18_1).f2), .int .i64 ((rd_T101 y154 x18_1).f3), .int .i64 ((rd_T101 y154 x18_1).f4)] 101 (0, 0))) ∧ Aside0 (∀ (ok_ : Nat → Prop) (v_ : Value) (xs_ : List S101), (∀ k_, ok_ k_ → k_ ≠ dw) → Kd.R k101 101 w14 w.heap.size ok_ v_ xs_ → Kd.R k101 101 wc_ w.heap.size ok_ v_ xs_) ∧ Aside0 (Below w.heap.size w wc_))
           case first =>
            go_wp2_with (fail)
            go_meet
            exact ⟨⟨(by (with_reducible repeat (first | refine au ?_ _ | refine ar ?_ | refine av ?_ _)); refine ax (cs := #[.int .i64 (wrap64 (((rd_T101 y154 x18_1).f0) - ej)), .int .i64 ((rd_T101 y154 x18_1).f1), .string ((rd_T101 y154 x18_1).f2), .int .i64 ((rd_T101 y154 x18_1).f3), .int .i64 ((rd_T101 y154 x18_1).f4)]) ?_ 1 _ rfl; (with_reducible repeat (first | refine au ?_ _ | refine ar ?_ | refine av ?_ _)); refine ax (cs := #[.int .i64 ((rd_T101 y154 x18_1).f0), .int .i64 ((rd_T101 y154 x18_1).f1), .string ((rd_T101 y154 x18_1).f2), .int .i64 ((rd_T101 y154 x18_1).f3), .int .i64 ((rd_T101 y154 x18_1).f4)]) ?_ 0 _ rfl; (with_reducible repeat (first | refine au ?_ _ | refine ar ?_ | refine av ?_ _)); refine ax (cs := #[.int .i64 ((rd_T101 y154 x18_1).f0), .int .i64 ((rd_T101 y154 x18_1).f1), .string ((rd_T101 y154 x18_1).f2), .int .i64 ((rd_T101 y154 x18_1).f3), .int .i64 0]) ?_ 4 _ rfl; (with_reducible repeat (first | refine au ?_ _ | refine ar ?_ | refine av ?_ _)); refine ax (cs := #[.int .i64 ((rd_T101 y154 x18_1).f0), .int .i64 ((rd_T101 y154 x18_1).f1), .string ((rd_T101 y154 x18_1).f2), .int .i64 0, .int .i64 0]) ?_ 3 _ rfl; (with_reducible repeat (first | refine au ?_ _ | refine ar ?_ | refine av ?_ _)); refine ax (cs := #[.int .i64 ((rd_T101 y154 x18_1).f0), .int .i64 ((rd_T101 y154 x18_1).f1), .string ⟨#[]⟩, .int .i64 0, .int .i64 0]) ?_ 2 _ rfl; (with_reducible repeat (first | refine au ?_ _ | refine ar ?_ | refine av ?_ _)); refine ax (cs := #[.int .i64 ((rd_T101 y154 x18_1).f0), .int .i64 0, .string ⟨#[]⟩, .int .i64 0, .int .i64 0]) ?_ 1 _ rfl; (with_reducible repeat (first | refine au ?_ _ | refine ar ?_ | refine av ?_ _)); refine ax (cs := #[.int .i64 0, .int .i64 0, .string ⟨#[]⟩, .int .i64 0, .int .i64 0]) ?_ 0 _ rfl; (with_reducible repeat (first | refine au ?_ _ | refine ar ?_ | refine av ?_ _)); exact ep.out)⟩, ⟨fun ok_ v_ xs_ hne_ h_ => by (with_reducible repeat (first | apply ae | apply ac | apply aa)); exact ah (ap (p := ⟨dw, 1, none⟩) (ap (p := ⟨dw, 0, none⟩) (ap (p := ⟨dw, 4, none⟩) (ap (p := ⟨dw, 3, none⟩) (ap (p := ⟨dw, 2, none⟩) (ap (p := ⟨dw, 1, none⟩) (ap (p := ⟨dw, 0, none⟩) (ah h_ (fun k_ hk => (⟨hk, hne_ k_ hk⟩ : _ ∧ k_ ≠ dw))) (fun _ hk => hk.2) (.int .i64 ((rd_T101 y154 x18_1).f0))) (fun _ hk => hk.2) (.int .i64 ((rd_T101 y154 x18_1).f1))) (fun _ hk => hk.2) (.string ((rd_T101 y154 x18_1).f2))) (fun _ hk => hk.2) (.int .i64 ((rd_T101 y154 x18_1).f3))) (fun _ hk => hk.2) (.int .i64 ((rd_T101 y154 x18_1).f4))) (fun _ hk => hk.2) (.int .i64 (wrap64 (((rd_T101 y154 x18_1).f0) - ej)))) (fun _ hk => hk.2) (.int .i64 (wrap64 (((rd_T101 y154 x18_1).f1) - ej)))) (fun _ hk => hk.1)⟩, ⟨(by repeat (first | (with_reducible first | exact HB.out | apply bA | apply pD | apply bD | refine az ?_ lQ.out) | exact HB.out))⟩⟩
           case rest =>
            obtain ⟨CB_, CM_, CL_⟩ := hcut
            have m0_ := aM (CM_.out _ _ _ (fun k_ hk => hk.2) jZ.out)
            clear jZ HB ep CM_; clear kG kF kE hcz15_3 hcz15_4 hfz15_3 hfz15_4
            have jZ := m0_; have HB := CL_; have ep := CB_; clear CL_ CB_ m0_
            have kG : wc.cell? ⟨dw, 0, none⟩ = some (.int .i64 (wrap64 (((rd_T101 y154 x18_1).f0) - ej))) := (bC ep.out 0).trans rfl; have hfz15_0 := bF ep.out 0
            have kF : wc.cell? ⟨dw, 1, none⟩ = some (.int .i64 (wrap64 (((rd_T101 y154 x18_1).f1) - ej))) := (bC ep.out 1).trans rfl; have hfz15_1 := bF ep.out 1
            have kE : wc.cell? ⟨dw, 2, none⟩ = some (.string ((rd_T101 y154 x18_1).f2)) := (bC ep.out 2).trans rfl; have hfz15_2 := bF ep.out 2
            have hcz15_3 : wc.cell? ⟨dw, 3, none⟩ = some (.int .i64 ((rd_T101 y154 x18_1).f3)) := (bC ep.out 3).trans rfl; have hfz15_3 := bF ep.out 3
            have hcz15_4 : wc.cell? ⟨dw, 4, none⟩ = some (.int .i64 ((rd_T101 y154 x18_1).f4)) := (bC ep.out 4).trans rfl; have hfz15_4 := bF ep.out 4
            go_wp2_with (((with_reducible refine gate_builtin (b := .append) (xs := #[.tmp 35, .tmp 37]) rfl ?_); at_builtin; refine aX k101 (w0 := w) w.heap.size rfl (.tmp 35) (.tmp 37) 28 101 (.agg #[(.int .i64 0), (.int .i64 0), (.string ⟨#[]⟩), (.int .i64 0), (.int .i64 0)]) 48 rfl Try.underlying28 info101 rfl z0 (by omega) u6 x6_1 (⟨wrap64 (((rd_T101 y154 x18_1).f0) - ej), wrap64 (((rd_T101 y154 x18_1).f1) - ej), (rd_T101 y154 x18_1).f2, (rd_T101 y154 x18_1).f3, (rd_T101 y154 x18_1).f4⟩ : S101) [.int .i64 (wrap64 (((rd_T101 y154 x18_1).f0) - ej)), .int .i64 (wrap64 (((rd_T101 y154 x18_1).f1) - ej)), .string ((rd_T101 y154 x18_1).f2), .int .i64 ((rd_T101 y154 x18_1).f3), .int .i64 ((rd_T101 y154 x18_1).f4)] (fun k_ => k_ ≠ dw) (fun _ => False) rfl (by first | (go_simp; done) | (go_simp; rfl)) ?aP (fun _ hk => hk.elim) ?aF ?aO ?aB ?aS ?aL ?_; (case aP => exact k101_mkM _ _ _ (⟨wrap64 (((rd_T101 y154 x18_1).f0) - ej), wrap64 (((rd_T101 y154 x18_1).f1) - ej), (rd_T101 y154 x18_1).f2, (rd_T101 y154 x18_1).f3, (rd_T101 y154 x18_1).f4⟩ : S101)); (case aB => exact (by repeat (first | (with_reducible first | exact HB.out | apply bA | apply pD | apply bD | refine az ?_ lQ.out) | exact HB.out))); (case aF => exact (fun k_ hk => Kd.freshB (g := dw) (o := .cells #[.int .i64 (wrap64 (((rd_T101 y154 x18_1).f0) - ej)), .int .i64 (wrap64 (((rd_T101 y154 x18_1).f1) - ej)), .string ((rd_T101 y154 x18_1).f2), .int .i64 ((rd_T101 y154 x18_1).f3), .int .i64 ((rd_T101 y154 x18_1).f4)] 101 (0, 0)) ep.out k_ hk)); (case aO => exact (by (with_reducible repeat (first | apply ae | apply ac | apply aa)); exact ah (ah jZ.out (fun k_ hk => (⟨hk, hk.2⟩ : _ ∧ k_ ≠ dw))) (fun _ hk => hk.1.2))); (case aS => exact (aC (by repeat (first | (with_reducible first | exact HB.out | apply bA | apply pD | apply bD | refine az ?_ lQ.out) | exact HB.out)))); (case aL => have := LMc13.out; omega); intro v161 w16 ho hb hg hat; rw [← Ny160.out] at ho; replace ep := aM (blk_grown (g := dw) (o := .cells #[.int .i64 (wrap64 (((rd_T101 y154 x18_1).f0) - ej)), .int .i64 (wrap64 (((rd_T101 y154 x18_1).f1) - ej)), .string ((rd_T101 y154 x18_1).f2), .int .i64 ((rd_T101 y154 x18_1).f3), .int .i64 ((rd_T101 y154 x18_1).f4)] 101 (0, 0)) ep.out hg (Kd.R_away jZ.out (fun _ hk => hk.2))); replace HB := aM (hb); have HO162 := aM (ho); clear jZ; clear ho hb hg hat))
            go_roundg k1
            case measure => have := HK1.out; omega
            case rel => exact ⟨(y160), (wrap64 (x18_1 + 1)), z2, H', ⟨y0⟩, ⟨kM_ HO162.out (fun _ hk => trivial)⟩, ⟨by repeat (first | (with_reducible first | exact HB.out | apply bA | apply pD | apply bD | refine az ?_ lQ.out) | exact HB.out)⟩⟩
          ·rw [if_neg fZ] at H
           exact absurd H (by simp)
         ·rw [if_neg gj] at H
          have c12b0 : decide (0 ≤ ((rd_T101 y154 x18_1).f0)) = false := dF gj
          clear gj
          by_cases gA : x6_1.length < 2932031007402
          ·rw [if_pos gA] at H
           have LMc17 := aM gA
           clear gA
           obtain ⟨y163, hy163⟩ : ∃ y_ : List (S101), y_ = (x6_1 ++ [(⟨(rd_T101 y154 x18_1).f0, (rd_T101 y154 x18_1).f1, (rd_T101 y154 x18_1).f2, (rd_T101 y154 x18_1).f3, (rd_T101 y154 x18_1).f4⟩ : S101)]) := ⟨_, rfl⟩
           replace H : (spec_l12Part.l0 k1 ej y163 y154 (y154.length : Int) (wrap64 (x18_1 + 1))) = some r := by first | (rw [hy163]; with_reducible exact H) | (have H2_ := (Option.bind_some _ _).symm.trans H; rw [hy163]; with_reducible exact H2_) | (have H2_ := (Option.bind_some _ _).symm.trans H; with_reducible exact H2_) | with_reducible exact H | (rw [hy163]; exact H) | exact H
           have Ny163 := aM hy163
           clear hy163
           have H' := aM H
           clear H
           have p158 : 0 ≤ (x18_1 : Int) := oD z3
           have q158 : x18_1 < (y154.length : Int) := oD z3
           obtain ⟨ad158, e158, hx158_0, hx158_1, hx158_2, hx158_3, hx158_4⟩ := at_T101 sw.out x18_1 p158 q158
           cases e158
           replace hx158_0 := (HB.out.cell (World.block_lt_of_cell? w _ hx158_0)).trans hx158_0
           replace hx158_1 := (HB.out.cell (World.block_lt_of_cell? w _ hx158_1)).trans hx158_1
           replace hx158_2 := (HB.out.cell (World.block_lt_of_cell? w _ hx158_2)).trans hx158_2
           replace hx158_3 := (HB.out.cell (World.block_lt_of_cell? w _ hx158_3)).trans hx158_3
           replace hx158_4 := (HB.out.cell (World.block_lt_of_cell? w _ hx158_4)).trans hx158_4
           replace p158 := eq_true p158
           replace q158 := eq_true q158
           go_wp2_with (first | ((with_reducible refine aN (N := 8) rfl ?_); refine aQ ?hg (N := 8) ?hd (cs := #[.int .i64 0, .int .i64 0, .string ⟨#[]⟩, .int .i64 0, .int .i64 0]) (t := 101) ?hr ?_; (case hd => rfl); (case hg => rfl); (case hr => first | (go_simp; done) | (go_simp; rfl)); intro dw hg w18 hbox hb; replace jZ := aM (ag (Kd.R_elderB (kR_ jZ.out) dw (Nat.le_of_eq hg.symm)) hb); have ep := aM (hbox); have GW159 := aM ((by rw [hg]; exact (aC z32) : w.heap.size ≤ dw)); have lQ := aM ((by rw [hg]; exact (aC z32) : w.heap.size ≤ dw)); replace HB := aM (aA z32 hb); clear hb hbox hg; obtain ⟨iU, nf, nc, nb, na, iR, mQ, mP, mO, mN⟩ := cc5 ep.out) | ((with_reducible refine gate_builtin (b := .append) (xs := #[.tmp 35, .tmp 37]) rfl ?_); at_builtin; refine aX k101 (w0 := w) w.heap.size rfl (.tmp 35) (.tmp 37) 28 101 (.agg #[(.int .i64 0), (.int .i64 0), (.string ⟨#[]⟩), (.int .i64 0), (.int .i64 0)]) 48 rfl Try.underlying28 info101 rfl z0 (by omega) u6 x6_1 (⟨(rd_T101 y154 x18_1).f0, (rd_T101 y154 x18_1).f1, (rd_T101 y154 x18_1).f2, (rd_T101 y154 x18_1).f3, (rd_T101 y154 x18_1).f4⟩ : S101) [.int .i64 ((rd_T101 y154 x18_1).f0), .int .i64 ((rd_T101 y154 x18_1).f1), .string ((rd_T101 y154 x18_1).f2), .int .i64 ((rd_T101 y154 x18_1).f3), .int .i64 ((rd_T101 y154 x18_1).f4)] (fun k_ => k_ ≠ dw) (fun _ => False) rfl (by first | (go_simp; done) | (go_simp; rfl)) ?aP (fun _ hk => hk.elim) ?aF ?aO ?aB ?aS ?aL ?_; (case aP => exact k101_mkM _ _ _ (⟨(rd_T101 y154 x18_1).f0, (rd_T101 y154 x18_1).f1, (rd_T101 y154 x18_1).f2, (rd_T101 y154 x18_1).f3, (rd_T101 y154 x18_1).f4⟩ : S101)); (case aB => exact (by repeat (first | (with_reducible first | exact HB.out | apply bA | apply pD | apply bD | refine az ?_ lQ.out) | exact HB.out))); (case aF => exact (fun k_ hk => Kd.freshB (g := dw) (o := .cells #[.int .i64 ((rd_T101 y154 x18_1).f0), .int .i64 ((rd_T101 y154 x18_1).f1), .string ((rd_T101 y154 x18_1).f2), .int .i64 ((rd_T101 y154 x18_1).f3), .int .i64 ((rd_T101 y154 x18_1).f4)] 101 (0, 0)) (by (with_reducible repeat (first | refine au ?_ _ | refine ar ?_ | refine av ?_ _)); refine ax (cs := #[.int .i64 ((rd_T101 y154 x18_1).f0), .int .i64 ((rd_T101 y154 x18_1).f1), .string ((rd_T101 y154 x18_1).f2), .int .i64 ((rd_T101 y154 x18_1).f3), .int .i64 0]) ?_ 4 _ rfl; (with_reducible repeat (first | refine au ?_ _ | refine ar ?_ | refine av ?_ _)); refine ax (cs := #[.int .i64 ((rd_T101 y154 x18_1).f0), .int .i64 ((rd_T101 y154 x18_1).f1), .string ((rd_T101 y154 x18_1).f2), .int .i64 0, .int .i64 0]) ?_ 3 _ rfl; (with_reducible repeat (first | refine au ?_ _ | refine ar ?_ | refine av ?_ _)); refine ax (cs := #[.int .i64 ((rd_T101 y154 x18_1).f0), .int .i64 ((rd_T101 y154 x18_1).f1), .string ⟨#[]⟩, .int .i64 0, .int .i64 0]) ?_ 2 _ rfl; (with_reducible repeat (first | refine au ?_ _ | refine ar ?_ | refine av ?_ _)); refine ax (cs := #[.int .i64 ((rd_T101 y154 x18_1).f0), .int .i64 0, .string ⟨#[]⟩, .int .i64 0, .int .i64 0]) ?_ 1 _ rfl; (with_reducible repeat (first | refine au ?_ _ | refine ar ?_ | refine av ?_ _)); refine ax (cs := #[.int .i64 0, .int .i64 0, .string ⟨#[]⟩, .int .i64 0, .int .i64 0]) ?_ 0 _ rfl; (with_reducible repeat (first | refine au ?_ _ | refine ar ?_ | refine av ?_ _)); exact ep.out) k_ hk)); (case aO => exact (by (with_reducible repeat (first | apply ae | apply ac | apply aa)); exact ah (ap (p := ⟨dw, 4, none⟩) (ap (p := ⟨dw, 3, none⟩) (ap (p := ⟨dw, 2, none⟩) (ap (p := ⟨dw, 1, none⟩) (ap (p := ⟨dw, 0, none⟩) (ah jZ.out (fun k_ hk => (⟨hk, hk.2⟩ : _ ∧ k_ ≠ dw))) (fun _ hk => hk.2) (.int .i64 ((rd_T101 y154 x18_1).f0))) (fun _ hk => hk.2) (.int .i64 ((rd_T101 y154 x18_1).f1))) (fun _ hk => hk.2) (.string ((rd_T101 y154 x18_1).f2))) (fun _ hk => hk.2) (.int .i64 ((rd_T101 y154 x18_1).f3))) (fun _ hk => hk.2) (.int .i64 ((rd_T101 y154 x18_1).f4))) (fun _ hk => hk.1.2))); (case aS => exact (aC (by repeat (first | (with_reducible first | exact HB.out | apply bA | apply pD | apply bD | refine az ?_ lQ.out) | exact HB.out)))); (case aL => have := LMc17.out; omega); intro v164 w20 ho hb hg hat; rw [← Ny163.out] at ho; replace ep := aM (blk_grown (g := dw) (o := .cells #[.int .i64 ((rd_T101 y154 x18_1).f0), .int .i64 ((rd_T101 y154 x18_1).f1), .string ((rd_T101 y154 x18_1).f2), .int .i64 ((rd_T101 y154 x18_1).f3), .int .i64 ((rd_T101 y154 x18_1).f4)] 101 (0, 0)) (by (with_reducible repeat (first | refine au ?_ _ | refine ar ?_ | refine av ?_ _)); refine ax (cs := #[.int .i64 ((rd_T101 y154 x18_1).f0), .int .i64 ((rd_T101 y154 x18_1).f1), .string ((rd_T101 y154 x18_1).f2), .int .i64 ((rd_T101 y154 x18_1).f3), .int .i64 0]) ?_ 4 _ rfl; (with_reducible repeat (first | refine au ?_ _ | refine ar ?_ | refine av ?_ _)); refine ax (cs := #[.int .i64 ((rd_T101 y154 x18_1).f0), .int .i64 ((rd_T101 y154 x18_1).f1), .string ((rd_T101 y154 x18_1).f2), .int .i64 0, .int .i64 0]) ?_ 3 _ rfl; (with_reducible repeat (first | refine au ?_ _ | refine ar ?_ | refine av ?_ _)); refine ax (cs := #[.int .i64 ((rd_T101 y154 x18_1).f0), .int .i64 ((rd_T101 y154 x18_1).f1), .string ⟨#[]⟩, .int .i64 0, .int .i64 0]) ?_ 2 _ rfl; (with_reducible repeat (first | refine au ?_ _ | refine ar ?_ | refine av ?_ _)); refine ax (cs := #[.int .i64 ((rd_T101 y154 x18_1).f0), .int .i64 0, .string ⟨#[]⟩, .int .i64 0, .int .i64 0]) ?_ 1 _ rfl; (with_reducible repeat (first | refine au ?_ _ | refine ar ?_ | refine av ?_ _)); refine ax (cs := #[.int .i64 0, .int .i64 0, .string ⟨#[]⟩, .int .i64 0, .int .i64 0]) ?_ 0 _ rfl; (with_reducible repeat (first | refine au ?_ _ | refine ar ?_ | refine av ?_ _)); exact ep.out) hg (Kd.R_away jZ.out (fun _ hk => hk.2))); replace HB := aM (hb); have HO165 := aM (ho); clear jZ; clear ho hb hg hat))
           go_roundg k1
           case measure => have := HK1.out; omega
           case rel => exact ⟨(y163), (wrap64 (x18_1 + 1)), z2, H', ⟨y0⟩, ⟨kM_ HO165.out (fun _ hk => trivial)⟩, ⟨by repeat (first | (with_reducible first | exact HB.out | apply bA | apply pD | apply bD | refine az ?_ lQ.out) | exact HB.out)⟩⟩
          ·rw [if_neg gA] at H
           exact absurd H (by simp)
        ·rw [if_neg fY] at H
         exact absurd H (by simp)
       ·rw [if_neg fo] at H
        exact absurd H (by simp)
      ·rw [if_neg c9] at H
       have c9b0 : decide (x18_1 < (y154.length : Int)) = false := dF c9
       clear c9
       obtain rfl := sI H
       go_wp2
       go_ret
       exact ⟨_, y4, by (with_reducible repeat (first | apply ae | apply ac | apply aa)); exact jZ.out, y5⟩
   ·rw [if_neg c6] at H
    exact absurd H (by simp)
  ·rw [if_neg c5] at H
   exact absurd H (by simp)
 ·rw [if_neg c4] at H
  exact absurd H (by simp)

/-! ### spec_l12Split: function 31, by hand -/
def spec_l12Split.f : Nat → List (S101) → Int → Option ((List (S101)) × (List (S101)))
 | 0, _, _ => none
 | k + 1, l0, a1 => if a1 = 0 then (some (([] : List (S101)), l0)) else ((spec_l12Size.f l0).bind fun tw => (if a1 = tw then (some (l0, ([] : List (S101)))) else (if 0 ≤ (wrap64 ((l0.length : Int) - 1)) then (if (wrap64 ((l0.length : Int) - 1)) < (l0.length : Int) then (if ((rd_T101 l0 (wrap64 ((l0.length : Int) - 1))).f0) < 0 then (if 0 ≤ a1 then (if a1 ≤ (((rd_T101 l0 (wrap64 ((l0.length : Int) - 1))).f2).size : Int) then ((spec_l12Piece.f (((rd_T101 l0 (wrap64 ((l0.length : Int) - 1))).f2).extract 0 (a1 : Int).toNat)).bind fun tv => ((spec_l12Piece.f (((rd_T101 l0 (wrap64 ((l0.length : Int) - 1))).f2).extract (a1 : Int).toNat ((rd_T101 l0 (wrap64 ((l0.length : Int) - 1))).f2).size)).bind fun tu => (some (tv, tu)))) else (none)) else (none)) else ((spec_l12Part.f k l0 ((rd_T101 l0 (wrap64 ((l0.length : Int) - 1))).f0)).bind fun mA => ((spec_l12Part.f k l0 ((rd_T101 l0 (wrap64 ((l0.length : Int) - 1))).f1)).bind fun i1 => ((spec_l12Size.f mA).bind fun vk => (if a1 < vk then ((spec_l12Split.f k mA a1).bind fun su => ((spec_l12Join.f k su.2 i1).bind fun qw => (some (su.1, qw)))) else ((spec_l12Split.f k i1 (wrap64 (a1 - vk))).bind fun st => ((spec_l12Join.f k mA st.1).bind fun ny => (some (ny, st.2))))))))) else (none)) else (none))))
theorem spec_l12Split.mono_l : ∀ k, (∀ y0 y1, LeO (spec_l12Split.f k y0 y1) (spec_l12Split.f (k + 1) y0 y1))
 | 0 => fun _ _ r h => by simp [spec_l12Split.f] at h
 | k + 1 => by
  have ih0 := spec_l12Split.mono_l k
  ·intro y0 y1
   unfold spec_l12Split.f
   repeat' first
   | (with_reducible exact ih0 _ _)
   | (with_reducible exact spec_l12Join.mono _ _ _)
   | (with_reducible exact spec_l12Part.mono _ _ _)
   | (with_reducible exact LeO.refl _)
   | (with_reducible exact LeO.none _)
   | (with_reducible refine LeO.ite ?_ ?_)
   | (with_reducible refine LeO.bind ?_ (fun _ => ?_))
theorem spec_l12Split.mono : ∀ a0 a1 k, LeO (spec_l12Split.f k a0 a1) (spec_l12Split.f (k + 1) a0 a1) := by
 intro a0 a1 k
 have ih0 := spec_l12Split.mono_l k
 exact ih0 a0 a1
def RdAt2 (w : World) (r1 r2 : List S101) (e : Ending) (w' : World) : Prop := ∃ A1 c1 A2 c2, e = .returned (.tuple #[.slice A1 r1.length c1, .slice A2 r2.length c2]) ∧ Kd.C k101 w' A1 r1.length r1 ∧ r1.length ≤ c1 ∧ Kd.C k101 w' A2 r2.length r2 ∧ r2.length ≤ c2 ∧ Below w.heap.size w w'
set_option maxHeartbeats 8000000 in
set_option maxRecDepth 100000 in
theorem split_rd (k : Nat) : ∀ (l : List S101) (A : Option Addr) (c : Nat) (a : Int) (r1 r2 : List S101) (w : World) (hr : Kd.C k101 w A l.length l) (hc : l.length ≤ c) (h : spec_l12Split.f k l a = some (r1, r2)),
  Calls Try.prog 31 #[.slice A l.length c, .int .i64 a] w (RdAt2 w r1 r2) := by
 induction k with
 | zero => intro l A c a r1 r2 w hr hc h; exact absurd h (by simp [spec_l12Split.f])
 | succ k ih =>
  intro l A c a r1 r2 w hr hc h
  simp only [spec_l12Split.f] at h
  have hu101 := Try.underlying101
  have HR := aM hr
  have HC := aM hc
  have IH := aM ih
  clear ih hr hc
  by_cases e0 : a = 0
  ·rw [if_pos e0] at h
   obtain ⟨rfl, rfl⟩ := Prod.mk.inj (sI h)
   have q0 : (a == 0) = true := qT e0
   clear h e0
   go_enter Try.func31, Try.ntmps31
   go_wp2
   go_ret2
   exact ⟨none, 0, A, c, rfl, Kd.C_nil _ _, Nat.le_refl _, HR.out, HC.out, Below.refl _ _⟩
  rw [if_neg e0] at h
  have q0 : (a == 0) = false := qF e0
  obtain ⟨z, hz, h⟩ := oB h
  have HZ := aM hz
  clear hz e0
  by_cases e1 : a = z
  ·rw [if_pos e1] at h
   obtain ⟨rfl, rfl⟩ := Prod.mk.inj (sI h)
   have q1 : (a == z) = true := qT e1
   clear h e1
   go_enter Try.func31, Try.ntmps31
   go_wp2_with (first | (go_at_call 50; refine (spec_l12Size.calls _ _ l z _ ?s1 ?s2 HZ.out).mono ?_; (case s1 => repeat (first | exact HR.out | (with_reducible refine aH ?_ _) | (with_reducible refine aI ?_ _) | (with_reducible refine aJ ?_))); (case s2 => exact HC.out); rintro e w' ⟨rfl, ⟨nd, rfl⟩⟩; generalize hq_ : World.drewN w _ = wq; have HRq : Aside0 (Kd.C k101 wq A l.length l) := ⟨by rw [← hq_]; exact aI HR.out _⟩; have HBq : Aside0 (Below w.heap.size w wq) := ⟨by rw [← hq_]; exact pD (Below.refl _ _) _⟩; clear hq_))
   go_ret2
   exact ⟨A, c, none, 0, rfl, HRq.out, HC.out, Kd.C_nil _ _, Nat.le_refl _, HBq.out⟩
  rw [if_neg e1] at h
  have q1 : (a == z) = false := qF e1
  clear e1
  obtain ⟨j, hj⟩ : ∃ j : Int, wrap64 ((l.length : Int) - 1) = j := ⟨_, rfl⟩
  have hjw : IntKind.i64.wrap ((l.length : Int) - 1) = j := (i64_w _).trans hj
  rw [hj] at h
  clear hj
  by_cases t1 : 0 ≤ j
  case neg => rw [if_neg t1] at h; cases h
  rw [if_pos t1] at h
  by_cases t2 : j < (l.length : Int)
  case neg => rw [if_neg t2] at h; cases h
  rw [if_pos t2] at h
  replace t1 := eq_true t1
  replace t2 := eq_true t2
  by_cases t3 : (rd_T101 l j).f0 < 0
  ·rw [if_pos t3] at h
   have d3 : decide ((rd_T101 l j).f0 < 0) = true := dT t3
   clear t3
   by_cases t4 : 0 ≤ a
   case neg => rw [if_neg t4] at h; cases h
   rw [if_pos t4] at h
   by_cases t5 : a ≤ ((rd_T101 l j).f2.size : Int)
   case neg => rw [if_neg t5] at h; cases h
   rw [if_pos t5] at h
   replace t4 := eq_true t4
   replace t5 := eq_true t5
   obtain ⟨p1, hp1, h⟩ := oB h
   obtain ⟨p2, hp2, h⟩ := oB h
   obtain ⟨rfl, rfl⟩ := Prod.mk.inj (sI h)
   have H1 := aM hp1
   have H2 := aM hp2
   clear h hp1 hp2
   go_enter Try.func31, Try.ntmps31
   go_upto_region 5 with (first | (go_at_call 50; refine (spec_l12Size.calls _ _ l z _ ?s1 ?s2 HZ.out).mono ?_; (case s1 => repeat (first | exact HR.out | (with_reducible refine aH ?_ _) | (with_reducible refine aI ?_ _) | (with_reducible refine aJ ?_))); (case s2 => exact HC.out); rintro e w' ⟨rfl, ⟨nd, rfl⟩⟩; generalize hq_ : World.drewN w _ = wq; have HRq : Aside0 (Kd.C k101 wq A l.length l) := ⟨by rw [← hq_]; exact aI HR.out _⟩; have HBq : Aside0 (Below w.heap.size w wq) := ⟨by rw [← hq_]; exact pD (Below.refl _ _) _⟩; clear hq_; obtain ⟨ad, e_, hx0, hx1, hx2, hx3, hx4⟩ := at_T101 HRq.out j (of_eq_true t1) (of_eq_true t2); cases e_))
   go_cut [6] (fun v_ wc_ => ∃ g_, v_ = .pointer (some ⟨g_, 0, none⟩) ∧ Aside0 (w.heap.size ≤ g_) ∧ Aside0 (wc_.heap[g_]? = some (.cells #[.int .i64 ((rd_T101 l j).f0), .int .i64 ((rd_T101 l j).f1), .string ((rd_T101 l j).f2), .int .i64 ((rd_T101 l j).f3), .int .i64 ((rd_T101 l j).f4)] 101 (0, 0))) ∧ Aside0 (Below w.heap.size w wc_))
   case first =>
    go_wp2_with (fail)
    go_meet
    exact ⟨_, rfl, ⟨HBq.out.size⟩, ⟨blk_new _ _⟩, ⟨bA HBq.out _⟩⟩
   case rest =>
    obtain ⟨gb, rfl, GE_gb, BK_gb, HB⟩ := hcut
    clear hx0 hx1 hx2 hx3 hx4 HRq HBq
    have HX := aM (aG HR.out HB.out)
    have hcgb_0 : wc.cell? ⟨gb, 0, none⟩ = some (.int .i64 ((rd_T101 l j).f0)) := (bC BK_gb.out 0).trans rfl; have hfgb_0 := bF BK_gb.out 0; have hcgb_1 : wc.cell? ⟨gb, 1, none⟩ = some (.int .i64 ((rd_T101 l j).f1)) := (bC BK_gb.out 1).trans rfl; have hfgb_1 := bF BK_gb.out 1; have hcgb_2 : wc.cell? ⟨gb, 2, none⟩ = some (.string ((rd_T101 l j).f2)) := (bC BK_gb.out 2).trans rfl; have hfgb_2 := bF BK_gb.out 2; have hcgb_3 : wc.cell? ⟨gb, 3, none⟩ = some (.int .i64 ((rd_T101 l j).f3)) := (bC BK_gb.out 3).trans rfl; have hfgb_3 := bF BK_gb.out 3; have hcgb_4 : wc.cell? ⟨gb, 4, none⟩ = some (.int .i64 ((rd_T101 l j).f4)) := (bC BK_gb.out 4).trans rfl; have hfgb_4 := bF BK_gb.out 4
    go_wp2
    go_region_held3 (fun w' => w'.cell? ⟨gb, 2, none⟩ = some (.string (rd_T101 l j).f2)) (first | go_keep | exact HS1.out | exact HS2.out) (first | (go_at_call_of 30 (Value.string ((rd_T101 l j).f2.extract 0 a.toNat)); refine (spec_l12Piece.calls _ _ _ H1.out).mono ?_; rintro e w1 ⟨v1, rfl, ho, hb⟩; obtain ⟨A1, c1, eo⟩ := Kd.R_slice ho; subst eo; have vZ := aM ho; have HB1 := aM hb; have HS1 : Aside0 (w1.cell? ⟨gb, 2, none⟩ = some (.string (rd_T101 l j).f2)) := ⟨(bC (af (kB_ BK_gb.out) hb) 2).trans rfl⟩; clear ho hb) | (go_at_call 30; refine (spec_l12Piece.calls _ _ _ H2.out).mono ?_; rintro e w2 ⟨v2, rfl, ho, hb⟩; obtain ⟨A2, c2, eo⟩ := Kd.R_slice ho; subst eo; have tP := aM ho; have HB2 := aM hb; have HS2 : Aside0 (w2.cell? ⟨gb, 2, none⟩ = some (.string (rd_T101 l j).f2)) := ⟨(hb.cell (World.block_lt_of_cell? _ _ HS1.out)).trans HS1.out⟩; clear ho hb))
    go_wp2
    go_ret2
    exact ⟨A1, c1, A2, c2, rfl, aG (ai vZ.out).2.2 HB2.out, (ai vZ.out).2.1, (ai tP.out).2.2, (ai tP.out).2.1, aA (aA HB.out (by first | exact HB1.out | exact aA (below_drew (Below.refl _ _)) HB1.out)) HB2.out⟩
  ·rw [if_neg t3] at h
   have d3 : decide ((rd_T101 l j).f0 < 0) = false := dF t3
   clear t3
   obtain ⟨L, hL, h⟩ := oB h
   obtain ⟨R, hR, h⟩ := oB h
   obtain ⟨n, hn, h⟩ := oB h
   have HL := aM hL
   have HRr := aM hR
   have HN := aM hn
   clear hL hR hn
   by_cases t4 : a < n
   ·rw [if_pos t4] at h
    have d4 : decide (a < n) = true := dT t4
    clear t4
    obtain ⟨⟨x, y⟩, hs, h⟩ := oB h
    obtain ⟨q, hq, h⟩ := oB h
    obtain ⟨rfl, rfl⟩ := Prod.mk.inj (sI h)
    have HS := aM hs
    have HQ := aM hq
    clear h hs hq
    go_enter Try.func31, Try.ntmps31
    go_upto_region 5 with (first | (go_at_call 50; refine (spec_l12Size.calls _ _ l z _ ?s1 ?s2 HZ.out).mono ?_; (case s1 => repeat (first | exact HR.out | (with_reducible refine aH ?_ _) | (with_reducible refine aI ?_ _) | (with_reducible refine aJ ?_))); (case s2 => exact HC.out); rintro e w' ⟨rfl, ⟨nd, rfl⟩⟩; generalize hq_ : World.drewN w _ = wq; have HRq : Aside0 (Kd.C k101 wq A l.length l) := ⟨by rw [← hq_]; exact aI HR.out _⟩; have HBq : Aside0 (Below w.heap.size w wq) := ⟨by rw [← hq_]; exact pD (Below.refl _ _) _⟩; clear hq_; obtain ⟨ad, e_, hx0, hx1, hx2, hx3, hx4⟩ := at_T101 HRq.out j (of_eq_true t1) (of_eq_true t2); cases e_))
    go_cut [6] (fun v_ wc_ => ∃ g_, v_ = .pointer (some ⟨g_, 0, none⟩) ∧ Aside0 (w.heap.size ≤ g_) ∧ Aside0 (wc_.heap[g_]? = some (.cells #[.int .i64 ((rd_T101 l j).f0), .int .i64 ((rd_T101 l j).f1), .string ((rd_T101 l j).f2), .int .i64 ((rd_T101 l j).f3), .int .i64 ((rd_T101 l j).f4)] 101 (0, 0))) ∧ Aside0 (Below w.heap.size w wc_))
    case first =>
     go_wp2_with (fail)
     go_meet
     exact ⟨_, rfl, ⟨HBq.out.size⟩, ⟨blk_new _ _⟩, ⟨bA HBq.out _⟩⟩
    case rest =>
     obtain ⟨gb, rfl, GE_gb, BK_gb, HB⟩ := hcut
     clear hx0 hx1 hx2 hx3 hx4 HRq HBq
     have HX := aM (aG HR.out HB.out)
     have hcgb_0 : wc.cell? ⟨gb, 0, none⟩ = some (.int .i64 ((rd_T101 l j).f0)) := (bC BK_gb.out 0).trans rfl; have hfgb_0 := bF BK_gb.out 0; have hcgb_1 : wc.cell? ⟨gb, 1, none⟩ = some (.int .i64 ((rd_T101 l j).f1)) := (bC BK_gb.out 1).trans rfl; have hfgb_1 := bF BK_gb.out 1; have hcgb_2 : wc.cell? ⟨gb, 2, none⟩ = some (.string ((rd_T101 l j).f2)) := (bC BK_gb.out 2).trans rfl; have hfgb_2 := bF BK_gb.out 2; have hcgb_3 : wc.cell? ⟨gb, 3, none⟩ = some (.int .i64 ((rd_T101 l j).f3)) := (bC BK_gb.out 3).trans rfl; have hfgb_3 := bF BK_gb.out 3; have hcgb_4 : wc.cell? ⟨gb, 4, none⟩ = some (.int .i64 ((rd_T101 l j).f4)) := (bC BK_gb.out 4).trans rfl; have hfgb_4 := bF BK_gb.out 4
     go_upto_region 9 with (first | (go_at_call 62; refine (spec_l12Part.calls k _ _ l (rd_T101 l j).f0 L _ (by repeat (first | exact HX.out | (with_reducible refine aH ?_ _) | (with_reducible refine aI ?_ _) | (with_reducible refine aJ ?_))) HC.out HL.out).mono ?_; rintro e w1 ⟨v1, rfl, ho, hb⟩; obtain ⟨A1, c1, eo⟩ := Kd.R_slice ho; subst eo; have gm := aM (ai ho).2.1; have HX1 := aM (ai ho).2.2; have bb := aM (aA z32 hb); have bc := aM (aG (by repeat (first | exact HX.out | (with_reducible refine aH ?_ _) | (with_reducible refine aI ?_ _) | (with_reducible refine aJ ?_))) hb); have bd := aM (af (kB_ BK_gb.out) hb); clear BK_gb hcgb_0 hcgb_1 hcgb_2 hcgb_3 hcgb_4 hfgb_0 hfgb_1 hfgb_2 hfgb_3 hfgb_4; clear HB HX; have HB := bb; have HX := bc; have BK_gb := bd; clear bb bc bd ho hb; obtain ⟨hcgb_0, hcgb_1, hcgb_2, hcgb_3, hcgb_4, hfgb_0, hfgb_1, hfgb_2, hfgb_3, hfgb_4⟩ := cc5 BK_gb.out))
     go_upto_region 10 with (first | (go_at_call 62; refine (spec_l12Part.calls k _ _ l (rd_T101 l j).f1 R _ (by repeat (first | exact HX.out | (with_reducible refine aH ?_ _) | (with_reducible refine aI ?_ _) | (with_reducible refine aJ ?_))) HC.out HRr.out).mono ?_; rintro e w2 ⟨v2, rfl, ho, hb⟩; obtain ⟨A2, c2, eo⟩ := Kd.R_slice ho; subst eo; have r7 := aM (ai ho).2.1; have HX2 := aM (ai ho).2.2; have bb := aM (aA z32 hb); have bc := aM (aG (by repeat (first | exact HX.out | (with_reducible refine aH ?_ _) | (with_reducible refine aI ?_ _) | (with_reducible refine aJ ?_))) hb); have bd := aM (af (kB_ BK_gb.out) hb); clear BK_gb hcgb_0 hcgb_1 hcgb_2 hcgb_3 hcgb_4 hfgb_0 hfgb_1 hfgb_2 hfgb_3 hfgb_4; replace HX1 := aM (aG (by repeat (first | exact HX1.out | (with_reducible refine aH ?_ _) | (with_reducible refine aI ?_ _) | (with_reducible refine aJ ?_))) hb); clear HB HX; have HB := bb; have HX := bc; have BK_gb := bd; clear bb bc bd ho hb; obtain ⟨hcgb_0, hcgb_1, hcgb_2, hcgb_3, hcgb_4, hfgb_0, hfgb_1, hfgb_2, hfgb_3, hfgb_4⟩ := cc5 BK_gb.out))
     go_upto_region 11 with (first | (go_at_call 50; refine (spec_l12Size.calls A1 c1 L n _ ?s1 ?s2 HN.out).mono ?_; (case s1 => repeat (first | exact HX1.out | (with_reducible refine aH ?_ _) | (with_reducible refine aI ?_ _) | (with_reducible refine aJ ?_))); (case s2 => exact gm.out); rintro e w' ⟨rfl, ⟨nd2, rfl⟩⟩))
     go_upto_region 13 with (first | (go_at_call 31; refine (IH.out L A1 c1 a x y _ (by repeat (first | exact HX1.out | (with_reducible refine aH ?_ _) | (with_reducible refine aI ?_ _) | (with_reducible refine aJ ?_))) gm.out HS.out).mono ?_; rintro e w3 ⟨A3, c3, A4, c4, rfl, hc3, hl3, hc4, hl4, hb⟩; have rj := aM hc3; have HL3 := aM hl3; have r6 := aM hc4; have HL4 := aM hl4; have bb := aM (aA z32 hb); have bc := aM (aG (by repeat (first | exact HX2.out | (with_reducible refine aH ?_ _) | (with_reducible refine aI ?_ _) | (with_reducible refine aJ ?_))) hb); clear HB HX2; have HB := bb; have HX2 := bc; clear bb bc hc3 hl3 hc4 hl4 hb))
     go_wp2_with (first | (go_at_call 29; refine (join_rd k y A4 c4 R A2 c2 q _ (by repeat (first | exact r6.out | (with_reducible refine aH ?_ _) | (with_reducible refine aI ?_ _) | (with_reducible refine aJ ?_))) HL4.out (by repeat (first | exact HX2.out | (with_reducible refine aH ?_ _) | (with_reducible refine aI ?_ _) | (with_reducible refine aJ ?_))) r7.out HQ.out).mono ?_; rintro e w4 ⟨A5, c5, rfl, hc5, hl5, hb⟩; have jH := aM hc5; have HL5 := aM hl5; have HF3 := aM (aG (by repeat (first | exact rj.out | (with_reducible refine aH ?_ _) | (with_reducible refine aI ?_ _) | (with_reducible refine aJ ?_))) hb); have bb := aM (aA z32 hb); clear HB; have HB := bb; clear bb hc5 hl5 hb))
     go_ret2
     exact ⟨A3, c3, A5, c5, rfl, HF3.out, HL3.out, jH.out, HL5.out, HB.out⟩
   ·rw [if_neg t4] at h
    have d4 : decide (a < n) = false := dF t4
    clear t4
    obtain ⟨⟨x, y⟩, hs, h⟩ := oB h
    obtain ⟨q, hq, h⟩ := oB h
    obtain ⟨rfl, rfl⟩ := Prod.mk.inj (sI h)
    obtain ⟨m, hm⟩ : ∃ m : Int, wrap64 (a - n) = m := ⟨_, rfl⟩
    have hmw : IntKind.i64.wrap (a - n) = m := (i64_w _).trans hm
    rw [hm] at hs
    have HS := aM hs
    have HQ := aM hq
    clear h hs hq hm
    go_enter Try.func31, Try.ntmps31
    go_upto_region 5 with (first | (go_at_call 50; refine (spec_l12Size.calls _ _ l z _ ?s1 ?s2 HZ.out).mono ?_; (case s1 => repeat (first | exact HR.out | (with_reducible refine aH ?_ _) | (with_reducible refine aI ?_ _) | (with_reducible refine aJ ?_))); (case s2 => exact HC.out); rintro e w' ⟨rfl, ⟨nd, rfl⟩⟩; generalize hq_ : World.drewN w _ = wq; have HRq : Aside0 (Kd.C k101 wq A l.length l) := ⟨by rw [← hq_]; exact aI HR.out _⟩; have HBq : Aside0 (Below w.heap.size w wq) := ⟨by rw [← hq_]; exact pD (Below.refl _ _) _⟩; clear hq_; obtain ⟨ad, e_, hx0, hx1, hx2, hx3, hx4⟩ := at_T101 HRq.out j (of_eq_true t1) (of_eq_true t2); cases e_))
    go_cut [6] (fun v_ wc_ => ∃ g_, v_ = .pointer (some ⟨g_, 0, none⟩) ∧ Aside0 (w.heap.size ≤ g_) ∧ Aside0 (wc_.heap[g_]? = some (.cells #[.int .i64 ((rd_T101 l j).f0), .int .i64 ((rd_T101 l j).f1), .string ((rd_T101 l j).f2), .int .i64 ((rd_T101 l j).f3), .int .i64 ((rd_T101 l j).f4)] 101 (0, 0))) ∧ Aside0 (Below w.heap.size w wc_))
    case first =>
     go_wp2_with (fail)
     go_meet
     exact ⟨_, rfl, ⟨HBq.out.size⟩, ⟨blk_new _ _⟩, ⟨bA HBq.out _⟩⟩
    case rest =>
     obtain ⟨gb, rfl, GE_gb, BK_gb, HB⟩ := hcut
     clear hx0 hx1 hx2 hx3 hx4 HRq HBq
     have HX := aM (aG HR.out HB.out)
     have hcgb_0 : wc.cell? ⟨gb, 0, none⟩ = some (.int .i64 ((rd_T101 l j).f0)) := (bC BK_gb.out 0).trans rfl; have hfgb_0 := bF BK_gb.out 0; have hcgb_1 : wc.cell? ⟨gb, 1, none⟩ = some (.int .i64 ((rd_T101 l j).f1)) := (bC BK_gb.out 1).trans rfl; have hfgb_1 := bF BK_gb.out 1; have hcgb_2 : wc.cell? ⟨gb, 2, none⟩ = some (.string ((rd_T101 l j).f2)) := (bC BK_gb.out 2).trans rfl; have hfgb_2 := bF BK_gb.out 2; have hcgb_3 : wc.cell? ⟨gb, 3, none⟩ = some (.int .i64 ((rd_T101 l j).f3)) := (bC BK_gb.out 3).trans rfl; have hfgb_3 := bF BK_gb.out 3; have hcgb_4 : wc.cell? ⟨gb, 4, none⟩ = some (.int .i64 ((rd_T101 l j).f4)) := (bC BK_gb.out 4).trans rfl; have hfgb_4 := bF BK_gb.out 4
     go_upto_region 9 with (first | (go_at_call 62; refine (spec_l12Part.calls k _ _ l (rd_T101 l j).f0 L _ (by repeat (first | exact HX.out | (with_reducible refine aH ?_ _) | (with_reducible refine aI ?_ _) | (with_reducible refine aJ ?_))) HC.out HL.out).mono ?_; rintro e w1 ⟨v1, rfl, ho, hb⟩; obtain ⟨A1, c1, eo⟩ := Kd.R_slice ho; subst eo; have gm := aM (ai ho).2.1; have HX1 := aM (ai ho).2.2; have bb := aM (aA z32 hb); have bc := aM (aG (by repeat (first | exact HX.out | (with_reducible refine aH ?_ _) | (with_reducible refine aI ?_ _) | (with_reducible refine aJ ?_))) hb); have bd := aM (af (kB_ BK_gb.out) hb); clear BK_gb hcgb_0 hcgb_1 hcgb_2 hcgb_3 hcgb_4 hfgb_0 hfgb_1 hfgb_2 hfgb_3 hfgb_4; clear HB HX; have HB := bb; have HX := bc; have BK_gb := bd; clear bb bc bd ho hb; obtain ⟨hcgb_0, hcgb_1, hcgb_2, hcgb_3, hcgb_4, hfgb_0, hfgb_1, hfgb_2, hfgb_3, hfgb_4⟩ := cc5 BK_gb.out))
     go_upto_region 10 with (first | (go_at_call 62; refine (spec_l12Part.calls k _ _ l (rd_T101 l j).f1 R _ (by repeat (first | exact HX.out | (with_reducible refine aH ?_ _) | (with_reducible refine aI ?_ _) | (with_reducible refine aJ ?_))) HC.out HRr.out).mono ?_; rintro e w2 ⟨v2, rfl, ho, hb⟩; obtain ⟨A2, c2, eo⟩ := Kd.R_slice ho; subst eo; have r7 := aM (ai ho).2.1; have HX2 := aM (ai ho).2.2; have bb := aM (aA z32 hb); have bc := aM (aG (by repeat (first | exact HX.out | (with_reducible refine aH ?_ _) | (with_reducible refine aI ?_ _) | (with_reducible refine aJ ?_))) hb); have bd := aM (af (kB_ BK_gb.out) hb); clear BK_gb hcgb_0 hcgb_1 hcgb_2 hcgb_3 hcgb_4 hfgb_0 hfgb_1 hfgb_2 hfgb_3 hfgb_4; replace HX1 := aM (aG (by repeat (first | exact HX1.out | (with_reducible refine aH ?_ _) | (with_reducible refine aI ?_ _) | (with_reducible refine aJ ?_))) hb); clear HB HX; have HB := bb; have HX := bc; have BK_gb := bd; clear bb bc bd ho hb; obtain ⟨hcgb_0, hcgb_1, hcgb_2, hcgb_3, hcgb_4, hfgb_0, hfgb_1, hfgb_2, hfgb_3, hfgb_4⟩ := cc5 BK_gb.out))
     go_upto_region 11 with (first | (go_at_call 50; refine (spec_l12Size.calls A1 c1 L n _ ?s1 ?s2 HN.out).mono ?_; (case s1 => repeat (first | exact HX1.out | (with_reducible refine aH ?_ _) | (with_reducible refine aI ?_ _) | (with_reducible refine aJ ?_))); (case s2 => exact gm.out); rintro e w' ⟨rfl, ⟨nd2, rfl⟩⟩))
     go_upto_region 15 with (first | (go_at_call 31; refine (IH.out R A2 c2 m x y _ (by repeat (first | exact HX2.out | (with_reducible refine aH ?_ _) | (with_reducible refine aI ?_ _) | (with_reducible refine aJ ?_))) r7.out HS.out).mono ?_; rintro e w3 ⟨A3, c3, A4, c4, rfl, hc3, hl3, hc4, hl4, hb⟩; have rj := aM hc3; have HL3 := aM hl3; have r6 := aM hc4; have HL4 := aM hl4; have bb := aM (aA z32 hb); have bc := aM (aG (by repeat (first | exact HX1.out | (with_reducible refine aH ?_ _) | (with_reducible refine aI ?_ _) | (with_reducible refine aJ ?_))) hb); clear HB HX1; have HB := bb; have HX1 := bc; clear bb bc hc3 hl3 hc4 hl4 hb))
     go_wp2_with (first | (go_at_call 29; refine (join_rd k L A1 c1 x A3 c3 q _ (by repeat (first | exact HX1.out | (with_reducible refine aH ?_ _) | (with_reducible refine aI ?_ _) | (with_reducible refine aJ ?_))) gm.out (by repeat (first | exact rj.out | (with_reducible refine aH ?_ _) | (with_reducible refine aI ?_ _) | (with_reducible refine aJ ?_))) HL3.out HQ.out).mono ?_; rintro e w4 ⟨A5, c5, rfl, hc5, hl5, hb⟩; have jH := aM hc5; have HL5 := aM hl5; have HF4 := aM (aG (by repeat (first | exact r6.out | (with_reducible refine aH ?_ _) | (with_reducible refine aI ?_ _) | (with_reducible refine aJ ?_))) hb); have bb := aM (aA z32 hb); clear HB; have HB := bb; clear bb hc5 hl5 hb))
     go_ret2
     exact ⟨A5, c5, A4, c4, rfl, jH.out, HL5.out, HF4.out, HL4.out, HB.out⟩

end Go.Proofs.Ytblnnbaeiggmoaa.AFnSplit
