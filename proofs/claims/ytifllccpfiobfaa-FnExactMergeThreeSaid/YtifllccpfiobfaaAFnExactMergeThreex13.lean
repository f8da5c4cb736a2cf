-- this session's own text: written by wip/tools/ownprint.py over the kit's print
import Derived.Test.YtifllccpfiobfaaAFnExactMergeThreex0
import Derived.Test.YtifllccpfiobfaaAFnExactMergeThreex6
import Derived.Test.YtifllccpfiobfaaAFnExactMergeThreex11
import Derived.Test.YtifllccpfiobfaaAFnExactMergeThreex12
namespace Go.Proofs.Ytifllccpfiobfaa.AFnExactMergeThree
open Go.RowKit Go.Proofs.YtifllccpfiobfaaW.PrintWords Go.Proofs.YtifllccpfiobfaaW.PrintLast Go.Proofs.YtifllccpfiobfaaW.PrintMore
attribute [local go_sem] max2_int min2_int max_two min_two max_three min_three max_four min_four   -- for this text's walks alone
set_option linter.unusedVariables false
set_option linter.unusedSimpArgs false

/-! ### impl_TransformOps: function 10, by hand -/
/-- A maker: its box and its row. -/
def IM (w0 : World) (g : Nat) (v : Value) (out : List S44) (put drop : ByteArray) : (World → Prop) × (Nat → Prop) := (fun w => Mk w0 w g v out put drop, fun k => k = g ∨ some k = v.ownBlock)
theorem IM.own {w0 w : World} {g : Nat} {v : Value} {out : List S44} {put drop : ByteArray} (h : Mk w0 w g v out put drop) : Own w0 w (IM w0 g v out put drop).1 (IM w0 g v out put drop).2 :=
 ⟨fun k hk => hk.elim (fun e => by rw [e]; exact blk_lt h.1) (fun e => aj h.2.1 k e.symm), fun w' hb hm => ⟨(hm g (.inl rfl)).trans h.1, af (Kd.R_step (Kd.R_tight rfl h.2.1) (fun k hk _ => hm k (.inr hk))) (fun _ _ => trivial), hb, h.2.2.2⟩⟩
set_option maxHeartbeats 1000000 in
theorem rd_head {w0 w : World} {g : Nat} {v : Value} {xs : List S44} {P : Nat → Prop} {L : List ((World → Prop) × (Nat → Prop))} (h : Seps w0 w (ID 51 g v xs P :: L)) :
  Calls Try.prog 27 #[.pointer (some ⟨g, 0, none⟩)] w fun e w' => e = .returned (.agg #[.int .i64 (rd_T44 xs 0).f0, .string (rd_T44 xs 0).f1, .string (rd_T44 xs 0).f2]) ∧ Below w.heap.size w w' := by
 obtain ⟨hb, hv, hPn⟩ := h.now
 have HB := aM hb
 obtain ⟨A, c, rfl, hc, hf⟩ := hv
 have hc0 : w.cell? ⟨g, 0, none⟩ = some (.slice A xs.length c) := bC hb 0
 have hglt := blk_lt hb
 have hu44 := Try.underlying44
 cases xs with
 | nil =>
  clear h hf hb hc
  go_enter Try.func27, Try.ntmps27
  go_wp2
  refine bodyPost_ret (results_cell_row rfl _ _ w.heap.size 44 #[.int .i64 0, .string ⟨#[]⟩, .string ⟨#[]⟩] (0, 0) _ rfl (by simpa using heap_alloc_new w _) Try.underlying44 rfl z0) rfl ?_
  exact ⟨rfl, bA (Below.refl _ _) _⟩
 | cons p l =>
  obtain ⟨ad, rfl, x0, x1, x2⟩ := at_T44 (Kd.F_now hf) 0 (by simp) (by simp)
  rw [rd0_cons] at x0 x1 x2 ⊢
  rw [show (0 : Int).toNat * 3 = 0 from rfl, Addr.add_zero'] at x0 x1 x2
  have hl : (p :: l).length = l.length + 1 := List.length_cons
  rw [hl] at hc0
  have hadlt : ad.block < w.heap.size := World.block_lt_of_cell? w ad x0
  have hb0 : ((l.length : Int) + 1 == 0) = false := qF (by omega)
  clear h hf hb hc
  go_enter Try.func27, Try.ntmps27
  go_wp2
  refine bodyPost_ret (results_cell_row rfl _ _ w.heap.size 44 #[.int .i64 p.f0, .string p.f1, .string p.f2] (0, 0) _ rfl (by simpa using heap_alloc_new w _) Try.underlying44 rfl z0) rfl ?_
  exact ⟨rfl, bA (Below.refl _ _) _⟩
set_option maxHeartbeats 1000000 in
theorem rd_next {w0 w : World} {g : Nat} {v : Value} {xs : List S44} {P : Nat → Prop} {L : List ((World → Prop) × (Nat → Prop))} (h : Seps w0 w (ID 51 g v xs P :: L)) (hg : w0.heap.size ≤ g) (hx : 0 < xs.length) :
  Calls Try.prog 28 #[.pointer (some ⟨g, 0, none⟩)] w fun e w' => e = .returned (.agg #[.int .i64 (rd_T44 xs 0).f0, .string (rd_T44 xs 0).f1, .string (rd_T44 xs 0).f2]) ∧ ∃ v', Seps w0 w' (ID 51 g v' (xs.drop 1) P :: L) := by
 obtain ⟨hb, hv, hPn⟩ := h.now
 obtain ⟨A, c, rfl, hc, hf⟩ := hv
 have hglt := blk_lt hb
 have hu44 := Try.underlying44
 have H := aM h
 have HF := aM hf
 have HP := aM hx
 have h1c : (1 : Int) ≤ (xs.length : Int) := by omega
 have h1c' : 1 ≤ xs.length := by omega
 have h1d : (1 : Int) ≤ (c : Int) := by omega
 have h1d' : 1 ≤ c := by omega
 have H0 := aM (h.addBox (.cells #[.int .i64 0, .string ⟨#[]⟩, .string ⟨#[]⟩] 44))
 have HH := aM hc
 have HW := aM h.1.size
 clear h hf hb hx hc
 go_enter Try.func28, Try.ntmps28
 go_wp2_with (first | (go_at_call 27; refine (rd_head H0.out.f2).mono ?_; rintro e w1 ⟨rfl, hb1⟩; have H1 := aM (H0.out.below hb1); have hcg : w1.cell? ⟨g, 0, none⟩ = some (.slice A xs.length c) := (bC H1.out.f2.now.1 0); have hfg := bF H1.out.f2.now.1 0; have hcg1 := blk_lt H1.out.f2.now.1; have hcr := blk_lt H1.out.now; have hr0 := bC H1.out.now 0; have hr1 := bC H1.out.now 1; have hr2 := bC H1.out.now 2; have hq0 := bF H1.out.now 0; have hq1 := bF H1.out.now 1; have hq2 := bF H1.out.now 2; have hng : w.heap.size ≠ g := Nat.ne_of_gt hglt; have hng2 : g ≠ w.heap.size := ar hglt; simp only [List.getElem?_toArray, List.getElem?_cons_zero, List.getElem?_cons_succ] at hr0 hr1 hr2; clear hb1))
 all_goals
  have h9 := (((((H1.out.f2.cut1 hg h1c' HH.out).f2.put HW.out 0 (.int .i64 (rd_T44 xs 0).f0) rfl).put HW.out 1 (.string (rd_T44 xs 0).f1) rfl).put HW.out 2 (.string (rd_T44 xs 0).f2) rfl).alloc (.cells #[.int .i64 (rd_T44 xs 0).f0, .string (rd_T44 xs 0).f1, .string (rd_T44 xs 0).f2] 44))
  first | (have hc1 : c = 1 := (by assumption); rw [if_pos hc1, hc1] at h9) | (have hc1 : ¬ c = 1 := (by assumption); rw [if_neg hc1] at h9)
  refine bodyPost_ret (results_cell_row rfl _ _ w.heap.size 44 #[.int .i64 (rd_T44 xs 0).f0, .string (rd_T44 xs 0).f1, .string (rd_T44 xs 0).f2] (0, 0) _ rfl (by exact h9.box) Try.underlying44 rfl z0) rfl ?_
  exact ⟨rfl, _, by have h10 := h9.tail; first | (simpa using h10) | (simpa [Addr.add] using h10)⟩
theorem rd_headc {w0 w : World} {g : Nat} {v : Value} {a : Int} {b d : ByteArray} {l : List S44} {P : Nat → Prop} {L : List ((World → Prop) × (Nat → Prop))} (h : Seps w0 w (ID 51 g v (⟨a, b, d⟩ :: l) P :: L)) :
  Calls Try.prog 27 #[.pointer (some ⟨g, 0, none⟩)] w fun e w' => e = .returned (.agg #[.int .i64 a, .string b, .string d]) ∧ Below w.heap.size w w' := rd_head h
set_option maxHeartbeats 1000000 in
theorem rd_cutKp {w0 w : World} {g : Nat} {v : Value} {m n : Int} {l : List S44} {P : Nat → Prop} {L : List ((World → Prop) × (Nat → Prop))} (h : Seps w0 w (ID 51 g v (⟨m, ⟨#[]⟩, ⟨#[]⟩⟩ :: l) P :: L)) (hg : w0.heap.size ≤ g) (h0 : 0 < n) (hn : n < m) (hm : m ≤ 1000000000) (hl : l.length ≤ 1000000000) :
  Calls Try.prog 30 #[.pointer (some ⟨g, 0, none⟩), .int .i64 n] w fun e w' => e = .returned (.agg #[.int .i64 n, .string ⟨#[]⟩, .string ⟨#[]⟩]) ∧ ∃ v' P', Seps w0 w' (ID 51 g v' (⟨m - n, ⟨#[]⟩, ⟨#[]⟩⟩ :: l) P' :: L) := by
 obtain ⟨hb, hv, hPn⟩ := h.now
 obtain ⟨A, c, rfl, hc, hf⟩ := hv
 have hglt := blk_lt hb
 have hu44 := Try.underlying44
 have HF := aM hf
 have HW := aM h.1.size
 have hmp : decide (m > 0) = true := dT (by omega)
 have hws : IntKind.i64.wrap (m - n) = m - n := by rw [i64_w]; unfold wrap64; omega
 have H0 := aM (h.addBox (.cells #[.int .i64 0, .string ⟨#[]⟩, .string ⟨#[]⟩] 44))
 have HH := aM hc
 clear h hf hb hc
 go_enter Try.func30, Try.ntmps30
 go_upto_region 2 with (first | (go_at_call 27; refine (rd_headc H0.out.f2).mono ?_; rintro e w1 ⟨rfl, hb1⟩; have H1 := aM ((H0.out.below hb1).addBox (.cells #[.int .i64 m, .string ⟨#[]⟩, .string ⟨#[]⟩] 44)); clear hb1))
 go_cut [6, 7] (fun v6 v7 wc => ∃ g6 g7 : Nat, v6 = .pointer (some ⟨g6, 0, none⟩) ∧ v7 = .pointer (some ⟨g7, 0, none⟩) ∧ w0.heap.size ≤ g6 ∧ w0.heap.size ≤ g7 ∧ Aside0 (Seps w0 wc (IB g7 (.cells #[.int .i64 m, .string ⟨#[]⟩, .string ⟨#[]⟩] 44) :: IB g6 (.cells #[.int .i64 m, .string ⟨#[]⟩, .string ⟨#[]⟩] 44) :: IB w1.heap.size (.cells #[.int .i64 m, .string ⟨#[]⟩, .string ⟨#[]⟩] 44) :: IB w.heap.size (.cells #[.int .i64 0, .string ⟨#[]⟩, .string ⟨#[]⟩] 44) :: ID 51 g (.slice A (⟨m, ⟨#[]⟩, ⟨#[]⟩⟩ :: l : List S44).length c) (⟨m, ⟨#[]⟩, ⟨#[]⟩⟩ :: l) P :: L)))
 case first =>
  go_region
  all_goals (go_wp2; go_meet)
  all_goals have HS := ((H1.out.addBoxAt (.cells #[.int .i64 m, .string ⟨#[]⟩, .string ⟨#[]⟩] 44) (w1.heap.size + 1) (by simp)).addBoxAt (.cells #[.int .i64 m, .string ⟨#[]⟩, .string ⟨#[]⟩] 44) (w1.heap.size + 1 + 1) (by simp)).drew
  all_goals have HS1 := HS.own.1 (w1.heap.size + 1 + 1) rfl
  all_goals have HS2 : w0.heap.size ≤ w1.heap.size + 1 := by have := H1.out.1.size; simpa using this
  ·exact ⟨_, _, rfl, rfl, by omega, by omega, ⟨HS⟩⟩
  ·exact ⟨_, _, rfl, rfl, by omega, by omega, ⟨HS.f2⟩⟩
 case rest =>
  obtain ⟨g6, g7, rfl, rfl, hg6, hg7, HS⟩ := hcut
  clear H1
  have hlt7 := HS.out.lt
  have hlt6 := HS.out.f2.lt
  have hltp := HS.out.f3.lt
  have hltr := HS.out.f4.lt
  have nI := HS.out.f2.ne
  have nH := HS.out.ne
  have n6p := HS.out.tail.ne
  have n7p := HS.out.f2.tail.ne
  obtain ⟨ij, iy, ix, fz70, fz71, fz72⟩ := HS.out.c3
  obtain ⟨eN, eM, eC, fz60, fz61, fz62⟩ := HS.out.f2.c3
  obtain ⟨cp0, cp1, cp2, zp0, zp1, zp2⟩ := HS.out.f3.c3
  go_wp2
  go_region
  obtain ⟨w2, hw2⟩ : ∃ w2, ((wc.setCell ⟨g6, 0, none⟩ (.int .i64 n)).setCell ⟨g7, 0, none⟩ (.int .i64 (m - n))).drew = w2 := ⟨_, rfl⟩
  have S2 : Aside0 (Seps w0 w2 (IB g7 (.cells #[.int .i64 (m - n), .string ⟨#[]⟩, .string ⟨#[]⟩] 44) :: IB g6 (.cells #[.int .i64 n, .string ⟨#[]⟩, .string ⟨#[]⟩] 44) :: IB w1.heap.size (.cells #[.int .i64 m, .string ⟨#[]⟩, .string ⟨#[]⟩] 44) :: IB w.heap.size (.cells #[.int .i64 0, .string ⟨#[]⟩, .string ⟨#[]⟩] 44) :: ID 51 g (.slice A (⟨m, ⟨#[]⟩, ⟨#[]⟩⟩ :: l : List S44).length c) (⟨m, ⟨#[]⟩, ⟨#[]⟩⟩ :: l) P :: L)) := ⟨by rw [← hw2]; exact (((HS.out.f2.put hg6 0 (.int .i64 n) rfl).f2.put hg7 0 (.int .i64 (m - n)) rfl).drew)⟩
  rw [hw2]
  clear hw2 HS eN eM eC fz60 fz61 fz62 ij iy ix fz70 fz71 fz72 cp0 cp1 cp2 zp0 zp1 zp2 hlt7 hlt6 hltp hltr
  have hlt7 := S2.out.lt
  have hlt6 := S2.out.f2.lt
  have hltp := S2.out.f3.lt
  have hltr := S2.out.f4.lt
  obtain ⟨ij, iy, ix, fz70, fz71, fz72⟩ := S2.out.c3
  obtain ⟨eN, eM, eC, fz60, fz61, fz62⟩ := S2.out.f2.c3
  obtain ⟨cp0, cp1, cp2, zp0, zp1, zp2⟩ := S2.out.f3.c3
  have hmn0 : (m - n == 0) = false := qF (by omega)
  go_wp2
  have hcg : w2.cell? ⟨g, 0, none⟩ = some (.slice A (l.length + 1) c) := bC S2.out.f5.now.1 0
  have hfg := bF S2.out.f5.now.1 0
  have hltg := blk_lt S2.out.f5.now.1
  have h1c : 1 ≤ l.length + 1 := by omega
  have h1ci : (1 : Int) ≤ (l.length : Int) + 1 := by omega
  have S3 := aM (S2.out.litRow (m - n) ⟨#[]⟩ ⟨#[]⟩).drew
  have bG := S3.out.f6.rest1 HH.out
  by_cases hc1 : c = 1
  ·rw [if_pos hc1] at bG
   have cz := aM bG
   clear bG
   go_region_law ((refine Kd.R_append_rows_step k44 (Rr := k44.K (w2.alloc (.cells #[.int .i64 (m - n), .string ⟨#[]⟩, .string ⟨#[]⟩] 44)).drew) (w0 := w0) (W := (w2.alloc (.cells #[.int .i64 (m - n), .string ⟨#[]⟩, .string ⟨#[]⟩] 44)).drew) w0.heap.size ?hw (.tmp 60) (.tmp 65) 27 44 (.agg #[(.int .i64 0), (.string ⟨#[]⟩), (.string ⟨#[]⟩)]) 40 ?ho Try.underlying27 info44 rfl (by decide) (by decide) (.slice (some ⟨w2.heap.size, 0, none⟩) 1 1) [(⟨m - n, ⟨#[]⟩, ⟨#[]⟩⟩ : S44)] l A l.length 0 (fun _ => True) (fun _ => False) ?hs ?hx ?aO ?aR (k44_KM _ _ _ _) (fun _ h => h.elim) (fun _ _ => trivial) ?aB ?aS ?aL ?_; (case hw => rfl); (case ho => rfl); (case hs => rfl); (case hx => rfl); (case aO => exact af S3.out.now (fun _ _ => trivial)); (case aR => exact cz.out); (case aB => exact S3.out.1); (case aS => exact S3.out.1.size); (case aL => simp only [aJ]; omega); intro v4 w4 ho4 hb4 hg4 hat4; have S4 := aM (S3.out.stepRow ho4 hb4 hg4 hat4); obtain ⟨A4, c4, eo4⟩ := Kd.R_slice ho4; subst eo4; have hcg4 : w4.cell? ⟨g, 0, none⟩ = some (.slice A (l.length + 1) c) := bC S4.out.f6.now.1 0; have hfg4 := bF S4.out.f6.now.1 0; have hltg4 := blk_lt S4.out.f6.now.1; clear ho4 hb4 hg4 hat4))
   all_goals
    obtain ⟨w5, hw5⟩ : ∃ w5, w4.setCell ⟨g, 0, none⟩ (.slice A4 (l.length + 1) c4) = w5 := ⟨_, rfl⟩
    have e1 : ([(⟨m - n, ⟨#[]⟩, ⟨#[]⟩⟩ : S44)] ++ l).length = l.length + 1 := by simp
    have S5' := S4.out.f6.f2.give hg
    rw [e1, hw5] at S5'
    rw [hw5]
    have S5 := aM S5'
    clear S5' S4 S3 S2 H0 hcg hfg hltg hcg4 hfg4 hltg4 hw5 eN eM eC fz60 fz61 fz62 ij iy ix fz70 fz71 fz72 cp0 cp1 cp2 zp0 zp1 zp2 hlt7 hlt6 hltp hltr
    obtain ⟨eN, eM, eC, fz60, fz61, fz62⟩ := S5.out.f3.c3
    obtain ⟨cr0, cr1, cr2, zr0, zr1, zr2⟩ := S5.out.f5.c3
    go_wp2
    have h9 := S5.out.f5.put3 (x := .int .i64 n) (y := .string ⟨#[]⟩) (z := .string ⟨#[]⟩) HW.out
    refine bodyPost_ret (results_cell_row rfl _ _ w.heap.size 44 #[.int .i64 n, .string ⟨#[]⟩, .string ⟨#[]⟩] (0, 0) _ rfl (by exact h9.box) Try.underlying44 rfl z0) rfl ?_
    exact ⟨rfl, _, _, h9.tail.f2.tail.f2.tail.f2.tail⟩
  ·rw [if_neg hc1] at bG
   have cz := aM bG
   clear bG
   go_region_law ((refine Kd.R_append_rows_step k44 (Rr := k44.K (w2.alloc (.cells #[.int .i64 (m - n), .string ⟨#[]⟩, .string ⟨#[]⟩] 44)).drew) (w0 := w0) (W := (w2.alloc (.cells #[.int .i64 (m - n), .string ⟨#[]⟩, .string ⟨#[]⟩] 44)).drew) w0.heap.size ?hw (.tmp 60) (.tmp 65) 27 44 (.agg #[(.int .i64 0), (.string ⟨#[]⟩), (.string ⟨#[]⟩)]) 40 ?ho Try.underlying27 info44 rfl (by decide) (by decide) (.slice (some ⟨w2.heap.size, 0, none⟩) 1 1) [(⟨m - n, ⟨#[]⟩, ⟨#[]⟩⟩ : S44)] l (A.map (·.add 3)) l.length (c - 1) (fun _ => True) (fun _ => False) ?hs ?hx ?aO ?aR (k44_KM _ _ _ _) (fun _ h => h.elim) (fun _ _ => trivial) ?aB ?aS ?aL ?_; (case hw => rfl); (case ho => rfl); (case hs => rfl); (case hx => rfl); (case aO => exact af S3.out.now (fun _ _ => trivial)); (case aR => exact cz.out); (case aB => exact S3.out.1); (case aS => exact S3.out.1.size); (case aL => simp only [aJ]; omega); intro v4 w4 ho4 hb4 hg4 hat4; have S4 := aM (S3.out.stepRow ho4 hb4 hg4 hat4); obtain ⟨A4, c4, eo4⟩ := Kd.R_slice ho4; subst eo4; have hcg4 : w4.cell? ⟨g, 0, none⟩ = some (.slice A (l.length + 1) c) := bC S4.out.f6.now.1 0; have hfg4 := bF S4.out.f6.now.1 0; have hltg4 := blk_lt S4.out.f6.now.1; clear ho4 hb4 hg4 hat4))
   all_goals
    obtain ⟨w5, hw5⟩ : ∃ w5, w4.setCell ⟨g, 0, none⟩ (.slice A4 (l.length + 1) c4) = w5 := ⟨_, rfl⟩
    have e1 : ([(⟨m - n, ⟨#[]⟩, ⟨#[]⟩⟩ : S44)] ++ l).length = l.length + 1 := by simp
    have S5' := S4.out.f6.f2.give hg
    rw [e1, hw5] at S5'
    rw [hw5]
    have S5 := aM S5'
    clear S5' S4 S3 S2 H0 hcg hfg hltg hcg4 hfg4 hltg4 hw5 eN eM eC fz60 fz61 fz62 ij iy ix fz70 fz71 fz72 cp0 cp1 cp2 zp0 zp1 zp2 hlt7 hlt6 hltp hltr
    obtain ⟨eN, eM, eC, fz60, fz61, fz62⟩ := S5.out.f3.c3
    obtain ⟨cr0, cr1, cr2, zr0, zr1, zr2⟩ := S5.out.f5.c3
    go_wp2
    have h9 := S5.out.f5.put3 (x := .int .i64 n) (y := .string ⟨#[]⟩) (z := .string ⟨#[]⟩) HW.out
    refine bodyPost_ret (results_cell_row rfl _ _ w.heap.size 44 #[.int .i64 n, .string ⟨#[]⟩, .string ⟨#[]⟩] (0, 0) _ rfl (by exact h9.box) Try.underlying44 rfl z0) rfl ?_
    exact ⟨rfl, _, _, h9.tail.f2.tail.f2.tail.f2.tail⟩
set_option maxHeartbeats 1000000 in
theorem rd_cutKw {w0 w : World} {g : Nat} {v : Value} {m : Int} {l : List S44} {P : Nat → Prop} {L : List ((World → Prop) × (Nat → Prop))} (h : Seps w0 w (ID 51 g v (⟨m, ⟨#[]⟩, ⟨#[]⟩⟩ :: l) P :: L)) (hg : w0.heap.size ≤ g) (h0 : 0 < m) (hm : m ≤ 1000000000) (hl : l.length ≤ 1000000000) :
  Calls Try.prog 30 #[.pointer (some ⟨g, 0, none⟩), .int .i64 m] w fun e w' => e = .returned (.agg #[.int .i64 m, .string ⟨#[]⟩, .string ⟨#[]⟩]) ∧ ∃ v' P', Seps w0 w' (ID 51 g v' l P' :: L) := by
 obtain ⟨hb, hv, hPn⟩ := h.now
 obtain ⟨A, c, rfl, hc, hf⟩ := hv
 have hglt := blk_lt hb
 have hu44 := Try.underlying44
 have HF := aM hf
 have HW := aM h.1.size
 have hmp : decide (m > 0) = true := dT (by omega)
 have H0 := aM (h.addBox (.cells #[.int .i64 0, .string ⟨#[]⟩, .string ⟨#[]⟩] 44))
 have HH := aM hc
 clear h hf hb hc
 go_enter Try.func30, Try.ntmps30
 go_upto_region 2 with (first | (go_at_call 27; refine (rd_headc H0.out.f2).mono ?_; rintro e w1 ⟨rfl, hb1⟩; have H1 := aM ((H0.out.below hb1).addBox (.cells #[.int .i64 m, .string ⟨#[]⟩, .string ⟨#[]⟩] 44)); clear hb1))
 go_cut [6, 7] (fun v6 v7 wc => ∃ g6 g7 : Nat, v6 = .pointer (some ⟨g6, 0, none⟩) ∧ v7 = .pointer (some ⟨g7, 0, none⟩) ∧ w0.heap.size ≤ g6 ∧ w0.heap.size ≤ g7 ∧ Aside0 (Seps w0 wc (IB g7 (.cells #[.int .i64 m, .string ⟨#[]⟩, .string ⟨#[]⟩] 44) :: IB g6 (.cells #[.int .i64 m, .string ⟨#[]⟩, .string ⟨#[]⟩] 44) :: IB w1.heap.size (.cells #[.int .i64 m, .string ⟨#[]⟩, .string ⟨#[]⟩] 44) :: IB w.heap.size (.cells #[.int .i64 0, .string ⟨#[]⟩, .string ⟨#[]⟩] 44) :: ID 51 g (.slice A (⟨m, ⟨#[]⟩, ⟨#[]⟩⟩ :: l : List S44).length c) (⟨m, ⟨#[]⟩, ⟨#[]⟩⟩ :: l) P :: L)))
 case first =>
  go_region
  all_goals (go_wp2; go_meet)
  all_goals have HS := ((H1.out.addBoxAt (.cells #[.int .i64 m, .string ⟨#[]⟩, .string ⟨#[]⟩] 44) (w1.heap.size + 1) (by simp)).addBoxAt (.cells #[.int .i64 m, .string ⟨#[]⟩, .string ⟨#[]⟩] 44) (w1.heap.size + 1 + 1) (by simp)).drew
  all_goals have HS1 := HS.own.1 (w1.heap.size + 1 + 1) rfl
  all_goals have HS2 : w0.heap.size ≤ w1.heap.size + 1 := by have := H1.out.1.size; simpa using this
  ·exact ⟨_, _, rfl, rfl, by omega, by omega, ⟨HS⟩⟩
  ·exact ⟨_, _, rfl, rfl, by omega, by omega, ⟨HS.f2⟩⟩
 case rest =>
  obtain ⟨g6, g7, rfl, rfl, hg6, hg7, HS⟩ := hcut
  clear H1
  have hlt7 := HS.out.lt
  have hlt6 := HS.out.f2.lt
  have hltp := HS.out.f3.lt
  have hltr := HS.out.f4.lt
  have nI := HS.out.f2.ne
  have nH := HS.out.ne
  have n6p := HS.out.tail.ne
  have n7p := HS.out.f2.tail.ne
  obtain ⟨ij, iy, ix, fz70, fz71, fz72⟩ := HS.out.c3
  obtain ⟨eN, eM, eC, fz60, fz61, fz62⟩ := HS.out.f2.c3
  obtain ⟨cp0, cp1, cp2, zp0, zp1, zp2⟩ := HS.out.f3.c3
  go_wp2
  go_region
  obtain ⟨w2, hw2⟩ : ∃ w2, ((wc.setCell ⟨g6, 0, none⟩ (.int .i64 m)).setCell ⟨g7, 0, none⟩ (.int .i64 0)).drew = w2 := ⟨_, rfl⟩
  have S2 : Aside0 (Seps w0 w2 (IB g7 (.cells #[.int .i64 0, .string ⟨#[]⟩, .string ⟨#[]⟩] 44) :: IB g6 (.cells #[.int .i64 m, .string ⟨#[]⟩, .string ⟨#[]⟩] 44) :: IB w1.heap.size (.cells #[.int .i64 m, .string ⟨#[]⟩, .string ⟨#[]⟩] 44) :: IB w.heap.size (.cells #[.int .i64 0, .string ⟨#[]⟩, .string ⟨#[]⟩] 44) :: ID 51 g (.slice A (⟨m, ⟨#[]⟩, ⟨#[]⟩⟩ :: l : List S44).length c) (⟨m, ⟨#[]⟩, ⟨#[]⟩⟩ :: l) P :: L)) := ⟨by rw [← hw2]; exact (((HS.out.f2.put hg6 0 (.int .i64 m) rfl).f2.put hg7 0 (.int .i64 0) rfl).drew)⟩
  rw [hw2]
  clear hw2 HS eN eM eC fz60 fz61 fz62 ij iy ix fz70 fz71 fz72 cp0 cp1 cp2 zp0 zp1 zp2 hlt7 hlt6 hltp hltr
  have hlt7 := S2.out.lt
  have hlt6 := S2.out.f2.lt
  have hltp := S2.out.f3.lt
  have hltr := S2.out.f4.lt
  obtain ⟨ij, iy, ix, fz70, fz71, fz72⟩ := S2.out.c3
  obtain ⟨eN, eM, eC, fz60, fz61, fz62⟩ := S2.out.f2.c3
  obtain ⟨cp0, cp1, cp2, zp0, zp1, zp2⟩ := S2.out.f3.c3
  have hcg : w2.cell? ⟨g, 0, none⟩ = some (.slice A (l.length + 1) c) := bC S2.out.f5.now.1 0
  have hfg := bF S2.out.f5.now.1 0
  have hltg := blk_lt S2.out.f5.now.1
  have h1c : 1 ≤ l.length + 1 := by omega
  have h1ci : (1 : Int) ≤ (l.length : Int) + 1 := by omega
  have h1d : (1 : Int) ≤ (c : Int) := by have := HH.out; simp only [List.length_cons] at this; omega
  have h1d' : 1 ≤ c := by omega
  have hnr : g ≠ w.heap.size := ar hglt
  have hnr2 : w.heap.size ≠ g := Nat.ne_of_gt hglt
  have n6g := S2.out.f5.f3.neD
  have n6g2 := n6g.symm
  obtain ⟨cr0, cr1, cr2, zr0, zr1, zr2⟩ := S2.out.f4.c3
  go_wp2
  all_goals
   have h9 := ((S2.out.f5.cut1 hg (by simp) HH.out).f5.put3 (x := .int .i64 m) (y := .string ⟨#[]⟩) (z := .string ⟨#[]⟩) HW.out)
   first | (have hc1 : c = 1 := (by assumption); rw [if_pos hc1, hc1] at h9) | (have hc1 : ¬ c = 1 := (by assumption); rw [if_neg hc1] at h9)
   simp only [List.length_cons, Nat.add_sub_cancel, Nat.sub_self, Addr.add, List.drop_succ_cons, List.drop_zero] at h9
   refine bodyPost_ret (results_cell_row rfl _ _ w.heap.size 44 #[.int .i64 m, .string ⟨#[]⟩, .string ⟨#[]⟩] (0, 0) _ rfl (by exact h9.box) Try.underlying44 rfl z0) rfl ?_
   exact ⟨rfl, _, _, h9.tail.f2.tail.f2.tail.f2.tail⟩
set_option maxHeartbeats 1000000 in
theorem rd_cutDp {w0 w : World} {g : Nat} {v : Value} {d : ByteArray} {n : Nat} {l : List S44} {P : Nat → Prop} {L : List ((World → Prop) × (Nat → Prop))} (h : Seps w0 w (ID 51 g v (⟨0, ⟨#[]⟩, d⟩ :: l) P :: L)) (hg : w0.heap.size ≤ g) (hn : n ≤ d.size) (hm : d.size ≤ 1000000000) (he : ¬ (d.extract n d.size).toList = []) (hl : l.length ≤ 1000000000) :
  Calls Try.prog 30 #[.pointer (some ⟨g, 0, none⟩), .int .i64 (n : Int)] w fun e w' => e = .returned (.agg #[.int .i64 0, .string ⟨#[]⟩, .string (d.extract 0 n)]) ∧ ∃ v' P', Seps w0 w' (ID 51 g v' (⟨0, ⟨#[]⟩, (d.extract n d.size)⟩ :: l) P' :: L) := by
 obtain ⟨hb, hv, hPn⟩ := h.now
 obtain ⟨A, c, rfl, hc, hf⟩ := hv
 have hglt := blk_lt hb
 have hu44 := Try.underlying44
 have HF := aM hf
 have HW := aM h.1.size
 have hz0 : (0 : Int) ≤ (n : Int) := by omega
 have hz1 : (n : Int) ≤ (d.size : Int) := by omega
 have hz2 : n ≤ d.size := by omega
 have H0 := aM (h.addBox (.cells #[.int .i64 0, .string ⟨#[]⟩, .string ⟨#[]⟩] 44))
 have HH := aM hc
 clear h hf hb hc
 go_enter Try.func30, Try.ntmps30
 go_upto_region 2 with (first | (go_at_call 27; refine (rd_headc H0.out.f2).mono ?_; rintro e w1 ⟨rfl, hb1⟩; have H1 := aM ((H0.out.below hb1).addBox (.cells #[.int .i64 0, .string ⟨#[]⟩, .string d] 44)); clear hb1))
 go_cut [6, 7] (fun v6 v7 wc => ∃ g6 g7 : Nat, v6 = .pointer (some ⟨g6, 0, none⟩) ∧ v7 = .pointer (some ⟨g7, 0, none⟩) ∧ w0.heap.size ≤ g6 ∧ w0.heap.size ≤ g7 ∧ Aside0 (Seps w0 wc (IB g7 (.cells #[.int .i64 0, .string ⟨#[]⟩, .string d] 44) :: IB g6 (.cells #[.int .i64 0, .string ⟨#[]⟩, .string d] 44) :: IB w1.heap.size (.cells #[.int .i64 0, .string ⟨#[]⟩, .string d] 44) :: IB w.heap.size (.cells #[.int .i64 0, .string ⟨#[]⟩, .string ⟨#[]⟩] 44) :: ID 51 g (.slice A (⟨0, ⟨#[]⟩, d⟩ :: l : List S44).length c) (⟨0, ⟨#[]⟩, d⟩ :: l) P :: L)))
 case first =>
  go_region
  all_goals (go_wp2; go_meet)
  all_goals have HS := ((H1.out.addBoxAt (.cells #[.int .i64 0, .string ⟨#[]⟩, .string d] 44) (w1.heap.size + 1) (by simp)).addBoxAt (.cells #[.int .i64 0, .string ⟨#[]⟩, .string d] 44) (w1.heap.size + 1 + 1) (by simp)).drew
  all_goals have HS1 := HS.own.1 (w1.heap.size + 1 + 1) rfl
  all_goals have HS2 : w0.heap.size ≤ w1.heap.size + 1 := by have := H1.out.1.size; simpa using this
  ·exact ⟨_, _, rfl, rfl, by omega, by omega, ⟨HS⟩⟩
  ·exact ⟨_, _, rfl, rfl, by omega, by omega, ⟨HS.f2⟩⟩
 case rest =>
  obtain ⟨g6, g7, rfl, rfl, hg6, hg7, HS⟩ := hcut
  clear H1
  have hlt7 := HS.out.lt
  have hlt6 := HS.out.f2.lt
  have hltp := HS.out.f3.lt
  have hltr := HS.out.f4.lt
  have nI := HS.out.f2.ne
  have nH := HS.out.ne
  have n6p := HS.out.tail.ne
  have n7p := HS.out.f2.tail.ne
  obtain ⟨ij, iy, ix, fz70, fz71, fz72⟩ := HS.out.c3
  obtain ⟨eN, eM, eC, fz60, fz61, fz62⟩ := HS.out.f2.c3
  obtain ⟨cp0, cp1, cp2, zp0, zp1, zp2⟩ := HS.out.f3.c3
  go_wp2
  go_region
  obtain ⟨w2, hw2⟩ : ∃ w2, ((wc.setCell ⟨g6, 2, none⟩ (.string (d.extract 0 n))).setCell ⟨g7, 2, none⟩ (.string (d.extract n d.size))).drew = w2 := ⟨_, rfl⟩
  have S2 : Aside0 (Seps w0 w2 (IB g7 (.cells #[.int .i64 0, .string ⟨#[]⟩, .string (d.extract n d.size)] 44) :: IB g6 (.cells #[.int .i64 0, .string ⟨#[]⟩, .string (d.extract 0 n)] 44) :: IB w1.heap.size (.cells #[.int .i64 0, .string ⟨#[]⟩, .string d] 44) :: IB w.heap.size (.cells #[.int .i64 0, .string ⟨#[]⟩, .string ⟨#[]⟩] 44) :: ID 51 g (.slice A (⟨0, ⟨#[]⟩, d⟩ :: l : List S44).length c) (⟨0, ⟨#[]⟩, d⟩ :: l) P :: L)) := ⟨by rw [← hw2]; exact (((HS.out.f2.put hg6 2 (.string (d.extract 0 n)) rfl).f2.put hg7 2 (.string (d.extract n d.size)) rfl).drew)⟩
  rw [hw2]
  clear hw2 HS eN eM eC fz60 fz61 fz62 ij iy ix fz70 fz71 fz72 cp0 cp1 cp2 zp0 zp1 zp2 hlt7 hlt6 hltp hltr
  have hlt7 := S2.out.lt
  have hlt6 := S2.out.f2.lt
  have hltp := S2.out.f3.lt
  have hltr := S2.out.f4.lt
  obtain ⟨ij, iy, ix, fz70, fz71, fz72⟩ := S2.out.c3
  obtain ⟨eN, eM, eC, fz60, fz61, fz62⟩ := S2.out.f2.c3
  obtain ⟨cp0, cp1, cp2, zp0, zp1, zp2⟩ := S2.out.f3.c3
  have hre0 : (d.extract n d.size).toList.isEmpty = false := by revert he; cases (d.extract n d.size).toList <;> simp
  have hre1 : ((d.extract n d.size).toList == ([] : List UInt8)) = false := by revert he; cases (d.extract n d.size).toList <;> simp
  go_wp2
  have hcg : w2.cell? ⟨g, 0, none⟩ = some (.slice A (l.length + 1) c) := bC S2.out.f5.now.1 0
  have hfg := bF S2.out.f5.now.1 0
  have hltg := blk_lt S2.out.f5.now.1
  have h1c : 1 ≤ l.length + 1 := by omega
  have h1ci : (1 : Int) ≤ (l.length : Int) + 1 := by omega
  have S3 := aM (S2.out.litRow 0 ⟨#[]⟩ (d.extract n d.size)).drew
  have bG := S3.out.f6.rest1 HH.out
  by_cases hc1 : c = 1
  ·rw [if_pos hc1] at bG
   have cz := aM bG
   clear bG
   go_region_law ((refine Kd.R_append_rows_step k44 (Rr := k44.K (w2.alloc (.cells #[.int .i64 0, .string ⟨#[]⟩, .string (d.extract n d.size)] 44)).drew) (w0 := w0) (W := (w2.alloc (.cells #[.int .i64 0, .string ⟨#[]⟩, .string (d.extract n d.size)] 44)).drew) w0.heap.size ?hw (.tmp 60) (.tmp 65) 27 44 (.agg #[(.int .i64 0), (.string ⟨#[]⟩), (.string ⟨#[]⟩)]) 40 ?ho Try.underlying27 info44 rfl (by decide) (by decide) (.slice (some ⟨w2.heap.size, 0, none⟩) 1 1) [(⟨0, ⟨#[]⟩, (d.extract n d.size)⟩ : S44)] l A l.length 0 (fun _ => True) (fun _ => False) ?hs ?hx ?aO ?aR (k44_KM _ _ _ _) (fun _ h => h.elim) (fun _ _ => trivial) ?aB ?aS ?aL ?_; (case hw => rfl); (case ho => rfl); (case hs => rfl); (case hx => rfl); (case aO => exact af S3.out.now (fun _ _ => trivial)); (case aR => exact cz.out); (case aB => exact S3.out.1); (case aS => exact S3.out.1.size); (case aL => simp only [aJ]; omega); intro v4 w4 ho4 hb4 hg4 hat4; have S4 := aM (S3.out.stepRow ho4 hb4 hg4 hat4); obtain ⟨A4, c4, eo4⟩ := Kd.R_slice ho4; subst eo4; have hcg4 : w4.cell? ⟨g, 0, none⟩ = some (.slice A (l.length + 1) c) := bC S4.out.f6.now.1 0; have hfg4 := bF S4.out.f6.now.1 0; have hltg4 := blk_lt S4.out.f6.now.1; clear ho4 hb4 hg4 hat4))
   all_goals
    obtain ⟨w5, hw5⟩ : ∃ w5, w4.setCell ⟨g, 0, none⟩ (.slice A4 (l.length + 1) c4) = w5 := ⟨_, rfl⟩
    have e1 : ([(⟨0, ⟨#[]⟩, (d.extract n d.size)⟩ : S44)] ++ l).length = l.length + 1 := by simp
    have S5' := S4.out.f6.f2.give hg
    rw [e1, hw5] at S5'
    rw [hw5]
    have S5 := aM S5'
    clear S5' S4 S3 S2 H0 hcg hfg hltg hcg4 hfg4 hltg4 hw5 eN eM eC fz60 fz61 fz62 ij iy ix fz70 fz71 fz72 cp0 cp1 cp2 zp0 zp1 zp2 hlt7 hlt6 hltp hltr
    obtain ⟨eN, eM, eC, fz60, fz61, fz62⟩ := S5.out.f3.c3
    obtain ⟨cr0, cr1, cr2, zr0, zr1, zr2⟩ := S5.out.f5.c3
    go_wp2
    have h9 := S5.out.f5.put3 (x := .int .i64 0) (y := .string ⟨#[]⟩) (z := .string (d.extract 0 n)) HW.out
    refine bodyPost_ret (results_cell_row rfl _ _ w.heap.size 44 #[.int .i64 0, .string ⟨#[]⟩, .string (d.extract 0 n)] (0, 0) _ rfl (by exact h9.box) Try.underlying44 rfl z0) rfl ?_
    exact ⟨rfl, _, _, h9.tail.f2.tail.f2.tail.f2.tail⟩
  ·rw [if_neg hc1] at bG
   have cz := aM bG
   clear bG
   go_region_law ((refine Kd.R_append_rows_step k44 (Rr := k44.K (w2.alloc (.cells #[.int .i64 0, .string ⟨#[]⟩, .string (d.extract n d.size)] 44)).drew) (w0 := w0) (W := (w2.alloc (.cells #[.int .i64 0, .string ⟨#[]⟩, .string (d.extract n d.size)] 44)).drew) w0.heap.size ?hw (.tmp 60) (.tmp 65) 27 44 (.agg #[(.int .i64 0), (.string ⟨#[]⟩), (.string ⟨#[]⟩)]) 40 ?ho Try.underlying27 info44 rfl (by decide) (by decide) (.slice (some ⟨w2.heap.size, 0, none⟩) 1 1) [(⟨0, ⟨#[]⟩, (d.extract n d.size)⟩ : S44)] l (A.map (·.add 3)) l.length (c - 1) (fun _ => True) (fun _ => False) ?hs ?hx ?aO ?aR (k44_KM _ _ _ _) (fun _ h => h.elim) (fun _ _ => trivial) ?aB ?aS ?aL ?_; (case hw => rfl); (case ho => rfl); (case hs => rfl); (case hx => rfl); (case aO => exact af S3.out.now (fun _ _ => trivial)); (case aR => exact cz.out); (case aB => exact S3.out.1); (case aS => exact S3.out.1.size); (case aL => simp only [aJ]; omega); intro v4 w4 ho4 hb4 hg4 hat4; have S4 := aM (S3.out.stepRow ho4 hb4 hg4 hat4); obtain ⟨A4, c4, eo4⟩ := Kd.R_slice ho4; subst eo4; have hcg4 : w4.cell? ⟨g, 0, none⟩ = some (.slice A (l.length + 1) c) := bC S4.out.f6.now.1 0; have hfg4 := bF S4.out.f6.now.1 0; have hltg4 := blk_lt S4.out.f6.now.1; clear ho4 hb4 hg4 hat4))
   all_goals
    obtain ⟨w5, hw5⟩ : ∃ w5, w4.setCell ⟨g, 0, none⟩ (.slice A4 (l.length + 1) c4) = w5 := ⟨_, rfl⟩
    have e1 : ([(⟨0, ⟨#[]⟩, (d.extract n d.size)⟩ : S44)] ++ l).length = l.length + 1 := by simp
    have S5' := S4.out.f6.f2.give hg
    rw [e1, hw5] at S5'
    rw [hw5]
    have S5 := aM S5'
    clear S5' S4 S3 S2 H0 hcg hfg hltg hcg4 hfg4 hltg4 hw5 eN eM eC fz60 fz61 fz62 ij iy ix fz70 fz71 fz72 cp0 cp1 cp2 zp0 zp1 zp2 hlt7 hlt6 hltp hltr
    obtain ⟨eN, eM, eC, fz60, fz61, fz62⟩ := S5.out.f3.c3
    obtain ⟨cr0, cr1, cr2, zr0, zr1, zr2⟩ := S5.out.f5.c3
    go_wp2
    have h9 := S5.out.f5.put3 (x := .int .i64 0) (y := .string ⟨#[]⟩) (z := .string (d.extract 0 n)) HW.out
    refine bodyPost_ret (results_cell_row rfl _ _ w.heap.size 44 #[.int .i64 0, .string ⟨#[]⟩, .string (d.extract 0 n)] (0, 0) _ rfl (by exact h9.box) Try.underlying44 rfl z0) rfl ?_
    exact ⟨rfl, _, _, h9.tail.f2.tail.f2.tail.f2.tail⟩
set_option maxHeartbeats 1000000 in
theorem rd_cutDw {w0 w : World} {g : Nat} {v : Value} {d : ByteArray} {n : Nat} {l : List S44} {P : Nat → Prop} {L : List ((World → Prop) × (Nat → Prop))} (h : Seps w0 w (ID 51 g v (⟨0, ⟨#[]⟩, d⟩ :: l) P :: L)) (hg : w0.heap.size ≤ g) (hn : n ≤ d.size) (hm : d.size ≤ 1000000000) (he : (d.extract n d.size).toList = []) (hl : l.length ≤ 1000000000) :
  Calls Try.prog 30 #[.pointer (some ⟨g, 0, none⟩), .int .i64 (n : Int)] w fun e w' => e = .returned (.agg #[.int .i64 0, .string ⟨#[]⟩, .string (d.extract 0 n)]) ∧ ∃ v' P', Seps w0 w' (ID 51 g v' l P' :: L) := by
 obtain ⟨hb, hv, hPn⟩ := h.now
 obtain ⟨A, c, rfl, hc, hf⟩ := hv
 have hglt := blk_lt hb
 have hu44 := Try.underlying44
 have HF := aM hf
 have HW := aM h.1.size
 have hz0 : (0 : Int) ≤ (n : Int) := by omega
 have hz1 : (n : Int) ≤ (d.size : Int) := by omega
 have hz2 : n ≤ d.size := by omega
 have H0 := aM (h.addBox (.cells #[.int .i64 0, .string ⟨#[]⟩, .string ⟨#[]⟩] 44))
 have HH := aM hc
 clear h hf hb hc
 go_enter Try.func30, Try.ntmps30
 go_upto_region 2 with (first | (go_at_call 27; refine (rd_headc H0.out.f2).mono ?_; rintro e w1 ⟨rfl, hb1⟩; have H1 := aM ((H0.out.below hb1).addBox (.cells #[.int .i64 0, .string ⟨#[]⟩, .string d] 44)); clear hb1))
 go_cut [6, 7] (fun v6 v7 wc => ∃ g6 g7 : Nat, v6 = .pointer (some ⟨g6, 0, none⟩) ∧ v7 = .pointer (some ⟨g7, 0, none⟩) ∧ w0.heap.size ≤ g6 ∧ w0.heap.size ≤ g7 ∧ Aside0 (Seps w0 wc (IB g7 (.cells #[.int .i64 0, .string ⟨#[]⟩, .string d] 44) :: IB g6 (.cells #[.int .i64 0, .string ⟨#[]⟩, .string d] 44) :: IB w1.heap.size (.cells #[.int .i64 0, .string ⟨#[]⟩, .string d] 44) :: IB w.heap.size (.cells #[.int .i64 0, .string ⟨#[]⟩, .string ⟨#[]⟩] 44) :: ID 51 g (.slice A (⟨0, ⟨#[]⟩, d⟩ :: l : List S44).length c) (⟨0, ⟨#[]⟩, d⟩ :: l) P :: L)))
 case first =>
  go_region
  all_goals (go_wp2; go_meet)
  all_goals have HS := ((H1.out.addBoxAt (.cells #[.int .i64 0, .string ⟨#[]⟩, .string d] 44) (w1.heap.size + 1) (by simp)).addBoxAt (.cells #[.int .i64 0, .string ⟨#[]⟩, .string d] 44) (w1.heap.size + 1 + 1) (by simp)).drew
  all_goals have HS1 := HS.own.1 (w1.heap.size + 1 + 1) rfl
  all_goals have HS2 : w0.heap.size ≤ w1.heap.size + 1 := by have := H1.out.1.size; simpa using this
  ·exact ⟨_, _, rfl, rfl, by omega, by omega, ⟨HS⟩⟩
  ·exact ⟨_, _, rfl, rfl, by omega, by omega, ⟨HS.f2⟩⟩
 case rest =>
  obtain ⟨g6, g7, rfl, rfl, hg6, hg7, HS⟩ := hcut
  clear H1
  have hlt7 := HS.out.lt
  have hlt6 := HS.out.f2.lt
  have hltp := HS.out.f3.lt
  have hltr := HS.out.f4.lt
  have nI := HS.out.f2.ne
  have nH := HS.out.ne
  have n6p := HS.out.tail.ne
  have n7p := HS.out.f2.tail.ne
  obtain ⟨ij, iy, ix, fz70, fz71, fz72⟩ := HS.out.c3
  obtain ⟨eN, eM, eC, fz60, fz61, fz62⟩ := HS.out.f2.c3
  obtain ⟨cp0, cp1, cp2, zp0, zp1, zp2⟩ := HS.out.f3.c3
  go_wp2
  go_region
  obtain ⟨w2, hw2⟩ : ∃ w2, ((wc.setCell ⟨g6, 2, none⟩ (.string (d.extract 0 n))).setCell ⟨g7, 2, none⟩ (.string (d.extract n d.size))).drew = w2 := ⟨_, rfl⟩
  have S2 : Aside0 (Seps w0 w2 (IB g7 (.cells #[.int .i64 0, .string ⟨#[]⟩, .string (d.extract n d.size)] 44) :: IB g6 (.cells #[.int .i64 0, .string ⟨#[]⟩, .string (d.extract 0 n)] 44) :: IB w1.heap.size (.cells #[.int .i64 0, .string ⟨#[]⟩, .string d] 44) :: IB w.heap.size (.cells #[.int .i64 0, .string ⟨#[]⟩, .string ⟨#[]⟩] 44) :: ID 51 g (.slice A (⟨0, ⟨#[]⟩, d⟩ :: l : List S44).length c) (⟨0, ⟨#[]⟩, d⟩ :: l) P :: L)) := ⟨by rw [← hw2]; exact (((HS.out.f2.put hg6 2 (.string (d.extract 0 n)) rfl).f2.put hg7 2 (.string (d.extract n d.size)) rfl).drew)⟩
  rw [hw2]
  clear hw2 HS eN eM eC fz60 fz61 fz62 ij iy ix fz70 fz71 fz72 cp0 cp1 cp2 zp0 zp1 zp2 hlt7 hlt6 hltp hltr
  have hlt7 := S2.out.lt
  have hlt6 := S2.out.f2.lt
  have hltp := S2.out.f3.lt
  have hltr := S2.out.f4.lt
  obtain ⟨ij, iy, ix, fz70, fz71, fz72⟩ := S2.out.c3
  obtain ⟨eN, eM, eC, fz60, fz61, fz62⟩ := S2.out.f2.c3
  obtain ⟨cp0, cp1, cp2, zp0, zp1, zp2⟩ := S2.out.f3.c3
  have hre0 : (d.extract n d.size).toList.isEmpty = true := by revert he; cases (d.extract n d.size).toList <;> simp
  have hre1 : ((d.extract n d.size).toList == ([] : List UInt8)) = true := by revert he; cases (d.extract n d.size).toList <;> simp
  have hcg : w2.cell? ⟨g, 0, none⟩ = some (.slice A (l.length + 1) c) := bC S2.out.f5.now.1 0
  have hfg := bF S2.out.f5.now.1 0
  have hltg := blk_lt S2.out.f5.now.1
  have h1c : 1 ≤ l.length + 1 := by omega
  have h1ci : (1 : Int) ≤ (l.length : Int) + 1 := by omega
  have h1d : (1 : Int) ≤ (c : Int) := by have := HH.out; simp only [List.length_cons] at this; omega
  have h1d' : 1 ≤ c := by omega
  have hnr : g ≠ w.heap.size := ar hglt
  have hnr2 : w.heap.size ≠ g := Nat.ne_of_gt hglt
  have n6g := S2.out.f5.f3.neD
  have n6g2 := n6g.symm
  obtain ⟨cr0, cr1, cr2, zr0, zr1, zr2⟩ := S2.out.f4.c3
  go_wp2
  all_goals
   have h9 := ((S2.out.f5.cut1 hg (by simp) HH.out).f5.put3 (x := .int .i64 0) (y := .string ⟨#[]⟩) (z := .string (d.extract 0 n)) HW.out)
   first | (have hc1 : c = 1 := (by assumption); rw [if_pos hc1, hc1] at h9) | (have hc1 : ¬ c = 1 := (by assumption); rw [if_neg hc1] at h9)
   simp only [List.length_cons, Nat.add_sub_cancel, Nat.sub_self, Addr.add, List.drop_succ_cons, List.drop_zero] at h9
   refine bodyPost_ret (results_cell_row rfl _ _ w.heap.size 44 #[.int .i64 0, .string ⟨#[]⟩, .string (d.extract 0 n)] (0, 0) _ rfl (by exact h9.box) Try.underlying44 rfl z0) rfl ?_
   exact ⟨rfl, _, _, h9.tail.f2.tail.f2.tail.f2.tail⟩
/-- The first n bytes of a row of parts, and what is left. -/
def cutf (n : Nat) : List S44 → Option (S44 × List S44)
 | [] => none
 | p :: l => if p.f1.size = 0 ∧ l.length ≤ 1000000000 then
   (if 0 < p.f0 then (if p.f2.size = 0 ∧ p.f0 ≤ 1000000000 ∧ 0 < n ∧ (n : Int) ≤ p.f0 then some (⟨(n : Int), ⟨#[]⟩, ⟨#[]⟩⟩, if (n : Int) = p.f0 then l else ⟨p.f0 - (n : Int), ⟨#[]⟩, ⟨#[]⟩⟩ :: l) else none)
    else (if p.f0 = 0 ∧ n ≤ p.f2.size ∧ p.f2.size ≤ 1000000000 then some (⟨0, ⟨#[]⟩, p.f2.extract 0 n⟩, if (p.f2.extract n p.f2.size).toList = [] then l else ⟨0, ⟨#[]⟩, p.f2.extract n p.f2.size⟩ :: l) else none))
   else none
theorem rd_cut {w0 w : World} {g n : Nat} {v : Value} {xs xs' : List S44} {p : S44} {P : Nat → Prop} {L : List ((World → Prop) × (Nat → Prop))} (h : Seps w0 w (ID 51 g v xs P :: L)) (hg : w0.heap.size ≤ g) (hc : cutf n xs = some (p, xs')) :
  Calls Try.prog 30 #[.pointer (some ⟨g, 0, none⟩), .int .i64 (n : Int)] w fun e w' => e = .returned (.agg #[.int .i64 p.f0, .string p.f1, .string p.f2]) ∧ ∃ v' P', Seps w0 w' (ID 51 g v' xs' P' :: L) := by
 cases xs with
 | nil => cases hc
 | cons q l =>
  obtain ⟨a, b, d⟩ := q
  unfold cutf at hc
  simp only at hc
  split at hc
  case isFalse => cases hc
  case isTrue h1 =>
  obtain ⟨h1, hl⟩ := h1
  obtain rfl := ba_size0 h1
  split at hc
  case isTrue h2 =>
   split at hc
   case isFalse => cases hc
   case isTrue h3 =>
   obtain ⟨h3, h4, h5, h6⟩ := h3
   obtain rfl := ba_size0 h3
   obtain ⟨rfl, rfl⟩ := Prod.mk.inj (sI hc)
   by_cases he : (n : Int) = a
   ·subst he
    rw [if_pos rfl]
    exact rd_cutKw h hg h2 h4 hl
   ·rw [if_neg he]
    exact rd_cutKp h hg (by omega) (by omega) h4 hl
  case isFalse h2 =>
   split at hc
   case isFalse => cases hc
   case isTrue h3 =>
   obtain ⟨rfl, h4, h5⟩ := h3
   obtain ⟨rfl, rfl⟩ := Prod.mk.inj (sI hc)
   by_cases he : (d.extract n d.size).toList = []
   ·rw [if_pos he]
    exact rd_cutDw h hg h4 h5 he hl
   ·rw [if_neg he]
    exact rd_cutDp h hg h4 h5 he hl
/-- What a maker holds. -/
structure MS where
 out : List S44
 put : ByteArray
 drop : ByteArray
def mT (s : MS) (p : S44) : Option MS := if s.out.length + 3 ≤ 3518437208883 ∧ (kS s.put p.f0).size + p.f1.size ≤ 9223372036854775807 ∧ (kS s.drop p.f0).size + p.f2.size ≤ 9223372036854775807 then some ⟨kO s.out s.put s.drop p.f0, kS s.put p.f0 ++ p.f1, kS s.drop p.f0 ++ p.f2⟩ else none
def mK (s : MS) (n : Int) : Option MS := if s.out.length + 3 ≤ 3518437208883 then some ⟨kO s.out s.put s.drop n, kS s.put n, kS s.drop n⟩ else none
def mE (s : MS) : Option (List S44) := if s.out.length + 3 ≤ 3518437208883 then some (s.out ++ ends s.put s.drop) else none
theorem Seps.maker {w0 w w' : World} {g : Nat} {v v' : Value} {out out' : List S44} {put put' drop drop' : ByteArray} {L : List ((World → Prop) × (Nat → Prop))} (h : Seps w0 w (IM w0 g v out put drop :: L)) (hm : Mk w0 w' g v' out' put' drop') (ht : MkTo w w' g v v') : Seps w0 w' (IM w0 g v' out' put' drop' :: L) :=
 h.step (IM.own hm) ht.1 (fun k hk => hk.elim (fun e => .inl (.inl e)) (fun e => by
  rcases ht.2 with e2 | ⟨b, e2, hle⟩
  ·exact .inl (.inr (e.trans e2))
  ·rw [e2] at e
   injection e with e
   exact .inr (by omega))) hm.2.2.1
theorem sp_take {w0 w : World} {g : Nat} {v : Value} {s s' : MS} {p : S44} {L : List ((World → Prop) × (Nat → Prop))} (h : Seps w0 w (IM w0 g v s.out s.put s.drop :: L)) (hs : mT s p = some s') :
  Calls Try.prog 22 #[.pointer (some ⟨g, 0, none⟩), .agg #[.int .i64 p.f0, .string p.f1, .string p.f2]] w fun e w' => e = .returned (.tuple #[]) ∧ ∃ v', Seps w0 w' (IM w0 g v' s'.out s'.put s'.drop :: L) := by
 unfold mT at hs
 split at hs
 case isFalse => cases hs
 case isTrue h1 =>
 obtain rfl := sI hs
 refine (mk_take w0 w g v s.out s.put s.drop p h.now h1.1 h1.2.1 h1.2.2).mono ?_
 rintro e w' ⟨rfl, v', hm, ht⟩
 exact ⟨rfl, v', h.maker hm ht⟩
theorem sp_keep {w0 w : World} {g : Nat} {v : Value} {s s' : MS} {n : Int} {L : List ((World → Prop) × (Nat → Prop))} (h : Seps w0 w (IM w0 g v s.out s.put s.drop :: L)) (hs : mK s n = some s') :
  Calls Try.prog 21 #[.pointer (some ⟨g, 0, none⟩), .int .i64 n] w fun e w' => e = .returned (.tuple #[]) ∧ ∃ v', Seps w0 w' (IM w0 g v' s'.out s'.put s'.drop :: L) := by
 unfold mK at hs
 split at hs
 case isFalse => cases hs
 case isTrue h1 =>
 obtain rfl := sI hs
 refine (mk_keep w0 w g v s.out s.put s.drop n h.now h1).mono ?_
 rintro e w' ⟨rfl, v', hm, ht⟩
 exact ⟨rfl, v', h.maker hm ht⟩
theorem sp_made {w0 w : World} {g : Nat} {v : Value} {s : MS} {r : List S44} {L : List ((World → Prop) × (Nat → Prop))} (h : Seps w0 w (IM w0 g v s.out s.put s.drop :: L)) (hs : mE s = some r) :
  Calls Try.prog 24 #[.pointer (some ⟨g, 0, none⟩)] w fun e w' => ∃ v', e = .returned v' ∧ Seps w0 w' (IR w0 v' r :: L) := by
 unfold mE at hs
 split at hs
 case isFalse => cases hs
 case isTrue h1 =>
 obtain rfl := sI hs
 refine (mk_made w0 w g v s.out s.put s.drop h.now h1).mono ?_
 rintro e w' ⟨v', rfl, hr, hb, ht⟩
 refine ⟨v', rfl, h.step (IR.own hr) ht.1 (fun k hk => ?_) hb⟩
 have hk1 : some k = v'.ownBlock := hk
 rcases ht.2 with e2 | ⟨b, e2, hle⟩
 ·exact .inl (.inr (hk1.trans e2))
 ·rw [e2] at hk1
  injection hk1 with hk1
  exact .inr (by omega)
theorem sp_good {w0 w : World} {k : Nat} {v : Value} {l r1 : List S44} {r2 : Bool} {L : List ((World → Prop) × (Nat → Prop))} (h : Seps w0 w (IR w0 v l :: L)) (hs : impl_goodOp.f k l = some (r1, r2)) :
  Calls Try.prog 23 #[v] w fun e w' => ∃ v', e = .returned (.tuple #[v', .bool r2]) ∧ Seps w0 w' (IR w0 v' r1 :: L) := by
 refine (impl_goodOp.calls k (fun k => some k = v.ownBlock) v l r1 r2 w0 w h.1 h.now hs).mono ?_
 rintro e w' ⟨v', rfl, hr, hb, hk⟩
 exact ⟨v', rfl, h.step (IR.own hr) hk (fun k hk => hr.1 k hk.symm) hb⟩
theorem Seps.newMaker {w0 w : World} {L : List ((World → Prop) × (Nat → Prop))} (h : Seps w0 w L) : Seps w0 (w.alloc (.cells #[.slice none 0 0, .string ⟨#[]⟩, .string ⟨#[]⟩] 39)) (IM w0 w.heap.size (.slice none 0 0) [] ⟨#[]⟩ ⟨#[]⟩ :: L) :=
 h.add (IM.own ⟨heap_alloc_new w _, Kd.R_nil _ _ _ _ _, (h.alloc _).1, h.1.size⟩) (bA (Below.refl _ _) _) (fun k hk => hk.elim (fun e => by rw [e]; exact Nat.le_refl _) (fun e => by cases e))
def itr : Nat → List S44 → List S44 → MS → MS → Option (MS × MS)
 | 0, _, _, _, _ => none
 | d + 1, xs, ys, m, o =>
  if 0 < xs.length ∨ 0 < ys.length then
   (if ¬ (rd_T44 xs 0).f1.toList = [] then (mT m (rd_T44 xs 0)).bind fun m => (mK o ((rd_T44 xs 0).f1.size : Int)).bind fun o => itr d (xs.drop 1) ys m o
   else if ¬ (rd_T44 ys 0).f1.toList = [] then (mT o (rd_T44 ys 0)).bind fun o => (mK m ((rd_T44 ys 0).f1.size : Int)).bind fun m => itr d xs (ys.drop 1) m o
   else (impl_Part_size.f (rd_T44 xs 0).f0 (rd_T44 xs 0).f1 (rd_T44 xs 0).f2).bind fun a => (impl_Part_size.f (rd_T44 ys 0).f0 (rd_T44 ys 0).f1 (rd_T44 ys 0).f2).bind fun b =>
    if 0 ≤ mn a b then ((cutf (mn a b).toNat xs).bind fun p => (cutf (mn a b).toNat ys).bind fun q =>
     (if 0 < q.1.f0 then mT m p.1 else some m).bind fun m => (if 0 < p.1.f0 then mT o q.1 else some o).bind fun o => itr d p.2 q.2 m o) else none)
  else some (m, o)
def ms0 : MS := ⟨[], ⟨#[]⟩, ⟨#[]⟩⟩
def impl_TransformOps.f (k : Nat) (l0 l1 : List S44) : Option (List S44 × List S44 × Bool) := (impl_SameTexts.f k l0 l1).bind fun s => if s.2 = true ∧ s.1 = true then (if l0.length ≤ 1000000000 ∧ l1.length ≤ 1000000000 then ((impl_normal.f l0).bind fun a => (impl_normal.f l1).bind fun b => (itr k a b ms0 ms0).bind fun mo =>
  (mE mo.1).bind fun r1 => (impl_goodOp.f k r1).bind fun g1 => (mE mo.2).bind fun r2 => (impl_goodOp.f k r2).bind fun g2 => if g1.2 = true ∧ g2.2 = true then some (g1.1, g2.1, true) else some ([], [], false)) else none) else some ([], [], false)
/-- What stands at the head of the loop. -/
def TrI (w w' : World) (gx gy gm go : Nat) (xs ys : List S44) (m o : MS) : Prop := ∃ vx vy Px Py vm vo, Seps w w' [ID 51 gx vx xs Px, ID 51 gy vy ys Py, IM w gm vm m.out m.put m.drop, IM w go vo o.out o.put o.drop]
set_option maxHeartbeats 8000000 in
set_option maxRecDepth 100000 in
theorem impl_TransformOps.calls (k : Nat) (A0 : Option Addr) (c0 : Nat) (l0 : List S44) (A1 : Option Addr) (c1 : Nat) (l1 : List S44) (r1 r2 : List S44) (r3 : Bool) (w : World) (hr0 : Kd.C k44 w A0 l0.length l0) (hc0 : l0.length ≤ c0) (hr1 : Kd.C k44 w A1 l1.length l1) (hc1 : l1.length ≤ c1) (h : impl_TransformOps.f k l0 l1 = some (r1, r2, r3)) :
  Calls Try.prog 10 #[.slice A0 l0.length c0, .slice A1 l1.length c1] w fun e w' => ∃ v0_ v1_ : Value, e = .returned (.tuple #[v0_, v1_, .bool r3]) ∧ Kd.R k44 44 w' w.heap.size (fun k_ => some k_ ≠ (v1_ : Value).ownBlock) v0_ r1 ∧ Kd.R k44 44 w' w.heap.size (fun k_ => some k_ ≠ (v0_ : Value).ownBlock) v1_ r2 ∧ Below w.heap.size w w' := by
 unfold impl_TransformOps.f at h
 obtain ⟨⟨s1, s2⟩, hs, h1⟩ := oB h
 clear h
 have h := h1
 clear h1
 have HS := aM hs
 have bG := aM hr0
 have cz := aM hr1
 have b8 := aM hc0
 have dg := aM hc1
 have hu44 := Try.underlying44
 clear hs hr0 hr1 hc0 hc1
 by_cases hok : s2 = true ∧ s1 = true
 case neg =>
  rw [if_neg hok] at h
  simp only [Option.some.injEq, Prod.mk.injEq] at h
  obtain ⟨rfl, rfl, rfl⟩ := h
  go_enter Try.func10, Try.ntmps10
  cases s2 <;> cases s1
  case true.true => exact absurd ⟨rfl, rfl⟩ hok
  all_goals
   go_wp2_with (first | (go_at_call 25; refine (impl_SameTexts.calls k A0 c0 l0 A1 c1 l1 _ _ w bG.out b8.out cz.out dg.out HS.out).mono ?_; rintro e w1 ⟨rfl, hb1⟩; have HB1 := aM hb1; clear hb1))
   go_ret3
   exact ⟨_, _, rfl, Kd.R_nil _ _ _ _ _, Kd.R_nil _ _ _ _ _, by have := HB1.out; first | exact this | exact below_drew this | exact pD this _⟩
 case pos =>
 obtain ⟨rfl, rfl⟩ := hok
 rw [if_pos ⟨rfl, rfl⟩] at h
 by_cases hl : l0.length ≤ 1000000000 ∧ l1.length ≤ 1000000000
 case neg => rw [if_neg hl] at h; cases h
 rw [if_pos hl] at h
 clear hl
 obtain ⟨a, hA, h1⟩ := oB h
 clear h
 have h := h1
 clear h1
 obtain ⟨b, hB, h1⟩ := oB h
 clear h
 have h := h1
 clear h1
 obtain ⟨mo, hI, h1⟩ := oB h
 clear h
 have h := h1
 clear h1
 have HA := aM hA
 have HB := aM hB
 have HI := aM hI
 have HF := aM h
 clear hA hB hI h
 go_enter Try.func10, Try.ntmps10
 go_wp2_with (first | (go_at_call 25; refine (impl_SameTexts.calls k A0 c0 l0 A1 c1 l1 _ _ w bG.out b8.out cz.out dg.out HS.out).mono ?_; rintro e w1 ⟨rfl, hb1⟩; have HB1 := aM hb1; clear hb1) | (go_at_call_of 26 (Value.slice A0 l0.length c0); refine (impl_normal.calls A0 c0 l0 a _ (au bG.out HB1.out) b8.out HA.out).mono ?_; rintro e w2 ⟨va, rfl, hra, hb2⟩; obtain ⟨Aa, ca, ea⟩ := Kd.R_slice hra; subst ea; have SA := aM ((Seps.nil HB1.out).addRow (w := w1) (w1 := w2) (aH hra HB1.out.size) (ap HB1.out hb2) (grown_of_below hb2 none) (fun k hk => ai hra k hk.symm)); have HB2 := aM (ap HB1.out hb2); clear hra hb2) | (go_at_call_of 26 (Value.slice A1 l1.length c1); refine (impl_normal.calls A1 c1 l1 b _ (au cz.out HB2.out) dg.out HB.out).mono ?_; rintro e w3 ⟨vb, rfl, hrb, hb3⟩; obtain ⟨Ab, cb, eb⟩ := Kd.R_slice hrb; subst eb; have SB := aM (SA.out.addRow (w := w2) (w1 := w3) (aH hrb HB2.out.size) (ap HB2.out hb3) (grown_of_below hb3 none) (fun k hk => ai hrb k hk.symm)); clear hrb hb3))
 have S0 : Aside0 (TrI w ((((w3.alloc (.cells #[.slice Aa a.length ca] 51)).alloc (.cells #[.slice Ab b.length cb] 51)).alloc (.cells #[.slice none 0 0, .string ⟨#[]⟩, .string ⟨#[]⟩] 39)).alloc (.cells #[.slice none 0 0, .string ⟨#[]⟩, .string ⟨#[]⟩] 39)) w3.heap.size (w3.heap.size + 1) (w3.heap.size + 1 + 1) (w3.heap.size + 1 + 1 + 1) a b ms0 ms0) := ⟨by
  have h1 := SB.out.f2.reader 51
  have h2 := h1.f2.reader 51
  have h3 := h2.newMaker
  have h4 := h3.newMaker
  have e1 : (w3.alloc (.cells #[.slice Aa a.length ca] 51)).heap.size = w3.heap.size + 1 := by simp
  have e2 : ((w3.alloc (.cells #[.slice Aa a.length ca] 51)).alloc (.cells #[.slice Ab b.length cb] 51)).heap.size = w3.heap.size + 1 + 1 := by simp
  have e3 : (((w3.alloc (.cells #[.slice Aa a.length ca] 51)).alloc (.cells #[.slice Ab b.length cb] 51)).alloc (.cells #[.slice none 0 0, .string ⟨#[]⟩, .string ⟨#[]⟩] 39)).heap.size = w3.heap.size + 1 + 1 + 1 := by simp
  rw [e1, e2, e3] at h4
  exact ⟨_, _, _, _, _, _, h4.f2.f3.f4⟩⟩
 have HG : Aside0 (w.heap.size ≤ w3.heap.size) := ⟨SB.out.1.size⟩
 obtain ⟨go, hgo⟩ : ∃ g, w3.heap.size + 1 + 1 + 1 = g := ⟨_, rfl⟩
 obtain ⟨gm, hgm⟩ : ∃ g, w3.heap.size + 1 + 1 = g := ⟨_, rfl⟩
 obtain ⟨gy, hgy⟩ : ∃ g, w3.heap.size + 1 = g := ⟨_, rfl⟩
 obtain ⟨gx, hgx⟩ : ∃ g, w3.heap.size = g := ⟨_, rfl⟩
 have HGX : Aside0 (w.heap.size ≤ gx) := ⟨by have := HG.out; omega⟩
 have HGY : Aside0 (w.heap.size ≤ gy) := ⟨by have := HG.out; omega⟩
 rw [hgo, hgm, hgy, hgx] at S0
 rw [hgo, hgm, hgy, hgx]
 generalize (((w3.alloc (.cells #[.slice Aa a.length ca] 51)).alloc (.cells #[.slice Ab b.length cb] 51)).alloc (.cells #[.slice none 0 0, .string ⟨#[]⟩, .string ⟨#[]⟩] 39)).alloc (.cells #[.slice none 0 0, .string ⟨#[]⟩, .string ⟨#[]⟩] 39) = w4 at S0 ⊢
 clear SB SA HB2 HB1 HA HB HS bG cz b8 dg HG
 go_loopg [] k (fun d w' => ∃ xs ys m o, TrI w w' gx gy gm go xs ys m o ∧ itr d xs ys m o = some mo)
 case atStart => exact ⟨a, b, ms0, ms0, S0.out, HI.out⟩
 case round =>
  clear S0 HI
  obtain ⟨xs, ys, m, o, ⟨vx, vy, Px, Py, vm, vo, hS⟩, hit⟩ := hrel
  have S := aM hS
  obtain ⟨Ax, cx, rfl, -, -⟩ := hS.now.2.1
  obtain ⟨Ay, cy, rfl, -, -⟩ := hS.f2.now.2.1
  have c0x : wr.cell? ⟨gx, 0, none⟩ = some (.slice Ax xs.length cx) := bC hS.now.1 0
  have c0y : wr.cell? ⟨gy, 0, none⟩ = some (.slice Ay ys.length cy) := bC hS.f2.now.1 0
  clear hS
  cases gk with
  | zero => cases hit
  | succ k1 =>
  unfold itr at hit
  by_cases hE : 0 < xs.length ∨ 0 < ys.length
  case neg =>
   rw [if_neg hE] at hit
   obtain rfl := sI hit
   have hx0 : decide (0 < xs.length) = false := dF (fun e => hE (.inl e))
   have hy0 : decide (0 < ys.length) = false := dF (fun e => hE (.inr e))
   have hx1 : xs.length = 0 := by omega
   have hy1 : ys.length = 0 := by omega
   obtain ⟨q1, hq1, h⟩ := oB HF.out
   obtain ⟨⟨g1, b1⟩, hg1, h2⟩ := oB h
   obtain ⟨q2, hq2, h3⟩ := oB h2
   obtain ⟨⟨g2, b2⟩, hg2, h4⟩ := oB h3
   have Q1 := aM hq1
   have Q2 := aM hq2
   have G1 := aM hg1
   have G2 := aM hg2
   clear h h2 h3 hq1 hq2 hg1 hg2 HF hE hit
   have H4 := aM h4
   clear h4
   go_upto_region 21 with (first | (go_at_call 24; refine (sp_made (S.out.f3) Q1.out).mono ?_; rintro e w5 ⟨v5, rfl, hs5⟩; have S5 := aM hs5; clear hs5) | (go_at_call 23; refine (sp_good S5.out G1.out).mono ?_; rintro e w6 ⟨v6, rfl, hs6⟩; have S6 := aM hs6; clear hs6))
   cases b1 <;> cases b2
   case true.true =>
    obtain ⟨rfl, rfl, rfl⟩ : g1 = r1 ∧ g2 = r2 ∧ true = r3 := by have := H4.out; simpa using this
    go_wp2_with (first | (go_at_call 24; refine (sp_made (S6.out.f4) Q2.out).mono ?_; rintro e w7 ⟨v7, rfl, hs7⟩; have S7 := aM hs7; clear hs7) | (go_at_call 23; refine (sp_good S7.out G2.out).mono ?_; rintro e w8 ⟨v8, rfl, hs8⟩; have S8 := aM hs8; clear hs8))
    go_ret3
    exact ⟨_, _, rfl, S8.out.rows2.1, S8.out.rows2.2, S8.out.1⟩
   all_goals
    obtain ⟨rfl, rfl, rfl⟩ : [] = r1 ∧ [] = r2 ∧ false = r3 := by have := H4.out; simpa using this
    go_wp2_with (first | (go_at_call 24; refine (sp_made (S6.out.f4) Q2.out).mono ?_; rintro e w7 ⟨v7, rfl, hs7⟩; have S7 := aM hs7; clear hs7) | (go_at_call 23; refine (sp_good S7.out G2.out).mono ?_; rintro e w8 ⟨v8, rfl, hs8⟩; have S8 := aM hs8; clear hs8))
    go_ret3
    exact ⟨_, _, rfl, Kd.R_nil _ _ _ _ _, Kd.R_nil _ _ _ _ _, S8.out.1⟩
  case pos =>
  rw [if_pos hE] at hit
  go_upto_region 6 with (fail)
  go_cut [47] (fun v47 wc => v47 = .bool true ∧ Aside0 (Seps w wc [ID 51 gx (.slice Ax xs.length cx) xs Px, ID 51 gy (.slice Ay ys.length cy) ys Py, IM w gm vm m.out m.put m.drop, IM w go vo o.out o.put o.drop]))
  case first =>
   by_cases hx : 0 < xs.length
   ·have hx0 : decide (0 < xs.length) = true := dT hx
    go_wp2
    go_meet
    exact ⟨rfl, S⟩
   ·have hx0 : decide (0 < xs.length) = false := dF hx
    have hy0 : decide (0 < ys.length) = true := dT (hE.resolve_left hx)
    have hx1 : xs.length = 0 := by omega
    go_wp2
    go_meet
    exact ⟨rfl, S⟩
  case rest =>
  clear S c0x c0y
  obtain ⟨rfl, S⟩ := hcut
  go_upto_region 7 with (fail)
  go_cut [13, 14] (fun v13 v14 wc => ∃ gp gq : Nat, v13 = .pointer (some ⟨gp, 0, none⟩) ∧ v14 = .pointer (some ⟨gq, 0, none⟩) ∧ w.heap.size ≤ gp ∧ w.heap.size ≤ gq ∧ Aside0 (Seps w wc [IB gq (.cells #[.int .i64 (rd_T44 ys 0).f0, .string (rd_T44 ys 0).f1, .string (rd_T44 ys 0).f2] 44), IB gp (.cells #[.int .i64 (rd_T44 xs 0).f0, .string (rd_T44 xs 0).f1, .string (rd_T44 xs 0).f2] 44), ID 51 gx (.slice Ax xs.length cx) xs Px, ID 51 gy (.slice Ay ys.length cy) ys Py, IM w gm vm m.out m.put m.drop, IM w go vo o.out o.put o.drop]))
  case first =>
   go_wp2_with (first | (go_at_call_of 27 (Value.pointer (some ⟨gx, 0, none⟩)); refine (rd_head S.out).mono ?_; rintro e w5 ⟨rfl, hb5⟩; have S5 := aM (S.out.below hb5); clear hb5) | (go_at_call_of 27 (Value.pointer (some ⟨gy, 0, none⟩)); refine (rd_head S5.out.f2).mono ?_; rintro e w6 ⟨rfl, hb6⟩; have S6 := aM (S5.out.below hb6); clear hb6))
   go_meet
   have HS7 := (S6.out.addBox (.cells #[.int .i64 (rd_T44 xs 0).f0, .string (rd_T44 xs 0).f1, .string (rd_T44 xs 0).f2] 44)).addBoxAt (.cells #[.int .i64 (rd_T44 ys 0).f0, .string (rd_T44 ys 0).f1, .string (rd_T44 ys 0).f2] 44) (w6.heap.size + 1) (by simp)
   have HS8 := S6.out.1.size
   exact ⟨_, _, rfl, rfl, HS8, by omega, ⟨HS7⟩⟩
  case rest =>
  clear S
  obtain ⟨gp, gq, rfl, rfl, hgp, hgq, S⟩ := hcut
  obtain ⟨cq0, cq1, cq2, zq0, zq1, zq2⟩ := S.out.c3
  obtain ⟨cp0, cp1, cp2, zp0, zp1, zp2⟩ := S.out.f2.c3
  by_cases hp : (rd_T44 xs 0).f1.toList = []
  case neg =>
   rw [if_pos hp] at hit
   obtain ⟨m1, hm1, h⟩ := oB hit
   obtain ⟨o1, ho1, h2⟩ := oB h
   have M1 := aM hm1
   have O1 := aM ho1
   have HN := aM h2
   clear hm1 ho1 h hit h2
   have hpe : (!(rd_T44 xs 0).f1.toList.isEmpty) = true := by revert hp; cases (rd_T44 xs 0).f1.toList <;> simp
   have hpe2 : ((rd_T44 xs 0).f1.toList != ([] : List UInt8)) = true := by revert hp; cases (rd_T44 xs 0).f1.toList <;> simp
   have hpe3 : (rd_T44 xs 0).f1.toList.isEmpty = false := by revert hp; cases (rd_T44 xs 0).f1.toList <;> simp
   have hxl := rd0_pos hp
   have HXL := aM hxl
   clear hp hxl hE
   go_wp2_with (first | (go_at_call 28; refine (rd_next S.out.f3 HGX.out HXL.out).mono ?_; rintro e w7 ⟨rfl, vx2, hs7⟩; have S7 := aM hs7; clear hs7) | (go_at_call 22; refine (sp_take (p := rd_T44 xs 0) S7.out.f5 M1.out).mono ?_; rintro e w8 ⟨rfl, vm2, hs8⟩; have S8 := aM hs8; (try clear cp0 cp1 cp2 zp0 zp1 zp2); obtain ⟨cp0, cp1, cp2, zp0, zp1, zp2⟩ := hs8.f4.c3; clear hs8) | (go_at_call 21; refine (sp_keep S8.out.f6 O1.out).mono ?_; rintro e w9 ⟨rfl, vo2, hs9⟩; have S9 := aM hs9; clear hs9))
   go_roundg k1
   case measure => omega
   case rel => exact ⟨_, _, _, _, ⟨_, _, _, _, _, _, S9.out.f2.f4.tail.f4.tail.f4.f4⟩, HN.out⟩
  case pos =>
  rw [if_neg (by simpa using hp)] at hit
  have hpe : (!(rd_T44 xs 0).f1.toList.isEmpty) = false := by rw [hp]; rfl
  have hpe2 : ((rd_T44 xs 0).f1.toList != ([] : List UInt8)) = false := by rw [hp]; rfl
  have hpe3 : (rd_T44 xs 0).f1.toList.isEmpty = true := by rw [hp]; rfl
  clear hp
  by_cases hq : (rd_T44 ys 0).f1.toList = []
  case neg =>
   rw [if_pos hq] at hit
   obtain ⟨o1, ho1, h⟩ := oB hit
   obtain ⟨m1, hm1, h2⟩ := oB h
   have M1 := aM hm1
   have O1 := aM ho1
   have HN := aM h2
   clear hm1 ho1 h hit h2
   have hqe : (!(rd_T44 ys 0).f1.toList.isEmpty) = true := by revert hq; cases (rd_T44 ys 0).f1.toList <;> simp
   have hqe2 : ((rd_T44 ys 0).f1.toList != ([] : List UInt8)) = true := by revert hq; cases (rd_T44 ys 0).f1.toList <;> simp
   have hqe3 : (rd_T44 ys 0).f1.toList.isEmpty = false := by revert hq; cases (rd_T44 ys 0).f1.toList <;> simp
   have HXL := aM (rd0_pos hq)
   clear hq hE
   go_wp2_with (first | (go_at_call 28; refine (rd_next S.out.f4 HGY.out HXL.out).mono ?_; rintro e w7 ⟨rfl, vy2, hs7⟩; have S7 := aM hs7; clear hs7) | (go_at_call 22; refine (sp_take (p := rd_T44 ys 0) S7.out.f6 O1.out).mono ?_; rintro e w8 ⟨rfl, vo2, hs8⟩; have S8 := aM hs8; (try clear cq0 cq1 cq2 zq0 zq1 zq2); obtain ⟨cq0, cq1, cq2, zq0, zq1, zq2⟩ := hs8.f3.c3; clear hs8) | (go_at_call 21; refine (sp_keep S8.out.f6 M1.out).mono ?_; rintro e w9 ⟨rfl, vm2, hs9⟩; have S9 := aM hs9; clear hs9))
   go_roundg k1
   case measure => omega
   case rel => exact ⟨_, _, _, _, ⟨_, _, _, _, _, _, S9.out.f4.tail.f4.tail.f4.f4.f2⟩, HN.out⟩
  case pos =>
  rw [if_neg (by simpa using hq)] at hit
  have hqe : (!(rd_T44 ys 0).f1.toList.isEmpty) = false := by rw [hq]; rfl
  have hqe2 : ((rd_T44 ys 0).f1.toList != ([] : List UInt8)) = false := by rw [hq]; rfl
  have hqe3 : (rd_T44 ys 0).f1.toList.isEmpty = true := by rw [hq]; rfl
  clear hq
  obtain ⟨sa, hsa, h⟩ := oB hit
  obtain ⟨sb, hsb, h2⟩ := oB h
  clear hit h
  by_cases hn : 0 ≤ mn sa sb
  case neg => rw [if_neg hn] at h2; cases h2
  rw [if_pos hn] at h2
  obtain ⟨px, hpx, h⟩ := oB h2
  obtain ⟨qy, hqy, h3⟩ := oB h
  obtain ⟨m1, hm1, h4⟩ := oB h3
  obtain ⟨o1, ho1, h5⟩ := oB h4
  have SA := aM hsa
  have SB := aM hsb
  have PX := aM hpx
  have QY := aM hqy
  have M1 := aM hm1
  have O1 := aM ho1
  have HN := aM h5
  obtain ⟨n, hnn⟩ : ∃ n : Nat, mn sa sb = (n : Int) := ⟨(mn sa sb).toNat, by omega⟩
  rw [hnn, aI] at PX QY
  have HNN := aM hnn
  clear hsa hsb hpx hqy hm1 ho1 h h2 h3 h4 h5 hn hE hnn
  go_upto_region 14 with (fail)
  go_cut [15] (fun v15 wc => v15 = .int .i64 (n : Int) ∧ Aside0 (Seps w wc [IB gq (.cells #[.int .i64 (rd_T44 ys 0).f0, .string (rd_T44 ys 0).f1, .string (rd_T44 ys 0).f2] 44), IB gp (.cells #[.int .i64 (rd_T44 xs 0).f0, .string (rd_T44 xs 0).f1, .string (rd_T44 xs 0).f2] 44), ID 51 gx (.slice Ax xs.length cx) xs Px, ID 51 gy (.slice Ay ys.length cy) ys Py, IM w gm vm m.out m.put m.drop, IM w go vo o.out o.put o.drop]))
  case first =>
   go_region_with (first | (go_at_call_of 29 (Value.agg #[.int .i64 (rd_T44 xs 0).f0, .string (rd_T44 xs 0).f1, .string (rd_T44 xs 0).f2]); refine (impl_Part_size.calls _ _ _ sa _ SA.out).mono ?_; rintro e w7 ⟨rfl, hb7⟩; have S7 := aM (S.out.drew.below hb7); have cr0 := S7.out.c3.1; have cr1 := S7.out.c3.2.1; have cr2 := S7.out.c3.2.2.1; clear hb7) | (go_at_call_of 29 (Value.agg #[.int .i64 (rd_T44 ys 0).f0, .string (rd_T44 ys 0).f1, .string (rd_T44 ys 0).f2]); refine (impl_Part_size.calls _ _ _ sb _ SB.out).mono ?_; rintro e w8 ⟨rfl, hb8⟩; have S8 := aM (S7.out.below hb8); clear hb8))
   all_goals go_wp2
   all_goals go_meet
   all_goals exact ⟨by have := HNN.out; unfold mn at this; first | (rw [if_pos (by omega)] at this; rw [this]) | (rw [if_neg (by omega)] at this; rw [this]), S8⟩
  case rest =>
  clear S
  obtain ⟨rfl, S⟩ := hcut
  clear cq0 cq1 cq2 zq0 zq1 zq2 cp0 cp1 cp2 zp0 zp1 zp2
  obtain ⟨px1, xs'⟩ := px
  obtain ⟨qy1, ys'⟩ := qy
  go_upto_region 16 with (first | (go_at_call_of 30 (Value.pointer (some ⟨gx, 0, none⟩)); refine (rd_cut S.out.f3 HGX.out PX.out).mono ?_; rintro e w7 ⟨rfl, vx2, Px2, hs7⟩; have S7 := aM hs7; clear hs7) | (go_at_call_of 30 (Value.pointer (some ⟨gy, 0, none⟩)); refine (rd_cut S7.out.f4 HGY.out QY.out).mono ?_; rintro e w8 ⟨rfl, vy2, Py2, hs8⟩; have S8 := aM hs8; obtain ⟨cq0, cq1, cq2, zq0, zq1, zq2⟩ := hs8.f3.c3; obtain ⟨cp0, cp1, cp2, zp0, zp1, zp2⟩ := hs8.f4.c3; have nqp := hs8.f4.f4.ne; have npq := nqp.symm; clear hs8))
  obtain ⟨w9, hw9⟩ : ∃ w9, ((((((w8.setCell ⟨gp, 0, none⟩ (.int .i64 px1.f0)).setCell ⟨gp, 1, none⟩ (.string px1.f1)).setCell ⟨gp, 2, none⟩ (.string px1.f2)).setCell ⟨gq, 0, none⟩ (.int .i64 qy1.f0)).setCell ⟨gq, 1, none⟩ (.string qy1.f1)).setCell ⟨gq, 2, none⟩ (.string qy1.f2)) = w9 := ⟨_, rfl⟩
  have hS9 := ((S8.out.f4.put3 (x := .int .i64 px1.f0) (y := .string px1.f1) (z := .string px1.f2) hgp).f4.put3 (x := .int .i64 qy1.f0) (y := .string qy1.f1) (z := .string qy1.f2) hgq)
  rw [hw9] at hS9
  rw [hw9]
  have S9 := aM hS9
  clear hw9 cq0 cq1 cq2 zq0 zq1 zq2 cp0 cp1 cp2 zp0 zp1 zp2 npq nqp S8 S7 S PX QY SA SB HNN
  obtain ⟨cq0, cq1, cq2, -, -, -⟩ := hS9.c3
  obtain ⟨cp0, cp1, cp2, -, -, -⟩ := hS9.f2.c3
  clear hS9
  by_cases hq0 : 0 < qy1.f0
  ·have M1' : Aside0 (mT m px1 = some m1) := ⟨by have := M1.out; simpa [hq0] using this⟩
   have dq0 : decide (qy1.f0 > 0) = true := dT hq0
   clear M1 hq0
   by_cases hp0 : 0 < px1.f0
   ·have O1' : Aside0 (mT o qy1 = some o1) := ⟨by have := O1.out; simpa [hp0] using this⟩
    have dp0 : decide (px1.f0 > 0) = true := dT hp0
    clear O1 hp0
    go_wp2_with (first | (go_at_call_of 22 (Value.pointer (some ⟨gm, 0, none⟩)); refine (sp_take (p := px1) S9.out.f5 M1'.out).mono ?_; rintro e w10 ⟨rfl, vm2, hs10⟩; have S10 := aM hs10; obtain ⟨ca0, ca1, ca2, -, -, -⟩ := hs10.f2.c3; obtain ⟨cb0, cb1, cb2, -, -, -⟩ := hs10.f3.c3; clear hs10) | (go_at_call_of 22 (Value.pointer (some ⟨go, 0, none⟩)); refine (sp_take (p := qy1) S10.out.f6 O1'.out).mono ?_; rintro e w11 ⟨rfl, vo2, hs11⟩; have S11 := aM hs11; clear hs11))
    go_roundg k1
    case measure => omega
    case rel => exact ⟨_, _, _, _, ⟨_, _, _, _, _, _, S11.out.f2.f3.tail.f3.tail.f4.f4.f2⟩, HN.out⟩
   ·obtain rfl : o = o1 := by have := O1.out; simpa [hp0] using this
    have dp0 : decide (px1.f0 > 0) = false := dF hp0
    clear O1 hp0
    go_wp2_with (first | (go_at_call_of 22 (Value.pointer (some ⟨gm, 0, none⟩)); refine (sp_take (p := px1) S9.out.f5 M1'.out).mono ?_; rintro e w10 ⟨rfl, vm2, hs10⟩; have S10 := aM hs10; obtain ⟨ca0, ca1, ca2, -, -, -⟩ := hs10.f2.c3; obtain ⟨cb0, cb1, cb2, -, -, -⟩ := hs10.f3.c3; clear hs10))
    go_roundg k1
    case measure => omega
    case rel => exact ⟨_, _, _, _, ⟨_, _, _, _, _, _, S10.out.f6.f2.f3.tail.f3.tail.f4.f4.f2⟩, HN.out⟩
  ·obtain rfl : m = m1 := by have := M1.out; simpa [hq0] using this
   have dq0 : decide (qy1.f0 > 0) = false := dF hq0
   clear M1 hq0
   by_cases hp0 : 0 < px1.f0
   ·have O1' : Aside0 (mT o qy1 = some o1) := ⟨by have := O1.out; simpa [hp0] using this⟩
    have dp0 : decide (px1.f0 > 0) = true := dT hp0
    clear O1 hp0
    go_wp2_with (first | (go_at_call_of 22 (Value.pointer (some ⟨go, 0, none⟩)); refine (sp_take (p := qy1) S9.out.f5.f6 O1'.out).mono ?_; rintro e w11 ⟨rfl, vo2, hs11⟩; have S11 := aM hs11; clear hs11))
    go_roundg k1
    case measure => omega
    case rel => exact ⟨_, _, _, _, ⟨_, _, _, _, _, _, S11.out.f2.f3.tail.f3.tail.f4.f4.f2⟩, HN.out⟩
   ·obtain rfl : o = o1 := by have := O1.out; simpa [hp0] using this
    have dp0 : decide (px1.f0 > 0) = false := dF hp0
    clear O1 hp0
    go_wp2
    go_roundg k1
    case measure => omega
    case rel => exact ⟨_, _, _, _, ⟨_, _, _, _, _, _, S9.out.f5.f6.f2.f3.tail.f3.tail.f4.f4.f2⟩, HN.out⟩
theorem itr_mono : ∀ (d : Nat) (xs ys : List S44) (m o : MS), LeO (itr d xs ys m o) (itr (d + 1) xs ys m o)
 | 0, _, _, _, _ => LeO.none _
 | d + 1, xs, ys, m, o => by
  unfold itr
  refine LeO.ite (LeO.ite (LeO.bind (LeO.refl _) (fun _ => LeO.bind (LeO.refl _) (fun _ => itr_mono d _ _ _ _))) (LeO.ite (LeO.bind (LeO.refl _) (fun _ => LeO.bind (LeO.refl _) (fun _ => itr_mono d _ _ _ _))) (LeO.bind (LeO.refl _) (fun _ => LeO.bind (LeO.refl _) (fun _ => LeO.ite (LeO.bind (LeO.refl _) (fun _ => LeO.bind (LeO.refl _) (fun _ => LeO.bind (LeO.refl _) (fun _ => LeO.bind (LeO.refl _) (fun _ => itr_mono d _ _ _ _))))) (LeO.none _)))))) (LeO.refl _)
theorem impl_TransformOps.mono : ∀ a0 a1 k, LeO (impl_TransformOps.f k a0 a1) (impl_TransformOps.f (k + 1) a0 a1) := fun a0 a1 k =>
 LeO.bind (impl_SameTexts.mono _ _ _) (fun _ => LeO.ite (LeO.ite (LeO.bind (LeO.refl _) (fun _ => LeO.bind (LeO.refl _) (fun _ => LeO.bind (itr_mono _ _ _ _ _) (fun _ => LeO.bind (LeO.refl _) (fun _ => LeO.bind (impl_goodOp.mono _ _) (fun _ => LeO.bind (LeO.refl _) (fun _ => LeO.bind (impl_goodOp.mono _ _) (fun _ => LeO.refl _)))))))) (LeO.none _)) (LeO.refl _))

end Go.Proofs.Ytifllccpfiobfaa.AFnExactMergeThree
