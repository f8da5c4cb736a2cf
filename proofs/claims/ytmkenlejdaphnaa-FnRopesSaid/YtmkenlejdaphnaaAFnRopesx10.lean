-- this session's own text: written by wip/tools/ownprint.py over the kit's print
import Derived.Test.YtmkenlejdaphnaaAFnRopesx0
import Derived.Test.YtmkenlejdaphnaaAFnRopesx1
import Derived.Test.YtmkenlejdaphnaaAFnRopesx3
import Derived.Test.YtmkenlejdaphnaaAFnRopesx5
import Derived.Test.YtmkenlejdaphnaaAFnRopesx6
import Derived.Test.YtmkenlejdaphnaaAFnRopesx7
import Derived.Test.YtmkenlejdaphnaaAFnRopesx9
namespace Go.Proofs.Ytmkenlejdaphnaa.AFnRopes
open Go.RowKit Go.Proofs.YtmkenlejdaphnaaW.PrintWords Go.Proofs.YtmkenlejdaphnaaW.PrintLast Go.Proofs.YtmkenlejdaphnaaW.PrintMore
attribute [local go_sem] max2_int min2_int max_two min_two max_three min_three max_four min_four   -- for this text's walks alone
set_option linter.unusedVariables false
set_option linter.unusedSimpArgs false

/-! ### spec_l12Split: function 70, by hand -/
def spec_l12Split.f : Nat → List (S58) → Int → Option ((List (S58)) × (List (S58)))
 | 0, _, _ => none
 | k + 1, l0, a1 => if a1 = 0 then (some (([] : List (S58)), l0)) else ((spec_l12Size.f l0).bind fun pC => (if a1 = pC then (some (l0, ([] : List (S58)))) else (if 0 ≤ (wrap64 ((l0.length : Int) - 1)) then (if (wrap64 ((l0.length : Int) - 1)) < (l0.length : Int) then (if ((rd_T58 l0 (wrap64 ((l0.length : Int) - 1))).f0) < 0 then (if 0 ≤ a1 then (if a1 ≤ (((rd_T58 l0 (wrap64 ((l0.length : Int) - 1))).f2).size : Int) then ((spec_l12Piece.f (((rd_T58 l0 (wrap64 ((l0.length : Int) - 1))).f2).extract 0 (a1 : Int).toNat)).bind fun t201 => ((spec_l12Piece.f (((rd_T58 l0 (wrap64 ((l0.length : Int) - 1))).f2).extract (a1 : Int).toNat ((rd_T58 l0 (wrap64 ((l0.length : Int) - 1))).f2).size)).bind fun pz => (some (t201, pz)))) else (none)) else (none)) else ((spec_l12Part.f k l0 ((rd_T58 l0 (wrap64 ((l0.length : Int) - 1))).f0)).bind fun lO => ((spec_l12Part.f k l0 ((rd_T58 l0 (wrap64 ((l0.length : Int) - 1))).f1)).bind fun px => ((spec_l12Size.f lO).bind fun pv => (if a1 < pv then ((spec_l12Split.f k lO a1).bind fun qe => ((spec_l12Join.f k qe.2 px).bind fun t220 => (some (qe.1, t220)))) else ((spec_l12Split.f k px (wrap64 (a1 - pv))).bind fun qd => ((spec_l12Join.f k lO qd.1).bind fun t229 => (some (t229, qd.2))))))))) else (none)) else (none))))
theorem spec_l12Split.mono_l : ∀ k, (∀ y0 y1, LeO (spec_l12Split.f k y0 y1) (spec_l12Split.f (k + 1) y0 y1))
 | 0 => fun _ _ r h => by simp [spec_l12Split.f] at h
 | k + 1 => by
  have ih0 := spec_l12Split.mono_l k
  ·intro y0 y1
   unfold spec_l12Split.f
   repeat' first
   | (with_reducible exact ih0 _ _)
   | (with_reducible exact spec_l12Join.mono _ _ _)
   | (with_reducible exact spec_l12Part.mono _ _ _)
   | (with_reducible exact LeO.refl _)
   | (with_reducible exact LeO.none _)
   | (with_reducible refine LeO.ite ?_ ?_)
   | (with_reducible refine LeO.bind ?_ (fun _ => ?_))
theorem spec_l12Split.mono : ∀ a0 a1 k, LeO (spec_l12Split.f k a0 a1) (spec_l12Split.f (k + 1) a0 a1) := by
 intro a0 a1 k
 have ih0 := spec_l12Split.mono_l k
 exact ih0 a0 a1
def RdAt2 (w : World) (r1 r2 : List S58) (e : Ending) (w' : World) : Prop := ∃ A1 c1 A2 c2, e = .returned (.tuple #[.slice A1 r1.length c1, .slice A2 r2.length c2]) ∧ Kd.C k58 w' A1 r1.length r1 ∧ r1.length ≤ c1 ∧ Kd.C k58 w' A2 r2.length r2 ∧ r2.length ≤ c2 ∧ Below w.heap.size w w'
set_option maxHeartbeats 8000000 in
set_option maxRecDepth 100000 in
theorem split_rd (k : Nat) : ∀ (l : List S58) (A : Option Addr) (c : Nat) (a : Int) (r1 r2 : List S58) (w : World) (hr : Kd.C k58 w A l.length l) (hc : l.length ≤ c) (h : spec_l12Split.f k l a = some (r1, r2)),
  Calls Try.prog 70 #[.slice A l.length c, .int .i64 a] w (RdAt2 w r1 r2) := by
 induction k with
 | zero => intro l A c a r1 r2 w hr hc h; exact absurd h (by simp [spec_l12Split.f])
 | succ k ih =>
  intro l A c a r1 r2 w hr hc h
  simp only [spec_l12Split.f] at h
  have hu101 := Try.underlying58
  have HR := aM hr
  have HC := aM hc
  have IH := aM ih
  clear ih hr hc
  by_cases e0 : a = 0
  ·rw [if_pos e0] at h
   obtain ⟨rfl, rfl⟩ := Prod.mk.inj (sI h)
   have q0 : (a == 0) = true := qT e0
   clear h e0
   go_enter Try.func70, Try.ntmps70
   go_wp2
   go_ret2
   exact ⟨none, 0, A, c, rfl, Kd.C_nil _ _, Nat.le_refl _, HR.out, HC.out, Below.refl _ _⟩
  rw [if_neg e0] at h
  have q0 : (a == 0) = false := qF e0
  obtain ⟨z, hz, h⟩ := oB h
  have HZ := aM hz
  clear hz e0
  by_cases e1 : a = z
  ·rw [if_pos e1] at h
   obtain ⟨rfl, rfl⟩ := Prod.mk.inj (sI h)
   have q1 : (a == z) = true := qT e1
   clear h e1
   go_enter Try.func70, Try.ntmps70
   go_wp2_with (first | (go_at_call 51; refine (spec_l12Size.calls _ _ l z _ ?s1 ?s2 HZ.out).mono ?_; (case s1 => repeat (first | exact HR.out | (with_reducible refine aH ?_ _) | (with_reducible refine aI ?_ _) | (with_reducible refine aJ ?_))); (case s2 => exact HC.out); rintro e w' ⟨rfl, ⟨nd, rfl⟩⟩; generalize hq_ : World.drewN w _ = wq; have HRq : Aside0 (Kd.C k58 wq A l.length l) := ⟨by rw [← hq_]; exact aI HR.out _⟩; have HBq : Aside0 (Below w.heap.size w wq) := ⟨by rw [← hq_]; exact pD (Below.refl _ _) _⟩; clear hq_))
   go_ret2
   exact ⟨A, c, none, 0, rfl, HRq.out, HC.out, Kd.C_nil _ _, Nat.le_refl _, HBq.out⟩
  rw [if_neg e1] at h
  have q1 : (a == z) = false := qF e1
  clear e1
  obtain ⟨j, hj⟩ : ∃ j : Int, wrap64 ((l.length : Int) - 1) = j := ⟨_, rfl⟩
  have hjw : IntKind.i64.wrap ((l.length : Int) - 1) = j := (i64_w _).trans hj
  rw [hj] at h
  clear hj
  by_cases t1 : 0 ≤ j
  case neg => rw [if_neg t1] at h; cases h
  rw [if_pos t1] at h
  by_cases t2 : j < (l.length : Int)
  case neg => rw [if_neg t2] at h; cases h
  rw [if_pos t2] at h
  replace t1 := eq_true t1
  replace t2 := eq_true t2
  by_cases t3 : (rd_T58 l j).f0 < 0
  ·rw [if_pos t3] at h
   have d3 : decide ((rd_T58 l j).f0 < 0) = true := dT t3
   clear t3
   by_cases t4 : 0 ≤ a
   case neg => rw [if_neg t4] at h; cases h
   rw [if_pos t4] at h
   by_cases t5 : a ≤ ((rd_T58 l j).f2.size : Int)
   case neg => rw [if_neg t5] at h; cases h
   rw [if_pos t5] at h
   replace t4 := eq_true t4
   replace t5 := eq_true t5
   obtain ⟨p1, hp1, h⟩ := oB h
   obtain ⟨p2, hp2, h⟩ := oB h
   obtain ⟨rfl, rfl⟩ := Prod.mk.inj (sI h)
   have H1 := aM hp1
   have H2 := aM hp2
   clear h hp1 hp2
   go_enter Try.func70, Try.ntmps70
   go_upto_region 5 with (first | (go_at_call 51; refine (spec_l12Size.calls _ _ l z _ ?s1 ?s2 HZ.out).mono ?_; (case s1 => repeat (first | exact HR.out | (with_reducible refine aH ?_ _) | (with_reducible refine aI ?_ _) | (with_reducible refine aJ ?_))); (case s2 => exact HC.out); rintro e w' ⟨rfl, ⟨nd, rfl⟩⟩; generalize hq_ : World.drewN w _ = wq; have HRq : Aside0 (Kd.C k58 wq A l.length l) := ⟨by rw [← hq_]; exact aI HR.out _⟩; have HBq : Aside0 (Below w.heap.size w wq) := ⟨by rw [← hq_]; exact pD (Below.refl _ _) _⟩; clear hq_; obtain ⟨ad, e_, hx0, hx1, hx2, hx3, hx4⟩ := at_T58 HRq.out j (of_eq_true t1) (of_eq_true t2); cases e_))
   go_cut [6] (fun v_ wc_ => ∃ g_, v_ = .pointer (some ⟨g_, 0, none⟩) ∧ Aside0 (w.heap.size ≤ g_) ∧ Aside0 (wc_.heap[g_]? = some (.cells #[.int .i64 ((rd_T58 l j).f0), .int .i64 ((rd_T58 l j).f1), .string ((rd_T58 l j).f2), .int .i64 ((rd_T58 l j).f3), .int .i64 ((rd_T58 l j).f4)] 58 (0, 0))) ∧ Aside0 (Below w.heap.size w wc_))
   case first =>
    go_wp2_with (fail)
    go_meet
    exact ⟨_, rfl, ⟨HBq.out.size⟩, ⟨blk_new _ _⟩, ⟨bA HBq.out _⟩⟩
   case rest =>
    obtain ⟨gb, rfl, GE_gb, BK_gb, HB⟩ := hcut
    clear hx0 hx1 hx2 hx3 hx4 HRq HBq
    have HX := aM (aG HR.out HB.out)
    have hcgb_0 : wc.cell? ⟨gb, 0, none⟩ = some (.int .i64 ((rd_T58 l j).f0)) := (bC BK_gb.out 0).trans rfl; have hfgb_0 := bF BK_gb.out 0; have hcgb_1 : wc.cell? ⟨gb, 1, none⟩ = some (.int .i64 ((rd_T58 l j).f1)) := (bC BK_gb.out 1).trans rfl; have hfgb_1 := bF BK_gb.out 1; have hcgb_2 : wc.cell? ⟨gb, 2, none⟩ = some (.string ((rd_T58 l j).f2)) := (bC BK_gb.out 2).trans rfl; have hfgb_2 := bF BK_gb.out 2; have hcgb_3 : wc.cell? ⟨gb, 3, none⟩ = some (.int .i64 ((rd_T58 l j).f3)) := (bC BK_gb.out 3).trans rfl; have hfgb_3 := bF BK_gb.out 3; have hcgb_4 : wc.cell? ⟨gb, 4, none⟩ = some (.int .i64 ((rd_T58 l j).f4)) := (bC BK_gb.out 4).trans rfl; have hfgb_4 := bF BK_gb.out 4
    go_wp2
    go_region_held3 (fun w' => w'.cell? ⟨gb, 2, none⟩ = some (.string (rd_T58 l j).f2)) (first | go_keep | exact HS1.out | exact HS2.out) (first | (go_at_call_of 80 (Value.string ((rd_T58 l j).f2.extract 0 a.toNat)); refine (spec_l12Piece.calls _ _ _ H1.out).mono ?_; rintro e w1 ⟨v1, rfl, ho, hb⟩; obtain ⟨A1, c1, eo⟩ := Kd.R_slice ho; subst eo; have tg := aM ho; have HB1 := aM hb; have HS1 : Aside0 (w1.cell? ⟨gb, 2, none⟩ = some (.string (rd_T58 l j).f2)) := ⟨(bC (af (kB_ BK_gb.out) hb) 2).trans rfl⟩; clear ho hb) | (go_at_call 80; refine (spec_l12Piece.calls _ _ _ H2.out).mono ?_; rintro e w2 ⟨v2, rfl, ho, hb⟩; obtain ⟨A2, c2, eo⟩ := Kd.R_slice ho; subst eo; have rk := aM ho; have HB2 := aM hb; have HS2 : Aside0 (w2.cell? ⟨gb, 2, none⟩ = some (.string (rd_T58 l j).f2)) := ⟨(hb.cell (World.block_lt_of_cell? _ _ HS1.out)).trans HS1.out⟩; clear ho hb))
    go_wp2
    go_ret2
    exact ⟨A1, c1, A2, c2, rfl, aG (ai tg.out).2.2 HB2.out, (ai tg.out).2.1, (ai rk.out).2.2, (ai rk.out).2.1, aA (aA HB.out (by first | exact HB1.out | exact aA (below_drew (Below.refl _ _)) HB1.out)) HB2.out⟩
  ·rw [if_neg t3] at h
   have d3 : decide ((rd_T58 l j).f0 < 0) = false := dF t3
   clear t3
   obtain ⟨L, hL, h⟩ := oB h
   obtain ⟨R, hR, h⟩ := oB h
   obtain ⟨n, hn, h⟩ := oB h
   have HL := aM hL
   have HRr := aM hR
   have HN := aM hn
   clear hL hR hn
   by_cases t4 : a < n
   ·rw [if_pos t4] at h
    have d4 : decide (a < n) = true := dT t4
    clear t4
    obtain ⟨⟨x, y⟩, hs, h⟩ := oB h
    obtain ⟨q, hq, h⟩ := oB h
    obtain ⟨rfl, rfl⟩ := Prod.mk.inj (sI h)
    have HS := aM hs
    have HQ := aM hq
    clear h hs hq
    go_enter Try.func70, Try.ntmps70
    go_upto_region 5 with (first | (go_at_call 51; refine (spec_l12Size.calls _ _ l z _ ?s1 ?s2 HZ.out).mono ?_; (case s1 => repeat (first | exact HR.out | (with_reducible refine aH ?_ _) | (with_reducible refine aI ?_ _) | (with_reducible refine aJ ?_))); (case s2 => exact HC.out); rintro e w' ⟨rfl, ⟨nd, rfl⟩⟩; generalize hq_ : World.drewN w _ = wq; have HRq : Aside0 (Kd.C k58 wq A l.length l) := ⟨by rw [← hq_]; exact aI HR.out _⟩; have HBq : Aside0 (Below w.heap.size w wq) := ⟨by rw [← hq_]; exact pD (Below.refl _ _) _⟩; clear hq_; obtain ⟨ad, e_, hx0, hx1, hx2, hx3, hx4⟩ := at_T58 HRq.out j (of_eq_true t1) (of_eq_true t2); cases e_))
    go_cut [6] (fun v_ wc_ => ∃ g_, v_ = .pointer (some ⟨g_, 0, none⟩) ∧ Aside0 (w.heap.size ≤ g_) ∧ Aside0 (wc_.heap[g_]? = some (.cells #[.int .i64 ((rd_T58 l j).f0), .int .i64 ((rd_T58 l j).f1), .string ((rd_T58 l j).f2), .int .i64 ((rd_T58 l j).f3), .int .i64 ((rd_T58 l j).f4)] 58 (0, 0))) ∧ Aside0 (Below w.heap.size w wc_))
    case first =>
     go_wp2_with (fail)
     go_meet
     exact ⟨_, rfl, ⟨HBq.out.size⟩, ⟨blk_new _ _⟩, ⟨bA HBq.out _⟩⟩
    case rest =>
     obtain ⟨gb, rfl, GE_gb, BK_gb, HB⟩ := hcut
     clear hx0 hx1 hx2 hx3 hx4 HRq HBq
     have HX := aM (aG HR.out HB.out)
     have hcgb_0 : wc.cell? ⟨gb, 0, none⟩ = some (.int .i64 ((rd_T58 l j).f0)) := (bC BK_gb.out 0).trans rfl; have hfgb_0 := bF BK_gb.out 0; have hcgb_1 : wc.cell? ⟨gb, 1, none⟩ = some (.int .i64 ((rd_T58 l j).f1)) := (bC BK_gb.out 1).trans rfl; have hfgb_1 := bF BK_gb.out 1; have hcgb_2 : wc.cell? ⟨gb, 2, none⟩ = some (.string ((rd_T58 l j).f2)) := (bC BK_gb.out 2).trans rfl; have hfgb_2 := bF BK_gb.out 2; have hcgb_3 : wc.cell? ⟨gb, 3, none⟩ = some (.int .i64 ((rd_T58 l j).f3)) := (bC BK_gb.out 3).trans rfl; have hfgb_3 := bF BK_gb.out 3; have hcgb_4 : wc.cell? ⟨gb, 4, none⟩ = some (.int .i64 ((rd_T58 l j).f4)) := (bC BK_gb.out 4).trans rfl; have hfgb_4 := bF BK_gb.out 4
     go_upto_region 9 with (first | (go_at_call 84; refine (spec_l12Part.calls k _ _ l (rd_T58 l j).f0 L _ (by repeat (first | exact HX.out | (with_reducible refine aH ?_ _) | (with_reducible refine aI ?_ _) | (with_reducible refine aJ ?_))) HC.out HL.out).mono ?_; rintro e w1 ⟨v1, rfl, ho, hb⟩; obtain ⟨A1, c1, eo⟩ := Kd.R_slice ho; subst eo; have eN := aM (ai ho).2.1; have HX1 := aM (ai ho).2.2; have bc := aM (aA z20 hb); have bd := aM (aG (by repeat (first | exact HX.out | (with_reducible refine aH ?_ _) | (with_reducible refine aI ?_ _) | (with_reducible refine aJ ?_))) hb); have bg := aM (af (kB_ BK_gb.out) hb); clear BK_gb hcgb_0 hcgb_1 hcgb_2 hcgb_3 hcgb_4 hfgb_0 hfgb_1 hfgb_2 hfgb_3 hfgb_4; clear HB HX; have HB := bc; have HX := bd; have BK_gb := bg; clear bc bd bg ho hb; obtain ⟨hcgb_0, hcgb_1, hcgb_2, hcgb_3, hcgb_4, hfgb_0, hfgb_1, hfgb_2, hfgb_3, hfgb_4⟩ := cc5 BK_gb.out))
     go_upto_region 10 with (first | (go_at_call 84; refine (spec_l12Part.calls k _ _ l (rd_T58 l j).f1 R _ (by repeat (first | exact HX.out | (with_reducible refine aH ?_ _) | (with_reducible refine aI ?_ _) | (with_reducible refine aJ ?_))) HC.out HRr.out).mono ?_; rintro e w2 ⟨v2, rfl, ho, hb⟩; obtain ⟨A2, c2, eo⟩ := Kd.R_slice ho; subst eo; have jW := aM (ai ho).2.1; have HX2 := aM (ai ho).2.2; have bc := aM (aA z20 hb); have bd := aM (aG (by repeat (first | exact HX.out | (with_reducible refine aH ?_ _) | (with_reducible refine aI ?_ _) | (with_reducible refine aJ ?_))) hb); have bg := aM (af (kB_ BK_gb.out) hb); clear BK_gb hcgb_0 hcgb_1 hcgb_2 hcgb_3 hcgb_4 hfgb_0 hfgb_1 hfgb_2 hfgb_3 hfgb_4; replace HX1 := aM (aG (by repeat (first | exact HX1.out | (with_reducible refine aH ?_ _) | (with_reducible refine aI ?_ _) | (with_reducible refine aJ ?_))) hb); clear HB HX; have HB := bc; have HX := bd; have BK_gb := bg; clear bc bd bg ho hb; obtain ⟨hcgb_0, hcgb_1, hcgb_2, hcgb_3, hcgb_4, hfgb_0, hfgb_1, hfgb_2, hfgb_3, hfgb_4⟩ := cc5 BK_gb.out))
     go_upto_region 11 with (first | (go_at_call 51; refine (spec_l12Size.calls A1 c1 L n _ ?s1 ?s2 HN.out).mono ?_; (case s1 => repeat (first | exact HX1.out | (with_reducible refine aH ?_ _) | (with_reducible refine aI ?_ _) | (with_reducible refine aJ ?_))); (case s2 => exact eN.out); rintro e w' ⟨rfl, ⟨nd2, rfl⟩⟩))
     go_upto_region 13 with (first | (go_at_call 70; refine (IH.out L A1 c1 a x y _ (by repeat (first | exact HX1.out | (with_reducible refine aH ?_ _) | (with_reducible refine aI ?_ _) | (with_reducible refine aJ ?_))) eN.out HS.out).mono ?_; rintro e w3 ⟨A3, c3, A4, c4, rfl, hc3, hl3, hc4, hl4, hb⟩; have tc := aM hc3; have HL3 := aM hl3; have su := aM hc4; have HL4 := aM hl4; have bc := aM (aA z20 hb); have bd := aM (aG (by repeat (first | exact HX2.out | (with_reducible refine aH ?_ _) | (with_reducible refine aI ?_ _) | (with_reducible refine aJ ?_))) hb); clear HB HX2; have HB := bc; have HX2 := bd; clear bc bd hc3 hl3 hc4 hl4 hb))
     go_wp2_with (first | (go_at_call 68; refine (join_rd k y A4 c4 R A2 c2 q _ (by repeat (first | exact su.out | (with_reducible refine aH ?_ _) | (with_reducible refine aI ?_ _) | (with_reducible refine aJ ?_))) HL4.out (by repeat (first | exact HX2.out | (with_reducible refine aH ?_ _) | (with_reducible refine aI ?_ _) | (with_reducible refine aJ ?_))) jW.out HQ.out).mono ?_; rintro e w4 ⟨A5, c5, rfl, hc5, hl5, hb⟩; have g6 := aM hc5; have HL5 := aM hl5; have HF3 := aM (aG (by repeat (first | exact tc.out | (with_reducible refine aH ?_ _) | (with_reducible refine aI ?_ _) | (with_reducible refine aJ ?_))) hb); have bc := aM (aA z20 hb); clear HB; have HB := bc; clear bc hc5 hl5 hb))
     go_ret2
     exact ⟨A3, c3, A5, c5, rfl, HF3.out, HL3.out, g6.out, HL5.out, HB.out⟩
   ·rw [if_neg t4] at h
    have d4 : decide (a < n) = false := dF t4
    clear t4
    obtain ⟨⟨x, y⟩, hs, h⟩ := oB h
    obtain ⟨q, hq, h⟩ := oB h
    obtain ⟨rfl, rfl⟩ := Prod.mk.inj (sI h)
    obtain ⟨m, hm⟩ : ∃ m : Int, wrap64 (a - n) = m := ⟨_, rfl⟩
    have hmw : IntKind.i64.wrap (a - n) = m := (i64_w _).trans hm
    rw [hm] at hs
    have HS := aM hs
    have HQ := aM hq
    clear h hs hq hm
    go_enter Try.func70, Try.ntmps70
    go_upto_region 5 with (first | (go_at_call 51; refine (spec_l12Size.calls _ _ l z _ ?s1 ?s2 HZ.out).mono ?_; (case s1 => repeat (first | exact HR.out | (with_reducible refine aH ?_ _) | (with_reducible refine aI ?_ _) | (with_reducible refine aJ ?_))); (case s2 => exact HC.out); rintro e w' ⟨rfl, ⟨nd, rfl⟩⟩; generalize hq_ : World.drewN w _ = wq; have HRq : Aside0 (Kd.C k58 wq A l.length l) := ⟨by rw [← hq_]; exact aI HR.out _⟩; have HBq : Aside0 (Below w.heap.size w wq) := ⟨by rw [← hq_]; exact pD (Below.refl _ _) _⟩; clear hq_; obtain ⟨ad, e_, hx0, hx1, hx2, hx3, hx4⟩ := at_T58 HRq.out j (of_eq_true t1) (of_eq_true t2); cases e_))
    go_cut [6] (fun v_ wc_ => ∃ g_, v_ = .pointer (some ⟨g_, 0, none⟩) ∧ Aside0 (w.heap.size ≤ g_) ∧ Aside0 (wc_.heap[g_]? = some (.cells #[.int .i64 ((rd_T58 l j).f0), .int .i64 ((rd_T58 l j).f1), .string ((rd_T58 l j).f2), .int .i64 ((rd_T58 l j).f3), .int .i64 ((rd_T58 l j).f4)] 58 (0, 0))) ∧ Aside0 (Below w.heap.size w wc_))
    case first =>
     go_wp2_with (fail)
     go_meet
     exact ⟨_, rfl, ⟨HBq.out.size⟩, ⟨blk_new _ _⟩, ⟨bA HBq.out _⟩⟩
    case rest =>
     obtain ⟨gb, rfl, GE_gb, BK_gb, HB⟩ := hcut
     clear hx0 hx1 hx2 hx3 hx4 HRq HBq
     have HX := aM (aG HR.out HB.out)
     have hcgb_0 : wc.cell? ⟨gb, 0, none⟩ = some (.int .i64 ((rd_T58 l j).f0)) := (bC BK_gb.out 0).trans rfl; have hfgb_0 := bF BK_gb.out 0; have hcgb_1 : wc.cell? ⟨gb, 1, none⟩ = some (.int .i64 ((rd_T58 l j).f1)) := (bC BK_gb.out 1).trans rfl; have hfgb_1 := bF BK_gb.out 1; have hcgb_2 : wc.cell? ⟨gb, 2, none⟩ = some (.string ((rd_T58 l j).f2)) := (bC BK_gb.out 2).trans rfl; have hfgb_2 := bF BK_gb.out 2; have hcgb_3 : wc.cell? ⟨gb, 3, none⟩ = some (.int .i64 ((rd_T58 l j).f3)) := (bC BK_gb.out 3).trans rfl; have hfgb_3 := bF BK_gb.out 3; have hcgb_4 : wc.cell? ⟨gb, 4, none⟩ = some (.int .i64 ((rd_T58 l j).f4)) := (bC BK_gb.out 4).trans rfl; have hfgb_4 := bF BK_gb.out 4
     go_upto_region 9 with (first | (go_at_call 84; refine (spec_l12Part.calls k _ _ l (rd_T58 l j).f0 L _ (by repeat (first | exact HX.out | (with_reducible refine aH ?_ _) | (with_reducible refine aI ?_ _) | (with_reducible refine aJ ?_))) HC.out HL.out).mono ?_; rintro e w1 ⟨v1, rfl, ho, hb⟩; obtain ⟨A1, c1, eo⟩ := Kd.R_slice ho; subst eo; have eN := aM (ai ho).2.1; have HX1 := aM (ai ho).2.2; have bc := aM (aA z20 hb); have bd := aM (aG (by repeat (first | exact HX.out | (with_reducible refine aH ?_ _) | (with_reducible refine aI ?_ _) | (with_reducible refine aJ ?_))) hb); have bg := aM (af (kB_ BK_gb.out) hb); clear BK_gb hcgb_0 hcgb_1 hcgb_2 hcgb_3 hcgb_4 hfgb_0 hfgb_1 hfgb_2 hfgb_3 hfgb_4; clear HB HX; have HB := bc; have HX := bd; have BK_gb := bg; clear bc bd bg ho hb; obtain ⟨hcgb_0, hcgb_1, hcgb_2, hcgb_3, hcgb_4, hfgb_0, hfgb_1, hfgb_2, hfgb_3, hfgb_4⟩ := cc5 BK_gb.out))
     go_upto_region 10 with (first | (go_at_call 84; refine (spec_l12Part.calls k _ _ l (rd_T58 l j).f1 R _ (by repeat (first | exact HX.out | (with_reducible refine aH ?_ _) | (with_reducible refine aI ?_ _) | (with_reducible refine aJ ?_))) HC.out HRr.out).mono ?_; rintro e w2 ⟨v2, rfl, ho, hb⟩; obtain ⟨A2, c2, eo⟩ := Kd.R_slice ho; subst eo; have jW := aM (ai ho).2.1; have HX2 := aM (ai ho).2.2; have bc := aM (aA z20 hb); have bd := aM (aG (by repeat (first | exact HX.out | (with_reducible refine aH ?_ _) | (with_reducible refine aI ?_ _) | (with_reducible refine aJ ?_))) hb); have bg := aM (af (kB_ BK_gb.out) hb); clear BK_gb hcgb_0 hcgb_1 hcgb_2 hcgb_3 hcgb_4 hfgb_0 hfgb_1 hfgb_2 hfgb_3 hfgb_4; replace HX1 := aM (aG (by repeat (first | exact HX1.out | (with_reducible refine aH ?_ _) | (with_reducible refine aI ?_ _) | (with_reducible refine aJ ?_))) hb); clear HB HX; have HB := bc; have HX := bd; have BK_gb := bg; clear bc bd bg ho hb; obtain ⟨hcgb_0, hcgb_1, hcgb_2, hcgb_3, hcgb_4, hfgb_0, hfgb_1, hfgb_2, hfgb_3, hfgb_4⟩ := cc5 BK_gb.out))
     go_upto_region 11 with (first | (go_at_call 51; refine (spec_l12Size.calls A1 c1 L n _ ?s1 ?s2 HN.out).mono ?_; (case s1 => repeat (first | exact HX1.out | (with_reducible refine aH ?_ _) | (with_reducible refine aI ?_ _) | (with_reducible refine aJ ?_))); (case s2 => exact eN.out); rintro e w' ⟨rfl, ⟨nd2, rfl⟩⟩))
     go_upto_region 15 with (first | (go_at_call 70; refine (IH.out R A2 c2 m x y _ (by repeat (first | exact HX2.out | (with_reducible refine aH ?_ _) | (with_reducible refine aI ?_ _) | (with_reducible refine aJ ?_))) jW.out HS.out).mono ?_; rintro e w3 ⟨A3, c3, A4, c4, rfl, hc3, hl3, hc4, hl4, hb⟩; have tc := aM hc3; have HL3 := aM hl3; have su := aM hc4; have HL4 := aM hl4; have bc := aM (aA z20 hb); have bd := aM (aG (by repeat (first | exact HX1.out | (with_reducible refine aH ?_ _) | (with_reducible refine aI ?_ _) | (with_reducible refine aJ ?_))) hb); clear HB HX1; have HB := bc; have HX1 := bd; clear bc bd hc3 hl3 hc4 hl4 hb))
     go_wp2_with (first | (go_at_call 68; refine (join_rd k L A1 c1 x A3 c3 q _ (by repeat (first | exact HX1.out | (with_reducible refine aH ?_ _) | (with_reducible refine aI ?_ _) | (with_reducible refine aJ ?_))) eN.out (by repeat (first | exact tc.out | (with_reducible refine aH ?_ _) | (with_reducible refine aI ?_ _) | (with_reducible refine aJ ?_))) HL3.out HQ.out).mono ?_; rintro e w4 ⟨A5, c5, rfl, hc5, hl5, hb⟩; have g6 := aM hc5; have HL5 := aM hl5; have HF4 := aM (aG (by repeat (first | exact su.out | (with_reducible refine aH ?_ _) | (with_reducible refine aI ?_ _) | (with_reducible refine aJ ?_))) hb); have bc := aM (aA z20 hb); clear HB; have HB := bc; clear bc hc5 hl5 hb))
     go_ret2
     exact ⟨A5, c5, A4, c4, rfl, g6.out, HL5.out, HF4.out, HL4.out, HB.out⟩

/-! ### spec_SplitRope: function 38, by hand -/
def spec_SplitRope.f (k : Nat) (l0_0 : List (S58)) (a1 : Int) : Option ((List (S58)) × (List (S58)) × Bool) := (spec_GoodRope.f k l0_0).bind fun m0 => (if m0 = true then ((spec_l12Size.f l0_0).bind fun kK => ((spec_l1In.f a1 0 kK).bind fun mZ => (if mZ = true then ((spec_l12Split.f k l0_0 a1).bind fun gx => ((some (([] : List (S58)) : List (S58))).bind fun y259 => (if y259.length + gx.1.length < 2932031007402 then ((some (([] : List (S58)) : List (S58))).bind fun y266 => (if y266.length + gx.2.length < 2932031007402 then (some ((y259 ++ gx.1), (y266 ++ gx.2), true)) else (none))) else (none)))) else (some (([] : List (S58)), ([] : List (S58)), false))))) else (some (([] : List (S58)), ([] : List (S58)), false)))
theorem spec_SplitRope.mono : ∀ a0 a1 k, LeO (spec_SplitRope.f k a0 a1) (spec_SplitRope.f (k + 1) a0 a1) := by
 intro a0 a1 k
 unfold spec_SplitRope.f
 repeat' first
   | (with_reducible exact spec_GoodRope.mono _ _)
   | (with_reducible exact spec_l12Split.mono _ _ _)
   | (with_reducible exact LeO.refl _)
   | (with_reducible exact LeO.none _)
   | (with_reducible refine LeO.ite ?_ ?_)
   | (with_reducible refine LeO.bind ?_ (fun _ => ?_))
/-- What stands through the whole call. -/
def SrF (A0 : Option Addr) (c0 : Nat) (l0 : List S58) (w W : World) : Prop := Below w.heap.size w W ∧ W.heap[w.heap.size]? = some (.cells #[.slice A0 l0.length c0] 29 (0, 0)) ∧ W.heap[w.heap.size + 1]? = some (.cells #[.slice none 0 0] 29 (0, 0)) ∧ W.heap[w.heap.size + 1 + 1]? = some (.cells #[.slice none 0 0] 29 (0, 0)) ∧ Kd.C k58 W A0 l0.length l0
section
variable {A0 : Option Addr} {c0 : Nat} {l0 : List S58} {w W W' : World}
theorem SrF.below (h : SrF A0 c0 l0 w W) (hb : Below W.heap.size W W') : SrF A0 c0 l0 w W' := ⟨aA h.1 hb, af h.2.1 hb, af h.2.2.1 hb, af h.2.2.2.1 hb, aG h.2.2.2.2 hb⟩
theorem SrF.alloc (h : SrF A0 c0 l0 w W) (o : Obj) : SrF A0 c0 l0 w (W.alloc o) := h.below (bA (Below.refl _ _) _)
theorem SrF.drewN (h : SrF A0 c0 l0 w W) (n : Nat) : SrF A0 c0 l0 w (W.drewN n) := h.below (pD (Below.refl _ _) _)
theorem SrF.drew (h : SrF A0 c0 l0 w W) : SrF A0 c0 l0 w W.drew := h.below (below_drew (Below.refl _ _))
end
set_option maxHeartbeats 8000000 in
set_option maxRecDepth 100000 in
theorem spec_SplitRope.calls (k : Nat) (ce : Option Addr) (ci : Nat) (l0_0 : List S58) (a1 : Int) (r1 : List S58) (r2 : List S58) (r3 : Bool) (w : World) (hr0_0 : Kd.C k58 w ce l0_0.length l0_0) (hc0_0 : l0_0.length ≤ ci) (h : spec_SplitRope.f k l0_0 a1 = some (r1, r2, r3)) :
  Calls Try.prog 38 #[.agg #[.slice ce l0_0.length ci], .int .i64 a1] w fun e w' => ∃ v0_ v1_ : Value, e = .returned (.tuple #[.agg #[v0_], .agg #[v1_], .bool r3]) ∧ Kd.R k58 58 w' w.heap.size (fun k_ => some k_ ≠ (v1_ : Value).ownBlock) v0_ r1 ∧ Kd.R k58 58 w' w.heap.size (fun k_ => some k_ ≠ (v0_ : Value).ownBlock) v1_ r2 ∧ Below w.heap.size w w' := by
 obtain ⟨W2, hW2⟩ : ∃ W2, ((w.alloc (.cells #[.slice ce l0_0.length ci] 29)).alloc (.cells #[.slice none 0 0] 29)).alloc (.cells #[.slice none 0 0] 29) = W2 := ⟨_, rfl⟩
 have HWB : Below w.heap.size w W2 := by rw [← hW2]; exact bA (bA (bA (Below.refl _ _) _) _) _
 have HF : Aside0 (SrF ce ci l0_0 w W2) := ⟨HWB, by rw [← hW2]; have := av (av (blk_new w (.cells #[.slice ce l0_0.length ci] 29)) (.cells #[.slice none 0 0] 29)) (.cells #[.slice none 0 0] 29); simpa using this, by rw [← hW2]; have := av (blk_new (w.alloc (.cells #[.slice ce l0_0.length ci] 29)) (.cells #[.slice none 0 0] 29)) (.cells #[.slice none 0 0] 29); simpa using this, by rw [← hW2]; have := blk_new ((w.alloc (.cells #[.slice ce l0_0.length ci] 29)).alloc (.cells #[.slice none 0 0] 29)) (.cells #[.slice none 0 0] 29); simpa using this, aG hr0_0 HWB⟩
 have HWE := aM hW2
 have eV := aM hc0_0
 obtain ⟨gg, hg, h⟩ := oB h
 have HG := aM hg
 clear HWB hr0_0 hc0_0 hg hW2
 cases gg with
 | false =>
  rw [if_neg (by simp)] at h
  obtain ⟨rfl, h3⟩ := Prod.mk.inj (sI h)
  obtain ⟨rfl, rfl⟩ := Prod.mk.inj h3
  clear h h3
  go_enter Try.func38, Try.ntmps38
  go_wp2_with (first | (go_at_call 15; (try rw [HWE.out]); refine (spec_GoodRope.calls k _ _ l0_0 _ _ z25 eV.out HG.out).mono ?_; rintro e w1 ⟨rfl, hb⟩; replace HF := aM (SrF.below z23 hb); (try clear cA ig ie f1_ f2_); have cA : w1.cell? ⟨w.heap.size, 0, none⟩ = some (.slice ce l0_0.length ci) := (bC HF.out.2.1 0).trans rfl; have ig : w1.cell? ⟨w.heap.size + 1, 0, none⟩ = some (.slice none 0 0) := (bC HF.out.2.2.1 0).trans rfl; have ie : w1.cell? ⟨w.heap.size + 1 + 1, 0, none⟩ = some (.slice none 0 0) := (bC HF.out.2.2.2.1 0).trans rfl; have f1_ := bF HF.out.2.2.1 0; have f2_ := bF HF.out.2.2.2.1 0; clear hb))
  refine aU (results_list (rs := [.cell 4 29, .cell 5 29, .tmp 6]) rfl (by simp) (.cell (w.heap.size + 1) 29 #[.slice none 0 0] (0, 0) _ rfl (by exact aw (ax (cs := #[.slice none 0 0]) HF.out.2.2.1 0 _ rfl) (by simp) _) Try.underlying29 rfl z1 (.cell (w.heap.size + 1 + 1) 29 #[.slice none 0 0] (0, 0) _ rfl (by exact ax (cs := #[.slice none 0 0]) (aw HF.out.2.2.2.1 (by simp) _) 0 _ rfl) Try.underlying29 rfl z1 (.tmp .nil)))) rfl ?_
  exact ⟨_, _, rfl, Kd.R_nil _ _ _ _ _, Kd.R_nil _ _ _ _ _, az (az HF.out.1 (by omega)) (by omega)⟩
 | true =>
 rw [if_pos rfl] at h
 obtain ⟨sz, hz, h⟩ := oB h
 obtain ⟨inn, hn, h⟩ := oB h
 have HZ := aM hz
 have HN := aM hn
 clear hz hn
 cases inn with
 | false =>
  rw [if_neg (by simp)] at h
  obtain ⟨rfl, h3⟩ := Prod.mk.inj (sI h)
  obtain ⟨rfl, rfl⟩ := Prod.mk.inj h3
  clear h h3
  go_enter Try.func38, Try.ntmps38
  go_wp2_with (first | (go_at_call 15; (try rw [HWE.out]); refine (spec_GoodRope.calls k _ _ l0_0 _ _ z25 eV.out HG.out).mono ?_; rintro e w1 ⟨rfl, hb⟩; replace HF := aM (SrF.below z23 hb); (try clear cA ig ie f1_ f2_); have cA : w1.cell? ⟨w.heap.size, 0, none⟩ = some (.slice ce l0_0.length ci) := (bC HF.out.2.1 0).trans rfl; have ig : w1.cell? ⟨w.heap.size + 1, 0, none⟩ = some (.slice none 0 0) := (bC HF.out.2.2.1 0).trans rfl; have ie : w1.cell? ⟨w.heap.size + 1 + 1, 0, none⟩ = some (.slice none 0 0) := (bC HF.out.2.2.2.1 0).trans rfl; have f1_ := bF HF.out.2.2.1 0; have f2_ := bF HF.out.2.2.2.1 0; clear hb) | (go_at_call 51; refine (spec_l12Size.calls _ _ l0_0 _ _ z25 eV.out HZ.out).mono ?_; rintro e w2 ⟨rfl, hb⟩; replace hb := hb.below; replace HF := aM (SrF.below z23 hb); (try clear cA ig ie f1_ f2_); have cA : w2.cell? ⟨w.heap.size, 0, none⟩ = some (.slice ce l0_0.length ci) := (bC HF.out.2.1 0).trans rfl; have ig : w2.cell? ⟨w.heap.size + 1, 0, none⟩ = some (.slice none 0 0) := (bC HF.out.2.2.1 0).trans rfl; have ie : w2.cell? ⟨w.heap.size + 1 + 1, 0, none⟩ = some (.slice none 0 0) := (bC HF.out.2.2.2.1 0).trans rfl; have f1_ := bF HF.out.2.2.1 0; have f2_ := bF HF.out.2.2.2.1 0; clear hb) | (go_at_call 50; refine (spec_l1In.calls _ _ _ _ _ HN.out).mono ?_; rintro e w3 ⟨rfl, hb⟩; replace hb := hb.below; replace HF := aM (SrF.below z23 hb); (try clear cA ig ie f1_ f2_); have cA : w3.cell? ⟨w.heap.size, 0, none⟩ = some (.slice ce l0_0.length ci) := (bC HF.out.2.1 0).trans rfl; have ig : w3.cell? ⟨w.heap.size + 1, 0, none⟩ = some (.slice none 0 0) := (bC HF.out.2.2.1 0).trans rfl; have ie : w3.cell? ⟨w.heap.size + 1 + 1, 0, none⟩ = some (.slice none 0 0) := (bC HF.out.2.2.2.1 0).trans rfl; have f1_ := bF HF.out.2.2.1 0; have f2_ := bF HF.out.2.2.2.1 0; clear hb))
  refine aU (results_list (rs := [.cell 4 29, .cell 5 29, .tmp 6]) rfl (by simp) (.cell (w.heap.size + 1) 29 #[.slice none 0 0] (0, 0) _ rfl (by exact aw (ax (cs := #[.slice none 0 0]) HF.out.2.2.1 0 _ rfl) (by simp) _) Try.underlying29 rfl z1 (.cell (w.heap.size + 1 + 1) 29 #[.slice none 0 0] (0, 0) _ rfl (by exact ax (cs := #[.slice none 0 0]) (aw HF.out.2.2.2.1 (by simp) _) 0 _ rfl) Try.underlying29 rfl z1 (.tmp .nil)))) rfl ?_
  exact ⟨_, _, rfl, Kd.R_nil _ _ _ _ _, Kd.R_nil _ _ _ _ _, az (az HF.out.1 (by omega)) (by omega)⟩
 | true =>
 rw [if_pos rfl] at h
 obtain ⟨⟨x, y⟩, hs, h⟩ := oB h
 rw [Option.bind_some] at h
 have HS := aM hs
 clear hs
 split at h
 case isFalse => cases h
 case isTrue hx =>
 rw [Option.bind_some] at h
 split at h
 case isFalse => cases h
 case isTrue hy =>
 have LX : Aside0 (([] : List S58).length + x.length < 2932031007402) := ⟨hx⟩
 have LY : Aside0 (([] : List S58).length + y.length < 2932031007402) := ⟨hy⟩
 rw [List.nil_append, List.nil_append] at h
 obtain ⟨rfl, h3⟩ := Prod.mk.inj (sI h)
 obtain ⟨rfl, rfl⟩ := Prod.mk.inj h3
 clear h h3 hx hy
 go_enter Try.func38, Try.ntmps38
 go_upto_region 4 with (first | (go_at_call 15; (try rw [HWE.out]); refine (spec_GoodRope.calls k _ _ l0_0 _ _ z25 eV.out HG.out).mono ?_; rintro e w1 ⟨rfl, hb⟩; replace HF := aM (SrF.below z23 hb); (try clear cA ig ie f1_ f2_); have cA : w1.cell? ⟨w.heap.size, 0, none⟩ = some (.slice ce l0_0.length ci) := (bC HF.out.2.1 0).trans rfl; have ig : w1.cell? ⟨w.heap.size + 1, 0, none⟩ = some (.slice none 0 0) := (bC HF.out.2.2.1 0).trans rfl; have ie : w1.cell? ⟨w.heap.size + 1 + 1, 0, none⟩ = some (.slice none 0 0) := (bC HF.out.2.2.2.1 0).trans rfl; have f1_ := bF HF.out.2.2.1 0; have f2_ := bF HF.out.2.2.2.1 0; clear hb) | (go_at_call 51; refine (spec_l12Size.calls _ _ l0_0 _ _ z25 eV.out HZ.out).mono ?_; rintro e w2 ⟨rfl, hb⟩; replace hb := hb.below; replace HF := aM (SrF.below z23 hb); (try clear cA ig ie f1_ f2_); have cA : w2.cell? ⟨w.heap.size, 0, none⟩ = some (.slice ce l0_0.length ci) := (bC HF.out.2.1 0).trans rfl; have ig : w2.cell? ⟨w.heap.size + 1, 0, none⟩ = some (.slice none 0 0) := (bC HF.out.2.2.1 0).trans rfl; have ie : w2.cell? ⟨w.heap.size + 1 + 1, 0, none⟩ = some (.slice none 0 0) := (bC HF.out.2.2.2.1 0).trans rfl; have f1_ := bF HF.out.2.2.1 0; have f2_ := bF HF.out.2.2.2.1 0; clear hb) | (go_at_call 50; refine (spec_l1In.calls _ _ _ _ _ HN.out).mono ?_; rintro e w3 ⟨rfl, hb⟩; replace hb := hb.below; replace HF := aM (SrF.below z23 hb); (try clear cA ig ie f1_ f2_); have cA : w3.cell? ⟨w.heap.size, 0, none⟩ = some (.slice ce l0_0.length ci) := (bC HF.out.2.1 0).trans rfl; have ig : w3.cell? ⟨w.heap.size + 1, 0, none⟩ = some (.slice none 0 0) := (bC HF.out.2.2.1 0).trans rfl; have ie : w3.cell? ⟨w.heap.size + 1 + 1, 0, none⟩ = some (.slice none 0 0) := (bC HF.out.2.2.2.1 0).trans rfl; have f1_ := bF HF.out.2.2.1 0; have f2_ := bF HF.out.2.2.2.1 0; clear hb) | (go_at_call 70; refine (split_rd k l0_0 ce ci a1 x y _ z25 eV.out HS.out).mono ?_; rintro e w4 ⟨A5, c5, A6, c6, rfl, hc5, hl5, hc6, hl6, hb⟩; have g6 := aM hc5; have jV := aM hc6; replace HF := aM (SrF.below z23 hb); (try clear cA ig ie f1_ f2_); have cA : w4.cell? ⟨w.heap.size, 0, none⟩ = some (.slice ce l0_0.length ci) := (bC HF.out.2.1 0).trans rfl; have ig : w4.cell? ⟨w.heap.size + 1, 0, none⟩ = some (.slice none 0 0) := (bC HF.out.2.2.1 0).trans rfl; have ie : w4.cell? ⟨w.heap.size + 1 + 1, 0, none⟩ = some (.slice none 0 0) := (bC HF.out.2.2.2.1 0).trans rfl; have f1_ := bF HF.out.2.2.1 0; have f2_ := bF HF.out.2.2.2.1 0; clear hc5 hl5 hc6 hl6 hb))
 have HG0 := HF
 go_upto_region 5 with (first | ((with_reducible refine aN (N := 31) rfl ?_); refine Kd.R_lit k58 (w0 := w4) w4.heap.size 58 ?hg (N := 31) ?hd (xs := ([] : List (S58))) (inner := []) (ok := fun _ => True) (okp := fun _ => True) ?hr ?hp (fun _ hk => hk) trivial (Below.refl _ _) (Nat.le_refl _) (by simp) ?_; (case hd => rfl); (case hg => rfl); (case hr => first | (go_simp; done) | (go_simp; rfl)); (case hp => exact (Reps.none _ _)); intro v1 w5 ho1 hb hg_ hnew_; obtain ⟨A3, c3, eo⟩ := Kd.R_slice ho1; subst eo; have HV1 := aM ho1; have HB1 : Aside0 (Below w4.heap.size w4 w5) := ⟨hb⟩; have HC5n := aM (aG g6.out hb); replace HF := aM (SrF.below z23 hb); (try clear cA ig ie f1_ f2_); have cA : w5.cell? ⟨w.heap.size, 0, none⟩ = some (.slice ce l0_0.length ci) := (bC HF.out.2.1 0).trans rfl; have ig : w5.cell? ⟨w.heap.size + 1, 0, none⟩ = some (.slice none 0 0) := (bC HF.out.2.2.1 0).trans rfl; have ie : w5.cell? ⟨w.heap.size + 1 + 1, 0, none⟩ = some (.slice none 0 0) := (bC HF.out.2.2.2.1 0).trans rfl; have f1_ := bF HF.out.2.2.1 0; have f2_ := bF HF.out.2.2.2.1 0; clear ho1 hb hg_ hnew_) | ((with_reducible refine gate_builtin (b := .append) (xs := #[.tmp 31, .tmp 32]) rfl ?_); at_builtin; refine Kd.R_append_rows k58 (w0 := w4) w4.heap.size rfl (.tmp 31) (.tmp 32) 27 58 (.agg #[(.int .i64 0), (.int .i64 0), (.string ⟨#[]⟩), (.int .i64 0), (.int .i64 0)]) 48 rfl Try.underlying27 info58 rfl z0 (by omega) (.slice A3 0 c3) [] x _ _ _ (fun _ => True) (fun _ => False) rfl rfl ?aO ?aR (fun _ _ h => h) (fun _ h => h.elim) (fun _ _ => trivial) ?aB ?aS ?aL ?_; (case aR => repeat (first | exact HC5n.out | (with_reducible refine aH ?_ _) | (with_reducible refine aI ?_ _) | (with_reducible refine aJ ?_))); (case aB => exact (by repeat (first | (with_reducible first | exact HB1.out | apply bA | apply pD | apply bD) | exact HB1.out))); (case aO => exact (kR_ HV1.out)); (case aS => exact (aC (by repeat (first | (with_reducible first | exact HB1.out | apply bA | apply pD | apply bD) | exact HB1.out)))); (case aL => have := LX.out; simp only [List.length_nil] at *; omega); intro v5 w6 ho hb5 hg hat; rw [List.nil_append] at ho; obtain ⟨A7, c7, eo⟩ := Kd.R_slice ho; subst eo; have HV2 := aM ho; have HBA := aM hb5; replace HF := aM (SrF.below HG0.out hb5); (try clear cA ig ie f1_ f2_); have cA : w6.cell? ⟨w.heap.size, 0, none⟩ = some (.slice ce l0_0.length ci) := (bC HF.out.2.1 0).trans rfl; have ig : w6.cell? ⟨w.heap.size + 1, 0, none⟩ = some (.slice none 0 0) := (bC HF.out.2.2.1 0).trans rfl; have ie : w6.cell? ⟨w.heap.size + 1 + 1, 0, none⟩ = some (.slice none 0 0) := (bC HF.out.2.2.2.1 0).trans rfl; have f1_ := bF HF.out.2.2.1 0; have f2_ := bF HF.out.2.2.2.1 0; clear ho hb5 hg hat))
 obtain ⟨wc, hwc⟩ : ∃ x_, w6.alloc (.cells #[.slice A7 x.length c7] 29) = x_ := ⟨_, rfl⟩
 rw [hwc]
 have hb : Below w6.heap.size w6 wc := by rw [← hwc]; exact bA (Below.refl _ _) _
 have BX : Aside0 (wc.heap[w6.heap.size]? = some (.cells #[.slice A7 x.length c7] 29 (0, 0))) := ⟨by rw [← hwc]; exact blk_new _ _⟩
 have nf_ := aM (SrF.below z23 hb); clear HF; have HF := nf_; clear nf_; (try clear cA ig ie f1_ f2_); have cA : wc.cell? ⟨w.heap.size, 0, none⟩ = some (.slice ce l0_0.length ci) := (bC HF.out.2.1 0).trans rfl; have ig : wc.cell? ⟨w.heap.size + 1, 0, none⟩ = some (.slice none 0 0) := (bC HF.out.2.2.1 0).trans rfl; have ie : wc.cell? ⟨w.heap.size + 1 + 1, 0, none⟩ = some (.slice none 0 0) := (bC HF.out.2.2.2.1 0).trans rfl; have f1_ := bF HF.out.2.2.1 0; have f2_ := bF HF.out.2.2.2.1 0
 have HV3 := aM (ag HV2.out hb)
 have pn := aM (aG (aG jV.out HBA.out) hb)
 have HSZ := aM HG0.out.1.size
 have HGX := aM (ay HG0.out.2.2.2.1)
 have HGY : Aside0 (w4.heap.size ≤ w6.heap.size) := ⟨HBA.out.size⟩
 clear hb hwc HV2 HV1 HB1 g6 jV HBA HG HZ HN HS HWE
 have HG1 := HF
 go_upto_region 6 with (first | ((with_reducible refine aN (N := 35) rfl ?_); refine Kd.R_lit k58 (w0 := wc) wc.heap.size 58 ?hg (N := 35) ?hd (xs := ([] : List (S58))) (inner := []) (ok := fun _ => True) (okp := fun _ => True) ?hr ?hp (fun _ hk => hk) trivial (Below.refl _ _) (Nat.le_refl _) (by simp) ?_; (case hd => rfl); (case hg => rfl); (case hr => first | (go_simp; done) | (go_simp; rfl)); (case hp => exact (Reps.none _ _)); intro v1 w7 ho1 hb hg_ hnew_; obtain ⟨A9, c9, eo⟩ := Kd.R_slice ho1; subst eo; have HY1 := aM ho1; have HB2 : Aside0 (Below wc.heap.size wc w7) := ⟨hb⟩; have HC7n := aM (aG pn.out hb); replace HF := aM (SrF.below z23 hb); (try clear cA ig ie f1_ f2_); have cA : w7.cell? ⟨w.heap.size, 0, none⟩ = some (.slice ce l0_0.length ci) := (bC HF.out.2.1 0).trans rfl; have ig : w7.cell? ⟨w.heap.size + 1, 0, none⟩ = some (.slice none 0 0) := (bC HF.out.2.2.1 0).trans rfl; have ie : w7.cell? ⟨w.heap.size + 1 + 1, 0, none⟩ = some (.slice none 0 0) := (bC HF.out.2.2.2.1 0).trans rfl; have f1_ := bF HF.out.2.2.1 0; have f2_ := bF HF.out.2.2.2.1 0; clear ho1 hb hg_ hnew_) | ((with_reducible refine gate_builtin (b := .append) (xs := #[.tmp 35, .tmp 36]) rfl ?_); at_builtin; refine Kd.R_append_rows k58 (w0 := wc) wc.heap.size rfl (.tmp 35) (.tmp 36) 27 58 (.agg #[(.int .i64 0), (.int .i64 0), (.string ⟨#[]⟩), (.int .i64 0), (.int .i64 0)]) 48 rfl Try.underlying27 info58 rfl z0 (by omega) (.slice A9 0 c9) [] y _ _ _ (fun _ => True) (fun _ => False) rfl rfl ?aO ?aR (fun _ _ h => h) (fun _ h => h.elim) (fun _ _ => trivial) ?aB ?aS ?aL ?_; (case aR => repeat (first | exact HC7n.out | (with_reducible refine aH ?_ _) | (with_reducible refine aI ?_ _) | (with_reducible refine aJ ?_))); (case aB => exact (by repeat (first | (with_reducible first | exact HB2.out | apply bA | apply pD | apply bD) | exact HB2.out))); (case aO => exact (kR_ HY1.out)); (case aS => exact (aC (by repeat (first | (with_reducible first | exact HB2.out | apply bA | apply pD | apply bD) | exact HB2.out)))); (case aL => have := LY.out; simp only [List.length_nil] at *; omega); intro v5 w8 ho hb5 hg hat; rw [List.nil_append] at ho; obtain ⟨A8, c8, eo⟩ := Kd.R_slice ho; subst eo; have HY2 := aM ho; have HBY := aM hb5; replace HF := aM (SrF.below HG1.out hb5); (try clear cA ig ie f1_ f2_); have cA : w8.cell? ⟨w.heap.size, 0, none⟩ = some (.slice ce l0_0.length ci) := (bC HF.out.2.1 0).trans rfl; have ig : w8.cell? ⟨w.heap.size + 1, 0, none⟩ = some (.slice none 0 0) := (bC HF.out.2.2.1 0).trans rfl; have ie : w8.cell? ⟨w.heap.size + 1 + 1, 0, none⟩ = some (.slice none 0 0) := (bC HF.out.2.2.2.1 0).trans rfl; have f1_ := bF HF.out.2.2.1 0; have f2_ := bF HF.out.2.2.2.1 0; clear ho hb5 hg hat))
 obtain ⟨wd, hwc⟩ : ∃ x_, w8.alloc (.cells #[.slice A8 y.length c8] 29) = x_ := ⟨_, rfl⟩
 rw [hwc]
 have hb : Below w8.heap.size w8 wd := by rw [← hwc]; exact bA (Below.refl _ _) _
 have BY : Aside0 (wd.heap[w8.heap.size]? = some (.cells #[.slice A8 y.length c8] 29 (0, 0))) := ⟨by rw [← hwc]; exact blk_new _ _⟩
 have nf_ := aM (SrF.below z23 hb); clear HF; have HF := nf_; clear nf_; (try clear cA ig ie f1_ f2_); have cA : wd.cell? ⟨w.heap.size, 0, none⟩ = some (.slice ce l0_0.length ci) := (bC HF.out.2.1 0).trans rfl; have ig : wd.cell? ⟨w.heap.size + 1, 0, none⟩ = some (.slice none 0 0) := (bC HF.out.2.2.1 0).trans rfl; have ie : wd.cell? ⟨w.heap.size + 1 + 1, 0, none⟩ = some (.slice none 0 0) := (bC HF.out.2.2.2.1 0).trans rfl; have f1_ := bF HF.out.2.2.1 0; have f2_ := bF HF.out.2.2.2.1 0
 have HY3 := aM (ag HY2.out hb)
 have k0 := Kd.R_elder HV3.out HY2.out HBY.out
 have k1 := Kd.R_newR HY2.out HV3.out
 have K0 := aM (ag k0 hb)
 have K1 := aM (ag k1 hb)
 have BX2 := aM (af (af BX.out HBY.out) hb)
 have hgy := ay (af BX.out HBY.out)
 obtain ⟨gx, hgx⟩ : ∃ g, w6.heap.size = g := ⟨_, rfl⟩
 obtain ⟨gy, hgy2⟩ : ∃ g, w8.heap.size = g := ⟨_, rfl⟩
 have hsx : w.heap.size + 1 + 1 < gx := by have := HGX.out; have := HGY.out; omega
 have hsy : gx < gy := by omega
 have hsc : w.heap.size ≤ wc.heap.size := HG1.out.1.size
 rw [hgx] at BX2 ⊢
 rw [hgy2] at BY ⊢
 clear hb hwc hgx hgy2 hgy HY2 HY1 pn HB2 HBY HV3 HY3 k0 k1 BX
 have d1 : wd.cell? ⟨gx, 0, none⟩ = some (.slice A7 x.length c7) := (bC BX2.out 0).trans rfl
 have d2 : wd.cell? ⟨gy, 0, none⟩ = some (.slice A8 y.length c8) := (bC BY.out 0).trans rfl
 have u1 : ¬ w.heap.size + 1 = gx := by omega
 have u2 : ¬ gx = w.heap.size + 1 := by omega
 have u3 : ¬ w.heap.size + 1 + 1 = gx := by omega
 have u4 : ¬ gx = w.heap.size + 1 + 1 := by omega
 have u5 : ¬ w.heap.size + 1 = gy := by omega
 have u6 : ¬ gy = w.heap.size + 1 := by omega
 have u7 : ¬ w.heap.size + 1 + 1 = gy := by omega
 have u8 : ¬ gy = w.heap.size + 1 + 1 := by omega
 have HQ := aM (And.intro hsx (And.intro hsy hsc))
 clear hsx hsy hsc
 go_region
 go_wp2
 refine aU (results_list (rs := [.cell 4 29, .cell 5 29, .tmp 6]) rfl (by simp) (.cell (w.heap.size + 1) 29 #[.slice A7 x.length c7] (0, 0) _ rfl (by exact ar (aw (ax (cs := #[.slice none 0 0]) HF.out.2.2.1 0 _ rfl) (by simp) _)) Try.underlying29 rfl z1 (.cell (w.heap.size + 1 + 1) 29 #[.slice A8 y.length c8] (0, 0) _ rfl (by exact ar (ax (cs := #[.slice none 0 0]) (aw HF.out.2.2.2.1 (by simp) _) 0 _ rfl)) Try.underlying29 rfl z1 (.tmp .nil)))) rfl ?_
 have s0 := aa (Kd.R_set (Kd.R_set (aW K0.out HSZ.out) HF.out.2.2.1 z0 0 (.slice A7 x.length c7)) (aw (p := ⟨w.heap.size + 1, 0, none⟩) HF.out.2.2.2.1 (by simp) (.slice A7 x.length c7)) z0 0 (.slice A8 y.length c8))
 have s1 := aa (Kd.R_set (Kd.R_set (aW K1.out (base' := w.heap.size) HQ.out.2.2) HF.out.2.2.1 z0 0 (.slice A7 x.length c7)) (aw (p := ⟨w.heap.size + 1, 0, none⟩) HF.out.2.2.2.1 (by simp) (.slice A7 x.length c7)) z0 0 (.slice A8 y.length c8))
 exact ⟨_, _, rfl, ah s0 (fun _ hk => hk.2), ah s1 (fun _ hk => hk.2), below_drew (az (az HF.out.1 (by omega)) (by omega))⟩

/-! ### spec_l12Pieces: function 65 -/
def spec_l12Pieces.l0 : Nat → List ByteArray → List (S58) → Int → Int → Option (List ByteArray)
 | 0, _, _, _, _ => none
 | k + 1, x3, x6, x7, x8 => if x8 < x7 then (if 0 ≤ x8 then (if x8 < (x6.length : Int) then (if ((rd_T58 x6 x8).f0) < 0 then (if x3.length < 8796093022208 then (spec_l12Pieces.l0 k (x3 ++ [(rd_T58 x6 x8).f2]) x6 x7 (wrap64 (x8 + 1))) else (none)) else (spec_l12Pieces.l0 k x3 x6 x7 (wrap64 (x8 + 1)))) else (none)) else (none)) else (some x3)
def spec_l12Pieces.f (k : Nat) (l0 : List (S58)) : Option (List ByteArray) := spec_l12Pieces.l0 k ([] : List ByteArray) l0 (l0.length : Int) 0
theorem spec_l12Pieces.mono_l : ∀ k, (∀ y0 y1 y2 y3, LeO (spec_l12Pieces.l0 k y0 y1 y2 y3) (spec_l12Pieces.l0 (k + 1) y0 y1 y2 y3))
 | 0 => fun _ _ _ _ r h => by simp [spec_l12Pieces.l0] at h
 | k + 1 => by
  have ih0 := spec_l12Pieces.mono_l k
  ·intro y0 y1 y2 y3
   unfold spec_l12Pieces.l0
   repeat' first
   | (with_reducible exact ih0 _ _ _ _)
   | (with_reducible exact LeO.refl _)
   | (with_reducible exact LeO.none _)
   | (with_reducible refine LeO.ite ?_ ?_)
   | (with_reducible refine LeO.bind ?_ (fun _ => ?_))
theorem spec_l12Pieces.mono : ∀ a0 k, LeO (spec_l12Pieces.f k a0) (spec_l12Pieces.f (k + 1) a0) := by
 intro a0 k
 have ih0 := spec_l12Pieces.mono_l k
 unfold spec_l12Pieces.f
 repeat' first
   | (with_reducible exact ih0 _ _ _ _)
   | (with_reducible exact LeO.refl _)
   | (with_reducible exact LeO.none _)
   | (with_reducible refine LeO.ite ?_ ?_)
   | (with_reducible refine LeO.bind ?_ (fun _ => ?_))
set_option maxHeartbeats 8000000 in
set_option maxRecDepth 100000 in
theorem spec_l12Pieces.calls (k : Nat) (A0 : Option Addr) (c0 : Nat) (l0 : List (S58)) (r : List ByteArray) (w : World) (hr0 : Kd.C k58 w A0 l0.length l0) (hc0 : l0.length ≤ c0) (h : spec_l12Pieces.f k l0 = some r) :
  Calls Try.prog 65 #[.slice A0 l0.length c0] w fun e w' => ∃ v0_ : Value, e = .returned (v0_) ∧ Kd.R Kd.string 9 w' w.heap.size (fun _ => True) v0_ r ∧ Below w.heap.size w w' := by
 have hu58 := Try.underlying58
 have em := aM hr0
 have eV := aM hc0
 clear hr0 hc0
 have HB := aM (Below.refl w.heap.size w)
 have H : (spec_l12Pieces.l0 k ([] : List ByteArray) l0 (l0.length : Int) 0) = some r := h
 clear h
 have H' := aM H
 clear H
 go_enter Try.func65, Try.ntmps65
 go_wp2
 go_loopg [3, 8] k (fun kq v3 v8 w' => ∃ (x3_1 : List ByteArray) (x8_1 : Int), v8 = .int .i64 x8_1 ∧ Aside0 (spec_l12Pieces.l0 kq x3_1 l0 (l0.length : Int) x8_1 = some r) ∧ Aside0 (kq ≤ k) ∧ Aside0 (Kd.R Kd.string 9 w' w.heap.size (fun _ => True) v3 x3_1) ∧ Aside0 (Below w.heap.size w w'))
 case atStart => exact ⟨(([] : List ByteArray)), (0), z2, H', ⟨Nat.le_refl _⟩, ⟨y12⟩, ⟨y5⟩⟩
 case round =>
  clear H'
  obtain ⟨x3_1, x8_1, rfl, HA, HK1, fg, HB⟩ := hrel
  cases gk with
  | zero => exact absurd HA.out (by simp [spec_l12Pieces.l0])
  | succ k1 =>
   have H := HA.out
   clear HA
   simp only [spec_l12Pieces.l0] at H
   by_cases c2 : x8_1 < (l0.length : Int)
   ·rw [if_pos c2] at H
    have c2b0 : decide (x8_1 < (l0.length : Int)) = true := dT c2
    clear c2
    by_cases c3 : 0 ≤ x8_1
    ·rw [if_pos c3] at H
     have c3b0 : decide (0 ≤ x8_1) = true := dT c3
     clear c3
     by_cases c4 : x8_1 < (l0.length : Int)
     ·rw [if_pos c4] at H
      have c4b0 : decide (x8_1 < (l0.length : Int)) = true := dT c4
      clear c4
      by_cases c5 : ((rd_T58 l0 x8_1).f0) < 0
      ·rw [if_pos c5] at H
       have c5b0 : decide (((rd_T58 l0 x8_1).f0) < 0) = true := dT c5
       clear c5
       by_cases c6 : x3_1.length < 8796093022208
       ·rw [if_pos c6] at H
        have LMc6 := aM c6
        clear c6
        obtain ⟨y233, hy233⟩ : ∃ y_ : List ByteArray, y_ = (x3_1 ++ [(rd_T58 l0 x8_1).f2]) := ⟨_, rfl⟩
        replace H : (spec_l12Pieces.l0 k1 y233 l0 (l0.length : Int) (wrap64 (x8_1 + 1))) = some r := by first | (rw [hy233]; with_reducible exact H) | (have H2_ := (Option.bind_some _ _).symm.trans H; rw [hy233]; with_reducible exact H2_) | (have H2_ := (Option.bind_some _ _).symm.trans H; with_reducible exact H2_) | with_reducible exact H | (rw [hy233]; exact H) | exact H
        have Ny233 := aM hy233
        clear hy233
        have H' := aM H
        clear H
        have p231 : 0 ≤ (x8_1 : Int) := oD z3
        have q231 : x8_1 < (l0.length : Int) := oD z3
        obtain ⟨ad231, e231, hx231_0, hx231_1, hx231_2, hx231_3, hx231_4⟩ := at_T58 em.out x8_1 p231 q231
        cases e231
        replace hx231_0 := (HB.out.cell (World.block_lt_of_cell? w _ hx231_0)).trans hx231_0
        replace hx231_1 := (HB.out.cell (World.block_lt_of_cell? w _ hx231_1)).trans hx231_1
        replace hx231_2 := (HB.out.cell (World.block_lt_of_cell? w _ hx231_2)).trans hx231_2
        replace hx231_3 := (HB.out.cell (World.block_lt_of_cell? w _ hx231_3)).trans hx231_3
        replace hx231_4 := (HB.out.cell (World.block_lt_of_cell? w _ hx231_4)).trans hx231_4
        replace p231 := eq_true p231
        replace q231 := eq_true q231
        go_wp2_with (first | ((with_reducible refine aN (N := 5) rfl ?_); refine aQ ?hg (N := 5) ?hd (cs := #[.int .i64 0, .int .i64 0, .string ⟨#[]⟩, .int .i64 0, .int .i64 0]) (t := 58) ?hr ?_; (case hd => rfl); (case hg => rfl); (case hr => first | (go_simp; done) | (go_simp; rfl)); intro eb hg w7 hbox hb; replace fg := aM (ag (kR_ fg.out) hb); have ea := aM (hbox); have GW232 := aM ((by rw [hg]; exact (aC z20) : w.heap.size ≤ eb)); have lG := aM ((by rw [hg]; exact (aC z20) : w.heap.size ≤ eb)); replace HB := aM (aA z20 hb); clear hb hbox hg; obtain ⟨ja, i7, i6, hcz8_3, hcz8_4, kk, iZ, iY, hfz8_3, hfz8_4⟩ := cc5 ea.out) | ((with_reducible refine gate_builtin (b := .append) (xs := #[.tmp 15, .tmp 18]) rfl ?_); at_builtin; refine Kd.R_append Kd.string (w0 := w) w.heap.size rfl (.tmp 15) (.tmp 18) 44 9 (.string ⟨#[]⟩) 16 rfl Try.underlying44 info9 rfl z0 (by omega) u3 x3_1 ((rd_T58 l0 x8_1).f2) [.string ((rd_T58 l0 x8_1).f2)] (fun _ => True) (fun _ => False) rfl (by first | (go_simp; done) | (go_simp; rfl)) ?aP (fun _ hk => hk.elim) ?aF ?aO ?aB ?aS ?aL ?_; (case aP => exact rfl); (case aB => exact (by repeat (first | (with_reducible first | exact HB.out | apply bA | apply pD | apply bD | refine az ?_ lG.out) | exact HB.out))); (case aF => exact (fun _ _ => trivial)); (case aO => exact (by (with_reducible repeat (first | apply ae | apply ac | apply aa)); exact ah (ap (p := ⟨eb, 4, none⟩) (ap (p := ⟨eb, 3, none⟩) (ap (p := ⟨eb, 2, none⟩) (ap (p := ⟨eb, 1, none⟩) (ap (p := ⟨eb, 0, none⟩) (aq fg.out ea.out z0) (fun _ hk => hk.2) (.int .i64 ((rd_T58 l0 x8_1).f0))) (fun _ hk => hk.2) (.int .i64 ((rd_T58 l0 x8_1).f1))) (fun _ hk => hk.2) (.string ((rd_T58 l0 x8_1).f2))) (fun _ hk => hk.2) (.int .i64 ((rd_T58 l0 x8_1).f3))) (fun _ hk => hk.2) (.int .i64 ((rd_T58 l0 x8_1).f4))) (fun _ hk => trivial))); (case aS => exact (aC (by repeat (first | (with_reducible first | exact HB.out | apply bA | apply pD | apply bD | refine az ?_ lG.out) | exact HB.out)))); (case aL => have := LMc6.out; omega); intro v234 w9 ho hb hg hat; rw [← Ny233.out] at ho; replace ea := aM (blk_grown (g := eb) (o := .cells #[.int .i64 ((rd_T58 l0 x8_1).f0), .int .i64 ((rd_T58 l0 x8_1).f1), .string ((rd_T58 l0 x8_1).f2), .int .i64 ((rd_T58 l0 x8_1).f3), .int .i64 ((rd_T58 l0 x8_1).f4)] 58 (0, 0)) (by (with_reducible repeat (first | refine au ?_ _ | refine ar ?_ | refine av ?_ _)); refine ax (cs := #[.int .i64 ((rd_T58 l0 x8_1).f0), .int .i64 ((rd_T58 l0 x8_1).f1), .string ((rd_T58 l0 x8_1).f2), .int .i64 ((rd_T58 l0 x8_1).f3), .int .i64 0]) ?_ 4 _ rfl; (with_reducible repeat (first | refine au ?_ _ | refine ar ?_ | refine av ?_ _)); refine ax (cs := #[.int .i64 ((rd_T58 l0 x8_1).f0), .int .i64 ((rd_T58 l0 x8_1).f1), .string ((rd_T58 l0 x8_1).f2), .int .i64 0, .int .i64 0]) ?_ 3 _ rfl; (with_reducible repeat (first | refine au ?_ _ | refine ar ?_ | refine av ?_ _)); refine ax (cs := #[.int .i64 ((rd_T58 l0 x8_1).f0), .int .i64 ((rd_T58 l0 x8_1).f1), .string ⟨#[]⟩, .int .i64 0, .int .i64 0]) ?_ 2 _ rfl; (with_reducible repeat (first | refine au ?_ _ | refine ar ?_ | refine av ?_ _)); refine ax (cs := #[.int .i64 ((rd_T58 l0 x8_1).f0), .int .i64 0, .string ⟨#[]⟩, .int .i64 0, .int .i64 0]) ?_ 1 _ rfl; (with_reducible repeat (first | refine au ?_ _ | refine ar ?_ | refine av ?_ _)); refine ax (cs := #[.int .i64 0, .int .i64 0, .string ⟨#[]⟩, .int .i64 0, .int .i64 0]) ?_ 0 _ rfl; (with_reducible repeat (first | refine au ?_ _ | refine ar ?_ | refine av ?_ _)); exact ea.out) hg (Kd.R_ne fg.out ea.out z0)); replace HB := aM (hb); have HO235 := aM (ho); clear fg; clear ho hb hg hat))
        go_roundg k1
        case measure => have := HK1.out; omega
        case rel => exact ⟨(y233), (wrap64 (x8_1 + 1)), z2, H', ⟨y0⟩, ⟨kR_ HO235.out⟩, ⟨by repeat (first | (with_reducible first | exact HB.out | apply bA | apply pD | apply bD | refine az ?_ lG.out) | exact HB.out)⟩⟩
       ·rw [if_neg c6] at H
        exact absurd H (by simp)
      ·rw [if_neg c5] at H
       have c5b0 : decide (((rd_T58 l0 x8_1).f0) < 0) = false := dF c5
       clear c5
       have H' := aM H
       clear H
       have p231 : 0 ≤ (x8_1 : Int) := oD z3
       have q231 : x8_1 < (l0.length : Int) := oD z3
       obtain ⟨ad231, e231, hx231_0, hx231_1, hx231_2, hx231_3, hx231_4⟩ := at_T58 em.out x8_1 p231 q231
       cases e231
       replace hx231_0 := (HB.out.cell (World.block_lt_of_cell? w _ hx231_0)).trans hx231_0
       replace hx231_1 := (HB.out.cell (World.block_lt_of_cell? w _ hx231_1)).trans hx231_1
       replace hx231_2 := (HB.out.cell (World.block_lt_of_cell? w _ hx231_2)).trans hx231_2
       replace hx231_3 := (HB.out.cell (World.block_lt_of_cell? w _ hx231_3)).trans hx231_3
       replace hx231_4 := (HB.out.cell (World.block_lt_of_cell? w _ hx231_4)).trans hx231_4
       replace p231 := eq_true p231
       replace q231 := eq_true q231
       go_wp2_with (first | ((with_reducible refine aN (N := 5) rfl ?_); refine aQ ?hg (N := 5) ?hd (cs := #[.int .i64 0, .int .i64 0, .string ⟨#[]⟩, .int .i64 0, .int .i64 0]) (t := 58) ?hr ?_; (case hd => rfl); (case hg => rfl); (case hr => first | (go_simp; done) | (go_simp; rfl)); intro eb hg w10 hbox hb; replace fg := aM (ag (kR_ fg.out) hb); have ea := aM (hbox); have GW232 := aM ((by rw [hg]; exact (aC z20) : w.heap.size ≤ eb)); have lG := aM ((by rw [hg]; exact (aC z20) : w.heap.size ≤ eb)); replace HB := aM (aA z20 hb); clear hb hbox hg; obtain ⟨nx, nw, nv, hcz11_3, hcz11_4, mK, mJ, mI, hfz11_3, hfz11_4⟩ := cc5 ea.out))
       go_roundg k1
       case measure => have := HK1.out; omega
       case rel => exact ⟨(x3_1), (wrap64 (x8_1 + 1)), z2, H', ⟨y0⟩, ⟨by (with_reducible repeat (first | apply ae | apply ac | apply aa)); exact ah (ap (p := ⟨eb, 4, none⟩) (ap (p := ⟨eb, 3, none⟩) (ap (p := ⟨eb, 2, none⟩) (ap (p := ⟨eb, 1, none⟩) (ap (p := ⟨eb, 0, none⟩) (aq fg.out ea.out z0) (fun _ hk => hk.2) (.int .i64 ((rd_T58 l0 x8_1).f0))) (fun _ hk => hk.2) (.int .i64 ((rd_T58 l0 x8_1).f1))) (fun _ hk => hk.2) (.string ((rd_T58 l0 x8_1).f2))) (fun _ hk => hk.2) (.int .i64 ((rd_T58 l0 x8_1).f3))) (fun _ hk => hk.2) (.int .i64 ((rd_T58 l0 x8_1).f4))) (fun _ hk => trivial)⟩, ⟨by repeat (first | (with_reducible first | exact HB.out | apply bA | apply pD | apply bD | refine az ?_ lG.out) | exact HB.out)⟩⟩
     ·rw [if_neg c4] at H
      exact absurd H (by simp)
    ·rw [if_neg c3] at H
     exact absurd H (by simp)
   ·rw [if_neg c2] at H
    have c2b0 : decide (x8_1 < (l0.length : Int)) = false := dF c2
    clear c2
    obtain rfl := sI H
    go_wp2
    go_ret
    exact ⟨_, y4, by (with_reducible repeat (first | apply ae | apply ac | apply aa)); exact fg.out, y5⟩

/-! ### spec_l12Text: function 54 -/
def spec_l12Text.l0 : Nat → ByteArray → List ByteArray → Int → Int → Option (ByteArray)
 | 0, _, _, _, _ => none
 | k + 1, x3, x7, x8, x9 => if x9 < x8 then (if 0 ≤ x9 then (if x9 < (x7.length : Int) then (if x3.size + (rdOf ByteArray.empty x7 x9).size ≤ 9223372036854775807 then (spec_l12Text.l0 k (x3 ++ (rdOf ByteArray.empty x7 x9)) x7 x8 (wrap64 (x9 + 1))) else (none)) else (none)) else (none)) else (some x3)
def spec_l12Text.f (k : Nat) (l0 : List (S58)) : Option (ByteArray) := (spec_l12Pieces.f k l0).bind fun fq => (spec_l12Text.l0 k (⟨#[]⟩ : ByteArray) fq (fq.length : Int) 0)
theorem spec_l12Text.mono_l : ∀ k, (∀ y0 y1 y2 y3, LeO (spec_l12Text.l0 k y0 y1 y2 y3) (spec_l12Text.l0 (k + 1) y0 y1 y2 y3))
 | 0 => fun _ _ _ _ r h => by simp [spec_l12Text.l0] at h
 | k + 1 => by
  have ih0 := spec_l12Text.mono_l k
  ·intro y0 y1 y2 y3
   unfold spec_l12Text.l0
   repeat' first
   | (with_reducible exact ih0 _ _ _ _)
   | (with_reducible exact spec_l12Pieces.mono _ _)
   | (with_reducible exact LeO.refl _)
   | (with_reducible exact LeO.none _)
   | (with_reducible refine LeO.ite ?_ ?_)
   | (with_reducible refine LeO.bind ?_ (fun _ => ?_))
theorem spec_l12Text.mono : ∀ a0 k, LeO (spec_l12Text.f k a0) (spec_l12Text.f (k + 1) a0) := by
 intro a0 k
 have ih0 := spec_l12Text.mono_l k
 unfold spec_l12Text.f
 repeat' first
   | (with_reducible exact ih0 _ _ _ _)
   | (with_reducible exact spec_l12Pieces.mono _ _)
   | (with_reducible exact LeO.refl _)
   | (with_reducible exact LeO.none _)
   | (with_reducible refine LeO.ite ?_ ?_)
   | (with_reducible refine LeO.bind ?_ (fun _ => ?_))
set_option maxHeartbeats 8000000 in
set_option maxRecDepth 100000 in
theorem spec_l12Text.calls (k : Nat) (A0 : Option Addr) (c0 : Nat) (l0 : List (S58)) (r : ByteArray) (w : World) (hr0 : Kd.C k58 w A0 l0.length l0) (hc0 : l0.length ≤ c0) (h : spec_l12Text.f k l0 = some r) :
  Calls Try.prog 54 #[.slice A0 l0.length c0] w fun e w' => e = .returned (.string r) ∧ Below w.heap.size w w' := by
 have em := aM hr0
 have eV := aM hc0
 clear hr0 hc0
 have HB := aM (Below.refl w.heap.size w)
 have H : ((spec_l12Pieces.f k l0).bind fun fq => (spec_l12Text.l0 k (⟨#[]⟩ : ByteArray) fq (fq.length : Int) 0)) = some r := h
 clear h
 obtain ⟨fq, A2, H⟩ := oA_ H
 try dsimp only at H
 have H' := aM H
 clear H
 go_enter Try.func54, Try.ntmps54
 go_wp2_with (first | ((with_reducible refine aK (f := 65) rfl ?_); refine aT (some 7) rfl rfl Try.func65 z1 rfl #[.slice A0 l0.length c0] rfl z21 ?_; (with_reducible refine (spec_l12Pieces.calls k _ _ l0 fq _ ?side1 ?side2 A2.out).mono ?_); (case side1 => exact y33); (case side2 => exact eV.out); rintro e w3 ⟨v237, rfl, ho0, hb⟩; refine ⟨_, rfl, ?_⟩; have qj := aM (aW ho0 (aC z20)); replace HB := aM (aA z20 hb); (try clear hb); (try clear ho0); obtain ⟨Ao4, co4, eo4⟩ := Kd.R_slice qj.out; subst eo4))
 go_loopg [3, 9] k (fun kq v3 v9 w' => ∃ (x3_1 : ByteArray) (x9_1 : Int), v3 = .string x3_1 ∧ v9 = .int .i64 x9_1 ∧ Aside0 (spec_l12Text.l0 kq x3_1 fq (fq.length : Int) x9_1 = some r) ∧ Aside0 (kq ≤ k) ∧ Aside0 (Kd.R Kd.string 9 w' w.heap.size (fun _ => True) (.slice Ao4 fq.length co4) fq) ∧ Aside0 (Below w.heap.size w w'))
 case atStart => exact ⟨((⟨#[]⟩ : ByteArray)), (0), z2, z2, H', ⟨Nat.le_refl _⟩, ⟨kR_ qj.out⟩, ⟨y5⟩⟩
 case round =>
  clear H'
  obtain ⟨x3_1, x9_1, rfl, rfl, HA, HK1, sr, HB⟩ := hrel
  cases gk with
  | zero => exact absurd HA.out (by simp [spec_l12Text.l0])
  | succ k1 =>
   have H := HA.out
   clear HA
   simp only [spec_l12Text.l0] at H
   by_cases c5 : x9_1 < (fq.length : Int)
   ·rw [if_pos c5] at H
    have c5b0 : decide (x9_1 < (fq.length : Int)) = true := dT c5
    clear c5
    by_cases c6 : 0 ≤ x9_1
    ·rw [if_pos c6] at H
     have c6b0 : decide (0 ≤ x9_1) = true := dT c6
     clear c6
     by_cases c7 : x9_1 < (fq.length : Int)
     ·rw [if_pos c7] at H
      have c7b0 : decide (x9_1 < (fq.length : Int)) = true := dT c7
      clear c7
      by_cases c8 : x3_1.size + (rdOf ByteArray.empty fq x9_1).size ≤ 9223372036854775807
      ·rw [if_pos c8] at H
       have c8b0 := eq_true c8
       have c8b1 : decide (x3_1.size + (rdOf ByteArray.empty fq x9_1).size ≤ 9223372036854775807) = true := dT c8
       try have c8b2 : (9223372036854775807 < x3_1.size + (rdOf ByteArray.empty fq x9_1).size) = False := eq_false (Nat.not_lt.2 c8)
       have H' := aM H
       clear H
       have p239 : 0 ≤ (x9_1 : Int) := oD z3
       have q239 : x9_1 < (fq.length : Int) := oD z3
       obtain ⟨ad239, e239, hx239_0⟩ := Kd.at_string (ai sr.out).2.2 x9_1 p239 q239
       cases e239
       replace p239 := eq_true p239
       replace q239 := eq_true q239
       go_wp2
       go_roundg k1
       case measure => have := HK1.out; omega
       case rel => exact ⟨(x3_1 ++ (rdOf ByteArray.empty fq x9_1)), (wrap64 (x9_1 + 1)), z2, z2, H', ⟨y0⟩, ⟨kR_ sr.out⟩, ⟨y5⟩⟩
      ·rw [if_neg c8] at H
       exact absurd H (by simp)
     ·rw [if_neg c7] at H
      exact absurd H (by simp)
    ·rw [if_neg c6] at H
     exact absurd H (by simp)
   ·rw [if_neg c5] at H
    have c5b0 : decide (x9_1 < (fq.length : Int)) = false := dF c5
    clear c5
    obtain rfl := sI H
    go_wp2
    go_ret
    exact ⟨y4, y5⟩

/-! ### spec_l1Cur_plainText: function 90 -/
def spec_l1Cur_plainText.f (k : Nat) (s0_0 : List Int) (s0_1 : Int) (s0_2 : Int) : Option (ByteArray × Int × Int) := (spec_l1Cur_doc.f k s0_0 s0_1 s0_2).bind fun dP => ((spec_GoodText.f k dP.1).bind fun oo => (if oo = true then (if (dP.1.size : Int) > 40 then ((spec_l1Cur_one.f s0_0 dP.2.1 dP.2.2 20).bind fun gm => (if gm.1 = true then (some (dP.1, gm.2.1, gm.2.2)) else (if 0 ≤ 40 then (if 40 ≤ (dP.1.size : Int) then (some (dP.1.extract 0 40, gm.2.1, gm.2.2)) else (none)) else (none)))) else (some (dP.1, dP.2.1, dP.2.2))) else (if 4 > 40 then ((spec_l1Cur_one.f s0_0 dP.2.1 dP.2.2 20).bind fun gj => (if gj.1 = true then (some ((⟨#[116, 101, 120, 116]⟩ : ByteArray), gj.2.1, gj.2.2)) else (if 0 ≤ 40 then (if 40 ≤ 4 then (some ((⟨#[116, 101, 120, 116]⟩ : ByteArray).extract 0 40, gj.2.1, gj.2.2)) else (none)) else (none)))) else (some ((⟨#[116, 101, 120, 116]⟩ : ByteArray), dP.2.1, dP.2.2)))))
theorem spec_l1Cur_plainText.mono : ∀ a0 a1 a2 k, LeO (spec_l1Cur_plainText.f k a0 a1 a2) (spec_l1Cur_plainText.f (k + 1) a0 a1 a2) := by
 intro a0 a1 a2 k
 unfold spec_l1Cur_plainText.f
 repeat' first
   | (with_reducible exact spec_GoodText.mono _ _)
   | (with_reducible exact spec_l1Cur_doc.mono _ _ _ _)
   | (with_reducible exact LeO.refl _)
   | (with_reducible exact LeO.none _)
   | (with_reducible refine LeO.ite ?_ ?_)
   | (with_reducible refine LeO.bind ?_ (fun _ => ?_))
set_option maxHeartbeats 8000000 in
set_option maxRecDepth 100000 in
theorem spec_l1Cur_plainText.calls (k : Nat) (g : Nat) (s0_0 : List Int) (s0_1 : Int) (s0_2 : Int) (r1 : ByteArray) (r2 : Int) (r3 : Int) (w0 w : World) (hI : IsS95 w0 w g s0_0 s0_1 s0_2) (hB : Below w0.heap.size w0 w) (h : spec_l1Cur_plainText.f k s0_0 s0_1 s0_2 = some (r1, r2, r3)) :
  Calls Try.prog 90 #[.pointer (some ⟨g, 0, none⟩)] w fun e w' => e = .returned (.string r1) ∧ IsS95 w0 w' g s0_0 r2 r3 ∧ Below w0.heap.size w0 w' ∧ KeepBut w w' g none := by
 have HI0 := aM hI
 have HK := aM (KeepBut.refl w g none)
 have HL := aM hB.size
 clear hI
 have HW0 := aM hB.size
 have HB := aM hB
 clear hB
 have H : ((spec_l1Cur_doc.f k s0_0 s0_1 s0_2).bind fun dP => ((spec_GoodText.f k dP.1).bind fun oo => (if oo = true then (if (dP.1.size : Int) > 40 then ((spec_l1Cur_one.f s0_0 dP.2.1 dP.2.2 20).bind fun gm => (if gm.1 = true then (some (dP.1, gm.2.1, gm.2.2)) else (if 0 ≤ 40 then (if 40 ≤ (dP.1.size : Int) then (some (dP.1.extract 0 40, gm.2.1, gm.2.2)) else (none)) else (none)))) else (some (dP.1, dP.2.1, dP.2.2))) else (if 4 > 40 then ((spec_l1Cur_one.f s0_0 dP.2.1 dP.2.2 20).bind fun gj => (if gj.1 = true then (some ((⟨#[116, 101, 120, 116]⟩ : ByteArray), gj.2.1, gj.2.2)) else (if 0 ≤ 40 then (if 40 ≤ 4 then (some ((⟨#[116, 101, 120, 116]⟩ : ByteArray).extract 0 40, gj.2.1, gj.2.2)) else (none)) else (none)))) else (some ((⟨#[116, 101, 120, 116]⟩ : ByteArray), dP.2.1, dP.2.2)))))) = some (r1, r2, r3) := h
 clear h
 obtain ⟨⟨fK, nN, nM⟩, A2, H⟩ := oA_ H
 try dsimp only at H
 obtain ⟨oo, A3, H⟩ := oA_ H
 try dsimp only at H
 by_cases c4 : oo = true
 ·subst c4
  rw [if_pos rfl] at H
  by_cases c5 : (fK.size : Int) > 40
  ·rw [if_pos c5] at H
   have c5b0 : decide (40 < (fK.size : Int)) = true := dT c5
   have c5b1 : decide (40 < fK.size) = true := dT (by omega)
   clear c5
   obtain ⟨⟨t244, rS, rR⟩, A6, H⟩ := oA_ H
   try dsimp only at H
   by_cases c7 : t244 = true
   ·subst c7
    rw [if_pos rfl] at H
    simp only [Option.some.injEq, Prod.mk.injEq] at H
    obtain ⟨rfl, rfl, rfl⟩ := H
    go_enter Try.func90, Try.ntmps90
    go_wp2_with (first | ((with_reducible refine aK (f := 72) rfl ?_); refine aT (some 5) rfl rfl Try.func72 z1 rfl #[.pointer (some ⟨g, 0, none⟩)] rfl z21 ?_; (with_reducible refine (spec_l1Cur_doc.calls k g s0_0 s0_1 s0_2 fK nN nM w0 _ ?side1 ?side2 A2.out).mono ?_); (case side1 => exact y44); (case side2 => exact y34); rintro e w8 ⟨rfl, hi, hb, hk⟩; refine ⟨_, rfl, ?_⟩; replace HK := aM (KeepBut.trans z22 hk (.inl rfl)); replace HB := aM (hb); replace HI0 := aM (hi); (try clear hb); (try clear hk); (try clear hi); (try clear dX)) | ((with_reducible refine aK (f := 56) rfl ?_); refine aT (some 7) rfl rfl Try.func56 z1 rfl #[.string fK] rfl z21 ?_; (with_reducible refine (spec_GoodText.calls k fK true _ A3.out).mono ?_); rintro e w' ⟨rfl, ⟨nd, rfl⟩⟩; refine ⟨_, rfl, ?_⟩) | (go_at_call 88; (with_reducible refine (spec_l1Cur_one.calls g s0_0 nN nM 20 true rS rR w0 _ ?side1 ?side2 A6.out).mono ?_); (case side1 => exact y44); (case side2 => exact y34); rintro e w9 ⟨rfl, hi, hb, hk⟩; replace HK := aM (KeepBut.trans z22 hk (.inl rfl)); replace HB := aM (hb); replace HI0 := aM (hi); (try clear hb); (try clear hk); (try clear hi); (try clear dX)))
    go_ret
    exact ⟨y4, y19, y13, y14⟩
   ·replace c7 := Bool.eq_false_iff.mpr c7
    subst c7
    rw [if_neg nF_] at H
    by_cases eH : 0 ≤ 40
    ·rw [if_pos eH] at H
     have c10b0 := eq_true eH
     have c10b1 : decide (0 ≤ 40) = true := dT eH
     clear eH
     by_cases e9 : 40 ≤ (fK.size : Int)
     ·rw [if_pos e9] at H
      have c11b0 := eq_true e9
      have c11b1 : decide (40 ≤ (fK.size : Int)) = true := dT e9
      clear e9
      simp only [Option.some.injEq, Prod.mk.injEq] at H
      obtain ⟨rfl, rfl, rfl⟩ := H
      go_enter Try.func90, Try.ntmps90
      go_wp2_with (first | ((with_reducible refine aK (f := 72) rfl ?_); refine aT (some 5) rfl rfl Try.func72 z1 rfl #[.pointer (some ⟨g, 0, none⟩)] rfl z21 ?_; (with_reducible refine (spec_l1Cur_doc.calls k g s0_0 s0_1 s0_2 fK nN nM w0 _ ?side1 ?side2 A2.out).mono ?_); (case side1 => exact y44); (case side2 => exact y34); rintro e w12 ⟨rfl, hi, hb, hk⟩; refine ⟨_, rfl, ?_⟩; replace HK := aM (KeepBut.trans z22 hk (.inl rfl)); replace HB := aM (hb); replace HI0 := aM (hi); (try clear hb); (try clear hk); (try clear hi); (try clear dX)) | ((with_reducible refine aK (f := 56) rfl ?_); refine aT (some 7) rfl rfl Try.func56 z1 rfl #[.string fK] rfl z21 ?_; (with_reducible refine (spec_GoodText.calls k fK true _ A3.out).mono ?_); rintro e w' ⟨rfl, ⟨nd, rfl⟩⟩; refine ⟨_, rfl, ?_⟩) | (go_at_call 88; (with_reducible refine (spec_l1Cur_one.calls g s0_0 nN nM 20 false rS rR w0 _ ?side1 ?side2 A6.out).mono ?_); (case side1 => exact y44); (case side2 => exact y34); rintro e w13 ⟨rfl, hi, hb, hk⟩; replace HK := aM (KeepBut.trans z22 hk (.inl rfl)); replace HB := aM (hb); replace HI0 := aM (hi); (try clear hb); (try clear hk); (try clear hi); (try clear dX)))
      go_ret
      exact ⟨y4, y19, y13, y14⟩
     ·rw [if_neg e9] at H
      exact absurd H (by simp)
    ·exact absurd z0 eH
  ·rw [if_neg c5] at H
   have c5b0 : decide (40 < (fK.size : Int)) = false := dF c5
   have c5b1 : decide (40 < fK.size) = false := dF (by omega)
   clear c5
   simp only [Option.some.injEq, Prod.mk.injEq] at H
   obtain ⟨rfl, rfl, rfl⟩ := H
   go_enter Try.func90, Try.ntmps90
   go_wp2_with (first | ((with_reducible refine aK (f := 72) rfl ?_); refine aT (some 5) rfl rfl Try.func72 z1 rfl #[.pointer (some ⟨g, 0, none⟩)] rfl z21 ?_; (with_reducible refine (spec_l1Cur_doc.calls k g s0_0 s0_1 s0_2 fK nN nM w0 _ ?side1 ?side2 A2.out).mono ?_); (case side1 => exact y44); (case side2 => exact y34); rintro e w14 ⟨rfl, hi, hb, hk⟩; refine ⟨_, rfl, ?_⟩; replace HK := aM (KeepBut.trans z22 hk (.inl rfl)); replace HB := aM (hb); replace HI0 := aM (hi); (try clear hb); (try clear hk); (try clear hi); (try clear dX)) | ((with_reducible refine aK (f := 56) rfl ?_); refine aT (some 7) rfl rfl Try.func56 z1 rfl #[.string fK] rfl z21 ?_; (with_reducible refine (spec_GoodText.calls k fK true _ A3.out).mono ?_); rintro e w' ⟨rfl, ⟨nd, rfl⟩⟩; refine ⟨_, rfl, ?_⟩))
   go_ret
   exact ⟨y4, y19, y13, y14⟩
 ·replace c4 := Bool.eq_false_iff.mpr c4
  subst c4
  rw [if_neg nF_] at H
  by_cases fe : 4 > 40
  ·exact absurd fe z0
  ·rw [if_neg fe] at H
   have c15b0 : decide (40 < 4) = false := dF fe
   clear fe
   simp only [Option.some.injEq, Prod.mk.injEq] at H
   obtain ⟨rfl, rfl, rfl⟩ := H
   go_enter Try.func90, Try.ntmps90
   go_wp2_with (first | ((with_reducible refine aK (f := 72) rfl ?_); refine aT (some 5) rfl rfl Try.func72 z1 rfl #[.pointer (some ⟨g, 0, none⟩)] rfl z21 ?_; (with_reducible refine (spec_l1Cur_doc.calls k g s0_0 s0_1 s0_2 fK nN nM w0 _ ?side1 ?side2 A2.out).mono ?_); (case side1 => exact y44); (case side2 => exact y34); rintro e w24 ⟨rfl, hi, hb, hk⟩; refine ⟨_, rfl, ?_⟩; replace HK := aM (KeepBut.trans z22 hk (.inl rfl)); replace HB := aM (hb); replace HI0 := aM (hi); (try clear hb); (try clear hk); (try clear hi); (try clear dX)) | ((with_reducible refine aK (f := 56) rfl ?_); refine aT (some 7) rfl rfl Try.func56 z1 rfl #[.string fK] rfl z21 ?_; (with_reducible refine (spec_GoodText.calls k fK false _ A3.out).mono ?_); rintro e w' ⟨rfl, ⟨nd, rfl⟩⟩; refine ⟨_, rfl, ?_⟩))
   go_ret
   exact ⟨y4, y19, y13, y14⟩

/-! ### spec_l3Part: function 98 -/
def spec_l3Part.f (k : Nat) (a0_0 : Int) (a0_1 : ByteArray) (a0_2 : ByteArray) : Option (Bool) := if a0_0 = 0 then (if a0_1.toList = ([] : List UInt8) then (if a0_2.toList = ([] : List UInt8) then (some false) else ((spec_GoodText.f k a0_2).bind fun om => (some om))) else (if a0_2.toList = ([] : List UInt8) then ((spec_GoodText.f k a0_1).bind fun ol => (some ol)) else (some false))) else ((spec_l1In.f a0_0 1 300).bind fun oh => (if oh = true then (if a0_1.toList = ([] : List UInt8) then (some (a0_2.toList == ([] : List UInt8))) else (some false)) else (some false)))
theorem spec_l3Part.mono : ∀ a0 a1 a2 k, LeO (spec_l3Part.f k a0 a1 a2) (spec_l3Part.f (k + 1) a0 a1 a2) := by
 intro a0 a1 a2 k
 unfold spec_l3Part.f
 repeat' first
   | (with_reducible exact spec_GoodText.mono _ _)
   | (with_reducible exact LeO.refl _)
   | (with_reducible exact LeO.none _)
   | (with_reducible refine LeO.ite ?_ ?_)
   | (with_reducible refine LeO.bind ?_ (fun _ => ?_))
set_option maxHeartbeats 8000000 in
set_option maxRecDepth 100000 in
theorem spec_l3Part.calls (k : Nat) (a0_0 : Int) (a0_1 : ByteArray) (a0_2 : ByteArray) (r : Bool) (w : World) (h : spec_l3Part.f k a0_0 a0_1 a0_2 = some r) :
  Calls Try.prog 98 #[.agg #[.int .i64 a0_0, .string a0_1, .string a0_2]] w fun e w' => e = .returned (.bool r) ∧ Below w.heap.size w w' := by
 have hu120 := Try.underlying120
 have HB := aM (Below.refl w.heap.size w)
 have H : (if a0_0 = 0 then (if a0_1.toList = ([] : List UInt8) then (if a0_2.toList = ([] : List UInt8) then (some false) else ((spec_GoodText.f k a0_2).bind fun om => (some om))) else (if a0_2.toList = ([] : List UInt8) then ((spec_GoodText.f k a0_1).bind fun ol => (some ol)) else (some false))) else ((spec_l1In.f a0_0 1 300).bind fun oh => (if oh = true then (if a0_1.toList = ([] : List UInt8) then (some (a0_2.toList == ([] : List UInt8))) else (some false)) else (some false)))) = some r := h
 clear h
 by_cases c2 : a0_0 = 0
 ·rw [if_pos c2] at H
  have c2b0 : (a0_0 == 0) = true := qT c2
  have c2b1 : (a0_0 != 0) = false := nF c2
  clear c2
  by_cases c3 : a0_1.toList = ([] : List UInt8)
  ·rw [if_pos c3] at H
   have c3b0 : (a0_1.toList == ([] : List UInt8)) = true := qT c3
   have c3b1 : (a0_1.toList != ([] : List UInt8)) = false := nF c3
   clear c3
   by_cases c4 : a0_2.toList = ([] : List UInt8)
   ·rw [if_pos c4] at H
    have c4b0 : (a0_2.toList == ([] : List UInt8)) = true := qT c4
    have c4b1 : (a0_2.toList != ([] : List UInt8)) = false := nF c4
    clear c4
    obtain rfl := sI H
    go_enter Try.func98, Try.ntmps98
    go_wp2_with (first | ((with_reducible refine aN (N := 1) rfl ?_); refine aQ ?hg (N := 1) ?hd (cs := #[.int .i64 a0_0, .string a0_1, .string a0_2]) (t := 120) ?hr ?_; (case hd => rfl); (case hg => rfl); (case hr => first | (go_simp; done) | (go_simp; rfl)); intro cL hg w5 hbox hb; have ct := aM (hbox); have j4 := aM ((by rw [hg]; exact (aC z20) : w.heap.size ≤ cL)); have j9 := aM ((by rw [hg]; exact (aC z20) : w.heap.size ≤ cL)); replace HB := aM (aA z20 hb); clear hb hbox hg; obtain ⟨oE, oC, oA, hfz6_0, oz, oy⟩ := cc3 ct.out))
    all_goals (try (exfalso; rename_i h_; rw [c3b0] at h_; cases h_; done))
    all_goals (try (exfalso; rename_i h_; rw [c4b0] at h_; cases h_; done))
    go_ret
    exact ⟨y4, y9⟩
   ·rw [if_neg c4] at H
    have c4b0 : (a0_2.toList == ([] : List UInt8)) = false := qF c4
    have c4b1 : (a0_2.toList != ([] : List UInt8)) = true := nT c4
    obtain ⟨om, A7, H⟩ := oA_ H
    try dsimp only at H
    obtain rfl := sI H
    go_enter Try.func98, Try.ntmps98
    go_wp2_with (first | ((with_reducible refine aN (N := 1) rfl ?_); refine aQ ?hg (N := 1) ?hd (cs := #[.int .i64 a0_0, .string a0_1, .string a0_2]) (t := 120) ?hr ?_; (case hd => rfl); (case hg => rfl); (case hr => first | (go_simp; done) | (go_simp; rfl)); intro cL hg w8 hbox hb; have ct := aM (hbox); have j4 := aM ((by rw [hg]; exact (aC z20) : w.heap.size ≤ cL)); have j9 := aM ((by rw [hg]; exact (aC z20) : w.heap.size ≤ cL)); replace HB := aM (aA z20 hb); clear hb hbox hg; obtain ⟨ic, ib, ia, iX, hV, hU⟩ := cc3 ct.out) | (go_at_call 56; (with_reducible refine (spec_GoodText.calls k a0_2 om _ A7.out).mono ?_); rintro e w' ⟨rfl, ⟨nd, rfl⟩⟩))
    all_goals (try (exfalso; rename_i h_; rw [c3b0] at h_; cases h_; done))
    all_goals (try (exfalso; rename_i h_; rw [c4b0] at h_; cases h_; done))
    go_ret
    exact ⟨y4, y9⟩
  ·rw [if_neg c3] at H
   have c3b0 : (a0_1.toList == ([] : List UInt8)) = false := qF c3
   have c3b1 : (a0_1.toList != ([] : List UInt8)) = true := nT c3
   by_cases eH : a0_2.toList = ([] : List UInt8)
   ·rw [if_pos eH] at H
    have c10b0 : (a0_2.toList == ([] : List UInt8)) = true := qT eH
    have c10b1 : (a0_2.toList != ([] : List UInt8)) = false := nF eH
    clear eH
    obtain ⟨ol, sW, H⟩ := oA_ H
    try dsimp only at H
    obtain rfl := sI H
    go_enter Try.func98, Try.ntmps98
    go_wp2_with (first | ((with_reducible refine aN (N := 1) rfl ?_); refine aQ ?hg (N := 1) ?hd (cs := #[.int .i64 a0_0, .string a0_1, .string a0_2]) (t := 120) ?hr ?_; (case hd => rfl); (case hg => rfl); (case hr => first | (go_simp; done) | (go_simp; rfl)); intro cL hg w12 hbox hb; have ct := aM (hbox); have j4 := aM ((by rw [hg]; exact (aC z20) : w.heap.size ≤ cL)); have j9 := aM ((by rw [hg]; exact (aC z20) : w.heap.size ≤ cL)); replace HB := aM (aA z20 hb); clear hb hbox hg; obtain ⟨hcz13_0, hcz13_1, hcz13_2, hfz13_0, hfz13_1, hfz13_2⟩ := cc3 ct.out) | (go_at_call 56; (with_reducible refine (spec_GoodText.calls k a0_1 ol _ sW.out).mono ?_); rintro e w' ⟨rfl, ⟨nd, rfl⟩⟩))
    all_goals (try (exfalso; rename_i h_; rw [c3b0] at h_; cases h_; done))
    all_goals (try (exfalso; rename_i h_; rw [c10b0] at h_; cases h_; done))
    go_ret
    exact ⟨y4, y9⟩
   ·rw [if_neg eH] at H
    have c10b0 : (a0_2.toList == ([] : List UInt8)) = false := qF eH
    have c10b1 : (a0_2.toList != ([] : List UInt8)) = true := nT eH
    obtain rfl := sI H
    go_enter Try.func98, Try.ntmps98
    go_wp2_with (first | ((with_reducible refine aN (N := 1) rfl ?_); refine aQ ?hg (N := 1) ?hd (cs := #[.int .i64 a0_0, .string a0_1, .string a0_2]) (t := 120) ?hr ?_; (case hd => rfl); (case hg => rfl); (case hr => first | (go_simp; done) | (go_simp; rfl)); intro cL hg w14 hbox hb; have ct := aM (hbox); have j4 := aM ((by rw [hg]; exact (aC z20) : w.heap.size ≤ cL)); have j9 := aM ((by rw [hg]; exact (aC z20) : w.heap.size ≤ cL)); replace HB := aM (aA z20 hb); clear hb hbox hg; obtain ⟨iJ, kY, kX, iH, kC, kB⟩ := cc3 ct.out))
    all_goals (try (exfalso; rename_i h_; rw [c3b0] at h_; cases h_; done))
    all_goals (try (exfalso; rename_i h_; rw [c10b0] at h_; cases h_; done))
    go_ret
    exact ⟨y4, y9⟩
 ·rw [if_neg c2] at H
  have c2b0 : (a0_0 == 0) = false := qF c2
  have c2b1 : (a0_0 != 0) = true := nT c2
  obtain ⟨oh, te, H⟩ := oA_ H
  try dsimp only at H
  by_cases gE : oh = true
  ·subst gE
   rw [if_pos rfl] at H
   by_cases lc : a0_1.toList = ([] : List UInt8)
   ·rw [if_pos lc] at H
    have c18b0 : (a0_1.toList == ([] : List UInt8)) = true := qT lc
    have c18b1 : (a0_1.toList != ([] : List UInt8)) = false := nF lc
    clear lc
    obtain rfl := sI H
    go_enter Try.func98, Try.ntmps98
    go_wp2_with (first | ((with_reducible refine aN (N := 1) rfl ?_); refine aQ ?hg (N := 1) ?hd (cs := #[.int .i64 a0_0, .string a0_1, .string a0_2]) (t := 120) ?hr ?_; (case hd => rfl); (case hg => rfl); (case hr => first | (go_simp; done) | (go_simp; rfl)); intro cL hg w19 hbox hb; have ct := aM (hbox); have j4 := aM ((by rw [hg]; exact (aC z20) : w.heap.size ≤ cL)); have j9 := aM ((by rw [hg]; exact (aC z20) : w.heap.size ≤ cL)); replace HB := aM (aA z20 hb); clear hb hbox hg; obtain ⟨kR, kQ, kP, kv, ku, kt⟩ := cc3 ct.out) | ((with_reducible refine aK (f := 50) rfl ?_); refine aT (some 9) rfl rfl Try.func50 z1 rfl #[.int .i64 a0_0, .int .i64 1, .int .i64 300] rfl z21 ?_; (with_reducible refine (spec_l1In.calls a0_0 1 300 true _ te.out).mono ?_); rintro e w' ⟨rfl, ⟨nd, rfl⟩⟩; refine ⟨_, rfl, ?_⟩))
    all_goals (try (exfalso; rename_i h_; rw [c18b0] at h_; cases h_; done))
    go_ret
    exact ⟨y4, y9⟩
   ·rw [if_neg lc] at H
    have c18b0 : (a0_1.toList == ([] : List UInt8)) = false := qF lc
    have c18b1 : (a0_1.toList != ([] : List UInt8)) = true := nT lc
    obtain rfl := sI H
    go_enter Try.func98, Try.ntmps98
    go_wp2_with (first | ((with_reducible refine aN (N := 1) rfl ?_); refine aQ ?hg (N := 1) ?hd (cs := #[.int .i64 a0_0, .string a0_1, .string a0_2]) (t := 120) ?hr ?_; (case hd => rfl); (case hg => rfl); (case hr => first | (go_simp; done) | (go_simp; rfl)); intro cL hg w21 hbox hb; have ct := aM (hbox); have j4 := aM ((by rw [hg]; exact (aC z20) : w.heap.size ≤ cL)); have j9 := aM ((by rw [hg]; exact (aC z20) : w.heap.size ≤ cL)); replace HB := aM (aA z20 hb); clear hb hbox hg; obtain ⟨kO, kN, kM, ks, kr, kp⟩ := cc3 ct.out) | ((with_reducible refine aK (f := 50) rfl ?_); refine aT (some 9) rfl rfl Try.func50 z1 rfl #[.int .i64 a0_0, .int .i64 1, .int .i64 300] rfl z21 ?_; (with_reducible refine (spec_l1In.calls a0_0 1 300 true _ te.out).mono ?_); rintro e w' ⟨rfl, ⟨nd, rfl⟩⟩; refine ⟨_, rfl, ?_⟩))
    all_goals (try (exfalso; rename_i h_; rw [c18b0] at h_; cases h_; done))
    go_ret
    exact ⟨y4, y9⟩
  ·replace gE := Bool.eq_false_iff.mpr gE
   subst gE
   rw [if_neg nF_] at H
   obtain rfl := sI H
   go_enter Try.func98, Try.ntmps98
   go_wp2_with (first | ((with_reducible refine aN (N := 1) rfl ?_); refine aQ ?hg (N := 1) ?hd (cs := #[.int .i64 a0_0, .string a0_1, .string a0_2]) (t := 120) ?hr ?_; (case hd => rfl); (case hg => rfl); (case hr => first | (go_simp; done) | (go_simp; rfl)); intro cL hg w23 hbox hb; have ct := aM (hbox); have j4 := aM ((by rw [hg]; exact (aC z20) : w.heap.size ≤ cL)); have j9 := aM ((by rw [hg]; exact (aC z20) : w.heap.size ≤ cL)); replace HB := aM (aA z20 hb); clear hb hbox hg; obtain ⟨hcz24_0, hcz24_1, hcz24_2, hfz24_0, hfz24_1, hfz24_2⟩ := cc3 ct.out) | ((with_reducible refine aK (f := 50) rfl ?_); refine aT (some 9) rfl rfl Try.func50 z1 rfl #[.int .i64 a0_0, .int .i64 1, .int .i64 300] rfl z21 ?_; (with_reducible refine (spec_l1In.calls a0_0 1 300 false _ te.out).mono ?_); rintro e w' ⟨rfl, ⟨nd, rfl⟩⟩; refine ⟨_, rfl, ?_⟩))
   go_ret
   exact ⟨y4, y9⟩

end Go.Proofs.Ytmkenlejdaphnaa.AFnRopes
