-- this session's own text: written by wip/tools/ownprint.py over the kit's print
import Derived.Test.YtihjaagamihhkaaAFnExactGoodSchemax0
namespace Go.Proofs.Ytihjaagamihhkaa.AFnExactGoodSchema
open Go.RowKit Go.Proofs.YtihjaagamihhkaaW.PrintWords Go.Proofs.YtihjaagamihhkaaW.PrintLast Go.Proofs.YtihjaagamihhkaaW.PrintMore
attribute [local go_sem] max2_int min2_int max_two min_two max_three min_three max_four min_four   -- for this text's walks alone
set_option linter.unusedVariables false
set_option linter.unusedSimpArgs false

/-! ### laws_toRule: function 20 -/
def laws_toRule.f (a0_0 : ByteArray) (a0_1 : ByteArray) : Option (ByteArray × ByteArray) := some (a0_0, a0_1)
set_option maxHeartbeats 8000000 in
set_option maxRecDepth 100000 in
theorem laws_toRule.calls (a0_0 : ByteArray) (a0_1 : ByteArray) (r1 : ByteArray) (r2 : ByteArray) (w : World) (h : laws_toRule.f a0_0 a0_1 = some (r1, r2)) :
  Calls Try.prog 20 #[.agg #[.string a0_0, .string a0_1]] w fun e w' => e = .returned (.agg #[.string r1, .string r2]) ∧ Below w.heap.size w w' := by
 have hu37 := Try.underlying37
 have hu38 := Try.underlying38
 have HB := aM (Below.refl w.heap.size w)
 have H : (some (a0_0, a0_1)) = some (r1, r2) := h
 clear h
 simp only [Option.some.injEq, Prod.mk.injEq] at H
 obtain ⟨rfl, rfl⟩ := H
 go_enter Try.func20, Try.ntmps20
 go_wp2_with (first | ((with_reducible refine ar (N := 1) rfl ?_); refine au ?hg (N := 1) ?hd (cs := #[.string a0_0, .string a0_1]) (t := 37) ?hr ?_; (case hd => rfl); (case hg => rfl); (case hr => first | (go_simp; done) | (go_simp; rfl)); intro aY hg w2 hbox hb; have aA := aM (ak z6 hb); have aC := aM (hbox); have aE := aM ((by rw [hg]; exact (al z6) : w.heap.size ≤ aY)); have aI := aM ((by rw [hg]; exact (al z6) : w.heap.size ≤ aY)); clear HB; have HB := aA; have a6 := aC; have GW135 := aE; have bu := aI; clear aA aC aE aI; clear hb hbox hg) | ((with_reducible refine ar (N := 2) rfl ?_); refine au ?hg (N := 2) ?hd (cs := #[.string (⟨#[]⟩ : ByteArray), .string (⟨#[]⟩ : ByteArray)]) (t := 38) ?hr ?_; (case hd => rfl); (case hg => rfl); (case hr => first | (go_simp; done) | (go_simp; rfl)); intro bc hg w3 hbox hb; have aA := aM (ae (g := aY) (o := .cells #[.string a0_0, .string a0_1] 37 (0, 0)) (by (with_reducible repeat (first | refine ah ?_ _ | refine ag ?_ | refine ai ?_ _)); exact a6.out) hb); have aC := aM (ak (by repeat (first | (with_reducible first | exact HB.out | apply bA | apply pD | apply bD | refine aj ?_ bu.out) | exact HB.out)) hb); have aE := aM (hbox); have aI := aM ((by rw [hg]; exact (al (by repeat (first | (with_reducible first | exact HB.out | apply bA | apply pD | apply bD | refine aj ?_ bu.out) | exact HB.out))) : w.heap.size ≤ bc)); have bK := aM ((by rw [hg]; exact (al (by repeat (first | (with_reducible first | exact HB.out | apply bA | apply pD | apply bD | refine aj ?_ bu.out) | exact HB.out))) : w.heap.size ≤ bc)); have bJ := aM ((by rw [hg]; exact Nat.ne_of_lt (blk_lt (g := aY) (o := .cells #[.string a0_0, .string a0_1] 37 (0, 0)) (by (with_reducible repeat (first | refine ah ?_ _ | refine ag ?_ | refine ai ?_ _)); exact a6.out)) : aY ≠ bc)); have bI := aM ((by rw [hg]; exact Nat.ne_of_gt (blk_lt (g := aY) (o := .cells #[.string a0_0, .string a0_1] 37 (0, 0)) (by (with_reducible repeat (first | refine ah ?_ _ | refine ag ?_ | refine ai ?_ _)); exact a6.out)) : bc ≠ aY)); clear a6; clear HB; have a6 := aA; have HB := aC; have bd := aE; have GW136 := aI; have bL := bK; have NB135_136 := bJ; have NB136_135 := bI; clear aA aC aE aI bK bJ bI; clear hb hbox hg) | ((with_reducible refine ar (N := 3) rfl ?_); refine au ?hg (N := 3) ?hd (cs := #[.string (⟨#[]⟩ : ByteArray), .string (⟨#[]⟩ : ByteArray)]) (t := 38) ?hr ?_; (case hd => rfl); (case hg => rfl); (case hr => first | (go_simp; done) | (go_simp; rfl)); intro bm hg w4 hbox hb; have aA := aM (ae (g := aY) (o := .cells #[.string a0_0, .string a0_1] 37 (0, 0)) (by (with_reducible repeat (first | refine ah ?_ _ | refine ag ?_ | refine ai ?_ _)); exact a6.out) hb); have aC := aM (ae (g := bc) (o := .cells #[.string (⟨#[]⟩ : ByteArray), .string (⟨#[]⟩ : ByteArray)] 38 (0, 0)) (by (with_reducible repeat (first | refine ah ?_ _ | refine ag ?_ | refine ai ?_ _)); exact bd.out) hb); have aE := aM (ak (by repeat (first | (with_reducible first | exact HB.out | apply bA | apply pD | apply bD | refine aj ?_ bu.out | refine aj ?_ bL.out) | exact HB.out)) hb); have aI := aM (hbox); have bK := aM ((by rw [hg]; exact (al (by repeat (first | (with_reducible first | exact HB.out | apply bA | apply pD | apply bD | refine aj ?_ bu.out | refine aj ?_ bL.out) | exact HB.out))) : w.heap.size ≤ bm)); have bJ := aM ((by rw [hg]; exact (al (by repeat (first | (with_reducible first | exact HB.out | apply bA | apply pD | apply bD | refine aj ?_ bu.out | refine aj ?_ bL.out) | exact HB.out))) : w.heap.size ≤ bm)); have bI := aM ((by rw [hg]; exact Nat.ne_of_lt (blk_lt (g := aY) (o := .cells #[.string a0_0, .string a0_1] 37 (0, 0)) (by (with_reducible repeat (first | refine ah ?_ _ | refine ag ?_ | refine ai ?_ _)); exact a6.out)) : aY ≠ bm)); have cR := aM ((by rw [hg]; exact Nat.ne_of_gt (blk_lt (g := aY) (o := .cells #[.string a0_0, .string a0_1] 37 (0, 0)) (by (with_reducible repeat (first | refine ah ?_ _ | refine ag ?_ | refine ai ?_ _)); exact a6.out)) : bm ≠ aY)); have cQ := aM ((by rw [hg]; exact Nat.ne_of_lt (blk_lt (g := bc) (o := .cells #[.string (⟨#[]⟩ : ByteArray), .string (⟨#[]⟩ : ByteArray)] 38 (0, 0)) (by (with_reducible repeat (first | refine ah ?_ _ | refine ag ?_ | refine ai ?_ _)); exact bd.out)) : bc ≠ bm)); have cP := aM ((by rw [hg]; exact Nat.ne_of_gt (blk_lt (g := bc) (o := .cells #[.string (⟨#[]⟩ : ByteArray), .string (⟨#[]⟩ : ByteArray)] 38 (0, 0)) (by (with_reducible repeat (first | refine ah ?_ _ | refine ag ?_ | refine ai ?_ _)); exact bd.out)) : bm ≠ bc)); clear a6; clear bd; clear HB; have a6 := aA; have bd := aC; have HB := aE; have bM := aI; have GW137 := bK; have GE137 := bJ; have NB135_137 := bI; have NB137_135 := cR; have bj := cQ; have NB137_136 := cP; clear aA aC aE aI bK bJ bI cR cQ cP; clear hb hbox hg; have hnb5 := NB135_136.out; have hnc5 := NB136_135.out; have hnb6 := NB135_137.out; have hnc6 := NB137_135.out; have hcz7_0 : w4.cell? ⟨aY, 0, none⟩ = some (.string a0_0) := (bC a6.out 0).trans rfl; have hcz7_1 : w4.cell? ⟨aY, 1, none⟩ = some (.string a0_1) := (bC a6.out 1).trans rfl; have hfz7_0 := bF a6.out 0; have hfz7_1 := bF a6.out 1; have hnb8 := NB137_136.out; have hnc8 := bj.out; have hcz9_0 : w4.cell? ⟨bm, 0, none⟩ = some (.string (⟨#[]⟩ : ByteArray)) := (bC bM.out 0).trans rfl; have hcz9_1 : w4.cell? ⟨bm, 1, none⟩ = some (.string (⟨#[]⟩ : ByteArray)) := (bC bM.out 1).trans rfl; have hfz9_0 := bF bM.out 0; have hfz9_1 := bF bM.out 1; have hcz10_0 : w4.cell? ⟨bc, 0, none⟩ = some (.string (⟨#[]⟩ : ByteArray)) := (bC bd.out 0).trans rfl; have hcz10_1 : w4.cell? ⟨bc, 1, none⟩ = some (.string (⟨#[]⟩ : ByteArray)) := (bC bd.out 1).trans rfl; have hfz10_0 := bF bd.out 0; have hfz10_1 := bF bd.out 1))
 refine bodyPost_ret (results_cell_row rfl _ _ bc 38 #[.string a0_0, .string a0_1] (0, 0) _ rfl (by (with_reducible repeat (first | refine ah ?_ _ | refine ag ?_ | refine ai ?_ _)); refine blk_put (cs := #[.string a0_0, .string (⟨#[]⟩ : ByteArray)]) ?_ 1 _ rfl; (with_reducible repeat (first | refine ah ?_ _ | refine ag ?_ | refine ai ?_ _)); refine blk_put (cs := #[.string (⟨#[]⟩ : ByteArray), .string (⟨#[]⟩ : ByteArray)]) ?_ 0 _ rfl; (with_reducible repeat (first | refine ah ?_ _ | refine ag ?_ | refine ai ?_ _)); refine blk_far ?_ bj.out _; (with_reducible repeat (first | refine ah ?_ _ | refine ag ?_ | refine ai ?_ _)); refine blk_far ?_ bj.out _; (with_reducible repeat (first | refine ah ?_ _ | refine ag ?_ | refine ai ?_ _)); exact bd.out) Try.underlying38 rfl z0) rfl ?_
 exact ⟨y2, by repeat (first | (with_reducible first | exact HB.out | apply bA | apply pD | apply bD | refine aj ?_ bu.out | refine aj ?_ bL.out | refine aj ?_ GE137.out) | exact HB.out)⟩

/-! ### laws_toRuleS: function 8 -/
def laws_toRuleS.l0 : Nat → List (S37) → List (S38) → Int → Option ((List (S38)))
 | 0, _, _, _ => none
 | k + 1, x0, x3, x4 => if x4 < (x0.length : Int) then (if 0 ≤ x4 then ((laws_toRule.f ((rd_T37 x0 x4).f0) ((rd_T37 x0 x4).f1)).bind fun bZ => (if x4 < (x3.length : Int) then (laws_toRuleS.l0 k x0 (x3.set (x4 : Int).toNat (⟨bZ.1, bZ.2⟩ : S38)) (wrap64 (x4 + 1))) else (none))) else (none)) else (some x3)
def laws_toRuleS.f (k : Nat) (l0 : List (S37)) : Option ((List (S38))) := if 0 ≤ (l0.length : Int) then (if ((l0.length : Int) : Int).toNat ≤ 8796093022208 then (laws_toRuleS.l0 k l0 (List.replicate ((l0.length : Int) : Int).toNat z38) 0) else (none)) else (none)
theorem laws_toRuleS.mono_l : ∀ k, (∀ y0 y1 y2, LeO (laws_toRuleS.l0 k y0 y1 y2) (laws_toRuleS.l0 (k + 1) y0 y1 y2))
 | 0 => fun _ _ _ r h => by simp [laws_toRuleS.l0] at h
 | k + 1 => by
  have ih0 := laws_toRuleS.mono_l k
  ·intro y0 y1 y2
   unfold laws_toRuleS.l0
   repeat' first
   | (with_reducible exact ih0 _ _ _)
   | (with_reducible exact LeO.refl _)
   | (with_reducible exact LeO.none _)
   | (with_reducible refine LeO.ite ?_ ?_)
   | (with_reducible refine LeO.bind ?_ (fun _ => ?_))
   | exact ih0 _ _ _
   | exact LeO.none _
   | refine LeO.ite ?_ ?_
   | refine LeO.bind ?_ (fun _ => ?_)
theorem laws_toRuleS.mono : ∀ a0 k, LeO (laws_toRuleS.f k a0) (laws_toRuleS.f (k + 1) a0) := by
 intro a0 k
 have ih0 := laws_toRuleS.mono_l k
 unfold laws_toRuleS.f
 repeat' first
   | (with_reducible exact ih0 _ _ _)
   | (with_reducible exact LeO.refl _)
   | (with_reducible exact LeO.none _)
   | (with_reducible refine LeO.ite ?_ ?_)
   | (with_reducible refine LeO.bind ?_ (fun _ => ?_))
   | exact ih0 _ _ _
   | exact LeO.none _
   | refine LeO.ite ?_ ?_
   | refine LeO.bind ?_ (fun _ => ?_)
set_option maxHeartbeats 8000000 in
set_option maxRecDepth 100000 in
theorem laws_toRuleS.calls (k : Nat) (A0 : Option Addr) (c0 : Nat) (l0 : List (S37)) (r : List (S38)) (w : World) (hr0 : Kd.C k37 w A0 l0.length l0) (hc0 : l0.length ≤ c0) (h : laws_toRuleS.f k l0 = some r) :
  Calls Try.prog 8 #[.slice A0 l0.length c0] w fun e w' => ∃ v0_ : Value, e = .returned (v0_) ∧ Kd.R k38 38 w' w.heap.size (fun _ => True) v0_ r ∧ Below w.heap.size w w' := by
 have hu37 := Try.underlying37
 have hu38 := Try.underlying38
 have aX := aM hr0
 have bz := aM hc0
 clear hr0 hc0
 have HB := aM (Below.refl w.heap.size w)
 have H : (if 0 ≤ (l0.length : Int) then (if ((l0.length : Int) : Int).toNat ≤ 8796093022208 then (laws_toRuleS.l0 k l0 (List.replicate ((l0.length : Int) : Int).toNat z38) 0) else (none)) else (none)) = some r := h
 clear h
 by_cases c2 : 0 ≤ (l0.length : Int)
 ·rw [if_pos c2] at H
  have c2b0 := eq_true c2
  have c2b1 : decide (0 ≤ (l0.length : Int)) = true := dT c2
  clear c2
  by_cases c3 : ((l0.length : Int) : Int).toNat ≤ 8796093022208
  ·rw [if_pos c3] at H
   have c3b0 := eq_true c3
   have c3b1 : decide (((l0.length : Int) : Int).toNat ≤ 8796093022208) = true := dT c3
   (try (have c3b1n := c3b1; simp only [Int.toNat_natCast] at c3b1n))
   clear c3
   obtain ⟨y138, hy138⟩ : ∃ y_ : List (S38), y_ = (List.replicate ((l0.length : Int) : Int).toNat z38) := ⟨_, rfl⟩
   replace H : (laws_toRuleS.l0 k l0 y138 0) = some r := by first | (rw [hy138]; with_reducible exact H) | (have H2_ := (Option.bind_some _ _).symm.trans H; rw [hy138]; with_reducible exact H2_) | (have H2_ := (Option.bind_some _ _).symm.trans H; with_reducible exact H2_) | with_reducible exact H | (rw [hy138]; exact H) | exact H
   have Ny138 := aM hy138
   clear hy138
   have H' := aM H
   clear H
   go_enter Try.func8, Try.ntmps8
   go_wp2_with (first | ((with_reducible refine ar (N := 7) rfl ?_); refine Kd.R_make k38 _ 38 rfl (N := 7) rfl 25 _ _ rfl (l0.length : Int) rfl rfl Try.underlying25 (.agg #[(.string ⟨#[]⟩), (.string ⟨#[]⟩)]) 32 info38 rfl (by decide) (by omega) z38 (ok := fun _ => True) (okp := fun _ => True) (k38_mkM _ _ _ z38 ) (fun _ hk => hk) trivial (oD z1) (Nat.le_trans (Nat.mul_le_mul_right _ (oD z1 : (l0.length : Int).toNat ≤ 8796093022208)) (by omega)) (Below.refl _ _) (Nat.le_refl _) ?_; intro v139 w4 ho5 hb hg_ hnew_; clear hg_ hnew_; (first | rw [← Ny138.out] at ho5 | (simp only [Int.reduceToNat] at ho5; rw [← Ny138.out] at ho5)); have aA := aM (Kd.R_lower ho5 (al z6)); have aC := aM (ak z6 hb); clear HB; have HO140 := aA; have HB := aC; clear aA aC; clear hb ho5))
   go_loopg [4] k (fun kq v4 w' => ∃ (x3_1 : List (S38)) (x4_1 : Int), v4 = .int .i64 x4_1 ∧ Aside0 (laws_toRuleS.l0 kq l0 x3_1 x4_1 = some r) ∧ Aside0 (kq ≤ k) ∧ Aside0 (Kd.R k38 38 w' w.heap.size (fun _ => True) v139 x3_1) ∧ Aside0 (Below w.heap.size w w'))
   case atStart => exact ⟨(y138), (0), (by first | rfl | (simp; done) | (simp [*]; done)), H', ⟨Nat.le_refl _⟩, ⟨by (with_reducible repeat (first | apply ac | apply ab | apply aa)); exact HO140.out⟩, ⟨y3⟩⟩
   case round =>
    clear H'
    try clear c2
    try clear c2b0
    try clear c2b1
    try clear p2
    try clear c3
    try clear c3b0
    try clear c3b1
    obtain ⟨x3_1, x4_1, rfl, HA, HK1, bp, HB⟩ := hrel
    cases gk with
    | zero => exact absurd HA.out (by simp [laws_toRuleS.l0])
    | succ k1 =>
     have H := HA.out
     clear HA
     simp only [laws_toRuleS.l0] at H
     by_cases c6 : x4_1 < (l0.length : Int)
     ·rw [if_pos c6] at H
      have c6b0 : decide (x4_1 < (l0.length : Int)) = true := dT c6
      clear c6
      by_cases c7 : 0 ≤ x4_1
      ·rw [if_pos c7] at H
       have c7b0 : decide (0 ≤ x4_1) = true := dT c7
       clear c7
       replace H := oB H
       obtain ⟨⟨bO, bN⟩, cx, H⟩ := H
       try dsimp only at H
       have A8 := aM cx
       clear cx
       by_cases c9 : x4_1 < (x3_1.length : Int)
       ·rw [if_pos c9] at H
        have c9b0 : decide (x4_1 < (x3_1.length : Int)) = true := dT c9
        clear c9
        obtain ⟨y144, hy144⟩ : ∃ y_ : List (S38), y_ = (x3_1.set (x4_1 : Int).toNat (⟨bO, bN⟩ : S38)) := ⟨_, rfl⟩
        replace H : (laws_toRuleS.l0 k1 l0 y144 (wrap64 (x4_1 + 1))) = some r := by first | (rw [hy144]; with_reducible exact H) | (have H2_ := (Option.bind_some _ _).symm.trans H; rw [hy144]; with_reducible exact H2_) | (have H2_ := (Option.bind_some _ _).symm.trans H; with_reducible exact H2_) | with_reducible exact H | (rw [hy144]; exact H) | exact H
        have Ny144 := aM hy144
        clear hy144
        have H' := aM H
        clear H
        have p141 : 0 ≤ (x4_1 : Int) := oD z1
        have q141 : x4_1 < (l0.length : Int) := oD z1
        obtain ⟨ad141, e141, hx141_0, hx141_1⟩ := at_T37 aX.out x4_1 p141 q141
        cases e141
        replace hx141_0 := (HB.out.cell (World.block_lt_of_cell? w _ hx141_0)).trans hx141_0
        replace hx141_1 := (HB.out.cell (World.block_lt_of_cell? w _ hx141_1)).trans hx141_1
        replace p141 := eq_true p141
        replace q141 := eq_true q141
        go_wp2_with (first | ((with_reducible refine aq (f := 20) rfl ?_); refine goesL_ (some 20) rfl rfl Try.func20 z0 rfl #[.agg #[.string ((rd_T37 l0 x4_1).f0), .string ((rd_T37 l0 x4_1).f1)]] rfl z7 ?_; (with_reducible refine (laws_toRule.calls ((rd_T37 l0 x4_1).f0) ((rd_T37 l0 x4_1).f1) bO bN _ A8.out).mono ?_); rintro e w11 ⟨rfl, hb⟩; refine ⟨_, rfl, ?_⟩; have aA := aM (Kd.R_below (by (with_reducible repeat (first | apply ac | apply ab | apply aa)); exact bp.out) hb); have aC := aM (ak z6 hb); clear bp; clear HB; have bp := aA; have HB := aC; clear aA aC; (try clear hb); (try clear hb2); (try clear hk); (try clear hi); have p10 : 0 ≤ (x4_1 : Int) := oD z1; have q10 : (x4_1 : Int) < ((x3_1.length : Int) : Int) := oD z1; obtain ⟨go10, cr, eo10, co, gl10, cl10, HG10⟩ := Kd.R_form bp.out (by omega); (first | cases eo10 | (injection eo10 with ea_ en_ ec_; (first | subst ea_ | (injection ea_ with ea_; subst ea_)); subst ec_; clear en_)); have GB10 := aM co; have GG10 := aM HG10; clear co gl10 HG10; obtain ⟨ce10, hcl10, hM10, hcc10, hfr10⟩ := Kd.R_elem bp.out z38 (x4_1 : Int) p10 q10; obtain rfl := k38_openM hM10; have hx10_0 : w11.cell? ⟨go10, (x4_1 : Int).toNat * 2, none⟩ = some (.string ((rd_T38 x3_1 x4_1).f0)) := hcc10 0 _ rfl; have hx10_1 : w11.cell? ⟨go10, (x4_1 : Int).toNat * 2 + 1, none⟩ = some (.string ((rd_T38 x3_1 x4_1).f1)) := hcc10 1 _ rfl; have hf10_0 : w11.frozen? ⟨go10, (x4_1 : Int).toNat * 2, none⟩ = false := hfr10 0; have hf10_1 : w11.frozen? ⟨go10, (x4_1 : Int).toNat * 2 + 1, none⟩ = false := hfr10 1; clear hcl10 hcc10 hfr10; (try clear hM10); replace p10 := eq_true p10; replace q10 := eq_true q10; have HX12 := aM (show Kd.R k38 38 w11 w.heap.size (fun _ => True) (.slice (some ⟨go10, 0, none⟩) x3_1.length cr) x3_1 from (by (with_reducible repeat (first | apply ac | apply ab | apply aa)); exact bp.out)); obtain ⟨ce12, hcl12, hM12, hcc12, hfr12⟩ := Kd.R_elem HX12.out z38 (x4_1 : Int) (oD z1) (by have h_ : (x4_1 : Int) < ((x3_1.length : Int) : Int) := oD z1; first | exact h_ | (have e_ := (af bp.out).1; omega) | simpa using h_); obtain rfl := k38_openM hM12; have HP12 := Kd.R_seg HX12.out (x4_1 : Int) (oD z1) (by have h_ : (x4_1 : Int) < ((x3_1.length : Int) : Int) := oD z1; first | exact h_ | (have e_ := (af bp.out).1; omega) | simpa using h_) (seg := [.string bO, .string bN]) (j := 0) hcl12 hcc12 (show 2 ≤ 2 from by decide) (x' := (⟨bO, bN⟩ : S38)) (k38_mkM _ _ _ (⟨bO, bN⟩ : S38) ) (fun _ hk => hk); have hx12_0 := hcc12 0 _ rfl; (try simp only [show (k38).sz = 2 from rfl, Nat.mul_one, Nat.add_zero] at hx12_0); have hf12_0 := hfr12 0; (try simp only [show (k38).sz = 2 from rfl, Nat.mul_one, Nat.add_zero] at hf12_0); have hx12_1 := hcc12 1 _ rfl; (try simp only [show (k38).sz = 2 from rfl, Nat.mul_one, Nat.add_zero] at hx12_1); have hf12_1 := hfr12 1; (try simp only [show (k38).sz = 2 from rfl, Nat.mul_one, Nat.add_zero] at hf12_1); clear hcl12 hcc12 hfr12; (try clear hM12)) | ((with_reducible refine gate_store (t := 38) (p := 21) rfl ?_); refine store_event (t := 38) (p := 21) (v := ?vo_w13) (w1 := ((w11.setCell ⟨go10, (x4_1 : Int).toNat * 2, none⟩ (.string bO)).setCell ⟨go10, (x4_1 : Int).toNat * 2 + 1, none⟩ (.string bN))) ?hg ?ho ?hn ?hr ?_; (case ho => rfl); (case hg => rfl); (case hn => rfl); (case hr => first | (go_simp; done) | (go_simp; rfl) | ((try simp only [Int.toNat_natCast] at *); go_simp; first | done | rfl)); intro w13 hw; have hg : w11.grownBy w13 (some go10) := (by rw [hw]; exact HP12.2); have hp_ : Kd.R k38 38 w13 w.heap.size (fun _ => True) (.slice (some ⟨go10, 0, none⟩) x3_1.length cr) y144 := (by rw [hw, Ny144.out]; exact HP12.1); clear HP12; have aA := aM (hp_); have aC := aM ((by rw [hw]; exact aj (aj (HB.out) GB10.out) GB10.out : Below w.heap.size w w13)); clear bp; clear HB; have bp := aA; have HB := aC; clear aA aC; clear hg hw hp_))
        go_roundg k1
        case measure => have := HK1.out; omega
        case rel => exact ⟨(y144), (wrap64 (x4_1 + 1)), (by first | rfl | (simp; done) | (simp [*]; done)), H', ⟨by have := HK1.out; omega⟩, ⟨by (with_reducible repeat (first | apply ac | apply ab | apply aa)); exact bp.out⟩, ⟨y3⟩⟩
       ·rw [if_neg c9] at H
        exact absurd H (by simp)
      ·rw [if_neg c7] at H
       exact absurd H (by simp)
     ·rw [if_neg c6] at H
      have c6b0 : decide (x4_1 < (l0.length : Int)) = false := dF c6
      clear c6
      obtain rfl := sI H
      go_wp2
      go_ret
      exact ⟨_, y2, by (with_reducible repeat (first | apply ac | apply ab | apply aa)); exact bp.out, y3⟩
  ·rw [if_neg c3] at H
   exact absurd H (by simp)
 ·rw [if_neg c2] at H
  exact absurd H (by simp)

/-! ### impl_isName: function 29 -/
def impl_isName.f (a0 : Int) : Option (Bool) := if a0 ≥ 65 then (some (decide (a0 ≤ 70))) else (some false)
set_option maxHeartbeats 8000000 in
set_option maxRecDepth 100000 in
theorem impl_isName.calls (a0 : Int) (r : Bool) (w : World) (h : impl_isName.f a0 = some r) :
  Calls Try.prog 29 #[.int .u8 a0] w fun e w' => e = .returned (.bool r) ∧ Drawn0 w w' := by
 have H : (if a0 ≥ 65 then (some (decide (a0 ≤ 70))) else (some false)) = some r := h
 clear h
 by_cases c2 : a0 ≥ 65
 ·rw [if_pos c2] at H
  have c2b0 : decide (65 ≤ a0) = true := dT c2
  clear c2
  obtain rfl := sI H
  go_enter Try.func29, Try.ntmps29
  go_wp2
  go_ret
  exact ⟨y0, y1⟩
 ·rw [if_neg c2] at H
  have c2b0 : decide (65 ≤ a0) = false := dF c2
  clear c2
  obtain rfl := sI H
  go_enter Try.func29, Try.ntmps29
  go_wp2
  go_ret
  exact ⟨y0, y1⟩

/-! ### impl_isNameText: function 21 -/
def impl_isNameText.f (a0 : ByteArray) : Option (Bool) := if (a0.size : Int) = 1 then (if 0 < (a0.size : Int) then ((impl_isName.f (bt a0 0)).bind fun bR => (some bR)) else (none)) else (some false)
set_option maxHeartbeats 8000000 in
set_option maxRecDepth 100000 in
theorem impl_isNameText.calls (a0 : ByteArray) (r : Bool) (w : World) (h : impl_isNameText.f a0 = some r) :
  Calls Try.prog 21 #[.string a0] w fun e w' => e = .returned (.bool r) ∧ Drawn0 w w' := by
 have H : (if (a0.size : Int) = 1 then (if 0 < (a0.size : Int) then ((impl_isName.f (bt a0 0)).bind fun bR => (some bR)) else (none)) else (some false)) = some r := h
 clear h
 by_cases c2 : (a0.size : Int) = 1
 ·rw [if_pos c2] at H
  have c2b0 : ((a0.size : Int) == 1) = true := qT c2
  have c2b1 : ((a0.size : Int) != 1) = false := nF c2
  clear c2
  by_cases c3 : 0 < (a0.size : Int)
  ·rw [if_pos c3] at H
   have c3b0 : decide (0 < (a0.size : Int)) = true := dT c3
   have c3b1 : decide (0 < a0.size) = true := dT (by omega)
   clear c3
   replace H := oB H
   obtain ⟨bR, b9, H⟩ := H
   try dsimp only at H
   have A5 := aM b9
   clear b9
   obtain rfl := sI H
   have p4 : 0 ≤ (0 : Int) := (by omega)
   have q4 : 0 < a0.size := (by have : (0 : Int) < (a0.size : Int) := oD z1; omega)
   have hx4 : ∀ h : 0 < a0.size, ((a0[0]'h).toNat : Int) = bt a0 0 := bt_at a0 0
   clear p4
   have qi4 : (0 < (a0.size : Int)) = True := eq_true (oD z1)
   replace q4 := eq_true q4
   go_enter Try.func21, Try.ntmps21
   go_wp2_with (first | (go_at_call 29; (with_reducible refine (impl_isName.calls (bt a0 0) bR _ A5.out).mono ?_); rintro e w' ⟨rfl, ⟨nd, rfl⟩⟩))
   go_ret
   exact ⟨y0, y1⟩
  ·rw [if_neg c3] at H
   exact absurd H (by simp)
 ·rw [if_neg c2] at H
  have c2b0 : ((a0.size : Int) == 1) = false := qF c2
  have c2b1 : ((a0.size : Int) != 1) = true := nT c2
  obtain rfl := sI H
  go_enter Try.func21, Try.ntmps21
  go_wp2
  go_ret
  exact ⟨y0, y1⟩

/-- A state of type 62 at block g of W; what its slices lead to came in by w0. -/
def IsS62 (w0 W : World) (g : Nat) (f0 : ByteArray) (f1 : Int) : Prop := W.heap[g]? = some (.cells #[.string f0, .int .i64 f1] 62 (0, 0)) ∧ w0.heap.size ≤ g
theorem IsS62.grown {w0 W : World} {g : Nat} {f0 : ByteArray} {f1 : Int} {W1 : World} {row : Option Nat} (h : IsS62 w0 W g f0 f1) (hw : W.grownBy W1 row) (hne : some g ≠ row) : IsS62 w0 W1 g f0 f1 := by
 obtain ⟨hb, hg⟩ := h
 exact ⟨blk_grown hb hw hne, hg⟩
theorem IsS62.own_neN {w0 W : World} {g : Nat} {f0 : ByteArray} {f1 : Int} {α : Type} {d : Kd α} {e : Nat} {base : Nat} {ok : Nat → Prop} {v : Value} {xs : List α} (h : IsS62 w0 W g f0 f1) (ho : Kd.N d e W base ok v xs) (ht : e ≠ 62) : some g ≠ v.ownBlock := by
 obtain ⟨hb, hg⟩ := h
 exact Kd.N_ne ho hb ht
theorem IsS62.fresh {w0 W : World} {g : Nat} {f0 : ByteArray} {f1 : Int} (h : IsS62 w0 W g f0 f1) : ∀ k, W.heap.size ≤ k → k ≠ g := by
 obtain ⟨hb, hg⟩ := h
 exact Kd.freshB hb
theorem IsS62.kept {w0 W : World} {g : Nat} {f0 : ByteArray} {f1 : Int} {W1 : World} {S : Nat → Prop} (h : IsS62 w0 W g f0 f1) (hk : Kept W W1 S) (hne : ¬ S g) : IsS62 w0 W1 g f0 f1 := by
 obtain ⟨hb, hg⟩ := h
 exact ⟨blk_kept hb hk hne, hg⟩
theorem IsS62.below {w0 W : World} {g : Nat} {f0 : ByteArray} {f1 : Int} {W1 : World} (h : IsS62 w0 W g f0 f1) (hw : Below W.heap.size W W1) : IsS62 w0 W1 g f0 f1 := h.grown (grown_of_below hw none) (by simp)
theorem IsS62.alloc {w0 W : World} {g : Nat} {f0 : ByteArray} {f1 : Int} (h : IsS62 w0 W g f0 f1) (o : Obj) : IsS62 w0 (W.alloc o) g f0 f1 := h.below (bA (Below.refl _ _) o)
theorem IsS62.drewN {w0 W : World} {g : Nat} {f0 : ByteArray} {f1 : Int} (h : IsS62 w0 W g f0 f1) (m : Nat) : IsS62 w0 (W.drewN m) g f0 f1 := h
theorem IsS62.drew {w0 W : World} {g : Nat} {f0 : ByteArray} {f1 : Int} (h : IsS62 w0 W g f0 f1) : IsS62 w0 W.drew g f0 f1 := h
theorem IsS62.at_ {w0 W : World} {g : Nat} {f0 : ByteArray} {f1 : Int} {w' : World} {m : Nat} (hq : W.drewN m = w') (h : IsS62 w0 W g f0 f1) : IsS62 w0 w' g f0 f1 := by subst hq; exact IsS62.drewN h m
theorem IsS62.apart {w0 W : World} {g : Nat} {f0 : ByteArray} {f1 : Int} {α : Type} {d : Kd α} {e : Nat} {base : Nat} {ok : Nat → Prop} {v : Value} {xs : List α} (h : IsS62 w0 W g f0 f1) (ho : d.R e W base ok v xs) (ht : ∀ q, q ∈ e :: d.E → q ≠ 62) : d.R e W base (fun k => ok k ∧ k ≠ g) v xs := by
 obtain ⟨hb, hg⟩ := h
 exact Kd.R_types ho hb ht
theorem IsS62.own_ne {w0 W : World} {g : Nat} {f0 : ByteArray} {f1 : Int} {α : Type} {d : Kd α} {e : Nat} {base : Nat} {ok : Nat → Prop} {v : Value} {xs : List α} (h : IsS62 w0 W g f0 f1) (ho : d.R e W base ok v xs) (ht : e ≠ 62) : some g ≠ v.ownBlock := by
 obtain ⟨hb, hg⟩ := h
 exact Kd.R_ne ho hb ht
theorem IsS62.apartQ {w0 W : World} {g : Nat} {f0 : ByteArray} {f1 : Int} {α : Type} {d : Kd α} {e : Nat} {base : Nat} {ok : Nat → Prop} {v : Value} {xs : List α} (h : IsS62 w0 W g f0 f1) (ho : d.Q e W base ok v xs) (ht : ∀ q, q ∈ e :: d.E → q ≠ 62) : d.Q e W base (fun k => ok k ∧ k ≠ g) v xs := by
 obtain ⟨hb, hg⟩ := h
 exact Kd.Q_types ho hb ht
theorem IsS62.own_neQ {w0 W : World} {g : Nat} {f0 : ByteArray} {f1 : Int} {α : Type} {d : Kd α} {e : Nat} {base : Nat} {ok : Nat → Prop} {v : Value} {xs : List α} (h : IsS62 w0 W g f0 f1) (ho : d.Q e W base ok v xs) (ht : e ≠ 62) : some g ≠ v.ownBlock := by
 obtain ⟨hb, hg⟩ := h
 exact Kd.Q_ne ho hb ht
theorem IsS62.apartS {w0 W : World} {g : Nat} {f0 : ByteArray} {f1 : Int} {α : Type} {d : Kd α} {e : Nat} {base : Nat} {ok : Nat → Prop} {v : Value} {xs : List α} (h : IsS62 w0 W g f0 f1) (ho : d.S e W base ok v xs) (ht : ∀ q, q ∈ e :: d.E → q ≠ 62) : d.S e W base (fun k => ok k ∧ k ≠ g) v xs := by
 obtain ⟨hb, hg⟩ := h
 exact Kd.S_types ho hb ht
theorem IsS62.own_neS {w0 W : World} {g : Nat} {f0 : ByteArray} {f1 : Int} {α : Type} {d : Kd α} {e : Nat} {base : Nat} {ok : Nat → Prop} {v : Value} {xs : List α} (h : IsS62 w0 W g f0 f1) (ho : d.S e W base ok v xs) (ht : e ≠ 62) : some g ≠ v.ownBlock := by
 obtain ⟨hb, hg⟩ := h
 exact Kd.S_ne ho hb ht
theorem IsS62.lt {w0 W : World} {g : Nat} {f0 : ByteArray} {f1 : Int} (h : IsS62 w0 W g f0 f1) : g < W.heap.size := by
 obtain ⟨hb, hg⟩ := h
 exact blk_lt hb
theorem IsS62.ge {w0 W : World} {g : Nat} {f0 : ByteArray} {f1 : Int} (h : IsS62 w0 W g f0 f1) : w0.heap.size ≤ g := by
 obtain ⟨hb, hg⟩ := h
 exact hg
theorem IsS62.ne_blk {w0 W : World} {g : Nat} {f0 : ByteArray} {f1 : Int} {a : Nat} {cs : Array Value} {t : TypeId} {fr : Nat × Nat} (h : IsS62 w0 W g f0 f1) (hb2 : W.heap[a]? = some (.cells cs t fr)) (ht : t ≠ 62) : g ≠ a := by
 obtain ⟨hb, hg⟩ := h
 rintro rfl
 rw [hb] at hb2
 injection hb2 with hb2
 injection hb2 with _ ht2
 exact ht ht2.symm
theorem IsS62.far {w0 W : World} {g : Nat} {f0 : ByteArray} {f1 : Int} {p : Addr} (h : IsS62 w0 W g f0 f1) (hne : g ≠ p.block) (u : Value) : IsS62 w0 (W.setCell p u) g f0 f1 := by
 obtain ⟨hb, hg⟩ := h
 exact ⟨blk_far hb hne u, hg⟩
theorem cellS62_0 {W : World} {g : Nat} {f0 : ByteArray} {f1 : Int} (h : W.heap[g]? = some (.cells #[.string f0, .int .i64 f1] 62 (0, 0))) : W.cell? ⟨g, 0, none⟩ = some (.string f0) := (bC h 0).trans rfl
theorem IsS62.set_0 {w0 W : World} {g : Nat} {f0 : ByteArray} {f1 : Int} (h : IsS62 w0 W g f0 f1) (x : ByteArray) : IsS62 w0 (W.setCell ⟨g, 0, none⟩ (.string x)) g x f1 := by
 obtain ⟨hb, hg⟩ := h
 exact ⟨by simpa using blk_set hb 0 (.string x), hg⟩
theorem cellS62_1 {W : World} {g : Nat} {f0 : ByteArray} {f1 : Int} (h : W.heap[g]? = some (.cells #[.string f0, .int .i64 f1] 62 (0, 0))) : W.cell? ⟨g, 1, none⟩ = some (.int .i64 f1) := (bC h 1).trans rfl
theorem IsS62.set_1 {w0 W : World} {g : Nat} {f0 : ByteArray} {f1 : Int} (h : IsS62 w0 W g f0 f1) (x : Int) : IsS62 w0 (W.setCell ⟨g, 1, none⟩ (.int .i64 x)) g f0 x := by
 obtain ⟨hb, hg⟩ := h
 exact ⟨by simpa using blk_set hb 1 (.int .i64 x), hg⟩
theorem IsS62.new (w0 W : World) (f0 : ByteArray) (f1 : Int) (hB : Below w0.heap.size w0 W) : IsS62 w0 (W.alloc (.cells #[.string f0, .int .i64 f1] 62)) W.heap.size f0 f1 := ⟨by simpa using heap_alloc_new W _, hB.size⟩

/-! ### impl_scanner_next: function 39 -/
def impl_scanner_next.f (s0_0 : ByteArray) (s0_1 : Int) : Option (Int × ByteArray × Int) := if s0_0.toList = ([] : List UInt8) then (some (0, s0_0, s0_1)) else (if 0 < (s0_0.size : Int) then (some (bt s0_0 0, s0_0, s0_1)) else (none))
set_option maxHeartbeats 8000000 in
set_option maxRecDepth 100000 in
theorem impl_scanner_next.calls (g : Nat) (s0_0 : ByteArray) (s0_1 : Int) (r1 : Int) (r2 : ByteArray) (r3 : Int) (w0 w : World) (hI : IsS62 w0 w g s0_0 s0_1) (hB : Below w0.heap.size w0 w) (h : impl_scanner_next.f s0_0 s0_1 = some (r1, r2, r3)) :
  Calls Try.prog 39 #[.pointer (some ⟨g, 0, none⟩)] w fun e w' => e = .returned (.int .u8 r1) ∧ IsS62 w0 w' g r2 r3 ∧ Below w0.heap.size w0 w' ∧ KeepBut w w' g none := by
 have HI0 := aM hI
 have HK := aM (KeepBut.refl w g none)
 have HL := aM hB.size
 clear hI
 have HW0 := aM hB.size
 have HB := aM hB
 clear hB
 have H : (if s0_0.toList = ([] : List UInt8) then (some (0, s0_0, s0_1)) else (if 0 < (s0_0.size : Int) then (some (bt s0_0 0, s0_0, s0_1)) else (none))) = some (r1, r2, r3) := h
 clear h
 by_cases c2 : s0_0.toList = ([] : List UInt8)
 ·rw [if_pos c2] at H
  have c2b0 : (s0_0.toList == ([] : List UInt8)) = true := qT c2
  have c2b1 : (s0_0.toList != ([] : List UInt8)) = false := nF c2
  clear c2
  simp only [Option.some.injEq, Prod.mk.injEq] at H
  obtain ⟨rfl, rfl, rfl⟩ := H
  obtain ⟨HGz3, hgz3⟩ := HI0.out
  have hcz3_0 := cellS62_0 HGz3
  have hcz3_1 := cellS62_1 HGz3
  have hfz3_0 := bF HGz3 0
  have hfz3_1 := bF HGz3 1
  clear HGz3 hgz3
  go_enter Try.func39, Try.ntmps39
  go_wp2
  all_goals (try (exfalso; rename_i h_; rw [c2b0] at h_; cases h_; done))
  go_ret
  exact ⟨y2, by (try simp only [Int.add_zero]); repeat (first | (with_reducible first | exact HI0.out | apply IsS62.alloc | apply IsS62.drewN | apply IsS62.drew | apply IsS62.set_0 | apply IsS62.set_1) | exact HI0.out), by repeat (first | (with_reducible first | exact HB.out | apply bA | apply pD | apply bD | refine aj ?_ (IsS62.ge HI0.out)) | exact HB.out), y9⟩
 ·rw [if_neg c2] at H
  have c2b0 : (s0_0.toList == ([] : List UInt8)) = false := qF c2
  have c2b1 : (s0_0.toList != ([] : List UInt8)) = true := nT c2
  by_cases c4 : 0 < (s0_0.size : Int)
  ·rw [if_pos c4] at H
   have c4b0 : decide (0 < (s0_0.size : Int)) = true := dT c4
   have c4b1 : decide (0 < s0_0.size) = true := dT (by omega)
   clear c4
   simp only [Option.some.injEq, Prod.mk.injEq] at H
   obtain ⟨rfl, rfl, rfl⟩ := H
   obtain ⟨HGz6, hgz6⟩ := HI0.out
   have hcz6_0 := cellS62_0 HGz6
   have hcz6_1 := cellS62_1 HGz6
   have hfz6_0 := bF HGz6 0
   have hfz6_1 := bF HGz6 1
   clear HGz6 hgz6
   have p5 : 0 ≤ (0 : Int) := (by omega)
   have q5 : 0 < s0_0.size := (by have : (0 : Int) < (s0_0.size : Int) := oD z1; omega)
   have hx5 : ∀ h : 0 < s0_0.size, ((s0_0[0]'h).toNat : Int) = bt s0_0 0 := bt_at s0_0 0
   clear p5
   have qi5 : (0 < (s0_0.size : Int)) = True := eq_true (oD z1)
   replace q5 := eq_true q5
   go_enter Try.func39, Try.ntmps39
   go_wp2
   all_goals (try (exfalso; rename_i h_; rw [c2b0] at h_; cases h_; done))
   go_ret
   exact ⟨y2, by (try simp only [Int.add_zero]); repeat (first | (with_reducible first | exact HI0.out | apply IsS62.alloc | apply IsS62.drewN | apply IsS62.drew | apply IsS62.set_0 | apply IsS62.set_1) | exact HI0.out), by repeat (first | (with_reducible first | exact HB.out | apply bA | apply pD | apply bD | refine aj ?_ (IsS62.ge HI0.out)) | exact HB.out), y9⟩
  ·rw [if_neg c4] at H
   exact absurd H (by simp)

-- NOT PRINTED: function 47 (bytealg_IndexByteString)

-- NOT PRINTED: function 40 (stringslite_IndexByte)

-- NOT PRINTED: function 46 (strings_IndexByte)

-- NOT PRINTED: function 50 (impl_isSymbol)

-- NOT PRINTED: function 45 (impl_scanner_atom)

-- NOT PRINTED: function 38 (impl_scanner_row)

-- NOT PRINTED: function 34 (impl_scanner_parted)

-- NOT PRINTED: function 30 (impl_readExpr)

end Go.Proofs.Ytihjaagamihhkaa.AFnExactGoodSchema
