-- this session's own text: written by wip/tools/ownprint.py over the kit's print
import Derived.Test.YtihjaagamihhkaaAFnExactReadSchemax0
namespace Go.Proofs.Ytihjaagamihhkaa.AFnExactReadSchema
open Go.RowKit Go.Proofs.YtihjaagamihhkaaW.PrintWords Go.Proofs.YtihjaagamihhkaaW.PrintLast Go.Proofs.YtihjaagamihhkaaW.PrintMore
attribute [local go_sem] max2_int min2_int max_two min_two max_three min_three max_four min_four   -- for this text's walks alone
set_option linter.unusedVariables false
set_option linter.unusedSimpArgs false

/-! ### laws_markText: function 26 -/
def laws_markText.l0 : Nat → Int → ByteArray → Option (ByteArray)
 | 0, _, _ => none
 | k + 1, x0, x3 => if x0 > 0 then ((some (([(wrap64 (48 + (Int.tmod x0 10))) % 256] : List Int) : List Int)).bind fun y164 => (if (strOfNums y164).size + x3.size ≤ 9223372036854775807 then (laws_markText.l0 k (wrap64 (Int.tdiv x0 10)) ((strOfNums y164) ++ x3)) else (none))) else (if 1 + x3.size ≤ 9223372036854775807 then (some ((⟨#[109]⟩ : ByteArray) ++ x3)) else (none))
def laws_markText.f (k : Nat) (a0 : Int) : Option (ByteArray) := if a0 ≤ 0 then (some (⟨#[109, 48]⟩ : ByteArray)) else (laws_markText.l0 k a0 (⟨#[]⟩ : ByteArray))
theorem laws_markText.mono_l : ∀ k, (∀ y0 y1, LeO (laws_markText.l0 k y0 y1) (laws_markText.l0 (k + 1) y0 y1))
 | 0 => fun _ _ r h => by simp [laws_markText.l0] at h
 | k + 1 => by
  have ih0 := laws_markText.mono_l k
  ·intro y0 y1
   unfold laws_markText.l0
   repeat' first
   | (with_reducible exact ih0 _ _)
   | (with_reducible exact LeO.refl _)
   | (with_reducible exact LeO.none _)
   | (with_reducible refine LeO.ite ?_ ?_)
   | (with_reducible refine LeO.bind ?_ (fun _ => ?_))
   | exact ih0 _ _
   | exact LeO.none _
   | refine LeO.ite ?_ ?_
   | refine LeO.bind ?_ (fun _ => ?_)
theorem laws_markText.mono : ∀ a0 k, LeO (laws_markText.f k a0) (laws_markText.f (k + 1) a0) := by
 intro a0 k
 have ih0 := laws_markText.mono_l k
 unfold laws_markText.f
 repeat' first
   | (with_reducible exact ih0 _ _)
   | (with_reducible exact LeO.refl _)
   | (with_reducible exact LeO.none _)
   | (with_reducible refine LeO.ite ?_ ?_)
   | (with_reducible refine LeO.bind ?_ (fun _ => ?_))
   | exact ih0 _ _
   | exact LeO.none _
   | refine LeO.ite ?_ ?_
   | refine LeO.bind ?_ (fun _ => ?_)
set_option maxHeartbeats 8000000 in
set_option maxRecDepth 100000 in
theorem laws_markText.calls (k : Nat) (a0 : Int) (r : ByteArray) (w : World) (h : laws_markText.f k a0 = some r) :
  Calls Try.prog 26 #[.int .i64 a0] w fun e w' => e = .returned (.string r) ∧ Below w.heap.size w w' := by
 have HB := aM (Below.refl w.heap.size w)
 have H : (if a0 ≤ 0 then (some (⟨#[109, 48]⟩ : ByteArray)) else (laws_markText.l0 k a0 (⟨#[]⟩ : ByteArray))) = some r := h
 clear h
 by_cases c2 : a0 ≤ 0
 ·rw [if_pos c2] at H
  have c2b0 : decide (a0 ≤ 0) = true := dT c2
  clear c2
  obtain rfl := sI H
  go_enter Try.func26, Try.ntmps26
  go_wp2
  go_ret
  exact ⟨y2, y3⟩
 ·rw [if_neg c2] at H
  have c2b0 : decide (a0 ≤ 0) = false := dF c2
  clear c2
  have H' := aM H
  clear H
  go_enter Try.func26, Try.ntmps26
  go_wp2
  go_loopg [0, 3] k (fun kq v0 v3 w' => ∃ (x0_1 : Int) (x3_1 : ByteArray), v0 = .int .i64 x0_1 ∧ v3 = .string x3_1 ∧ Aside0 (laws_markText.l0 kq x0_1 x3_1 = some r) ∧ Aside0 (kq ≤ k) ∧ Aside0 (Below w.heap.size w w'))
  case atStart => exact ⟨(a0), ((⟨#[]⟩ : ByteArray)), z1, z1, H', ⟨Nat.le_refl _⟩, ⟨y3⟩⟩
  case round =>
   clear H'
   try clear c2
   try clear c2b0
   try clear p2
   obtain ⟨x0_1, x3_1, rfl, rfl, HA, HK1, HB⟩ := hrel
   cases gk with
   | zero => exact absurd HA.out (by simp [laws_markText.l0])
   | succ k1 =>
    have H := HA.out
    clear HA
    simp only [laws_markText.l0] at H
    by_cases c3 : x0_1 > 0
    ·rw [if_pos c3] at H
     have c3b0 : decide (0 < x0_1) = true := dT c3
     clear c3
     obtain ⟨y164, hy164⟩ : ∃ y_ : List Int, y_ = (([(wrap64 (48 + (Int.tmod x0_1 10))) % 256] : List Int)) := ⟨_, rfl⟩
     replace H : (if (strOfNums y164).size + x3_1.size ≤ 9223372036854775807 then (laws_markText.l0 k1 (wrap64 (Int.tdiv x0_1 10)) ((strOfNums y164) ++ x3_1)) else (none)) = some r := by first | (rw [hy164]; with_reducible exact H) | (have H2_ := (Option.bind_some _ _).symm.trans H; rw [hy164]; with_reducible exact H2_) | (have H2_ := (Option.bind_some _ _).symm.trans H; with_reducible exact H2_) | with_reducible exact H | (rw [hy164]; exact H) | exact H
     have Ny164 := aM hy164
     clear hy164
     by_cases c4 : (strOfNums y164).size + x3_1.size ≤ 9223372036854775807
     ·rw [if_pos c4] at H
      have c4b0 := eq_true c4
      have c4b1 : decide ((strOfNums y164).size + x3_1.size ≤ 9223372036854775807) = true := dT c4
      try have c4b2 : (9223372036854775807 < (strOfNums y164).size + x3_1.size) = False := eq_false (Nat.not_lt.2 c4)
      have H' := aM H
      clear H
      go_wp2_with (first | ((with_reducible refine ar (N := 12) rfl ?_); refine Kd.R_lit (Kd.int .u8) _ 5 ?hg (N := 12) ?hd (xs := ([(wrap64 (48 + (Int.tmod x0_1 10))) % 256] : List Int)) (inner := [.int .u8 ((wrap64 (48 + (Int.tmod x0_1 10))) % 256)]) (ok := fun _ => True) (okp := fun _ => True) ?hr ?hp (fun _ hk => hk) trivial (Below.refl _ _) (Nat.le_refl _) (by simp) ?_; (case hd => rfl); (case hg => rfl); (case hr => first | (go_simp; done) | (go_simp; rfl)); (case hp => exact (Reps.one (show Kd.M (Kd.int .u8) _ _ _ ((wrap64 (48 + (Int.tmod x0_1 10))) % 256) [.int .u8 ((wrap64 (48 + (Int.tmod x0_1 10))) % 256)] from rfl) (Reps.none _ _))); intro v165 w5 ho6 hb hg_ hnew_; clear hg_ hnew_; (first | rw [← Ny164.out] at ho6 | (simp only [Int.reduceToNat] at ho6; rw [← Ny164.out] at ho6)); have aA := aM (Kd.R_lower ho6 (am z6)); have aC := aM (al z6 hb); clear HB; have HO166 := aA; have HB := aC; clear aA aC; clear hb ho6; have hcv7 := own_string (P := Try.prog) Try.underlying54 Try.underlying5 Try.underlying9 (Kd.own_of_R HO166.out)))
      go_roundg k1
      case measure => have := HK1.out; omega
      case rel => exact ⟨(wrap64 (Int.tdiv x0_1 10)), ((strOfNums y164) ++ x3_1), z1, z1, H', ⟨by have := HK1.out; omega⟩, ⟨y3⟩⟩
     ·rw [if_neg c4] at H
      exact absurd H (by simp)
    ·rw [if_neg c3] at H
     have c3b0 : decide (0 < x0_1) = false := dF c3
     clear c3
     by_cases c8 : 1 + x3_1.size ≤ 9223372036854775807
     ·rw [if_pos c8] at H
      have c8b0 := eq_true c8
      have c8b1 : decide (1 + x3_1.size ≤ 9223372036854775807) = true := dT c8
      try have c8b2 : (9223372036854775807 < 1 + x3_1.size) = False := eq_false (Nat.not_lt.2 c8)
      obtain rfl := sI H
      go_wp2
      go_ret
      exact ⟨y2, y3⟩
     ·rw [if_neg c8] at H
      exact absurd H (by simp)

/-! ### laws_markRuleS: function 15 -/
def laws_markRuleS.l0 : Nat → List (S38) → Int → Int → Option (Int × (List (S38)))
 | 0, _, _, _ => none
 | k + 1, x0, x1, x5 => if x5 < (x0.length : Int) then ((laws_markText.f k x1).bind fun bV => (if 0 ≤ x5 then ((some (x0.set (x5 : Int).toNat (⟨bV, (rd_T38 x0 x5).f1⟩ : S38) : List (S38))).bind fun y168 => ((laws_markText.f k (wrap64 (x1 + 1))).bind fun bJ => (laws_markRuleS.l0 k (y168.set (x5 : Int).toNat (⟨(rd_T38 y168 x5).f0, bJ⟩ : S38)) (wrap64 ((wrap64 (x1 + 1)) + 1)) (wrap64 (x5 + 1))))) else (none))) else (some (x1, x0))
def laws_markRuleS.f (k : Nat) (l0 : List (S38)) (a1 : Int) : Option (Int × (List (S38))) := laws_markRuleS.l0 k l0 a1 0
theorem laws_markRuleS.mono_l : ∀ k, (∀ y0 y1 y2, LeO (laws_markRuleS.l0 k y0 y1 y2) (laws_markRuleS.l0 (k + 1) y0 y1 y2))
 | 0 => fun _ _ _ r h => by simp [laws_markRuleS.l0] at h
 | k + 1 => by
  have ih0 := laws_markRuleS.mono_l k
  ·intro y0 y1 y2
   unfold laws_markRuleS.l0
   repeat' first
   | (with_reducible exact ih0 _ _ _)
   | (with_reducible exact laws_markText.mono _ _)
   | (with_reducible exact LeO.refl _)
   | (with_reducible exact LeO.none _)
   | (with_reducible refine LeO.ite ?_ ?_)
   | (with_reducible refine LeO.bind ?_ (fun _ => ?_))
   | exact ih0 _ _ _
   | exact laws_markText.mono _ _
   | exact LeO.none _
   | refine LeO.ite ?_ ?_
   | refine LeO.bind ?_ (fun _ => ?_)
theorem laws_markRuleS.mono : ∀ a0 a1 k, LeO (laws_markRuleS.f k a0 a1) (laws_markRuleS.f (k + 1) a0 a1) := by
 intro a0 a1 k
 have ih0 := laws_markRuleS.mono_l k
 unfold laws_markRuleS.f
 repeat' first
   | (with_reducible exact ih0 _ _ _)
   | (with_reducible exact laws_markText.mono _ _)
   | (with_reducible exact LeO.refl _)
   | (with_reducible exact LeO.none _)
   | (with_reducible refine LeO.ite ?_ ?_)
   | (with_reducible refine LeO.bind ?_ (fun _ => ?_))
   | exact ih0 _ _ _
   | exact laws_markText.mono _ _
   | exact LeO.none _
   | refine LeO.ite ?_ ?_
   | refine LeO.bind ?_ (fun _ => ?_)
set_option maxHeartbeats 8000000 in
set_option maxRecDepth 100000 in
theorem laws_markRuleS.calls (k : Nat) (P0_ : Nat → Prop) (u9000_ : Value) (l0 : List (S38)) (a1 : Int) (r1 : Int) (r2 : List (S38)) (w0 w : World) (hB : Below w0.heap.size w0 w) (ho0 : Kd.R k38 38 w w0.heap.size P0_ u9000_ l0) (h : laws_markRuleS.f k l0 a1 = some (r1, r2)) :
  Calls Try.prog 15 #[u9000_, .int .i64 a1] w fun e w' => e = .returned (.int .i64 r1) ∧ Kd.R k38 38 w' w0.heap.size (fun k_ => (P0_ k_ ∨ w.heap.size ≤ k_)) u9000_ r2 ∧ Below w0.heap.size w0 w' ∧ Kept w w' (fun k_ => P0_ k_) := by
 have HO0 := aM (show Kd.R k38 38 w w0.heap.size (fun k_ => (P0_ k_ ∨ w.heap.size ≤ k_)) u9000_ l0 from Kd.R_mono ho0 (fun k_ hk => (.inl hk)))
 have HK := aM (Kept.refl w (fun k_ => P0_ k_))
 have HW0 := aM hB.size
 have HB := aM hB
 clear hB
 have H : (laws_markRuleS.l0 k l0 a1 0) = some (r1, r2) := h
 clear h
 have H' := aM H
 clear H
 go_enter Try.func15, Try.ntmps15
 go_wp2
 go_loopg [1, 5] k (fun kq v1 v5 w' => ∃ (x0_1 : List (S38)) (x1_1 : Int) (x5_1 : Int), v1 = .int .i64 x1_1 ∧ v5 = .int .i64 x5_1 ∧ Aside0 (laws_markRuleS.l0 kq x0_1 x1_1 x5_1 = some (r1, r2)) ∧ Aside0 (kq ≤ k) ∧ Aside0 (Kd.R k38 38 w' w0.heap.size (fun k_ => (P0_ k_ ∨ w.heap.size ≤ k_)) u9000_ x0_1) ∧ Aside0 (Kept w w' (fun k_ => P0_ k_)) ∧ Aside0 (Below w0.heap.size w0 w'))
 case atStart => exact ⟨(l0), (a1), (0), z1, z1, H', ⟨Nat.le_refl _⟩, ⟨by (with_reducible repeat (first | apply ac | apply ab | apply aa)); exact HO0.out⟩, ⟨by repeat (first | (with_reducible first | exact HK.out | apply Kept.alloc | apply Kept.drewN | apply Kept.drew) | exact HK.out)⟩, ⟨y3⟩⟩
 case round =>
  clear H'
  try clear c1
  try clear p2
  obtain ⟨x0_1, x1_1, x5_1, rfl, rfl, HA, HK1, aZ, HK, HB⟩ := hrel
  cases gk with
  | zero => exact absurd HA.out (by simp [laws_markRuleS.l0])
  | succ k1 =>
   have H := HA.out
   clear HA
   simp only [laws_markRuleS.l0] at H
   by_cases c3 : x5_1 < (x0_1.length : Int)
   ·rw [if_pos c3] at H
    have c3b0 : decide (x5_1 < (x0_1.length : Int)) = true := dT c3
    clear c3
    replace H := oB H
    obtain ⟨bV, cD, H⟩ := H
    try dsimp only at H
    have A4 := aM cD
    clear cD
    by_cases c5 : 0 ≤ x5_1
    ·rw [if_pos c5] at H
     have c5b0 : decide (0 ≤ x5_1) = true := dT c5
     clear c5
     obtain ⟨y168, hy168⟩ : ∃ y_ : List (S38), y_ = (x0_1.set (x5_1 : Int).toNat (⟨bV, (rd_T38 x0_1 x5_1).f1⟩ : S38)) := ⟨_, rfl⟩
     replace H : ((laws_markText.f k1 (wrap64 (x1_1 + 1))).bind fun bJ => (laws_markRuleS.l0 k1 (y168.set (x5_1 : Int).toNat (⟨(rd_T38 y168 x5_1).f0, bJ⟩ : S38)) (wrap64 ((wrap64 (x1_1 + 1)) + 1)) (wrap64 (x5_1 + 1)))) = some (r1, r2) := by first | (rw [hy168]; with_reducible exact H) | (have H2_ := (Option.bind_some _ _).symm.trans H; rw [hy168]; with_reducible exact H2_) | (have H2_ := (Option.bind_some _ _).symm.trans H; with_reducible exact H2_) | with_reducible exact H | (rw [hy168]; exact H) | exact H
     have Ny168 := aM hy168
     clear hy168
     replace H := oB H
     obtain ⟨bJ, cw, H⟩ := H
     try dsimp only at H
     have A7 := aM cw
     clear cw
     obtain ⟨y170, hy170⟩ : ∃ y_ : List (S38), y_ = (y168.set (x5_1 : Int).toNat (⟨(rd_T38 y168 x5_1).f0, bJ⟩ : S38)) := ⟨_, rfl⟩
     replace H : (laws_markRuleS.l0 k1 y170 (wrap64 ((wrap64 (x1_1 + 1)) + 1)) (wrap64 (x5_1 + 1))) = some (r1, r2) := by first | (rw [hy170]; with_reducible exact H) | (have H2_ := (Option.bind_some _ _).symm.trans H; rw [hy170]; with_reducible exact H2_) | (have H2_ := (Option.bind_some _ _).symm.trans H; with_reducible exact H2_) | with_reducible exact H | (rw [hy170]; exact H) | exact H
     have Ny170 := aM hy170
     clear hy170
     have H' := aM H
     clear H
     obtain ⟨Ao9, dH, eo9⟩ := Kd.R_slice aZ.out
     subst eo9
     go_wp2_with (first | ((with_reducible refine aq (f := 26) rfl ?_); refine goesL_ (some 15) rfl rfl Try.func26 z0 rfl #[.int .i64 x1_1] rfl z7 ?_; (with_reducible refine (laws_markText.calls k1 x1_1 bV _ A4.out).mono ?_); rintro e w10 ⟨rfl, hb⟩; refine ⟨_, rfl, ?_⟩; have aA := aM (af (by (with_reducible repeat (first | apply ac | apply ab | apply aa)); exact aZ.out) hb); have aC := aM (Kept.below (S := (fun k_ => P0_ k_)) (by repeat (first | (with_reducible first | exact HK.out | apply Kept.alloc | apply Kept.drewN | apply Kept.drew) | exact HK.out)) hb); have aG := aM (al z6 hb); clear aZ; clear HK; clear HB; have aZ := aA; have HK := aC; have HB := aG; clear aA aC aG; (try clear hb); (try clear hb2); (try clear hk); (try clear hi); have p6 : 0 ≤ (x5_1 : Int) := oD z2; have q6 : (x5_1 : Int) < ((x0_1.length : Int) : Int) := oD z2; obtain ⟨go6, co6, eo6, dW, gl6, cl6, HG6⟩ := Kd.R_form aZ.out (by omega); (first | cases eo6 | (injection eo6 with ea_ en_ ec_; (first | subst ea_ | (injection ea_ with ea_; subst ea_)); subst ec_; clear en_)); have GB6 := aM dW; have GG6 := aM HG6; clear dW gl6 HG6; have HMgo6 := aM (show (P0_ go6 ∨ w.heap.size ≤ go6) from (aZ.out.1 _ rfl)); obtain ⟨ce6, hcl6, hM6, hcc6, hfr6⟩ := Kd.R_elem aZ.out z38 (x5_1 : Int) p6 q6; obtain rfl := k38_openM hM6; have hx6_0 : w10.cell? ⟨go6, (x5_1 : Int).toNat * 2, none⟩ = some (.string ((rd_T38 x0_1 x5_1).f0)) := hcc6 0 _ rfl; have hx6_1 : w10.cell? ⟨go6, (x5_1 : Int).toNat * 2 + 1, none⟩ = some (.string ((rd_T38 x0_1 x5_1).f1)) := hcc6 1 _ rfl; have hf6_0 : w10.frozen? ⟨go6, (x5_1 : Int).toNat * 2, none⟩ = false := hfr6 0; have hf6_1 : w10.frozen? ⟨go6, (x5_1 : Int).toNat * 2 + 1, none⟩ = false := hfr6 1; clear hcl6 hcc6 hfr6; (try clear hM6); replace p6 := eq_true p6; replace q6 := eq_true q6; have HX11 := aM (show Kd.R k38 38 w10 w0.heap.size (fun k_ => (P0_ k_ ∨ w.heap.size ≤ k_)) (.slice (some ⟨go6, 0, none⟩) x0_1.length dH) x0_1 from (by (with_reducible repeat (first | apply ac | apply ab | apply aa)); exact aZ.out)); obtain ⟨ce11, hcl11, hM11, hcc11, hfr11⟩ := Kd.R_elem HX11.out z38 (x5_1 : Int) (oD z2) (by have h_ : (x5_1 : Int) < ((x0_1.length : Int) : Int) := oD z2; first | exact h_ | (have e_ := (ag aZ.out).1; omega) | simpa using h_); obtain rfl := k38_openM hM11; have HP11 := Kd.R_seg HX11.out (x5_1 : Int) (oD z2) (by have h_ : (x5_1 : Int) < ((x0_1.length : Int) : Int) := oD z2; first | exact h_ | (have e_ := (ag aZ.out).1; omega) | simpa using h_) (seg := [.string bV]) (j := 0) hcl11 hcc11 (show 1 ≤ 2 from by decide) (x' := (⟨bV, (rd_T38 x0_1 x5_1).f1⟩ : S38)) (k38_mkM _ _ _ (⟨bV, (rd_T38 x0_1 x5_1).f1⟩ : S38) ) (fun _ hk => hk); have hx11_0 := hcc11 0 _ rfl; (try simp only [show (k38).sz = 2 from rfl, Nat.mul_one, Nat.add_zero] at hx11_0); have hf11_0 := hfr11 0; (try simp only [show (k38).sz = 2 from rfl, Nat.mul_one, Nat.add_zero] at hf11_0); clear hcl11 hcc11 hfr11; (try clear hM11)) | ((with_reducible refine gate_store (t := 9) (p := 17) rfl ?_); refine store_event (t := 9) (p := 17) (v := ?vo_w12) (w1 := (w10.setCell ⟨go6, (x5_1 : Int).toNat * 2, none⟩ (.string bV))) ?hg ?ho ?hn ?hr ?_; (case ho => rfl); (case hg => rfl); (case hn => rfl); (case hr => first | (go_simp; done) | (go_simp; rfl) | ((try simp only [Int.toNat_natCast] at *); go_simp; first | done | rfl)); intro w12 hw; have hg : w10.grownBy w12 (some go6) := (by rw [hw]; exact HP11.2); have hp_ : Kd.R k38 38 w12 w0.heap.size (fun k_ => (P0_ k_ ∨ w.heap.size ≤ k_)) (.slice (some ⟨go6, 0, none⟩) x0_1.length dH) y168 := (by rw [hw, Ny168.out]; exact HP11.1); clear HP11; have aA := aM (hp_); have aC := aM ((by rw [hw]; exact ak (HB.out) GB6.out : Below w0.heap.size w0 w12)); have aG := aM (Kept.of_grown (S := (fun k_ => P0_ k_)) hg (by repeat (first | (with_reducible first | exact HK.out | apply Kept.alloc | apply Kept.drewN | apply Kept.drew) | exact HK.out)) (fun k_ e_ => (aZ.out.1 k_ e_))); clear aZ; clear HB; clear HK; have aZ := aA; have HB := aC; have HK := aG; clear aA aC aG; clear hg hw hp_) | ((with_reducible refine aq (f := 26) rfl ?_); refine goesL_ (some 23) rfl rfl Try.func26 z0 rfl #[.int .i64 (wrap64 (x1_1 + 1))] rfl z7 ?_; (with_reducible refine (laws_markText.calls k1 (wrap64 (x1_1 + 1)) bJ _ A7.out).mono ?_); rintro e w13 ⟨rfl, hb⟩; refine ⟨_, rfl, ?_⟩; have aA := aM (af (by (with_reducible repeat (first | apply ac | apply ab | apply aa)); exact aZ.out) hb); have aC := aM (Kept.below (S := (fun k_ => P0_ k_)) (by repeat (first | (with_reducible first | exact HK.out | apply Kept.alloc | apply Kept.drewN | apply Kept.drew) | exact HK.out)) hb); have aG := aM (al z6 hb); clear aZ; clear HK; clear HB; have aZ := aA; have HK := aC; have HB := aG; clear aA aC aG; (try clear hb); (try clear hb2); (try clear hk); (try clear hi); have p8 : 0 ≤ (x5_1 : Int) := oD z2; have q8 : (x5_1 : Int) < ((x0_1.length : Int) : Int) := oD z2; obtain ⟨ce8, hcl8, hM8, hcc8, hfr8⟩ := Kd.R_elem aZ.out z38 (x5_1 : Int) p8 q8; obtain rfl := k38_openM hM8; have hx8_0 : w13.cell? ⟨go6, (x5_1 : Int).toNat * 2, none⟩ = some (.string ((rd_T38 y168 x5_1).f0)) := hcc8 0 _ rfl; have hx8_1 : w13.cell? ⟨go6, (x5_1 : Int).toNat * 2 + 1, none⟩ = some (.string ((rd_T38 y168 x5_1).f1)) := hcc8 1 _ rfl; have hf8_0 : w13.frozen? ⟨go6, (x5_1 : Int).toNat * 2, none⟩ = false := hfr8 0; have hf8_1 : w13.frozen? ⟨go6, (x5_1 : Int).toNat * 2 + 1, none⟩ = false := hfr8 1; clear hcl8 hcc8 hfr8; (try clear hM8); replace p8 := eq_true p8; replace q8 := eq_true q8; have HX14 := aM (show Kd.R k38 38 w13 w0.heap.size (fun k_ => (P0_ k_ ∨ w.heap.size ≤ k_)) (.slice (some ⟨go6, 0, none⟩) x0_1.length dH) y168 from (by (with_reducible repeat (first | apply ac | apply ab | apply aa)); exact aZ.out)); obtain ⟨ce14, hcl14, hM14, hcc14, hfr14⟩ := Kd.R_elem HX14.out z38 (x5_1 : Int) (oD z2) (by have h_ : (x5_1 : Int) < ((x0_1.length : Int) : Int) := oD z2; first | exact h_ | (have e_ := (ag aZ.out).1; omega) | simpa using h_); obtain rfl := k38_openM hM14; have HP14 := Kd.R_seg HX14.out (x5_1 : Int) (oD z2) (by have h_ : (x5_1 : Int) < ((x0_1.length : Int) : Int) := oD z2; first | exact h_ | (have e_ := (ag aZ.out).1; omega) | simpa using h_) (seg := [.string bJ]) (j := 1) hcl14 hcc14 (show 2 ≤ 2 from by decide) (x' := (⟨(rd_T38 y168 x5_1).f0, bJ⟩ : S38)) (k38_mkM _ _ _ (⟨(rd_T38 y168 x5_1).f0, bJ⟩ : S38) ) (fun _ hk => hk); have hx14_1 := hcc14 1 _ rfl; (try simp only [show (k38).sz = 2 from rfl, Nat.mul_one, Nat.add_zero] at hx14_1); have hf14_1 := hfr14 1; (try simp only [show (k38).sz = 2 from rfl, Nat.mul_one, Nat.add_zero] at hf14_1); clear hcl14 hcc14 hfr14; (try clear hM14)) | ((with_reducible refine gate_store (t := 9) (p := 25) rfl ?_); refine store_event (t := 9) (p := 25) (v := ?vo_w15) (w1 := (w13.setCell ⟨go6, (x5_1 : Int).toNat * 2 + 1, none⟩ (.string bJ))) ?hg ?ho ?hn ?hr ?_; (case ho => rfl); (case hg => rfl); (case hn => rfl); (case hr => first | (go_simp; done) | (go_simp; rfl) | ((try simp only [Int.toNat_natCast] at *); go_simp; first | done | rfl)); intro w15 hw; have hg : w13.grownBy w15 (some go6) := (by rw [hw]; exact HP14.2); have hp_ : Kd.R k38 38 w15 w0.heap.size (fun k_ => (P0_ k_ ∨ w.heap.size ≤ k_)) (.slice (some ⟨go6, 0, none⟩) x0_1.length dH) y170 := (by rw [hw, Ny170.out]; exact HP14.1); clear HP14; have aA := aM (hp_); have aC := aM ((by rw [hw]; exact ak (HB.out) GB6.out : Below w0.heap.size w0 w15)); have aG := aM (Kept.of_grown (S := (fun k_ => P0_ k_)) hg (by repeat (first | (with_reducible first | exact HK.out | apply Kept.alloc | apply Kept.drewN | apply Kept.drew) | exact HK.out)) (fun k_ e_ => (aZ.out.1 k_ e_))); clear aZ; clear HB; clear HK; have aZ := aA; have HB := aC; have HK := aG; clear aA aC aG; clear hg hw hp_))
     go_roundg k1
     case measure => have := HK1.out; omega
     case rel => exact ⟨(y170), (wrap64 ((wrap64 (x1_1 + 1)) + 1)), (wrap64 (x5_1 + 1)), z1, z1, H', ⟨by have := HK1.out; omega⟩, ⟨by (with_reducible repeat (first | apply ac | apply ab | apply aa)); exact aZ.out⟩, ⟨by repeat (first | (with_reducible first | exact HK.out | apply Kept.alloc | apply Kept.drewN | apply Kept.drew) | exact HK.out)⟩, ⟨y3⟩⟩
    ·rw [if_neg c5] at H
     exact absurd H (by simp)
   ·rw [if_neg c3] at H
    have c3b0 : decide (x5_1 < (x0_1.length : Int)) = false := dF c3
    clear c3
    simp only [Option.some.injEq, Prod.mk.injEq] at H
    obtain ⟨rfl, rfl⟩ := H
    obtain ⟨dq, di, eo16⟩ := Kd.R_slice aZ.out
    subst eo16
    go_wp2
    go_ret
    exact ⟨y2, by (with_reducible repeat (first | apply ac | apply ab | apply aa)); exact aZ.out, y3, by repeat (first | (with_reducible first | exact HK.out | apply Kept.alloc | apply Kept.drewN | apply Kept.drew) | exact HK.out)⟩

/-! ### laws_heldRuleS: function 16 -/
def laws_heldRuleS.l0 : Nat → List (S38) → Int → Int → Option (Int)
 | 0, _, _, _ => none
 | k + 1, x0, x1, x5 => if x5 < (x0.length : Int) then (if 0 ≤ x5 then ((laws_markText.f k x1).bind fun bI => (if ((rd_T38 x0 x5).f0).toList = bI.toList then ((laws_markText.f k (wrap64 (x1 + 1))).bind fun bP => (if ((rd_T38 x0 x5).f1).toList = bP.toList then (laws_heldRuleS.l0 k x0 (wrap64 ((wrap64 (x1 + 1)) + 1)) (wrap64 (x5 + 1))) else (some (-1)))) else (some (-1)))) else (none)) else (some x1)
def laws_heldRuleS.f (k : Nat) (l0 : List (S38)) (a1 : Int) : Option (Int) := laws_heldRuleS.l0 k l0 a1 0
theorem laws_heldRuleS.mono_l : ∀ k, (∀ y0 y1 y2, LeO (laws_heldRuleS.l0 k y0 y1 y2) (laws_heldRuleS.l0 (k + 1) y0 y1 y2))
 | 0 => fun _ _ _ r h => by simp [laws_heldRuleS.l0] at h
 | k + 1 => by
  have ih0 := laws_heldRuleS.mono_l k
  ·intro y0 y1 y2
   unfold laws_heldRuleS.l0
   repeat' first
   | (with_reducible exact ih0 _ _ _)
   | (with_reducible exact laws_markText.mono _ _)
   | (with_reducible exact LeO.refl _)
   | (with_reducible exact LeO.none _)
   | (with_reducible refine LeO.ite ?_ ?_)
   | (with_reducible refine LeO.bind ?_ (fun _ => ?_))
   | exact ih0 _ _ _
   | exact laws_markText.mono _ _
   | exact LeO.none _
   | refine LeO.ite ?_ ?_
   | refine LeO.bind ?_ (fun _ => ?_)
theorem laws_heldRuleS.mono : ∀ a0 a1 k, LeO (laws_heldRuleS.f k a0 a1) (laws_heldRuleS.f (k + 1) a0 a1) := by
 intro a0 a1 k
 have ih0 := laws_heldRuleS.mono_l k
 unfold laws_heldRuleS.f
 repeat' first
   | (with_reducible exact ih0 _ _ _)
   | (with_reducible exact laws_markText.mono _ _)
   | (with_reducible exact LeO.refl _)
   | (with_reducible exact LeO.none _)
   | (with_reducible refine LeO.ite ?_ ?_)
   | (with_reducible refine LeO.bind ?_ (fun _ => ?_))
   | exact ih0 _ _ _
   | exact laws_markText.mono _ _
   | exact LeO.none _
   | refine LeO.ite ?_ ?_
   | refine LeO.bind ?_ (fun _ => ?_)
def laws_heldRuleS.T4 : Bool × List (List Nat × List Nat) := (true, [([], []), ([], []), ([0, 1], [0, 1]), ([2], [2]), ([3], [3]), ([], []), ([5], [5]), ([4, 6], [4, 6])])
def laws_heldRuleS.B4 : List Nat := [0, 0, 3, 7, 15, 0, 32, 127]
theorem laws_heldRuleS.tab4 : rtab .any (opsOf Try.f16 4) = laws_heldRuleS.T4 := by kernel_rfl
theorem laws_heldRuleS.bits4 : waitsOk laws_heldRuleS.T4.2 laws_heldRuleS.B4 = true := by kernel_rfl
def laws_heldRuleS.T7 : Bool × List (List Nat × List Nat) := (true, [([], []), ([], []), ([0, 1], [0, 1]), ([2], [2]), ([3], [3]), ([], []), ([5], [5]), ([4, 6], [4, 6])])
def laws_heldRuleS.B7 : List Nat := [0, 0, 3, 7, 15, 0, 32, 127]
theorem laws_heldRuleS.tab7 : rtab .any (opsOf Try.f16 7) = laws_heldRuleS.T7 := by kernel_rfl
theorem laws_heldRuleS.bits7 : waitsOk laws_heldRuleS.T7.2 laws_heldRuleS.B7 = true := by kernel_rfl
set_option maxHeartbeats 8000000 in
set_option maxRecDepth 100000 in
theorem laws_heldRuleS.calls (k : Nat) (A0 : Option Addr) (c0 : Nat) (l0 : List (S38)) (a1 : Int) (r : Int) (w : World) (hr0 : Kd.C k38 w A0 l0.length l0) (hc0 : l0.length ≤ c0) (h : laws_heldRuleS.f k l0 a1 = some r) :
  Calls Try.prog 16 #[.slice A0 l0.length c0, .int .i64 a1] w fun e w' => e = .returned (.int .i64 r) ∧ Below w.heap.size w w' := by
 have bh := aM hr0
 have dR := aM hc0
 clear hr0 hc0
 have HB := aM (Below.refl w.heap.size w)
 have H : (laws_heldRuleS.l0 k l0 a1 0) = some r := h
 clear h
 have H' := aM H
 clear H
 go_enter Try.func16, Try.ntmps16
 go_wp2
 go_loopg [1, 5] k (fun kq v1 v5 w' => ∃ (x1_1 : Int) (x5_1 : Int), v1 = .int .i64 x1_1 ∧ v5 = .int .i64 x5_1 ∧ Aside0 (laws_heldRuleS.l0 kq l0 x1_1 x5_1 = some r) ∧ Aside0 (kq ≤ k) ∧ Aside0 (Below w.heap.size w w'))
 case atStart => exact ⟨(a1), (0), z1, z1, H', ⟨Nat.le_refl _⟩, ⟨y3⟩⟩
 case round =>
  clear H'
  try clear c1
  try clear p2
  obtain ⟨x1_1, x5_1, rfl, rfl, HA, HK1, HB⟩ := hrel
  cases gk with
  | zero => exact absurd HA.out (by simp [laws_heldRuleS.l0])
  | succ k1 =>
   have H := HA.out
   clear HA
   simp only [laws_heldRuleS.l0] at H
   by_cases c3 : x5_1 < (l0.length : Int)
   ·rw [if_pos c3] at H
    have c3b0 : decide (x5_1 < (l0.length : Int)) = true := dT c3
    clear c3
    by_cases c4 : 0 ≤ x5_1
    ·rw [if_pos c4] at H
     have c4b0 : decide (0 ≤ x5_1) = true := dT c4
     clear c4
     replace H := oB H
     obtain ⟨bI, cM, H⟩ := H
     try dsimp only at H
     have A5 := aM cM
     clear cM
     by_cases c6 : ((rd_T38 l0 x5_1).f0).toList = bI.toList
     ·rw [if_pos c6] at H
      have c6b0 : (((rd_T38 l0 x5_1).f0).toList == bI.toList) = true := qT c6
      have c6b1 : (((rd_T38 l0 x5_1).f0).toList != bI.toList) = false := nF c6
      clear c6
      replace H := oB H
      obtain ⟨bP, cw, H⟩ := H
      try dsimp only at H
      have A7 := aM cw
      clear cw
      by_cases c8 : ((rd_T38 l0 x5_1).f1).toList = bP.toList
      ·rw [if_pos c8] at H
       have c8b0 : (((rd_T38 l0 x5_1).f1).toList == bP.toList) = true := qT c8
       have c8b1 : (((rd_T38 l0 x5_1).f1).toList != bP.toList) = false := nF c8
       clear c8
       have H' := aM H
       clear H
       try go_wp2
       have aA := aM (bD HB.out)
       clear HB
       have HB := aA
       clear aA
       have p171 : 0 ≤ (x5_1 : Int) := oD z2
       have q171 : x5_1 < (l0.length : Int) := oD z2
       obtain ⟨ad171, e171, hx171_0, hx171_1⟩ := at_T38 bh.out x5_1 p171 q171
       have hw171_1 := hx171_1
       have hw171_0 := hx171_0
       cases e171
       replace hx171_0 := (HB.out.cell (World.block_lt_of_cell? w _ hx171_0)).trans hx171_0
       replace hx171_1 := (HB.out.cell (World.block_lt_of_cell? w _ hx171_1)).trans hx171_1
       replace p171 := eq_true p171
       replace q171 := eq_true q171
       refine start_ (n := 8) (S := fun w' => w'.cell? (ad171.add ((x5_1).toNat * 2)) = some (.string ((rd_T38 l0 x5_1).f0)) ∧ w'.cell? ⟨(ad171.add ((x5_1).toNat * 2)).block, (ad171.add ((x5_1).toNat * 2)).off + 1, none⟩ = some (.string ((rd_T38 l0 x5_1).f1))) (ds := []) #[false, false, false, false, false, false, false, false] z0 rfl rfl ⟨((HB.out.cell (World.block_lt_of_cell? w _ hw171_0)).trans hw171_0), ((HB.out.cell (World.block_lt_of_cell? w _ hw171_1)).trans hw171_1)⟩ (fun hHeld => ?_); refine with_tabW laws_heldRuleS.tab4 laws_heldRuleS.bits4 (fun HT_ HW_ => ?_)
       generalize wr.drew = w9 at HB hx171_0 hx171_1 hHeld ⊢
       refine pA 0 12 ?_
       refine pA 1 13 ?_
       refine pA 2 14 ?_
       refine pA 3 15 ?_
       refine pA 5 17 ?_
       refine tA 4 16 ?_ (hy := by rintro w' ⟨s0, s1⟩; go_simp; with_reducible rfl)
       refine one_ (i := 6) (N := some 18) #[true, true, true, true, true, true, true, false] rfl rfl (one_of HT_.out z0) (by decide) (fun K hK => ?_)
       refine goes_ Try.func26 z0 rfl #[.int .i64 x1_1] (by rfl) rfl rfl z7 ?_
       with_reducible refine (laws_markText.calls k1 x1_1 bI _ A5.out).mono ?_
       rintro e w10 ⟨rfl, hb⟩
       refine ⟨_, rfl, ?_⟩
       have aA := aM (al z6 hb)
       clear HB
       have HB := aA
       clear aA
       (try clear hb)
       (try clear hb2)
       (try clear hk)
       (try clear hi)
       refine hK.out _ _ ⟨((HB.out.cell (World.block_lt_of_cell? w _ hw171_0)).trans hw171_0), ((HB.out.cell (World.block_lt_of_cell? w _ hw171_1)).trans hw171_1)⟩ (fun hHeld => ?_)
       clear hK K
       refine norm_ (a' := ?_) ?_ ?_
       rotate_left
       ·show Act.put _ (some 18) _ = _
        simp only [Act.put, sA, sB, sC, i64_w, i32_w]
        rfl
       refine pA 7 19 ?_
       refine done_ (done_of HT_.out z0) ?_
       try go_wp2
       have aA := aM (bD HB.out)
       clear HB
       have HB := aA
       clear aA
       have p173 : 0 ≤ (x5_1 : Int) := oD z2
       have q173 : x5_1 < (l0.length : Int) := oD z2
       obtain ⟨ad173, e173, hx173_0, hx173_1⟩ := at_T38 bh.out x5_1 p173 q173
       have hw173_1 := hx173_1
       have hw173_0 := hx173_0
       obtain rfl : ad171 = ad173 := (by injection e173)
       replace hx173_0 := (HB.out.cell (World.block_lt_of_cell? w _ hx173_0)).trans hx173_0
       replace hx173_1 := (HB.out.cell (World.block_lt_of_cell? w _ hx173_1)).trans hx173_1
       replace p173 := eq_true p173
       replace q173 := eq_true q173
       refine start_ (n := 8) (S := fun w' => w'.cell? (ad171.add ((x5_1).toNat * 2)) = some (.string ((rd_T38 l0 x5_1).f0)) ∧ w'.cell? ⟨(ad171.add ((x5_1).toNat * 2)).block, (ad171.add ((x5_1).toNat * 2)).off + 1, none⟩ = some (.string ((rd_T38 l0 x5_1).f1))) (ds := []) #[false, false, false, false, false, false, false, false] z0 rfl rfl ⟨((HB.out.cell (World.block_lt_of_cell? w _ hw173_0)).trans hw173_0), ((HB.out.cell (World.block_lt_of_cell? w _ hw173_1)).trans hw173_1)⟩ (fun hHeld => ?_); refine with_tabW laws_heldRuleS.tab7 laws_heldRuleS.bits7 (fun HT_ HW_ => ?_)
       generalize w10.drew = w11 at HB hx173_0 hx173_1 hHeld ⊢
       refine pA 0 22 ?_
       refine pA 1 23 ?_
       refine pA 2 24 ?_
       refine pA 3 25 ?_
       refine pA 5 27 ?_
       refine tA 4 26 ?_ (hy := by rintro w' ⟨s0, s1⟩; go_simp; with_reducible rfl)
       refine one_ (i := 6) (N := some 28) #[true, true, true, true, true, true, true, false] rfl rfl (one_of HT_.out z0) (by decide) (fun K hK => ?_)
       refine goes_ Try.func26 z0 rfl #[.int .i64 (wrap64 (x1_1 + 1))] (by rfl) rfl rfl z7 ?_
       with_reducible refine (laws_markText.calls k1 (wrap64 (x1_1 + 1)) bP _ A7.out).mono ?_
       rintro e w12 ⟨rfl, hb⟩
       refine ⟨_, rfl, ?_⟩
       have aA := aM (al z6 hb)
       clear HB
       have HB := aA
       clear aA
       (try clear hb)
       (try clear hb2)
       (try clear hk)
       (try clear hi)
       refine hK.out _ _ ⟨((HB.out.cell (World.block_lt_of_cell? w _ hw173_0)).trans hw173_0), ((HB.out.cell (World.block_lt_of_cell? w _ hw173_1)).trans hw173_1)⟩ (fun hHeld => ?_)
       clear hK K
       refine norm_ (a' := ?_) ?_ ?_
       rotate_left
       ·show Act.put _ (some 28) _ = _
        simp only [Act.put, sA, sB, sC, i64_w, i32_w]
        rfl
       refine pA 7 29 ?_
       refine done_ (done_of HT_.out z0) ?_
       try go_wp2
       go_roundg k1
       case measure => have := HK1.out; omega
       case rel => exact ⟨(wrap64 ((wrap64 (x1_1 + 1)) + 1)), (wrap64 (x5_1 + 1)), z1, z1, H', ⟨by have := HK1.out; omega⟩, ⟨y3⟩⟩
      ·rw [if_neg c8] at H
       have c8b0 : (((rd_T38 l0 x5_1).f1).toList == bP.toList) = false := qF c8
       have c8b1 : (((rd_T38 l0 x5_1).f1).toList != bP.toList) = true := nT c8
       obtain rfl := sI H
       try go_wp2
       have aA := aM (bD HB.out)
       clear HB
       have HB := aA
       clear aA
       have p171 : 0 ≤ (x5_1 : Int) := oD z2
       have q171 : x5_1 < (l0.length : Int) := oD z2
       obtain ⟨ad171, e171, hx171_0, hx171_1⟩ := at_T38 bh.out x5_1 p171 q171
       have hw171_1 := hx171_1
       have hw171_0 := hx171_0
       cases e171
       replace hx171_0 := (HB.out.cell (World.block_lt_of_cell? w _ hx171_0)).trans hx171_0
       replace hx171_1 := (HB.out.cell (World.block_lt_of_cell? w _ hx171_1)).trans hx171_1
       replace p171 := eq_true p171
       replace q171 := eq_true q171
       refine start_ (n := 8) (S := fun w' => w'.cell? (ad171.add ((x5_1).toNat * 2)) = some (.string ((rd_T38 l0 x5_1).f0)) ∧ w'.cell? ⟨(ad171.add ((x5_1).toNat * 2)).block, (ad171.add ((x5_1).toNat * 2)).off + 1, none⟩ = some (.string ((rd_T38 l0 x5_1).f1))) (ds := []) #[false, false, false, false, false, false, false, false] z0 rfl rfl ⟨((HB.out.cell (World.block_lt_of_cell? w _ hw171_0)).trans hw171_0), ((HB.out.cell (World.block_lt_of_cell? w _ hw171_1)).trans hw171_1)⟩ (fun hHeld => ?_); refine with_tabW laws_heldRuleS.tab4 laws_heldRuleS.bits4 (fun HT_ HW_ => ?_)
       generalize wr.drew = w13 at HB hx171_0 hx171_1 hHeld ⊢
       refine pA 0 12 ?_
       refine pA 1 13 ?_
       refine pA 2 14 ?_
       refine pA 3 15 ?_
       refine pA 5 17 ?_
       refine tA 4 16 ?_ (hy := by rintro w' ⟨s0, s1⟩; go_simp; with_reducible rfl)
       refine one_ (i := 6) (N := some 18) #[true, true, true, true, true, true, true, false] rfl rfl (one_of HT_.out z0) (by decide) (fun K hK => ?_)
       refine goes_ Try.func26 z0 rfl #[.int .i64 x1_1] (by rfl) rfl rfl z7 ?_
       with_reducible refine (laws_markText.calls k1 x1_1 bI _ A5.out).mono ?_
       rintro e w14 ⟨rfl, hb⟩
       refine ⟨_, rfl, ?_⟩
       have aA := aM (al z6 hb)
       clear HB
       have HB := aA
       clear aA
       (try clear hb)
       (try clear hb2)
       (try clear hk)
       (try clear hi)
       refine hK.out _ _ ⟨((HB.out.cell (World.block_lt_of_cell? w _ hw171_0)).trans hw171_0), ((HB.out.cell (World.block_lt_of_cell? w _ hw171_1)).trans hw171_1)⟩ (fun hHeld => ?_)
       clear hK K
       refine norm_ (a' := ?_) ?_ ?_
       rotate_left
       ·show Act.put _ (some 18) _ = _
        simp only [Act.put, sA, sB, sC, i64_w, i32_w]
        rfl
       refine pA 7 19 ?_
       refine done_ (done_of HT_.out z0) ?_
       try go_wp2
       have aA := aM (bD HB.out)
       clear HB
       have HB := aA
       clear aA
       have p173 : 0 ≤ (x5_1 : Int) := oD z2
       have q173 : x5_1 < (l0.length : Int) := oD z2
       obtain ⟨ad173, e173, hx173_0, hx173_1⟩ := at_T38 bh.out x5_1 p173 q173
       have hw173_1 := hx173_1
       have hw173_0 := hx173_0
       obtain rfl : ad171 = ad173 := (by injection e173)
       replace hx173_0 := (HB.out.cell (World.block_lt_of_cell? w _ hx173_0)).trans hx173_0
       replace hx173_1 := (HB.out.cell (World.block_lt_of_cell? w _ hx173_1)).trans hx173_1
       replace p173 := eq_true p173
       replace q173 := eq_true q173
       refine start_ (n := 8) (S := fun w' => w'.cell? (ad171.add ((x5_1).toNat * 2)) = some (.string ((rd_T38 l0 x5_1).f0)) ∧ w'.cell? ⟨(ad171.add ((x5_1).toNat * 2)).block, (ad171.add ((x5_1).toNat * 2)).off + 1, none⟩ = some (.string ((rd_T38 l0 x5_1).f1))) (ds := []) #[false, false, false, false, false, false, false, false] z0 rfl rfl ⟨((HB.out.cell (World.block_lt_of_cell? w _ hw173_0)).trans hw173_0), ((HB.out.cell (World.block_lt_of_cell? w _ hw173_1)).trans hw173_1)⟩ (fun hHeld => ?_); refine with_tabW laws_heldRuleS.tab7 laws_heldRuleS.bits7 (fun HT_ HW_ => ?_)
       generalize w14.drew = w15 at HB hx173_0 hx173_1 hHeld ⊢
       refine pA 0 22 ?_
       refine pA 1 23 ?_
       refine pA 2 24 ?_
       refine pA 3 25 ?_
       refine pA 5 27 ?_
       refine tA 4 26 ?_ (hy := by rintro w' ⟨s0, s1⟩; go_simp; with_reducible rfl)
       refine one_ (i := 6) (N := some 28) #[true, true, true, true, true, true, true, false] rfl rfl (one_of HT_.out z0) (by decide) (fun K hK => ?_)
       refine goes_ Try.func26 z0 rfl #[.int .i64 (wrap64 (x1_1 + 1))] (by rfl) rfl rfl z7 ?_
       with_reducible refine (laws_markText.calls k1 (wrap64 (x1_1 + 1)) bP _ A7.out).mono ?_
       rintro e w16 ⟨rfl, hb⟩
       refine ⟨_, rfl, ?_⟩
       have aA := aM (al z6 hb)
       clear HB
       have HB := aA
       clear aA
       (try clear hb)
       (try clear hb2)
       (try clear hk)
       (try clear hi)
       refine hK.out _ _ ⟨((HB.out.cell (World.block_lt_of_cell? w _ hw173_0)).trans hw173_0), ((HB.out.cell (World.block_lt_of_cell? w _ hw173_1)).trans hw173_1)⟩ (fun hHeld => ?_)
       clear hK K
       refine norm_ (a' := ?_) ?_ ?_
       rotate_left
       ·show Act.put _ (some 28) _ = _
        simp only [Act.put, sA, sB, sC, i64_w, i32_w]
        rfl
       refine pA 7 29 ?_
       refine done_ (done_of HT_.out z0) ?_
       try go_wp2
       go_ret
       exact ⟨y2, y3⟩
     ·rw [if_neg c6] at H
      have c6b0 : (((rd_T38 l0 x5_1).f0).toList == bI.toList) = false := qF c6
      have c6b1 : (((rd_T38 l0 x5_1).f0).toList != bI.toList) = true := nT c6
      obtain rfl := sI H
      try go_wp2
      have aA := aM (bD HB.out)
      clear HB
      have HB := aA
      clear aA
      have p171 : 0 ≤ (x5_1 : Int) := oD z2
      have q171 : x5_1 < (l0.length : Int) := oD z2
      obtain ⟨ad171, e171, hx171_0, hx171_1⟩ := at_T38 bh.out x5_1 p171 q171
      have hw171_1 := hx171_1
      have hw171_0 := hx171_0
      cases e171
      replace hx171_0 := (HB.out.cell (World.block_lt_of_cell? w _ hx171_0)).trans hx171_0
      replace hx171_1 := (HB.out.cell (World.block_lt_of_cell? w _ hx171_1)).trans hx171_1
      replace p171 := eq_true p171
      replace q171 := eq_true q171
      refine start_ (n := 8) (S := fun w' => w'.cell? (ad171.add ((x5_1).toNat * 2)) = some (.string ((rd_T38 l0 x5_1).f0)) ∧ w'.cell? ⟨(ad171.add ((x5_1).toNat * 2)).block, (ad171.add ((x5_1).toNat * 2)).off + 1, none⟩ = some (.string ((rd_T38 l0 x5_1).f1))) (ds := []) #[false, false, false, false, false, false, false, false] z0 rfl rfl ⟨((HB.out.cell (World.block_lt_of_cell? w _ hw171_0)).trans hw171_0), ((HB.out.cell (World.block_lt_of_cell? w _ hw171_1)).trans hw171_1)⟩ (fun hHeld => ?_); refine with_tabW laws_heldRuleS.tab4 laws_heldRuleS.bits4 (fun HT_ HW_ => ?_)
      generalize wr.drew = w17 at HB hx171_0 hx171_1 hHeld ⊢
      refine pA 0 12 ?_
      refine pA 1 13 ?_
      refine pA 2 14 ?_
      refine pA 3 15 ?_
      refine pA 5 17 ?_
      refine tA 4 16 ?_ (hy := by rintro w' ⟨s0, s1⟩; go_simp; with_reducible rfl)
      refine one_ (i := 6) (N := some 18) #[true, true, true, true, true, true, true, false] rfl rfl (one_of HT_.out z0) (by decide) (fun K hK => ?_)
      refine goes_ Try.func26 z0 rfl #[.int .i64 x1_1] (by rfl) rfl rfl z7 ?_
      with_reducible refine (laws_markText.calls k1 x1_1 bI _ A5.out).mono ?_
      rintro e w18 ⟨rfl, hb⟩
      refine ⟨_, rfl, ?_⟩
      have aA := aM (al z6 hb)
      clear HB
      have HB := aA
      clear aA
      (try clear hb)
      (try clear hb2)
      (try clear hk)
      (try clear hi)
      refine hK.out _ _ ⟨((HB.out.cell (World.block_lt_of_cell? w _ hw171_0)).trans hw171_0), ((HB.out.cell (World.block_lt_of_cell? w _ hw171_1)).trans hw171_1)⟩ (fun hHeld => ?_)
      clear hK K
      refine norm_ (a' := ?_) ?_ ?_
      rotate_left
      ·show Act.put _ (some 18) _ = _
       simp only [Act.put, sA, sB, sC, i64_w, i32_w]
       rfl
      refine pA 7 19 ?_
      refine done_ (done_of HT_.out z0) ?_
      try go_wp2
      go_ret
      exact ⟨y2, y3⟩
    ·rw [if_neg c4] at H
     exact absurd H (by simp)
   ·rw [if_neg c3] at H
    have c3b0 : decide (x5_1 < (l0.length : Int)) = false := dF c3
    clear c3
    obtain rfl := sI H
    go_wp2
    go_ret
    exact ⟨y2, y3⟩

end Go.Proofs.Ytihjaagamihhkaa.AFnExactReadSchema
