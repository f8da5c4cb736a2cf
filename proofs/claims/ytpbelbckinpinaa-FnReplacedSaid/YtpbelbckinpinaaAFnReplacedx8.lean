-- this session's own text: written by wip/tools/ownprint.py over the kit's print
import Derived.Test.YtpbelbckinpinaaAFnReplacedx0
import Derived.Test.YtpbelbckinpinaaAFnReplacedx7
namespace Go.Proofs.Ytpbelbckinpinaa.AFnReplaced
open Go.RowKit Go.Proofs.YtpbelbckinpinaaW.PrintWords Go.Proofs.YtpbelbckinpinaaW.PrintLast Go.Proofs.YtpbelbckinpinaaW.PrintMore
attribute [local go_sem] max2_int min2_int max_two min_two max_three min_three max_four min_four   -- for this text's walks alone
set_option linter.unusedVariables false
set_option linter.unusedSimpArgs false

/-! ### impl_normal: function 73, by hand -/
def nrm : List S74 → List S74 → ByteArray → ByteArray → Option (List S74)
 | [], out, put, drop => if out.length + 3 ≤ 3518437208883 then some (out ++ ends put drop) else none
 | p :: l, out, put, drop => if out.length + 3 ≤ 3518437208883 ∧ (kS put p.f0).size + p.f1.size ≤ 9223372036854775807 ∧ (kS drop p.f0).size + p.f2.size ≤ 9223372036854775807 then nrm l (kO out put drop p.f0) (kS put p.f0 ++ p.f1) (kS drop p.f0 ++ p.f2) else none
def impl_normal.f (l0 : List S74) : Option (List S74) := nrm l0 [] ⟨#[]⟩ ⟨#[]⟩
theorem Mk.new (w : World) : Mk w (w.alloc (.cells #[.slice none 0 0, .string ⟨#[]⟩, .string ⟨#[]⟩] 81)) w.heap.size (.slice none 0 0) [] ⟨#[]⟩ ⟨#[]⟩ :=
 ⟨heap_alloc_new w _, Kd.R_nil _ _ _ _ _, below_alloc (Below.refl _ _) _, Nat.le_refl _⟩
/-- What the loop of 'normal' holds at its head. -/
def NrmAt (w : World) (l0 : List S74) (r : List S74) (d : Nat) (v8 : Value) (w' : World) : Prop :=
 ∃ (i : Nat) (v : Value) (out : List S74) (put drop : ByteArray), v8 = .int .i64 i ∧ i + d = l0.length ∧ Mk w w' w.heap.size v out put drop ∧ nrm (l0.drop i) out put drop = some r
set_option maxHeartbeats 2000000 in
theorem impl_normal.calls (A0 : Option Addr) (c0 : Nat) (l0 : List S74) (r : List S74) (w : World) (hr0 : Kd.C k74 w A0 l0.length l0) (hc0 : l0.length ≤ c0) (h : impl_normal.f l0 = some r) :
  Calls Try.prog 73 #[.slice A0 l0.length c0] w fun e w' => ∃ v0_ : Value, e = .returned v0_ ∧ Kd.R k74 74 w' w.heap.size (fun _ => True) v0_ r ∧ Below w.heap.size w w' := by
 have HR := Aside0.mk hr0
 have HC := Aside0.mk hc0
 have hlen := Kd.C_max hr0
 have HN : Aside0 (nrm (l0.drop 0) [] ⟨#[]⟩ ⟨#[]⟩ = some r) := ⟨h⟩
 clear hr0 hc0 h
 go_enter Try.func73, Try.ntmps73
 go_wp2
 go_loopg [8] l0.length (fun d v8 w' => NrmAt w l0 r d v8 w')
 case atStart => exact ⟨0, _, [], ⟨#[]⟩, ⟨#[]⟩, rfl, by omega, Mk.new w, HN.out⟩
 case round =>
  obtain ⟨i, v, out, put, drop, rfl, hid, hm, hn⟩ := hrel
  have HM := Aside0.mk hm
  cases gk with
  | zero =>
   have hil : i = l0.length := by omega
   subst hil
   rw [List.drop_length] at hn
   unfold nrm at hn
   split at hn
   case isFalse => cases hn
   case isTrue hlt =>
    obtain rfl := Option.some.inj hn
    have HLT := Aside0.mk hlt
    clear hm hn hid hlt
    go_wp2_with (first | (go_at_call 57; refine (mk_made w _ w.heap.size v out put drop HM.out HLT.out).mono ?_; rintro e w1 ⟨v2, rfl, hr2, hb2, ht2⟩; have HR2 := Aside0.mk hr2; have HB2 := Aside0.mk hb2; clear hr2 hb2 ht2))
    go_ret
    exact ⟨_, rfl, HR2.out, HB2.out⟩
  | succ k1 =>
   have hil : i < l0.length := by omega
   have hd : l0.drop i = rd_T74 l0 (i : Int) :: l0.drop (i + 1) := by
    rw [List.drop_eq_getElem_cons hil]
    unfold rd_T74
    rw [Int.toNat_natCast, List.getD_eq_getElem?_getD, List.getElem?_eq_getElem hil, Option.getD_some]
   rw [hd] at hn
   unfold nrm at hn
   split at hn
   case isFalse => cases hn
   case isTrue hlt =>
    obtain ⟨hl1, hl2, hl3⟩ := hlt
    have H1 := Aside0.mk hl1
    have H2 := Aside0.mk hl2
    have H3 := Aside0.mk hl3
    have HN1 := Aside0.mk hn
    have HI : Aside0 (i + 1 + k1 = l0.length) := ⟨by omega⟩
    have hib : decide (i < l0.length) = true := decide_eq_true hil
    obtain ⟨ad, rfl, x0, x1, x2⟩ := at_T74 (Kd.C_below HR.out hm.2.2.1) (i : Int) (by omega) (by omega)
    simp only [Int.toNat_natCast] at x0 x1 x2
    clear hm hn hid hd hl1 hl2 hl3
    go_wp2_with (first | (go_at_call 55; refine (mk_take w _ w.heap.size v out put drop (rd_T74 l0 (i : Int)) (HM.out.alloc _) H1.out H2.out H3.out).mono ?_; rintro e w1 ⟨rfl, v2, h2_, ht2⟩; have HM2 := Aside0.mk h2_; clear h2_ ht2))
    go_roundg k1
    case measure => omega
    case rel => exact ⟨i + 1, _, _, _, _, by go_num, HI.out, HM2.out, HN1.out⟩

/-! ### impl_KeepAll: function 71 -/
def impl_KeepAll.f (a0 : Int) : Option ((List (S74)) × Bool) := if a0 < 0 then (some (([] : List (S74)), false)) else (if a0 > 300 then (some (([] : List (S74)), false)) else ((impl_normal.f (([(⟨a0, (⟨#[]⟩ : ByteArray), (⟨#[]⟩ : ByteArray)⟩ : S74)] : List (S74)))).bind fun t227 => (some (t227, true))))
set_option maxHeartbeats 8000000 in
set_option maxRecDepth 100000 in
theorem impl_KeepAll.calls (a0 : Int) (r1 : List (S74)) (r2 : Bool) (w : World) (h : impl_KeepAll.f a0 = some (r1, r2)) :
  Calls Try.prog 71 #[.int .i64 a0] w fun e w' => ∃ v0_ : Value, e = .returned (.tuple #[v0_, .bool r2]) ∧ Kd.R k74 74 w' w.heap.size (fun _ => True) v0_ r1 ∧ Below w.heap.size w w' := by
 have hu74 := Try.underlying74
 have HB := Aside0.mk (Below.refl w.heap.size w)
 have H : (if a0 < 0 then (some (([] : List (S74)), false)) else (if a0 > 300 then (some (([] : List (S74)), false)) else ((impl_normal.f (([(⟨a0, (⟨#[]⟩ : ByteArray), (⟨#[]⟩ : ByteArray)⟩ : S74)] : List (S74)))).bind fun t227 => (some (t227, true))))) = some (r1, r2) := h
 clear h
 by_cases c2 : a0 < 0
 ·rw [if_pos c2] at H
  have c2b0 : decide (a0 < 0) = true := decide_eq_true c2
  clear c2
  simp only [Option.some.injEq, Prod.mk.injEq] at H
  obtain ⟨rfl, rfl⟩ := H
  go_enter Try.func71, Try.ntmps71
  go_wp2
  go_ret2
  exact ⟨_, by first | rfl | (simp [errW_none, errW_some] <;> rfl) | (simp [*, errW_none, errW_some] <;> rfl), by first | exact Kd.R_nil _ _ _ _ _ | exact Kd.N_nil _ _ _ _ _ | exact Kd.V_nil _ _ _ _ _ | exact Kd.Q_nil _ _ _ _ _ | exact Kd.S_nil _ _ _ _ _, by repeat (first | (with_reducible first | exact HB.out | apply below_alloc | apply pw_below_drewN | apply below_drew1) | exact HB.out)⟩
 ·rw [if_neg c2] at H
  have c2b0 : decide (a0 < 0) = false := decide_eq_false c2
  clear c2
  by_cases c3 : a0 > 300
  ·rw [if_pos c3] at H
   have c3b0 : decide (300 < a0) = true := decide_eq_true c3
   clear c3
   simp only [Option.some.injEq, Prod.mk.injEq] at H
   obtain ⟨rfl, rfl⟩ := H
   go_enter Try.func71, Try.ntmps71
   go_wp2
   go_ret2
   exact ⟨_, by first | rfl | (simp [errW_none, errW_some] <;> rfl) | (simp [*, errW_none, errW_some] <;> rfl), by first | exact Kd.R_nil _ _ _ _ _ | exact Kd.N_nil _ _ _ _ _ | exact Kd.V_nil _ _ _ _ _ | exact Kd.Q_nil _ _ _ _ _ | exact Kd.S_nil _ _ _ _ _, by repeat (first | (with_reducible first | exact HB.out | apply below_alloc | apply pw_below_drewN | apply below_drew1) | exact HB.out)⟩
  ·rw [if_neg c3] at H
   have c3b0 : decide (300 < a0) = false := decide_eq_false c3
   clear c3
   obtain ⟨y224, hy224⟩ : ∃ y_ : List (S74), y_ = (([(⟨a0, (⟨#[]⟩ : ByteArray), (⟨#[]⟩ : ByteArray)⟩ : S74)] : List (S74))) := ⟨_, rfl⟩
   replace H : ((impl_normal.f y224).bind fun t227 => (some (t227, true))) = some (r1, r2) := by first | (rw [hy224]; with_reducible exact H) | (have H2_ := (Option.bind_some _ _).symm.trans H; rw [hy224]; with_reducible exact H2_) | (have H2_ := (Option.bind_some _ _).symm.trans H; with_reducible exact H2_) | with_reducible exact H | (rw [hy224]; exact H) | exact H
   have Ny224 := Aside0.mk hy224
   clear hy224
   replace H := Option.bind_eq_some_iff.mp H
   obtain ⟨t227, A40, H⟩ := H
   try dsimp only at H
   have A4 := Aside0.mk A40
   clear A40
   simp only [Option.some.injEq, Prod.mk.injEq] at H
   obtain ⟨rfl, rfl⟩ := H
   go_enter Try.func71, Try.ntmps71
   go_wp2_with (first | ((with_reducible refine gate_dst (N := 12) rfl ?_); refine Kd.R_lit k74 _ 74 ?hg (N := 12) ?hd (xs := ([(⟨a0, (⟨#[]⟩ : ByteArray), (⟨#[]⟩ : ByteArray)⟩ : S74)] : List (S74))) (inner := [.int .i64 a0, .string (⟨#[]⟩ : ByteArray), .string (⟨#[]⟩ : ByteArray)]) (ok := fun _ => True) (okp := fun _ => True) ?hr ?hp (fun _ hk => hk) trivial (Below.refl _ _) (Nat.le_refl _) (by simp) ?_; (case hd => rfl); (case hg => rfl); (case hr => first | (go_simp; done) | (go_simp; rfl)); (case hp => exact (Reps.c3 (show Kd.M k74 _ _ _ (⟨a0, (⟨#[]⟩ : ByteArray), (⟨#[]⟩ : ByteArray)⟩ : S74) [.int .i64 a0, .string (⟨#[]⟩ : ByteArray), .string (⟨#[]⟩ : ByteArray)] from (k74_mkM _ _ _ (⟨a0, (⟨#[]⟩ : ByteArray), (⟨#[]⟩ : ByteArray)⟩ : S74) )) (Reps.none _ _))); intro v225 w5 ho6 hb hg_ hnew_; clear hg_ hnew_; (first | rw [← Ny224.out] at ho6 | (simp only [Int.reduceToNat] at ho6; rw [← Ny224.out] at ho6)); have n0_ := Aside0.mk (Kd.R_lower ho6 (below_size z4)); have n1_ := Aside0.mk (below_step z4 hb); clear HB; have HO226 := n0_; have HB := n1_; clear n0_ n1_; clear hb ho6; obtain ⟨Ao7, co7, eo7⟩ := Kd.R_slice HO226.out; subst eo7) | ((with_reducible refine gate_callee (f := 73) rfl ?_); refine goesL_ (some 13) rfl rfl Try.func73 z0 rfl #[.slice Ao7 y224.length co7] rfl z5 ?_; (with_reducible refine (impl_normal.calls _ _ y224 t227 _ ?side1 ?side2 A4.out).mono ?_); (case side1 => repeat (first | exact (Kd.R_reads' HO226.out).2.2 | (with_reducible refine Kd.C_alloc ?_ _) | (with_reducible refine Kd.C_drewN ?_ _) | (with_reducible refine Kd.C_drew ?_))); (case side2 => exact (Kd.R_reads' HO226.out).2.1); rintro e w8 ⟨v228, rfl, ho0, hb⟩; refine ⟨_, rfl, ?_⟩; have n0_ := Aside0.mk (Kd.R_elder' (by (with_reducible repeat (first | apply Kd.R_alloc | apply Kd.R_drewN | apply Kd.R_drew)); exact HO226.out) (Kd.R_base ho0) hb); have n1_ := Aside0.mk (Kd.R_lower (Kd.R_new' ho0 (Kd.R_lt (by (with_reducible repeat (first | apply Kd.R_alloc | apply Kd.R_drewN | apply Kd.R_drew)); exact HO226.out))) (below_size z4)); have n2_ := Aside0.mk (below_step z4 hb); clear HO226; clear HB; have HO226 := n0_; have HO229 := n1_; have HB := n2_; clear n0_ n1_ n2_; (try clear hb); (try clear hb2); (try clear hk); (try clear hi); (try clear ho0)))
   go_ret2
   exact ⟨_, by first | rfl | (simp [errW_none, errW_some] <;> rfl) | (simp [*, errW_none, errW_some] <;> rfl), by (with_reducible repeat (first | apply Kd.R_alloc | apply Kd.R_drewN | apply Kd.R_drew)); exact Kd.R_mono HO229.out (fun _ hk => trivial), by repeat (first | (with_reducible first | exact HB.out | apply below_alloc | apply pw_below_drewN | apply below_drew1) | exact HB.out)⟩

/-! ### impl_borders: function 134 -/
mutual
def impl_borders.l0 : Nat → ByteArray → List Int → Int → Option (List Int)
 | 0, _, _, _ => none
 | k + 1, x0, x3, x4 => if x4 < (x0.size : Int) then (if 0 ≤ (wrap64 (x4 - 1)) then (if (wrap64 (x4 - 1)) < (x3.length : Int) then (impl_borders.l1 k x0 x3 x4 (rd x3 (wrap64 (x4 - 1)))) else (none)) else (none)) else (some x3)
def impl_borders.l1 : Nat → ByteArray → List Int → Int → Int → Option (List Int)
 | 0, _, _, _, _ => none
 | k + 1, x0, x3, x4, x5 => if x5 > 0 then (if 0 ≤ x5 then (if x5 < (x0.size : Int) then (if 0 ≤ x4 then (if x4 < (x0.size : Int) then (if (bt x0 x5) = (bt x0 x4) then (if x4 < (x3.length : Int) then (impl_borders.l0 k x0 (x3.set (x4 : Int).toNat (wrap64 (x5 + 1))) (wrap64 (x4 + 1))) else (none)) else (if 0 ≤ (wrap64 (x5 - 1)) then (if (wrap64 (x5 - 1)) < (x3.length : Int) then (impl_borders.l1 k x0 x3 x4 (rd x3 (wrap64 (x5 - 1)))) else (none)) else (none))) else (none)) else (none)) else (none)) else (none)) else (if 0 ≤ x5 then (if x5 < (x0.size : Int) then (if 0 ≤ x4 then (if x4 < (x0.size : Int) then (if (bt x0 x5) = (bt x0 x4) then (if x4 < (x3.length : Int) then (impl_borders.l0 k x0 (x3.set (x4 : Int).toNat (wrap64 (x5 + 1))) (wrap64 (x4 + 1))) else (none)) else (if x4 < (x3.length : Int) then (impl_borders.l0 k x0 (x3.set (x4 : Int).toNat x5) (wrap64 (x4 + 1))) else (none))) else (none)) else (none)) else (none)) else (none))
end
def impl_borders.f (k : Nat) (a0 : ByteArray) : Option (List Int) := if 0 ≤ (a0.size : Int) then (if ((a0.size : Int) : Int).toNat ≤ 35184372088832 then (impl_borders.l0 k a0 (List.replicate ((a0.size : Int) : Int).toNat 0) 1) else (none)) else (none)
theorem impl_borders.mono_l : ∀ k, (∀ y0 y1 y2, LeO (impl_borders.l0 k y0 y1 y2) (impl_borders.l0 (k + 1) y0 y1 y2)) ∧ (∀ y0 y1 y2 y3, LeO (impl_borders.l1 k y0 y1 y2 y3) (impl_borders.l1 (k + 1) y0 y1 y2 y3))
 | 0 => ⟨fun _ _ _ r h => by simp [impl_borders.l0] at h, fun _ _ _ _ r h => by simp [impl_borders.l1] at h⟩
 | k + 1 => by
  obtain ⟨ih0, ih1⟩ := impl_borders.mono_l k
  refine ⟨?_, ?_⟩
  ·intro y0 y1 y2
   unfold impl_borders.l0
   repeat' first
   | (with_reducible exact ih0 _ _ _)
   | (with_reducible exact ih1 _ _ _ _)
   | (with_reducible exact LeO.refl _)
   | (with_reducible exact LeO.none _)
   | (with_reducible refine LeO.ite ?_ ?_)
   | (with_reducible refine LeO.bind ?_ (fun _ => ?_))
   | exact ih0 _ _ _
   | exact ih1 _ _ _ _
   | exact LeO.none _
   | refine LeO.ite ?_ ?_
   | refine LeO.bind ?_ (fun _ => ?_)
  ·intro y0 y1 y2 y3
   unfold impl_borders.l1
   repeat' first
   | (with_reducible exact ih0 _ _ _)
   | (with_reducible exact ih1 _ _ _ _)
   | (with_reducible exact LeO.refl _)
   | (with_reducible exact LeO.none _)
   | (with_reducible refine LeO.ite ?_ ?_)
   | (with_reducible refine LeO.bind ?_ (fun _ => ?_))
   | exact ih0 _ _ _
   | exact ih1 _ _ _ _
   | exact LeO.none _
   | refine LeO.ite ?_ ?_
   | refine LeO.bind ?_ (fun _ => ?_)
theorem impl_borders.mono : ∀ a0 k, LeO (impl_borders.f k a0) (impl_borders.f (k + 1) a0) := by
 intro a0 k
 obtain ⟨ih0, ih1⟩ := impl_borders.mono_l k
 unfold impl_borders.f
 repeat' first
   | (with_reducible exact ih0 _ _ _)
   | (with_reducible exact ih1 _ _ _ _)
   | (with_reducible exact LeO.refl _)
   | (with_reducible exact LeO.none _)
   | (with_reducible refine LeO.ite ?_ ?_)
   | (with_reducible refine LeO.bind ?_ (fun _ => ?_))
   | exact ih0 _ _ _
   | exact ih1 _ _ _ _
   | exact LeO.none _
   | refine LeO.ite ?_ ?_
   | refine LeO.bind ?_ (fun _ => ?_)
set_option maxHeartbeats 8000000 in
set_option maxRecDepth 100000 in
theorem impl_borders.calls (k : Nat) (a0 : ByteArray) (r : List Int) (w : World) (h : impl_borders.f k a0 = some r) :
  Calls Try.prog 134 #[.string a0] w fun e w' => ∃ v0_ : Value, e = .returned (v0_) ∧ Kd.R (Kd.int .i64) 3 w' w.heap.size (fun _ => True) v0_ r ∧ Below w.heap.size w w' := by
 have HB := Aside0.mk (Below.refl w.heap.size w)
 have H : (if 0 ≤ (a0.size : Int) then (if ((a0.size : Int) : Int).toNat ≤ 35184372088832 then (impl_borders.l0 k a0 (List.replicate ((a0.size : Int) : Int).toNat 0) 1) else (none)) else (none)) = some r := h
 clear h
 by_cases c2 : 0 ≤ (a0.size : Int)
 ·rw [if_pos c2] at H
  have c2b0 := eq_true c2
  have c2b1 : decide (0 ≤ (a0.size : Int)) = true := decide_eq_true c2
  clear c2
  by_cases c3 : ((a0.size : Int) : Int).toNat ≤ 35184372088832
  ·rw [if_pos c3] at H
   have c3b0 := eq_true c3
   have c3b1 : decide (((a0.size : Int) : Int).toNat ≤ 35184372088832) = true := decide_eq_true c3
   (try (have c3b1n := c3b1; simp only [Int.toNat_natCast] at c3b1n))
   clear c3
   obtain ⟨y230, hy230⟩ : ∃ y_ : List Int, y_ = (List.replicate ((a0.size : Int) : Int).toNat 0) := ⟨_, rfl⟩
   replace H : (impl_borders.l0 k a0 y230 1) = some r := by first | (rw [hy230]; with_reducible exact H) | (have H2_ := (Option.bind_some _ _).symm.trans H; rw [hy230]; with_reducible exact H2_) | (have H2_ := (Option.bind_some _ _).symm.trans H; with_reducible exact H2_) | with_reducible exact H | (rw [hy230]; exact H) | exact H
   have Ny230 := Aside0.mk hy230
   clear hy230
   have H' := Aside0.mk H
   clear H
   go_enter Try.func134, Try.ntmps134
   go_wp2_with (first | ((with_reducible refine gate_dst (N := 8) rfl ?_); refine Kd.R_make (Kd.int .i64) _ 3 rfl (N := 8) rfl 83 _ _ rfl (a0.size : Int) rfl rfl Try.underlying83 (.int .i64 0) 8 info3 rfl (by decide) (by omega) 0 (ok := fun _ => True) (okp := fun _ => True) rfl (fun _ hk => hk) trivial (of_decide_eq_true z2) (Nat.le_trans (Nat.mul_le_mul_right _ (of_decide_eq_true z2 : (a0.size : Int).toNat ≤ 35184372088832)) (by omega)) (Below.refl _ _) (Nat.le_refl _) ?_; intro v231 w4 ho5 hb hg_ hnew_; clear hg_ hnew_; (first | rw [← Ny230.out] at ho5 | (simp only [Int.reduceToNat] at ho5; rw [← Ny230.out] at ho5)); have n0_ := Aside0.mk (Kd.R_lower ho5 (below_size z4)); have n1_ := Aside0.mk (below_step z4 hb); clear HB; have HO232 := n0_; have HB := n1_; clear n0_ n1_; clear hb ho5))
   repeat (go_quiet (first | ((with_reducible refine gate_dst (N := 8) rfl ?_); refine Kd.R_make (Kd.int .i64) _ 3 rfl (N := 8) rfl 83 _ _ rfl (a0.size : Int) rfl rfl Try.underlying83 (.int .i64 0) 8 info3 rfl (by decide) (by omega) 0 (ok := fun _ => True) (okp := fun _ => True) rfl (fun _ hk => hk) trivial (of_decide_eq_true z2) (Nat.le_trans (Nat.mul_le_mul_right _ (of_decide_eq_true z2 : (a0.size : Int).toNat ≤ 35184372088832)) (by omega)) (Below.refl _ _) (Nat.le_refl _) ?_; intro v231 w4 ho5 hb hg_ hnew_; clear hg_ hnew_; (first | rw [← Ny230.out] at ho5 | (simp only [Int.reduceToNat] at ho5; rw [← Ny230.out] at ho5)); have n0_ := Aside0.mk (Kd.R_lower ho5 (below_size z4)); have n1_ := Aside0.mk (below_step z4 hb); clear HB; have HO232 := n0_; have HB := n1_; clear n0_ n1_; clear hb ho5)); try go_wp2_with (first | ((with_reducible refine gate_dst (N := 8) rfl ?_); refine Kd.R_make (Kd.int .i64) _ 3 rfl (N := 8) rfl 83 _ _ rfl (a0.size : Int) rfl rfl Try.underlying83 (.int .i64 0) 8 info3 rfl (by decide) (by omega) 0 (ok := fun _ => True) (okp := fun _ => True) rfl (fun _ hk => hk) trivial (of_decide_eq_true z2) (Nat.le_trans (Nat.mul_le_mul_right _ (of_decide_eq_true z2 : (a0.size : Int).toNat ≤ 35184372088832)) (by omega)) (Below.refl _ _) (Nat.le_refl _) ?_; intro v231 w4 ho5 hb hg_ hnew_; clear hg_ hnew_; (first | rw [← Ny230.out] at ho5 | (simp only [Int.reduceToNat] at ho5; rw [← Ny230.out] at ho5)); have n0_ := Aside0.mk (Kd.R_lower ho5 (below_size z4)); have n1_ := Aside0.mk (below_step z4 hb); clear HB; have HO232 := n0_; have HB := n1_; clear n0_ n1_; clear hb ho5)))
   go_loopg [4] k (fun kq v4 w' => ∃ (x3_1 : List Int) (x4_1 : Int), v4 = .int .i64 x4_1 ∧ Aside0 (impl_borders.l0 kq a0 x3_1 x4_1 = some r) ∧ Aside0 (kq ≤ k) ∧ Aside0 (Kd.R (Kd.int .i64) 3 w' w.heap.size (fun _ => True) v231 x3_1) ∧ Aside0 (Below w.heap.size w w'))
   case atStart => exact ⟨(y230), (1), z1, H', ⟨Nat.le_refl _⟩, ⟨by (with_reducible repeat (first | apply Kd.R_alloc | apply Kd.R_drewN | apply Kd.R_drew)); exact HO232.out⟩, ⟨by repeat (first | (with_reducible first | exact HB.out | apply below_alloc | apply pw_below_drewN | apply below_drew1) | exact HB.out)⟩⟩
   case round =>
    clear H'
    try clear c1
    try clear c2
    try clear c2b0
    try clear c2b1
    try clear p2
    try clear c3
    try clear c3b0
    try clear c3b1
    obtain ⟨x3_1, x4_1, rfl, HA, HK1, HO_3, HB⟩ := hrel
    cases gk with
    | zero => exact absurd HA.out (by simp [impl_borders.l0])
    | succ k1 =>
     have H := HA.out
     clear HA
     simp only [impl_borders.l0] at H
     by_cases c6 : x4_1 < (a0.size : Int)
     ·rw [if_pos c6] at H
      have c6b0 : decide (x4_1 < (a0.size : Int)) = true := decide_eq_true c6
      clear c6
      obtain ⟨ji7, hji7⟩ : ∃ j_ : Int, (wrap64 (x4_1 - 1)) = j_ := ⟨_, rfl⟩
      replace H : (if 0 ≤ (ji7) then (if (ji7) < (x3_1.length : Int) then (impl_borders.l1 k1 a0 x3_1 x4_1 (rd x3_1 (ji7))) else (none)) else (none)) = some r := by first | (rw [hji7] at H; exact H) | (simp only [hji7] at H ⊢; exact H)
      have hji7w : (IntKind.i64.wrap (x4_1 - 1)) = ji7 := (i64_w _).trans hji7
      by_cases c8 : 0 ≤ (ji7)
      ·rw [if_pos c8] at H
       have c8b0 : decide (0 ≤ (ji7)) = true := decide_eq_true c8
       clear c8
       by_cases c9 : (ji7) < (x3_1.length : Int)
       ·rw [if_pos c9] at H
        have c9b0 : decide ((ji7) < (x3_1.length : Int)) = true := decide_eq_true c9
        clear c9
        have H' := Aside0.mk H
        clear H
        obtain ⟨Ao10, co10, eo10⟩ := Kd.R_slice HO_3.out
        subst eo10
        have p233 : 0 ≤ ((ji7) : Int) := of_decide_eq_true z2
        have q233 : (ji7) < (x3_1.length : Int) := of_decide_eq_true z2
        obtain ⟨ad233, e233, hx233_0⟩ := Kd.at_int (Kd.R_reads' HO_3.out).2.2 (ji7) p233 q233
        cases e233
        replace p233 := eq_true p233
        replace q233 := eq_true q233
        go_wp2
        repeat (go_quiet (fail); try go_wp2)
        go_loopg [5] k1 (fun kq v5 w' => ∃ (x5_2 : Int), v5 = .int .i64 x5_2 ∧ Aside0 (impl_borders.l1 kq a0 x3_1 x4_1 x5_2 = some r) ∧ Aside0 (kq ≤ k1) ∧ Aside0 (Kd.R (Kd.int .i64) 3 w' w.heap.size (fun _ => True) (.slice (some ad233) x3_1.length co10) x3_1) ∧ Aside0 (Below w.heap.size w w'))
        case atStart => exact ⟨(rd x3_1 (ji7)), (by first | rfl | (simp; done) | (simp only [← hji7] <;> (first | rfl | (simp; done) | (simp; generalize ByteArray.toList _ = u_; cases u_ <;> (first | rfl | (simp; done))))) | (simp [*]; done)), H', ⟨Nat.le_refl _⟩, ⟨by (with_reducible repeat (first | apply Kd.R_alloc | apply Kd.R_drewN | apply Kd.R_drew)); exact HO_3.out⟩, ⟨by repeat (first | (with_reducible first | exact HB.out | apply below_alloc | apply pw_below_drewN | apply below_drew1) | exact HB.out)⟩⟩
        case round =>
         clear H'
         try clear c1
         try clear c2
         try clear c2b0
         try clear c2b1
         try clear p2
         try clear q2
         try clear hx2
         try clear c3
         try clear c3b0
         try clear c3b1
         try clear c6
         try clear c6b0
         try clear p6
         try clear c8
         try clear c8b0
         try clear c9
         try clear c9b0
         try clear hx233_0
         try clear p2
         try clear p233
         try clear q233
         obtain ⟨x5_2, rfl, HA, HK2, HO_3, HB⟩ := hrel
         cases gk with
         | zero => exact absurd HA.out (by simp [impl_borders.l1])
         | succ k2 =>
          have H := HA.out
          clear HA
          simp only [impl_borders.l1] at H
          by_cases c11 : x5_2 > 0
          ·rw [if_pos c11] at H
           have c11b0 : decide (0 < x5_2) = true := decide_eq_true c11
           clear c11
           by_cases c12 : 0 ≤ x5_2
           ·rw [if_pos c12] at H
            have c12b0 : decide (0 ≤ x5_2) = true := decide_eq_true c12
            clear c12
            by_cases c13 : x5_2 < (a0.size : Int)
            ·rw [if_pos c13] at H
             have c13b0 : decide (x5_2 < (a0.size : Int)) = true := decide_eq_true c13
             clear c13
             by_cases c15 : 0 ≤ x4_1
             ·rw [if_pos c15] at H
              have c15b0 : decide (0 ≤ x4_1) = true := decide_eq_true c15
              clear c15
              by_cases c16 : x4_1 < (a0.size : Int)
              ·rw [if_pos c16] at H
               have c16b0 : decide (x4_1 < (a0.size : Int)) = true := decide_eq_true c16
               clear c16
               by_cases c18 : (bt a0 x5_2) = (bt a0 x4_1)
               ·rw [if_pos c18] at H
                have c18b0 : ((bt a0 x5_2) == (bt a0 x4_1)) = true := beq_iff_eq.mpr c18
                have c18b1 : ((bt a0 x5_2) != (bt a0 x4_1)) = false := bne_eq_false_iff_eq.mpr c18
                clear c18
                by_cases c21 : x4_1 < (x3_1.length : Int)
                ·rw [if_pos c21] at H
                 have c21b0 : decide (x4_1 < (x3_1.length : Int)) = true := decide_eq_true c21
                 clear c21
                 obtain ⟨y234, hy234⟩ : ∃ y_ : List Int, y_ = (x3_1.set (x4_1 : Int).toNat (wrap64 (x5_2 + 1))) := ⟨_, rfl⟩
                 replace H : (impl_borders.l0 k2 a0 y234 (wrap64 (x4_1 + 1))) = some r := by first | (rw [hy234]; with_reducible exact H) | (have H2_ := (Option.bind_some _ _).symm.trans H; rw [hy234]; with_reducible exact H2_) | (have H2_ := (Option.bind_some _ _).symm.trans H; with_reducible exact H2_) | with_reducible exact H | (rw [hy234]; exact H) | exact H
                 have Ny234 := Aside0.mk hy234
                 clear hy234
                 have H' := Aside0.mk H
                 clear H
                 have p14 : 0 ≤ (x5_2 : Int) := of_decide_eq_true z2
                 have q14 : x5_2 < (a0.size : Int) := of_decide_eq_true z2
                 have hx14 := bt_at a0 x5_2
                 replace p14 := eq_true p14
                 replace q14 := eq_true q14
                 have p17 : 0 ≤ (x4_1 : Int) := of_decide_eq_true z2
                 have q17 : x4_1 < (a0.size : Int) := of_decide_eq_true z2
                 have hx17 := bt_at a0 x4_1
                 replace p17 := eq_true p17
                 replace q17 := eq_true q17
                 have p19 : 0 ≤ (x5_2 : Int) := of_decide_eq_true z2
                 have q19 : x5_2 < (a0.size : Int) := of_decide_eq_true z2
                 have hx19 := bt_at a0 x5_2
                 replace p19 := eq_true p19
                 replace q19 := eq_true q19
                 have p20 : 0 ≤ (x4_1 : Int) := of_decide_eq_true z2
                 have q20 : x4_1 < (a0.size : Int) := of_decide_eq_true z2
                 have hx20 := bt_at a0 x4_1
                 replace p20 := eq_true p20
                 replace q20 := eq_true q20
                 have p22 : 0 ≤ (x4_1 : Int) := of_decide_eq_true z2
                 have q22 : (x4_1 : Int) < ((x3_1.length : Int) : Int) := of_decide_eq_true z2
                 obtain ⟨go22, co22, eo22, gb22, gl22, cl22, HG22⟩ := Kd.R_form HO_3.out (by omega)
                 (first | cases eo22 | (injection eo22 with ea_ en_ ec_; (first | subst ea_ | (injection ea_ with ea_; subst ea_)); subst ec_; clear en_))
                 have GB22 := Aside0.mk gb22
                 have GG22 := Aside0.mk HG22
                 clear gb22 gl22 HG22
                 (first | simp only [add_plain] at hx233_0 | skip)
                 obtain ⟨hx22_0, hf22_0⟩ := Kd.R_celln 0 HO_3.out (x4_1 : Int) p22 q22
                 replace p22 := eq_true p22
                 replace q22 := eq_true q22
                 have HP23 := Kd.R_putg HO_3.out (x4_1 : Int) (wrap64 (x5_2 + 1))
                 go_wp2_with (first | ((with_reducible refine gate_store (t := 3) (p := 48) rfl ?_); (try (rw [drewN_self wr]; generalize hq_ : World.drewN wr _ = wr; have n0_ := Aside0.mk (Kd.R_at hq_ HO_3.out); have n1_ := Aside0.mk (below_at hq_ HB.out); clear hq_ HO_3 HB; have HO_3 := n0_; have HB := n1_; clear n0_ n1_; (try (have HP23 := Kd.R_putg HO_3.out (x4_1 : Int) (wrap64 (x5_2 + 1)))); (try (obtain ⟨hx22_0, hf22_0⟩ := Kd.R_celln 0 HO_3.out (x4_1 : Int) (of_eq_true p22) (of_eq_true q22))))); refine store_event (t := 3) (p := 48) (v := ?vo_w24) (w1 := (wr.setCell ⟨go22, (x4_1 : Int).toNat, none⟩ (.int .i64 (wrap64 (x5_2 + 1))))) ?hg ?ho ?hn ?hr ?_; (case ho => rfl); (case hg => rfl); (case hn => rfl); (case hr => first | (go_simp; done) | (go_simp; rfl) | ((try simp only [Int.toNat_natCast] at *); go_simp; first | done | rfl)); intro w24 hw; have hg : wr.grownBy w24 (some go22) := (by rw [hw]; exact HP23.2); have hp_ : Kd.R (Kd.int .i64) 3 w24 w.heap.size (fun _ => True) (.slice (some ⟨go22, 0, none⟩) x3_1.length co10) y234 := (by rw [hw, Ny234.out]; exact HP23.1); clear HP23; have n0_ := Aside0.mk (hp_); have n1_ := Aside0.mk ((by rw [hw]; exact below_set (HB.out) GB22.out : Below w.heap.size w w24)); clear HO_3; clear HB; have HO_3 := n0_; have HB := n1_; clear n0_ n1_; clear hg hw hp_))
                 repeat (go_quiet (first | ((with_reducible refine gate_store (t := 3) (p := 48) rfl ?_); (try (rw [drewN_self wr]; generalize hq_ : World.drewN wr _ = wr; have n0_ := Aside0.mk (Kd.R_at hq_ HO_3.out); have n1_ := Aside0.mk (below_at hq_ HB.out); clear hq_ HO_3 HB; have HO_3 := n0_; have HB := n1_; clear n0_ n1_; (try (have HP23 := Kd.R_putg HO_3.out (x4_1 : Int) (wrap64 (x5_2 + 1)))); (try (obtain ⟨hx22_0, hf22_0⟩ := Kd.R_celln 0 HO_3.out (x4_1 : Int) (of_eq_true p22) (of_eq_true q22))))); refine store_event (t := 3) (p := 48) (v := ?vo_w24) (w1 := (wr.setCell ⟨go22, (x4_1 : Int).toNat, none⟩ (.int .i64 (wrap64 (x5_2 + 1))))) ?hg ?ho ?hn ?hr ?_; (case ho => rfl); (case hg => rfl); (case hn => rfl); (case hr => first | (go_simp; done) | (go_simp; rfl) | ((try simp only [Int.toNat_natCast] at *); go_simp; first | done | rfl)); intro w24 hw; have hg : wr.grownBy w24 (some go22) := (by rw [hw]; exact HP23.2); have hp_ : Kd.R (Kd.int .i64) 3 w24 w.heap.size (fun _ => True) (.slice (some ⟨go22, 0, none⟩) x3_1.length co10) y234 := (by rw [hw, Ny234.out]; exact HP23.1); clear HP23; have n0_ := Aside0.mk (hp_); have n1_ := Aside0.mk ((by rw [hw]; exact below_set (HB.out) GB22.out : Below w.heap.size w w24)); clear HO_3; clear HB; have HO_3 := n0_; have HB := n1_; clear n0_ n1_; clear hg hw hp_)); try go_wp2_with (first | ((with_reducible refine gate_store (t := 3) (p := 48) rfl ?_); (try (rw [drewN_self wr]; generalize hq_ : World.drewN wr _ = wr; have n0_ := Aside0.mk (Kd.R_at hq_ HO_3.out); have n1_ := Aside0.mk (below_at hq_ HB.out); clear hq_ HO_3 HB; have HO_3 := n0_; have HB := n1_; clear n0_ n1_; (try (have HP23 := Kd.R_putg HO_3.out (x4_1 : Int) (wrap64 (x5_2 + 1)))); (try (obtain ⟨hx22_0, hf22_0⟩ := Kd.R_celln 0 HO_3.out (x4_1 : Int) (of_eq_true p22) (of_eq_true q22))))); refine store_event (t := 3) (p := 48) (v := ?vo_w24) (w1 := (wr.setCell ⟨go22, (x4_1 : Int).toNat, none⟩ (.int .i64 (wrap64 (x5_2 + 1))))) ?hg ?ho ?hn ?hr ?_; (case ho => rfl); (case hg => rfl); (case hn => rfl); (case hr => first | (go_simp; done) | (go_simp; rfl) | ((try simp only [Int.toNat_natCast] at *); go_simp; first | done | rfl)); intro w24 hw; have hg : wr.grownBy w24 (some go22) := (by rw [hw]; exact HP23.2); have hp_ : Kd.R (Kd.int .i64) 3 w24 w.heap.size (fun _ => True) (.slice (some ⟨go22, 0, none⟩) x3_1.length co10) y234 := (by rw [hw, Ny234.out]; exact HP23.1); clear HP23; have n0_ := Aside0.mk (hp_); have n1_ := Aside0.mk ((by rw [hw]; exact below_set (HB.out) GB22.out : Below w.heap.size w w24)); clear HO_3; clear HB; have HO_3 := n0_; have HB := n1_; clear n0_ n1_; clear hg hw hp_)))
                 go_roundg k2
                 case measure => have := HK1.out; have := HK2.out; omega
                 case rel => exact ⟨(y234), (wrap64 (x4_1 + 1)), z1, (by first | exact H' | (simp only [hji7]; exact H') | (simp only [← hji7]; exact H')), ⟨by have := HK1.out; have := HK2.out; omega⟩, ⟨by (with_reducible repeat (first | apply Kd.R_alloc | apply Kd.R_drewN | apply Kd.R_drew)); exact HO_3.out⟩, ⟨by repeat (first | (with_reducible first | exact HB.out | apply below_alloc | apply pw_below_drewN | apply below_drew1) | exact HB.out)⟩⟩
                ·rw [if_neg c21] at H
                 exact absurd H (by simp)
               ·rw [if_neg c18] at H
                have c18b0 : ((bt a0 x5_2) == (bt a0 x4_1)) = false := beq_eq_false_iff_ne.mpr c18
                have c18b1 : ((bt a0 x5_2) != (bt a0 x4_1)) = true := bne_iff_ne.mpr c18
                obtain ⟨ji25, hji25⟩ : ∃ j_ : Int, (wrap64 (x5_2 - 1)) = j_ := ⟨_, rfl⟩
                replace H : (if 0 ≤ (ji25) then (if (ji25) < (x3_1.length : Int) then (impl_borders.l1 k2 a0 x3_1 x4_1 (rd x3_1 (ji25))) else (none)) else (none)) = some r := by first | (rw [hji25] at H; exact H) | (simp only [hji25] at H ⊢; exact H)
                have hji25w : (IntKind.i64.wrap (x5_2 - 1)) = ji25 := (i64_w _).trans hji25
                by_cases c26 : 0 ≤ (ji25)
                ·rw [if_pos c26] at H
                 have c26b0 : decide (0 ≤ (ji25)) = true := decide_eq_true c26
                 clear c26
                 by_cases c27 : (ji25) < (x3_1.length : Int)
                 ·rw [if_pos c27] at H
                  have c27b0 : decide ((ji25) < (x3_1.length : Int)) = true := decide_eq_true c27
                  clear c27
                  have H' := Aside0.mk H
                  clear H
                  have p14 : 0 ≤ (x5_2 : Int) := of_decide_eq_true z2
                  have q14 : x5_2 < (a0.size : Int) := of_decide_eq_true z2
                  have hx14 := bt_at a0 x5_2
                  replace p14 := eq_true p14
                  replace q14 := eq_true q14
                  have p17 : 0 ≤ (x4_1 : Int) := of_decide_eq_true z2
                  have q17 : x4_1 < (a0.size : Int) := of_decide_eq_true z2
                  have hx17 := bt_at a0 x4_1
                  replace p17 := eq_true p17
                  replace q17 := eq_true q17
                  have p235 : 0 ≤ ((ji25) : Int) := of_decide_eq_true z2
                  have q235 : (ji25) < (x3_1.length : Int) := of_decide_eq_true z2
                  obtain ⟨ad235, e235, hx235_0⟩ := Kd.at_int (Kd.R_reads' HO_3.out).2.2 (ji25) p235 q235
                  obtain rfl : ad233 = ad235 := (by injection e235)
                  replace p235 := eq_true p235
                  replace q235 := eq_true q235
                  go_wp2
                  repeat (go_quiet (fail); try go_wp2)
                  go_roundg k2
                  case measure => have := HK1.out; have := HK2.out; omega
                  case rel => exact ⟨(rd x3_1 (ji25)), (by first | rfl | (simp; done) | (simp only [← hji25] <;> (first | rfl | (simp; done) | (simp; generalize ByteArray.toList _ = u_; cases u_ <;> (first | rfl | (simp; done))))) | (simp [*]; done)), (by first | exact H' | (simp only [hji7, hji25]; exact H') | (simp only [← hji7, ← hji25]; exact H')), ⟨by have := HK1.out; have := HK2.out; omega⟩, ⟨by (with_reducible repeat (first | apply Kd.R_alloc | apply Kd.R_drewN | apply Kd.R_drew)); exact HO_3.out⟩, ⟨by repeat (first | (with_reducible first | exact HB.out | apply below_alloc | apply pw_below_drewN | apply below_drew1) | exact HB.out)⟩⟩
                 ·rw [if_neg c27] at H
                  exact absurd H (by simp)
                ·rw [if_neg c26] at H
                 exact absurd H (by simp)
              ·rw [if_neg c16] at H
               exact absurd H (by simp)
             ·rw [if_neg c15] at H
              exact absurd H (by simp)
            ·rw [if_neg c13] at H
             exact absurd H (by simp)
           ·rw [if_neg c12] at H
            exact absurd H (by simp)
          ·rw [if_neg c11] at H
           have c11b0 : decide (0 < x5_2) = false := decide_eq_false c11
           clear c11
           by_cases c28 : 0 ≤ x5_2
           ·rw [if_pos c28] at H
            have c28b0 : decide (0 ≤ x5_2) = true := decide_eq_true c28
            clear c28
            by_cases c29 : x5_2 < (a0.size : Int)
            ·rw [if_pos c29] at H
             have c29b0 : decide (x5_2 < (a0.size : Int)) = true := decide_eq_true c29
             clear c29
             by_cases c31 : 0 ≤ x4_1
             ·rw [if_pos c31] at H
              have c31b0 : decide (0 ≤ x4_1) = true := decide_eq_true c31
              clear c31
              by_cases c32 : x4_1 < (a0.size : Int)
              ·rw [if_pos c32] at H
               have c32b0 : decide (x4_1 < (a0.size : Int)) = true := decide_eq_true c32
               clear c32
               by_cases c34 : (bt a0 x5_2) = (bt a0 x4_1)
               ·rw [if_pos c34] at H
                have c34b0 : ((bt a0 x5_2) == (bt a0 x4_1)) = true := beq_iff_eq.mpr c34
                have c34b1 : ((bt a0 x5_2) != (bt a0 x4_1)) = false := bne_eq_false_iff_eq.mpr c34
                clear c34
                by_cases c35 : x4_1 < (x3_1.length : Int)
                ·rw [if_pos c35] at H
                 have c35b0 : decide (x4_1 < (x3_1.length : Int)) = true := decide_eq_true c35
                 clear c35
                 obtain ⟨y236, hy236⟩ : ∃ y_ : List Int, y_ = (x3_1.set (x4_1 : Int).toNat (wrap64 (x5_2 + 1))) := ⟨_, rfl⟩
                 replace H : (impl_borders.l0 k2 a0 y236 (wrap64 (x4_1 + 1))) = some r := by first | (rw [hy236]; with_reducible exact H) | (have H2_ := (Option.bind_some _ _).symm.trans H; rw [hy236]; with_reducible exact H2_) | (have H2_ := (Option.bind_some _ _).symm.trans H; with_reducible exact H2_) | with_reducible exact H | (rw [hy236]; exact H) | exact H
                 have Ny236 := Aside0.mk hy236
                 clear hy236
                 have H' := Aside0.mk H
                 clear H
                 have p30 : 0 ≤ (x5_2 : Int) := of_decide_eq_true z2
                 have q30 : x5_2 < (a0.size : Int) := of_decide_eq_true z2
                 have hx30 := bt_at a0 x5_2
                 replace p30 := eq_true p30
                 replace q30 := eq_true q30
                 have p33 : 0 ≤ (x4_1 : Int) := of_decide_eq_true z2
                 have q33 : x4_1 < (a0.size : Int) := of_decide_eq_true z2
                 have hx33 := bt_at a0 x4_1
                 replace p33 := eq_true p33
                 replace q33 := eq_true q33
                 have p36 : 0 ≤ (x4_1 : Int) := of_decide_eq_true z2
                 have q36 : (x4_1 : Int) < ((x3_1.length : Int) : Int) := of_decide_eq_true z2
                 obtain ⟨go36, co36, eo36, gb36, gl36, cl36, HG36⟩ := Kd.R_form HO_3.out (by omega)
                 (first | cases eo36 | (injection eo36 with ea_ en_ ec_; (first | subst ea_ | (injection ea_ with ea_; subst ea_)); subst ec_; clear en_))
                 have GB36 := Aside0.mk gb36
                 have GG36 := Aside0.mk HG36
                 clear gb36 gl36 HG36
                 (first | simp only [add_plain] at hx235_0 | skip)
                 obtain ⟨hx36_0, hf36_0⟩ := Kd.R_celln 0 HO_3.out (x4_1 : Int) p36 q36
                 replace p36 := eq_true p36
                 replace q36 := eq_true q36
                 have HP37 := Kd.R_putg HO_3.out (x4_1 : Int) (wrap64 (x5_2 + 1))
                 go_wp2_with (first | ((with_reducible refine gate_store (t := 3) (p := 48) rfl ?_); (try (rw [drewN_self wr]; generalize hq_ : World.drewN wr _ = wr; have n0_ := Aside0.mk (Kd.R_at hq_ HO_3.out); have n1_ := Aside0.mk (below_at hq_ HB.out); clear hq_ HO_3 HB; have HO_3 := n0_; have HB := n1_; clear n0_ n1_; (try (have HP37 := Kd.R_putg HO_3.out (x4_1 : Int) (wrap64 (x5_2 + 1)))); (try (obtain ⟨hx36_0, hf36_0⟩ := Kd.R_celln 0 HO_3.out (x4_1 : Int) (of_eq_true p36) (of_eq_true q36))))); refine store_event (t := 3) (p := 48) (v := ?vo_w38) (w1 := (wr.setCell ⟨go36, (x4_1 : Int).toNat, none⟩ (.int .i64 (wrap64 (x5_2 + 1))))) ?hg ?ho ?hn ?hr ?_; (case ho => rfl); (case hg => rfl); (case hn => rfl); (case hr => first | (go_simp; done) | (go_simp; rfl) | ((try simp only [Int.toNat_natCast] at *); go_simp; first | done | rfl)); intro w38 hw; have hg : wr.grownBy w38 (some go36) := (by rw [hw]; exact HP37.2); have hp_ : Kd.R (Kd.int .i64) 3 w38 w.heap.size (fun _ => True) (.slice (some ⟨go36, 0, none⟩) x3_1.length co10) y236 := (by rw [hw, Ny236.out]; exact HP37.1); clear HP37; have n0_ := Aside0.mk (hp_); have n1_ := Aside0.mk ((by rw [hw]; exact below_set (HB.out) GB36.out : Below w.heap.size w w38)); clear HO_3; clear HB; have HO_3 := n0_; have HB := n1_; clear n0_ n1_; clear hg hw hp_))
                 repeat (go_quiet (first | ((with_reducible refine gate_store (t := 3) (p := 48) rfl ?_); (try (rw [drewN_self wr]; generalize hq_ : World.drewN wr _ = wr; have n0_ := Aside0.mk (Kd.R_at hq_ HO_3.out); have n1_ := Aside0.mk (below_at hq_ HB.out); clear hq_ HO_3 HB; have HO_3 := n0_; have HB := n1_; clear n0_ n1_; (try (have HP37 := Kd.R_putg HO_3.out (x4_1 : Int) (wrap64 (x5_2 + 1)))); (try (obtain ⟨hx36_0, hf36_0⟩ := Kd.R_celln 0 HO_3.out (x4_1 : Int) (of_eq_true p36) (of_eq_true q36))))); refine store_event (t := 3) (p := 48) (v := ?vo_w38) (w1 := (wr.setCell ⟨go36, (x4_1 : Int).toNat, none⟩ (.int .i64 (wrap64 (x5_2 + 1))))) ?hg ?ho ?hn ?hr ?_; (case ho => rfl); (case hg => rfl); (case hn => rfl); (case hr => first | (go_simp; done) | (go_simp; rfl) | ((try simp only [Int.toNat_natCast] at *); go_simp; first | done | rfl)); intro w38 hw; have hg : wr.grownBy w38 (some go36) := (by rw [hw]; exact HP37.2); have hp_ : Kd.R (Kd.int .i64) 3 w38 w.heap.size (fun _ => True) (.slice (some ⟨go36, 0, none⟩) x3_1.length co10) y236 := (by rw [hw, Ny236.out]; exact HP37.1); clear HP37; have n0_ := Aside0.mk (hp_); have n1_ := Aside0.mk ((by rw [hw]; exact below_set (HB.out) GB36.out : Below w.heap.size w w38)); clear HO_3; clear HB; have HO_3 := n0_; have HB := n1_; clear n0_ n1_; clear hg hw hp_)); try go_wp2_with (first | ((with_reducible refine gate_store (t := 3) (p := 48) rfl ?_); (try (rw [drewN_self wr]; generalize hq_ : World.drewN wr _ = wr; have n0_ := Aside0.mk (Kd.R_at hq_ HO_3.out); have n1_ := Aside0.mk (below_at hq_ HB.out); clear hq_ HO_3 HB; have HO_3 := n0_; have HB := n1_; clear n0_ n1_; (try (have HP37 := Kd.R_putg HO_3.out (x4_1 : Int) (wrap64 (x5_2 + 1)))); (try (obtain ⟨hx36_0, hf36_0⟩ := Kd.R_celln 0 HO_3.out (x4_1 : Int) (of_eq_true p36) (of_eq_true q36))))); refine store_event (t := 3) (p := 48) (v := ?vo_w38) (w1 := (wr.setCell ⟨go36, (x4_1 : Int).toNat, none⟩ (.int .i64 (wrap64 (x5_2 + 1))))) ?hg ?ho ?hn ?hr ?_; (case ho => rfl); (case hg => rfl); (case hn => rfl); (case hr => first | (go_simp; done) | (go_simp; rfl) | ((try simp only [Int.toNat_natCast] at *); go_simp; first | done | rfl)); intro w38 hw; have hg : wr.grownBy w38 (some go36) := (by rw [hw]; exact HP37.2); have hp_ : Kd.R (Kd.int .i64) 3 w38 w.heap.size (fun _ => True) (.slice (some ⟨go36, 0, none⟩) x3_1.length co10) y236 := (by rw [hw, Ny236.out]; exact HP37.1); clear HP37; have n0_ := Aside0.mk (hp_); have n1_ := Aside0.mk ((by rw [hw]; exact below_set (HB.out) GB36.out : Below w.heap.size w w38)); clear HO_3; clear HB; have HO_3 := n0_; have HB := n1_; clear n0_ n1_; clear hg hw hp_)))
                 go_roundg k2
                 case measure => have := HK1.out; have := HK2.out; omega
                 case rel => exact ⟨(y236), (wrap64 (x4_1 + 1)), z1, (by first | exact H' | (simp only [hji7]; exact H') | (simp only [← hji7]; exact H')), ⟨by have := HK1.out; have := HK2.out; omega⟩, ⟨by (with_reducible repeat (first | apply Kd.R_alloc | apply Kd.R_drewN | apply Kd.R_drew)); exact HO_3.out⟩, ⟨by repeat (first | (with_reducible first | exact HB.out | apply below_alloc | apply pw_below_drewN | apply below_drew1) | exact HB.out)⟩⟩
                ·rw [if_neg c35] at H
                 exact absurd H (by simp)
               ·rw [if_neg c34] at H
                have c34b0 : ((bt a0 x5_2) == (bt a0 x4_1)) = false := beq_eq_false_iff_ne.mpr c34
                have c34b1 : ((bt a0 x5_2) != (bt a0 x4_1)) = true := bne_iff_ne.mpr c34
                by_cases c39 : x4_1 < (x3_1.length : Int)
                ·rw [if_pos c39] at H
                 have c39b0 : decide (x4_1 < (x3_1.length : Int)) = true := decide_eq_true c39
                 clear c39
                 obtain ⟨y237, hy237⟩ : ∃ y_ : List Int, y_ = (x3_1.set (x4_1 : Int).toNat x5_2) := ⟨_, rfl⟩
                 replace H : (impl_borders.l0 k2 a0 y237 (wrap64 (x4_1 + 1))) = some r := by first | (rw [hy237]; with_reducible exact H) | (have H2_ := (Option.bind_some _ _).symm.trans H; rw [hy237]; with_reducible exact H2_) | (have H2_ := (Option.bind_some _ _).symm.trans H; with_reducible exact H2_) | with_reducible exact H | (rw [hy237]; exact H) | exact H
                 have Ny237 := Aside0.mk hy237
                 clear hy237
                 have H' := Aside0.mk H
                 clear H
                 have p30 : 0 ≤ (x5_2 : Int) := of_decide_eq_true z2
                 have q30 : x5_2 < (a0.size : Int) := of_decide_eq_true z2
                 have hx30 := bt_at a0 x5_2
                 replace p30 := eq_true p30
                 replace q30 := eq_true q30
                 have p33 : 0 ≤ (x4_1 : Int) := of_decide_eq_true z2
                 have q33 : x4_1 < (a0.size : Int) := of_decide_eq_true z2
                 have hx33 := bt_at a0 x4_1
                 replace p33 := eq_true p33
                 replace q33 := eq_true q33
                 have p40 : 0 ≤ (x4_1 : Int) := of_decide_eq_true z2
                 have q40 : (x4_1 : Int) < ((x3_1.length : Int) : Int) := of_decide_eq_true z2
                 obtain ⟨go40, co40, eo40, gb40, gl40, cl40, HG40⟩ := Kd.R_form HO_3.out (by omega)
                 (first | cases eo40 | (injection eo40 with ea_ en_ ec_; (first | subst ea_ | (injection ea_ with ea_; subst ea_)); subst ec_; clear en_))
                 have GB40 := Aside0.mk gb40
                 have GG40 := Aside0.mk HG40
                 clear gb40 gl40 HG40
                 obtain ⟨hx40_0, hf40_0⟩ := Kd.R_celln 0 HO_3.out (x4_1 : Int) p40 q40
                 replace p40 := eq_true p40
                 replace q40 := eq_true q40
                 have HP41 := Kd.R_putg HO_3.out (x4_1 : Int) x5_2
                 go_wp2_with (first | ((with_reducible refine gate_store (t := 3) (p := 48) rfl ?_); (try (rw [drewN_self wr]; generalize hq_ : World.drewN wr _ = wr; have n0_ := Aside0.mk (Kd.R_at hq_ HO_3.out); have n1_ := Aside0.mk (below_at hq_ HB.out); clear hq_ HO_3 HB; have HO_3 := n0_; have HB := n1_; clear n0_ n1_; (try (have HP41 := Kd.R_putg HO_3.out (x4_1 : Int) x5_2)); (try (obtain ⟨hx40_0, hf40_0⟩ := Kd.R_celln 0 HO_3.out (x4_1 : Int) (of_eq_true p40) (of_eq_true q40))))); refine store_event (t := 3) (p := 48) (v := ?vo_w42) (w1 := (wr.setCell ⟨go40, (x4_1 : Int).toNat, none⟩ (.int .i64 x5_2))) ?hg ?ho ?hn ?hr ?_; (case ho => rfl); (case hg => rfl); (case hn => rfl); (case hr => first | (go_simp; done) | (go_simp; rfl) | ((try simp only [Int.toNat_natCast] at *); go_simp; first | done | rfl)); intro w42 hw; have hg : wr.grownBy w42 (some go40) := (by rw [hw]; exact HP41.2); have hp_ : Kd.R (Kd.int .i64) 3 w42 w.heap.size (fun _ => True) (.slice (some ⟨go40, 0, none⟩) x3_1.length co10) y237 := (by rw [hw, Ny237.out]; exact HP41.1); clear HP41; have n0_ := Aside0.mk (hp_); have n1_ := Aside0.mk ((by rw [hw]; exact below_set (HB.out) GB40.out : Below w.heap.size w w42)); clear HO_3; clear HB; have HO_3 := n0_; have HB := n1_; clear n0_ n1_; clear hg hw hp_))
                 repeat (go_quiet (first | ((with_reducible refine gate_store (t := 3) (p := 48) rfl ?_); (try (rw [drewN_self wr]; generalize hq_ : World.drewN wr _ = wr; have n0_ := Aside0.mk (Kd.R_at hq_ HO_3.out); have n1_ := Aside0.mk (below_at hq_ HB.out); clear hq_ HO_3 HB; have HO_3 := n0_; have HB := n1_; clear n0_ n1_; (try (have HP41 := Kd.R_putg HO_3.out (x4_1 : Int) x5_2)); (try (obtain ⟨hx40_0, hf40_0⟩ := Kd.R_celln 0 HO_3.out (x4_1 : Int) (of_eq_true p40) (of_eq_true q40))))); refine store_event (t := 3) (p := 48) (v := ?vo_w42) (w1 := (wr.setCell ⟨go40, (x4_1 : Int).toNat, none⟩ (.int .i64 x5_2))) ?hg ?ho ?hn ?hr ?_; (case ho => rfl); (case hg => rfl); (case hn => rfl); (case hr => first | (go_simp; done) | (go_simp; rfl) | ((try simp only [Int.toNat_natCast] at *); go_simp; first | done | rfl)); intro w42 hw; have hg : wr.grownBy w42 (some go40) := (by rw [hw]; exact HP41.2); have hp_ : Kd.R (Kd.int .i64) 3 w42 w.heap.size (fun _ => True) (.slice (some ⟨go40, 0, none⟩) x3_1.length co10) y237 := (by rw [hw, Ny237.out]; exact HP41.1); clear HP41; have n0_ := Aside0.mk (hp_); have n1_ := Aside0.mk ((by rw [hw]; exact below_set (HB.out) GB40.out : Below w.heap.size w w42)); clear HO_3; clear HB; have HO_3 := n0_; have HB := n1_; clear n0_ n1_; clear hg hw hp_)); try go_wp2_with (first | ((with_reducible refine gate_store (t := 3) (p := 48) rfl ?_); (try (rw [drewN_self wr]; generalize hq_ : World.drewN wr _ = wr; have n0_ := Aside0.mk (Kd.R_at hq_ HO_3.out); have n1_ := Aside0.mk (below_at hq_ HB.out); clear hq_ HO_3 HB; have HO_3 := n0_; have HB := n1_; clear n0_ n1_; (try (have HP41 := Kd.R_putg HO_3.out (x4_1 : Int) x5_2)); (try (obtain ⟨hx40_0, hf40_0⟩ := Kd.R_celln 0 HO_3.out (x4_1 : Int) (of_eq_true p40) (of_eq_true q40))))); refine store_event (t := 3) (p := 48) (v := ?vo_w42) (w1 := (wr.setCell ⟨go40, (x4_1 : Int).toNat, none⟩ (.int .i64 x5_2))) ?hg ?ho ?hn ?hr ?_; (case ho => rfl); (case hg => rfl); (case hn => rfl); (case hr => first | (go_simp; done) | (go_simp; rfl) | ((try simp only [Int.toNat_natCast] at *); go_simp; first | done | rfl)); intro w42 hw; have hg : wr.grownBy w42 (some go40) := (by rw [hw]; exact HP41.2); have hp_ : Kd.R (Kd.int .i64) 3 w42 w.heap.size (fun _ => True) (.slice (some ⟨go40, 0, none⟩) x3_1.length co10) y237 := (by rw [hw, Ny237.out]; exact HP41.1); clear HP41; have n0_ := Aside0.mk (hp_); have n1_ := Aside0.mk ((by rw [hw]; exact below_set (HB.out) GB40.out : Below w.heap.size w w42)); clear HO_3; clear HB; have HO_3 := n0_; have HB := n1_; clear n0_ n1_; clear hg hw hp_)))
                 go_roundg k2
                 case measure => have := HK1.out; have := HK2.out; omega
                 case rel => exact ⟨(y237), (wrap64 (x4_1 + 1)), z1, (by first | exact H' | (simp only [hji7]; exact H') | (simp only [← hji7]; exact H')), ⟨by have := HK1.out; have := HK2.out; omega⟩, ⟨by (with_reducible repeat (first | apply Kd.R_alloc | apply Kd.R_drewN | apply Kd.R_drew)); exact HO_3.out⟩, ⟨by repeat (first | (with_reducible first | exact HB.out | apply below_alloc | apply pw_below_drewN | apply below_drew1) | exact HB.out)⟩⟩
                ·rw [if_neg c39] at H
                 exact absurd H (by simp)
              ·rw [if_neg c32] at H
               exact absurd H (by simp)
             ·rw [if_neg c31] at H
              exact absurd H (by simp)
            ·rw [if_neg c29] at H
             exact absurd H (by simp)
           ·rw [if_neg c28] at H
            exact absurd H (by simp)
       ·rw [if_neg c9] at H
        exact absurd H (by simp)
      ·rw [if_neg c8] at H
       exact absurd H (by simp)
     ·rw [if_neg c6] at H
      have c6b0 : decide (x4_1 < (a0.size : Int)) = false := decide_eq_false c6
      clear c6
      obtain rfl := Option.some.inj H
      go_wp2
      repeat (go_quiet (fail); try go_wp2)
      go_ret
      exact ⟨_, by first | rfl | (simp [errW_none, errW_some] <;> rfl) | (simp [*, errW_none, errW_some] <;> rfl), by (with_reducible repeat (first | apply Kd.R_alloc | apply Kd.R_drewN | apply Kd.R_drew)); exact HO_3.out, by repeat (first | (with_reducible first | exact HB.out | apply below_alloc | apply pw_below_drewN | apply below_drew1) | exact HB.out)⟩
  ·rw [if_neg c3] at H
   exact absurd H (by simp)
 ·rw [if_neg c2] at H
  exact absurd H (by simp)

end Go.Proofs.Ytpbelbckinpinaa.AFnReplaced
