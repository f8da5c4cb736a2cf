-- this session's own text: written by wip/tools/ownprint.py over the kit's print
import Derived.Test.YtmigfgcpdelnfaaAFnUndoneByx0
import Derived.Test.YtmigfgcpdelnfaaAFnUndoneByx1
import Derived.Test.YtmigfgcpdelnfaaAFnUndoneByx2
import Derived.Test.YtmigfgcpdelnfaaAFnUndoneByx3
namespace Go.Proofs.Ytmigfgcpdelnfaa.AFnUndoneBy
open Go.RowKit Go.Proofs.YtmigfgcpdelnfaaW.PrintWords Go.Proofs.YtmigfgcpdelnfaaW.PrintLast Go.Proofs.YtmigfgcpdelnfaaW.PrintMore
attribute [local go_sem] max2_int min2_int max_two min_two max_three min_three max_four min_four   -- for this text's walks alone
set_option linter.unusedVariables false
set_option linter.unusedSimpArgs false

/-! ### spec_l3Splice: function 72 -/
def spec_l3Splice.f (k : Nat) (a0 : ByteArray) (a1 : Int) (a2 : Int) (a3 : ByteArray) : Option ((List (S61))) := if 0 ≤ a1 then (if a1 ≤ a2 then (if a2 ≤ (a0.size : Int) then (if (a0.extract (a1 : Int).toNat (a2 : Int).toNat).toList = a3.toList then ((spec_l3Add.f k ([] : List (S61)) (a0.size : Int) (⟨#[]⟩ : ByteArray) (⟨#[]⟩ : ByteArray)).bind fun n4 => (some n4)) else ((spec_l3Add.f k ([] : List (S61)) a1 (⟨#[]⟩ : ByteArray) (⟨#[]⟩ : ByteArray)).bind fun jl => ((spec_l3Add.f k jl 0 a3 (⟨#[]⟩ : ByteArray)).bind fun jk => ((spec_l3Add.f k jk 0 (⟨#[]⟩ : ByteArray) (a0.extract (a1 : Int).toNat (a2 : Int).toNat)).bind fun jj => ((spec_l3Add.f k jj (wrap64 ((a0.size : Int) - a2)) (⟨#[]⟩ : ByteArray) (⟨#[]⟩ : ByteArray)).bind fun n3 => (some n3)))))) else (none)) else (none)) else (none)
theorem spec_l3Splice.mono : ∀ a0 a1 a2 a3 k, LeO (spec_l3Splice.f k a0 a1 a2 a3) (spec_l3Splice.f (k + 1) a0 a1 a2 a3) := by
 intro a0 a1 a2 a3 k
 unfold spec_l3Splice.f
 repeat' first
   | (with_reducible exact spec_l3Add.mono _ _ _ _ _)
   | (with_reducible exact LeO.refl _)
   | (with_reducible exact LeO.none _)
   | (with_reducible refine LeO.ite ?_ ?_)
   | (with_reducible refine LeO.bind ?_ (fun _ => ?_))
set_option maxHeartbeats 8000000 in
set_option maxRecDepth 100000 in
theorem spec_l3Splice.calls (k : Nat) (a0 : ByteArray) (a1 : Int) (a2 : Int) (a3 : ByteArray) (r : List (S61)) (w : World) (h : spec_l3Splice.f k a0 a1 a2 a3 = some r) :
  Calls Try.prog 72 #[.string a0, .int .i64 a1, .int .i64 a2, .string a3] w fun e w' => ∃ v0_ : Value, e = .returned (v0_) ∧ Kd.R k61 61 w' w.heap.size (fun _ => True) v0_ r ∧ Below w.heap.size w w' := by
 have hu61 := Try.underlying61
 have HB := aM (Below.refl w.heap.size w)
 have H : (if 0 ≤ a1 then (if a1 ≤ a2 then (if a2 ≤ (a0.size : Int) then (if (a0.extract (a1 : Int).toNat (a2 : Int).toNat).toList = a3.toList then ((spec_l3Add.f k ([] : List (S61)) (a0.size : Int) (⟨#[]⟩ : ByteArray) (⟨#[]⟩ : ByteArray)).bind fun n4 => (some n4)) else ((spec_l3Add.f k ([] : List (S61)) a1 (⟨#[]⟩ : ByteArray) (⟨#[]⟩ : ByteArray)).bind fun jl => ((spec_l3Add.f k jl 0 a3 (⟨#[]⟩ : ByteArray)).bind fun jk => ((spec_l3Add.f k jk 0 (⟨#[]⟩ : ByteArray) (a0.extract (a1 : Int).toNat (a2 : Int).toNat)).bind fun jj => ((spec_l3Add.f k jj (wrap64 ((a0.size : Int) - a2)) (⟨#[]⟩ : ByteArray) (⟨#[]⟩ : ByteArray)).bind fun n3 => (some n3)))))) else (none)) else (none)) else (none)) = some r := h
 clear h
 by_cases c5 : 0 ≤ a1
 ·rw [if_pos c5] at H
  have c5b0 := eq_true c5
  have c5b1 : decide (0 ≤ a1) = true := dT c5
  clear c5
  by_cases c6 : a1 ≤ a2
  ·rw [if_pos c6] at H
   have c6b0 := eq_true c6
   have c6b1 : decide (a1 ≤ a2) = true := dT c6
   clear c6
   by_cases c7 : a2 ≤ (a0.size : Int)
   ·rw [if_pos c7] at H
    have c7b0 := eq_true c7
    have c7b1 : decide (a2 ≤ (a0.size : Int)) = true := dT c7
    clear c7
    by_cases c8 : (a0.extract (a1 : Int).toNat (a2 : Int).toNat).toList = a3.toList
    ·rw [if_pos c8] at H
     have c8b0 : ((a0.extract (a1 : Int).toNat (a2 : Int).toNat).toList == a3.toList) = true := qT c8
     have c8b1 : ((a0.extract (a1 : Int).toNat (a2 : Int).toNat).toList != a3.toList) = false := nF c8
     clear c8
     obtain ⟨n4, A9, H⟩ := oA_ H
     try dsimp only at H
     obtain rfl := sI H
     go_enter Try.func72, Try.ntmps72
     go_wp2_with (first | ((with_reducible refine av (f := 86) rfl ?_); refine ay (some 19) rfl rfl Try.func86 z0 rfl #[.slice none 0 0, .agg #[.int .i64 (a0.size : Int), .string ⟨#[]⟩, .string ⟨#[]⟩]] rfl z14 ?_; (refine (spec_l3Add.calls k (fun k_ => some k_ = (.slice none 0 0 : Value).ownBlock) (.slice none 0 0) ([] : List (S61)) (a0.size : Int) (⟨#[]⟩ : ByteArray) (⟨#[]⟩ : ByteArray) n4 w _ ?side1 ?side2 A9.out).mono ?_); (case side1 => exact y35); (case side2 => exact Kd.R_nil _ _ _ _ _); rintro e w10 ⟨v135, rfl, ho0, hb, hkp⟩; refine ⟨_, rfl, ?_⟩; have HO136 := aM (ag (ok' := fun k_ => True) ho0 (fun k_ hk_ => trivial)); replace HB := aM (hb); (try clear hb); (try clear hkp); (try clear ho0)))
     all_goals (try (exfalso; rename_i h_; rw [c8b0] at h_; cases h_; done))
     go_ret
     exact ⟨_, y4, by (with_reducible repeat (first | apply ac | apply ab | apply aa)); exact HO136.out, y5⟩
    ·rw [if_neg c8] at H
     have c8b0 : ((a0.extract (a1 : Int).toNat (a2 : Int).toNat).toList == a3.toList) = false := qF c8
     have c8b1 : ((a0.extract (a1 : Int).toNat (a2 : Int).toNat).toList != a3.toList) = true := nT c8
     obtain ⟨jl, jh, H⟩ := oA_ H
     try dsimp only at H
     obtain ⟨jk, pj, H⟩ := oA_ H
     try dsimp only at H
     have c13b0 := eq_true (oD z2 : 0 ≤ a1)
     have c14b0 := eq_true (oD z2 : a1 ≤ a2)
     have c15b0 := eq_true (oD z2 : a2 ≤ (a0.size : Int))
     obtain ⟨jj, tY, H⟩ := oA_ H
     try dsimp only at H
     obtain ⟨n3, ug, H⟩ := oA_ H
     try dsimp only at H
     obtain rfl := sI H
     go_enter Try.func72, Try.ntmps72
     go_wp2_with (first | ((with_reducible refine av (f := 86) rfl ?_); refine ay (some 23) rfl rfl Try.func86 z0 rfl #[.slice none 0 0, .agg #[.int .i64 a1, .string ⟨#[]⟩, .string ⟨#[]⟩]] rfl z14 ?_; (refine (spec_l3Add.calls k (fun k_ => some k_ = (.slice none 0 0 : Value).ownBlock) (.slice none 0 0) ([] : List (S61)) a1 (⟨#[]⟩ : ByteArray) (⟨#[]⟩ : ByteArray) jl w _ ?side1 ?side2 jh.out).mono ?_); (case side1 => exact y35); (case side2 => exact Kd.R_nil _ _ _ _ _); rintro e w18 ⟨v138, rfl, ho0, hb, hkp⟩; refine ⟨_, rfl, ?_⟩; have oV := aM (ag (ok' := fun k_ => True) ho0 (fun k_ hk_ => trivial)); replace HB := aM (hb); (try clear hb); (try clear hkp); (try clear ho0); obtain ⟨rJ, rk, eo19⟩ := Kd.R_slice oV.out; subst eo19) | ((with_reducible refine av (f := 86) rfl ?_); refine ay (some 27) rfl rfl Try.func86 z0 rfl #[.slice rJ jl.length rk, .agg #[.int .i64 0, .string a3, .string ⟨#[]⟩]] rfl z14 ?_; (with_reducible refine (spec_l3Add.calls k (fun k_ => some k_ = (.slice rJ jl.length rk : Value).ownBlock) (.slice rJ jl.length rk) jl 0 a3 (⟨#[]⟩ : ByteArray) jk w _ ?side1 ?side2 pj.out).mono ?_); (case side1 => exact y35); (case side2 => exact Kd.R_tight rfl oV.out); rintro e w20 ⟨v141, rfl, ho0, hb, hkp⟩; refine ⟨_, rfl, ?_⟩; have oU := aM (ag (ok' := fun k_ => True) ho0 (fun k_ hk_ => trivial)); replace HB := aM (hb); clear oV; (try clear hb); (try clear hkp); (try clear ho0); obtain ⟨rI, rj, eo21⟩ := Kd.R_slice oU.out; subst eo21) | ((with_reducible refine av (f := 86) rfl ?_); refine ay (some 34) rfl rfl Try.func86 z0 rfl #[.slice rI jk.length rj, .agg #[.int .i64 0, .string ⟨#[]⟩, .string (a0.extract (a1 : Int).toNat (a2 : Int).toNat)]] rfl z14 ?_; (with_reducible refine (spec_l3Add.calls k (fun k_ => some k_ = (.slice rI jk.length rj : Value).ownBlock) (.slice rI jk.length rj) jk 0 (⟨#[]⟩ : ByteArray) (a0.extract (a1 : Int).toNat (a2 : Int).toNat) jj w _ ?side1 ?side2 tY.out).mono ?_); (case side1 => exact y35); (case side2 => exact Kd.R_tight rfl oU.out); rintro e w22 ⟨v144, rfl, ho0, hb, hkp⟩; refine ⟨_, rfl, ?_⟩; have oT := aM (ag (ok' := fun k_ => True) ho0 (fun k_ hk_ => trivial)); replace HB := aM (hb); clear oU; (try clear hb); (try clear hkp); (try clear ho0); obtain ⟨rH, ri, eo23⟩ := Kd.R_slice oT.out; subst eo23) | ((with_reducible refine av (f := 86) rfl ?_); refine ay (some 41) rfl rfl Try.func86 z0 rfl #[.slice rH jj.length ri, .agg #[.int .i64 (wrap64 ((a0.size : Int) - a2)), .string ⟨#[]⟩, .string ⟨#[]⟩]] rfl z14 ?_; (with_reducible refine (spec_l3Add.calls k (fun k_ => some k_ = (.slice rH jj.length ri : Value).ownBlock) (.slice rH jj.length ri) jj (wrap64 ((a0.size : Int) - a2)) (⟨#[]⟩ : ByteArray) (⟨#[]⟩ : ByteArray) n3 w _ ?side1 ?side2 ug.out).mono ?_); (case side1 => exact y35); (case side2 => exact Kd.R_tight rfl oT.out); rintro e w24 ⟨v147, rfl, ho0, hb, hkp⟩; refine ⟨_, rfl, ?_⟩; have HO148 := aM (ag (ok' := fun k_ => True) ho0 (fun k_ hk_ => trivial)); replace HB := aM (hb); clear oT; (try clear hb); (try clear hkp); (try clear ho0)))
     all_goals (try (exfalso; rename_i h_; rw [c8b0] at h_; cases h_; done))
     go_ret
     exact ⟨_, y4, by (with_reducible repeat (first | apply ac | apply ab | apply aa)); exact HO148.out, y5⟩
   ·rw [if_neg c7] at H
    exact absurd H (by simp)
  ·rw [if_neg c6] at H
   exact absurd H (by simp)
 ·rw [if_neg c5] at H
  exact absurd H (by simp)

/-! ### spec_l1Name: function 73 -/
def spec_l1Name.f (a0 : ByteArray) : Option (Bool) := if (a0.size : Int) = 1 then (if 0 < (a0.size : Int) then ((spec_l1Open.f (bt a0 0)).bind fun n2 => (some n2)) else (none)) else (some false)
set_option maxHeartbeats 8000000 in
set_option maxRecDepth 100000 in
theorem spec_l1Name.calls (a0 : ByteArray) (r : Bool) (w : World) (h : spec_l1Name.f a0 = some r) :
  Calls Try.prog 73 #[.string a0] w fun e w' => e = .returned (.bool r) ∧ Drawn0 w w' := by
 have H : (if (a0.size : Int) = 1 then (if 0 < (a0.size : Int) then ((spec_l1Open.f (bt a0 0)).bind fun n2 => (some n2)) else (none)) else (some false)) = some r := h
 clear h
 by_cases c2 : (a0.size : Int) = 1
 ·rw [if_pos c2] at H
  have c2b0 : ((a0.size : Int) == 1) = true := qT c2
  have c2b1 : ((a0.size : Int) != 1) = false := nF c2
  clear c2
  by_cases c3 : 0 < (a0.size : Int)
  ·rw [if_pos c3] at H
   have c3b0 : decide (0 < (a0.size : Int)) = true := dT c3
   have c3b1 : decide (0 < a0.size) = true := dT (by omega)
   clear c3
   obtain ⟨n2, A5, H⟩ := oA_ H
   try dsimp only at H
   obtain rfl := sI H
   have p4 : 0 ≤ (0 : Int) := (by omega)
   have q4 : 0 < a0.size := (by have : (0 : Int) < (a0.size : Int) := oD z2; omega)
   have hx4 : ∀ h : 0 < a0.size, ((a0[0]'h).toNat : Int) = bt a0 0 := bt_at a0 0
   clear p4
   have qi4 : (0 < (a0.size : Int)) = True := eq_true (oD z2)
   replace q4 := eq_true q4
   go_enter Try.func73, Try.ntmps73
   go_wp2_with (first | (go_at_call 29; (with_reducible refine (spec_l1Open.calls (bt a0 0) n2 _ A5.out).mono ?_); rintro e w' ⟨rfl, ⟨nd, rfl⟩⟩))
   go_ret
   exact ⟨y1, y3⟩
  ·rw [if_neg c3] at H
   exact absurd H (by simp)
 ·rw [if_neg c2] at H
  have c2b0 : ((a0.size : Int) == 1) = false := qF c2
  have c2b1 : ((a0.size : Int) != 1) = true := nT c2
  obtain rfl := sI H
  go_enter Try.func73, Try.ntmps73
  go_wp2
  go_ret
  exact ⟨y1, y3⟩

/-! ### spec_l3Normal: function 74 -/
def spec_l3Normal.l0 : Nat → List (S61) → List (S61) → Int → Int → Option ((List (S61)))
 | 0, _, _, _, _ => none
 | k + 1, x3, x6, x7, x8 => if x8 < x7 then (if 0 ≤ x8 then (if x8 < (x6.length : Int) then ((spec_l3Add.f k x3 ((rd_T61 x6 x8).f0) ((rd_T61 x6 x8).f1) ((rd_T61 x6 x8).f2)).bind fun pH => (spec_l3Normal.l0 k pH x6 x7 (wrap64 (x8 + 1)))) else (none)) else (none)) else (some x3)
def spec_l3Normal.f (k : Nat) (l0 : List (S61)) : Option ((List (S61))) := spec_l3Normal.l0 k ([] : List (S61)) l0 (l0.length : Int) 0
theorem spec_l3Normal.mono_l : ∀ k, (∀ y0 y1 y2 y3, LeO (spec_l3Normal.l0 k y0 y1 y2 y3) (spec_l3Normal.l0 (k + 1) y0 y1 y2 y3))
 | 0 => fun _ _ _ _ r h => by simp [spec_l3Normal.l0] at h
 | k + 1 => by
  have ih0 := spec_l3Normal.mono_l k
  ·intro y0 y1 y2 y3
   unfold spec_l3Normal.l0
   repeat' first
   | (with_reducible exact ih0 _ _ _ _)
   | (with_reducible exact spec_l3Add.mono _ _ _ _ _)
   | (with_reducible exact LeO.refl _)
   | (with_reducible exact LeO.none _)
   | (with_reducible refine LeO.ite ?_ ?_)
   | (with_reducible refine LeO.bind ?_ (fun _ => ?_))
theorem spec_l3Normal.mono : ∀ a0 k, LeO (spec_l3Normal.f k a0) (spec_l3Normal.f (k + 1) a0) := by
 intro a0 k
 have ih0 := spec_l3Normal.mono_l k
 unfold spec_l3Normal.f
 repeat' first
   | (with_reducible exact ih0 _ _ _ _)
   | (with_reducible exact spec_l3Add.mono _ _ _ _ _)
   | (with_reducible exact LeO.refl _)
   | (with_reducible exact LeO.none _)
   | (with_reducible refine LeO.ite ?_ ?_)
   | (with_reducible refine LeO.bind ?_ (fun _ => ?_))
set_option maxHeartbeats 8000000 in
set_option maxRecDepth 100000 in
theorem spec_l3Normal.calls (k : Nat) (A0 : Option Addr) (c0 : Nat) (l0 : List (S61)) (r : List (S61)) (w : World) (hr0 : Kd.C k61 w A0 l0.length l0) (hc0 : l0.length ≤ c0) (h : spec_l3Normal.f k l0 = some r) :
  Calls Try.prog 74 #[.slice A0 l0.length c0] w fun e w' => ∃ v0_ : Value, e = .returned (v0_) ∧ Kd.R k61 61 w' w.heap.size (fun _ => True) v0_ r ∧ Below w.heap.size w w' := by
 have hu61 := Try.underlying61
 have pX := aM hr0
 have rU := aM hc0
 clear hr0 hc0
 have HB := aM (Below.refl w.heap.size w)
 have H : (spec_l3Normal.l0 k ([] : List (S61)) l0 (l0.length : Int) 0) = some r := h
 clear h
 have H' := aM H
 clear H
 go_enter Try.func74, Try.ntmps74
 go_wp2
 go_loopg [3, 8] k (fun kq v3 v8 w' => ∃ (x3_1 : List (S61)) (x8_1 : Int), v8 = .int .i64 x8_1 ∧ Aside0 (spec_l3Normal.l0 kq x3_1 l0 (l0.length : Int) x8_1 = some r) ∧ Aside0 (kq ≤ k) ∧ Aside0 (Kd.R k61 61 w' w.heap.size (fun _ => True) v3 x3_1) ∧ Aside0 (Below w.heap.size w w'))
 case atStart => exact ⟨(([] : List (S61))), (0), z1, H', ⟨Nat.le_refl _⟩, ⟨y20⟩, ⟨y5⟩⟩
 case round =>
  clear H'
  obtain ⟨x3_1, x8_1, rfl, HA, HK1, gH, HB⟩ := hrel
  cases gk with
  | zero => exact absurd HA.out (by simp [spec_l3Normal.l0])
  | succ k1 =>
   have H := HA.out
   clear HA
   simp only [spec_l3Normal.l0] at H
   by_cases c2 : x8_1 < (l0.length : Int)
   ·rw [if_pos c2] at H
    have c2b0 : decide (x8_1 < (l0.length : Int)) = true := dT c2
    clear c2
    by_cases c3 : 0 ≤ x8_1
    ·rw [if_pos c3] at H
     have c3b0 : decide (0 ≤ x8_1) = true := dT c3
     clear c3
     by_cases c4 : x8_1 < (l0.length : Int)
     ·rw [if_pos c4] at H
      have c4b0 : decide (x8_1 < (l0.length : Int)) = true := dT c4
      clear c4
      obtain ⟨pH, A5, H⟩ := oA_ H
      try dsimp only at H
      have H' := aM H
      clear H
      have p150 : 0 ≤ (x8_1 : Int) := oD z2
      have q150 : x8_1 < (l0.length : Int) := oD z2
      obtain ⟨ad150, e150, hx150_0, hx150_1, hx150_2⟩ := at_T61 pX.out x8_1 p150 q150
      cases e150
      replace hx150_0 := (HB.out.cell (World.block_lt_of_cell? w _ hx150_0)).trans hx150_0
      replace hx150_1 := (HB.out.cell (World.block_lt_of_cell? w _ hx150_1)).trans hx150_1
      replace hx150_2 := (HB.out.cell (World.block_lt_of_cell? w _ hx150_2)).trans hx150_2
      replace p150 := eq_true p150
      replace q150 := eq_true q150
      go_wp2_with (first | ((with_reducible refine aw (N := 5) rfl ?_); refine ax ?hg (N := 5) ?hd (cs := #[.int .i64 0, .string ⟨#[]⟩, .string ⟨#[]⟩]) (t := 61) ?hr ?_; (case hd => rfl); (case hg => rfl); (case hr => first | (go_simp; done) | (go_simp; rfl)); intro cy hg w6 hbox hb; replace gH := aM (af (Kd.R_elderB (kR_ gH.out) cy (Nat.le_of_eq hg.symm)) hb); have cI := aM (hbox); have GW151 := aM ((by rw [hg]; exact (aq z13) : w.heap.size ≤ cy)); have o1 := aM ((by rw [hg]; exact (aq z13) : w.heap.size ≤ cy)); replace HB := aM (ap z13 hb); clear hb hbox hg; obtain ⟨hcz7_0, hcz7_1, hcz7_2, hfz7_0, hfz7_1, hfz7_2⟩ := cc3 cI.out) | ((with_reducible refine gate_store (t := 61) (p := 5) rfl ?_); refine store_event (t := 61) (p := 5) (v := ?vo_w8) (w1 := (((w6.setCell ⟨cy, 0, none⟩ (.int .i64 ((rd_T61 l0 x8_1).f0))).setCell ⟨cy, 1, none⟩ (.string ((rd_T61 l0 x8_1).f1))).setCell ⟨cy, 2, none⟩ (.string ((rd_T61 l0 x8_1).f2)))) ?hg ?ho ?hn ?hr ?_; (case ho => rfl); (case hg => rfl); (case hn => rfl); (case hr => first | (go_simp; done) | (go_simp; rfl) | ((try simp only [Int.toNat_natCast] at *); go_simp; first | done | rfl)); intro w8 hw; have aG : Aside0 (Kd.R k61 61 w8 w.heap.size (fun k_ => k_ ≠ cy) u3 x3_1) := ⟨(by rw [hw]; exact (by (with_reducible repeat (first | apply ac | apply ab | apply aa)); exact ag (Kd.R_far (p := ⟨cy, 2, none⟩) (Kd.R_far (p := ⟨cy, 1, none⟩) (Kd.R_far (p := ⟨cy, 0, none⟩) (ag gH.out (fun k_ hk => (⟨hk, hk.2⟩ : _ ∧ k_ ≠ cy))) (fun _ hk => hk.2) (.int .i64 ((rd_T61 l0 x8_1).f0))) (fun _ hk => hk.2) (.string ((rd_T61 l0 x8_1).f1))) (fun _ hk => hk.2) (.string ((rd_T61 l0 x8_1).f2))) (fun _ hk => hk.1.2)))⟩; have aH : Aside0 (w8.heap[cy]? = some (.cells #[.int .i64 ((rd_T61 l0 x8_1).f0), .string ((rd_T61 l0 x8_1).f1), .string ((rd_T61 l0 x8_1).f2)] 61 (0, 0))) := ⟨(by rw [hw]; exact (by (with_reducible repeat (first | refine aj ?_ _ | refine ai ?_ | refine ak ?_ _)); refine am (cs := #[.int .i64 ((rd_T61 l0 x8_1).f0), .string ((rd_T61 l0 x8_1).f1), .string ⟨#[]⟩]) ?_ 2 _ rfl; (with_reducible repeat (first | refine aj ?_ _ | refine ai ?_ | refine ak ?_ _)); refine am (cs := #[.int .i64 ((rd_T61 l0 x8_1).f0), .string ⟨#[]⟩, .string ⟨#[]⟩]) ?_ 1 _ rfl; (with_reducible repeat (first | refine aj ?_ _ | refine ai ?_ | refine ak ?_ _)); refine am (cs := #[.int .i64 0, .string ⟨#[]⟩, .string ⟨#[]⟩]) ?_ 0 _ rfl; (with_reducible repeat (first | refine aj ?_ _ | refine ai ?_ | refine ak ?_ _)); exact cI.out))⟩; have aN : Aside0 (Below w.heap.size w w8) := ⟨(by rw [hw]; exact (by repeat (first | (with_reducible first | exact HB.out | apply bA | apply pD | apply bD | refine ao ?_ o1.out) | exact HB.out)))⟩; clear hw; clear gH; clear cI; clear HB; have gH := aG; have cI := aH; have HB := aN; clear aG aH aN; obtain ⟨b4, b3, bZ, b6, bY, bX⟩ := cc3 cI.out; obtain ⟨o5, oh, eo10⟩ := Kd.R_slice gH.out; subst eo10) | ((with_reducible refine av (f := 86) rfl ?_); refine ay (some 14) rfl rfl Try.func86 z0 rfl #[.slice o5 x3_1.length oh, .agg #[.int .i64 ((rd_T61 l0 x8_1).f0), .string ((rd_T61 l0 x8_1).f1), .string ((rd_T61 l0 x8_1).f2)]] rfl z14 ?_; (with_reducible refine (spec_l3Add.calls k1 (fun k_ => some k_ = (.slice o5 x3_1.length oh : Value).ownBlock) (.slice o5 x3_1.length oh) x3_1 ((rd_T61 l0 x8_1).f0) ((rd_T61 l0 x8_1).f1) ((rd_T61 l0 x8_1).f2) pH w _ ?side1 ?side2 A5.out).mono ?_); (case side1 => repeat (first | (with_reducible first | exact HB.out | apply bA | apply pD | apply bD | refine ao ?_ o1.out) | exact HB.out)); (case side2 => exact Kd.R_tight rfl gH.out); rintro e w11 ⟨v153, rfl, ho0, hb, hkp⟩; refine ⟨_, rfl, ?_⟩; have HO154 := aM (ag (ok' := fun k_ => k_ ≠ cy) ho0 (fun k_ hk_ => Or.elim hk_ (fun hs_ => fun e_ => (Kd.R_away gH.out (fun _ hk => hk)) (by rw [← e_]; exact hs_)) (fun hn_ => (Kd.freshB (g := cy) (o := .cells #[.int .i64 ((rd_T61 l0 x8_1).f0), .string ((rd_T61 l0 x8_1).f1), .string ((rd_T61 l0 x8_1).f2)] 61 (0, 0)) (kB_ cI.out) k_ hn_)))); replace cI := aM (blk_kept (kB_ cI.out) hkp (fun hs_ => (fun e_ => (Kd.R_away gH.out (fun _ hk => hk)) e_) hs_)); replace HB := aM (hb); clear gH; (try clear hb); (try clear hkp); (try clear ho0)))
      go_roundg k1
      case measure => have := HK1.out; omega
      case rel => exact ⟨(pH), (wrap64 (x8_1 + 1)), z1, H', ⟨by have := HK1.out; omega⟩, ⟨kM_ HO154.out (fun _ hk => trivial)⟩, ⟨by repeat (first | (with_reducible first | exact HB.out | apply bA | apply pD | apply bD | refine ao ?_ o1.out) | exact HB.out)⟩⟩
     ·rw [if_neg c4] at H
      exact absurd H (by simp)
    ·rw [if_neg c3] at H
     exact absurd H (by simp)
   ·rw [if_neg c2] at H
    have c2b0 : decide (x8_1 < (l0.length : Int)) = false := dF c2
    clear c2
    obtain rfl := sI H
    go_wp2
    go_ret
    exact ⟨_, y4, by (with_reducible repeat (first | apply ac | apply ab | apply aa)); exact gH.out, y5⟩

/-! ### spec_l8Split: function 75 -/
mutual
def spec_l8Split.l0 : Nat → ByteArray → Int → Int → Int → Option ((List (S61)) × Bool)
 | 0, _, _, _, _ => none
 | k + 1, x0, x1, x6, x7 => if x7 ≥ 0 then (if 0 ≤ x7 then (if x7 < (x0.size : Int) then (if (bt x0 x7) = 47 then (spec_l8Split.j1 k x0 x1 (wrap64 (x6 + 1)) x7) else (spec_l8Split.j1 k x0 x1 x6 x7)) else (none)) else (none)) else (some (([] : List (S61)), false))
def spec_l8Split.j1 : Nat → ByteArray → Int → Int → Int → Option ((List (S61)) × Bool)
 | 0, _, _, _, _ => none
 | k + 1, x0, x1, x6, x7 => if 0 ≤ x7 then (if x7 < (x0.size : Int) then ((spec_l1Open.f (bt x0 x7)).bind fun rf => (if rf = true then (if x6 = 0 then (if x7 ≤ (wrap64 (x7 + 1)) then (if (wrap64 (x7 + 1)) ≤ (x0.size : Int) then (if 1 + (x0.extract (x7 : Int).toNat ((wrap64 (x7 + 1)) : Int).toNat).size ≤ 9223372036854775807 then ((spec_l3Splice.f k x0 x1 x1 ((⟨#[47]⟩ : ByteArray) ++ (x0.extract (x7 : Int).toNat ((wrap64 (x7 + 1)) : Int).toNat))).bind fun re => (some (re, true))) else (none)) else (none)) else (none)) else (spec_l8Split.l0 k x0 x1 (wrap64 (x6 - 1)) (wrap64 (x7 - 1)))) else (spec_l8Split.l0 k x0 x1 x6 (wrap64 (x7 - 1))))) else (none)) else (none)
end
def spec_l8Split.f (k : Nat) (a0 : ByteArray) (a1 : Int) : Option ((List (S61)) × Bool) := spec_l8Split.l0 k a0 a1 0 (wrap64 (a1 - 1))
theorem spec_l8Split.mono_l : ∀ k, (∀ y0 y1 y2 y3, LeO (spec_l8Split.l0 k y0 y1 y2 y3) (spec_l8Split.l0 (k + 1) y0 y1 y2 y3)) ∧ (∀ y0 y1 y2 y3, LeO (spec_l8Split.j1 k y0 y1 y2 y3) (spec_l8Split.j1 (k + 1) y0 y1 y2 y3))
 | 0 => ⟨fun _ _ _ _ r h => by simp [spec_l8Split.l0] at h, fun _ _ _ _ r h => by simp [spec_l8Split.j1] at h⟩
 | k + 1 => by
  obtain ⟨ih0, ih1⟩ := spec_l8Split.mono_l k
  refine ⟨?_, ?_⟩
  ·intro y0 y1 y2 y3
   unfold spec_l8Split.l0
   repeat' first
   | (with_reducible exact ih0 _ _ _ _)
   | (with_reducible exact ih1 _ _ _ _)
   | (with_reducible exact spec_l3Splice.mono _ _ _ _ _)
   | (with_reducible exact LeO.refl _)
   | (with_reducible exact LeO.none _)
   | (with_reducible refine LeO.ite ?_ ?_)
   | (with_reducible refine LeO.bind ?_ (fun _ => ?_))
  ·intro y0 y1 y2 y3
   unfold spec_l8Split.j1
   repeat' first
   | (with_reducible exact ih0 _ _ _ _)
   | (with_reducible exact ih1 _ _ _ _)
   | (with_reducible exact spec_l3Splice.mono _ _ _ _ _)
   | (with_reducible exact LeO.refl _)
   | (with_reducible exact LeO.none _)
   | (with_reducible refine LeO.ite ?_ ?_)
   | (with_reducible refine LeO.bind ?_ (fun _ => ?_))
theorem spec_l8Split.mono : ∀ a0 a1 k, LeO (spec_l8Split.f k a0 a1) (spec_l8Split.f (k + 1) a0 a1) := by
 intro a0 a1 k
 obtain ⟨ih0, ih1⟩ := spec_l8Split.mono_l k
 unfold spec_l8Split.f
 repeat' first
   | (with_reducible exact ih0 _ _ _ _)
   | (with_reducible exact ih1 _ _ _ _)
   | (with_reducible exact spec_l3Splice.mono _ _ _ _ _)
   | (with_reducible exact LeO.refl _)
   | (with_reducible exact LeO.none _)
   | (with_reducible refine LeO.ite ?_ ?_)
   | (with_reducible refine LeO.bind ?_ (fun _ => ?_))
set_option maxHeartbeats 8000000 in
set_option maxRecDepth 100000 in
theorem spec_l8Split.calls (k : Nat) (a0 : ByteArray) (a1 : Int) (r1 : List (S61)) (r2 : Bool) (w : World) (h : spec_l8Split.f k a0 a1 = some (r1, r2)) :
  Calls Try.prog 75 #[.string a0, .int .i64 a1] w fun e w' => ∃ v0_ : Value, e = .returned (.tuple #[v0_, .bool r2]) ∧ Kd.R k61 61 w' w.heap.size (fun _ => True) v0_ r1 ∧ Below w.heap.size w w' := by
 have HB := aM (Below.refl w.heap.size w)
 have H : (spec_l8Split.l0 k a0 a1 0 (wrap64 (a1 - 1))) = some (r1, r2) := h
 clear h
 have H' := aM H
 clear H
 go_enter Try.func75, Try.ntmps75
 go_wp2
 go_loopg [6, 7] k (fun kq v6 v7 w' => ∃ (x6_1 : Int) (x7_1 : Int), v6 = .int .i64 x6_1 ∧ v7 = .int .i64 x7_1 ∧ Aside0 (spec_l8Split.l0 kq a0 a1 x6_1 x7_1 = some (r1, r2)) ∧ Aside0 (kq ≤ k) ∧ Aside0 (Below w.heap.size w w'))
 case atStart => exact ⟨(0), (wrap64 (a1 - 1)), z1, z1, H', ⟨Nat.le_refl _⟩, ⟨y5⟩⟩
 case round =>
  clear H'
  obtain ⟨x6_1, x7_1, rfl, rfl, HA, HK1, HB⟩ := hrel
  cases gk with
  | zero => exact absurd HA.out (by simp [spec_l8Split.l0])
  | succ k1 =>
   have H := HA.out
   clear HA
   simp only [spec_l8Split.l0] at H
   by_cases c3 : x7_1 ≥ 0
   ·rw [if_pos c3] at H
    have c3b0 : decide (0 ≤ x7_1) = true := dT c3
    clear c3
    by_cases c4 : 0 ≤ x7_1
    ·rw [if_pos c4] at H
     have c4b0 : decide (0 ≤ x7_1) = true := dT c4
     clear c4
     by_cases c5 : x7_1 < (a0.size : Int)
     ·rw [if_pos c5] at H
      have c5b0 : decide (x7_1 < (a0.size : Int)) = true := dT c5
      clear c5
      have uj := aM H
      clear H
      have p6 : 0 ≤ (x7_1 : Int) := oD z2
      have q6 : x7_1 < (a0.size : Int) := oD z2
      have hx6 := bt_at a0 x7_1
      replace p6 := eq_true p6
      replace q6 := eq_true q6
      go_upto_if 17 with (fail)
      go_cut [6] (fun v6 wc => ∃ (kq : Nat) (x6_6 : Int), v6 = .int .i64 x6_6 ∧ Aside0 (spec_l8Split.j1 kq a0 a1 x6_6 x7_1 = some (r1, r2)) ∧ Aside0 (kq ≤ k1) ∧ Aside0 (Below w.heap.size w wc))
      case first =>
       have H := uj.out
       clear uj
       by_cases c8 : (bt a0 x7_1) = 47
       ·rw [if_pos c8] at H
        have c8b0 : ((bt a0 x7_1) == 47) = true := qT c8
        have c8b1 : ((bt a0 x7_1) != 47) = false := nF c8
        clear c8
        (first | rw [c8b0] | (simp only [i64_w, i32_w]; rw [c8b0]) | skip)
        have H' := aM H
        clear H
        go_wp2
        go_meet
        case rel => exact ⟨_, (wrap64 (x6_1 + 1)), z1, H', ⟨y2⟩, ⟨y5⟩⟩
       ·rw [if_neg c8] at H
        have c8b0 : ((bt a0 x7_1) == 47) = false := qF c8
        have c8b1 : ((bt a0 x7_1) != 47) = true := nT c8
        (first | rw [c8b0] | (simp only [i64_w, i32_w]; rw [c8b0]) | skip)
        have H' := aM H
        clear H
        go_wp2
        go_meet
        case rel => exact ⟨_, (x6_1), z1, H', ⟨y2⟩, ⟨y5⟩⟩
      case rest =>
       clear uj
       try clear p2
       try clear c3
       try clear c3b0
       try clear c4
       try clear c4b0
       try clear c5
       try clear c5b0
       try clear p6
       try clear q6
       try clear hx6
       try clear p2
       try clear p6
       try clear q6
       obtain ⟨kq, x6_6, rfl, HA, uc, HB⟩ := hcut
       cases kq with
       | zero => exact absurd HA.out (by simp [spec_l8Split.j1])
       | succ kj6 =>
        have H := HA.out
        clear HA
        simp only [spec_l8Split.j1] at H
        by_cases c9 : 0 ≤ x7_1
        ·rw [if_pos c9] at H
         have c9b0 : decide (0 ≤ x7_1) = true := dT c9
         clear c9
         by_cases dk : x7_1 < (a0.size : Int)
         ·rw [if_pos dk] at H
          have c10b0 : decide (x7_1 < (a0.size : Int)) = true := dT dk
          clear dk
          obtain ⟨rf, pj, H⟩ := oA_ H
          try dsimp only at H
          by_cases ce : rf = true
          ·subst ce
           rw [if_pos rfl] at H
           by_cases cD : x6_6 = 0
           ·rw [if_pos cD] at H
            have c14b0 : (x6_6 == 0) = true := qT cD
            have c14b1 : (x6_6 != 0) = false := nF cD
            clear cD
            have c15b0 := eq_true (oD z2 : 0 ≤ x7_1)
            by_cases eu : x7_1 ≤ (wrap64 (x7_1 + 1))
            ·rw [if_pos eu] at H
             have c16b0 := eq_true eu
             have c16b1 : decide (x7_1 ≤ (wrap64 (x7_1 + 1))) = true := dT eu
             by_cases e4 : (wrap64 (x7_1 + 1)) ≤ (a0.size : Int)
             ·rw [if_pos e4] at H
              have c17b0 := eq_true e4
              have c17b1 : decide ((wrap64 (x7_1 + 1)) ≤ (a0.size : Int)) = true := dT e4
              by_cases e8 : 1 + (a0.extract (x7_1 : Int).toNat ((wrap64 (x7_1 + 1)) : Int).toNat).size ≤ 9223372036854775807
              ·rw [if_pos e8] at H
               have c18b0 := eq_true e8
               have c18b1 : decide (1 + (a0.extract (x7_1 : Int).toNat ((wrap64 (x7_1 + 1)) : Int).toNat).size ≤ 9223372036854775807) = true := dT e8
               try have c18b2 : (9223372036854775807 < 1 + (a0.extract (x7_1 : Int).toNat ((wrap64 (x7_1 + 1)) : Int).toNat).size) = False := eq_false (Nat.not_lt.2 e8)
               (try (have c18x : (9223372036854775807 < 1 + ((wrap64 (x7_1 + 1)).toNat - (x7_1).toNat)) = False := eq_false (fun h_ => by have e_ := of_eq_true c18b0; simp only [aC, aA] at e_; have f0_ : (wrap64 (x7_1 + 1)) ≤ (a0.size : Int) := (by first | assumption | exact of_eq_true (by assumption) | exact oD (by assumption)); omega)))
               obtain ⟨re, un, H⟩ := oA_ H
               try dsimp only at H
               simp only [Option.some.injEq, Prod.mk.injEq] at H
               obtain ⟨rfl, rfl⟩ := H
               have p11 : 0 ≤ (x7_1 : Int) := oD z2
               have q11 : x7_1 < (a0.size : Int) := oD z2
               have hx11 := bt_at a0 x7_1
               replace p11 := eq_true p11
               replace q11 := eq_true q11
               go_wp2_with (first | ((with_reducible refine av (f := 29) rfl ?_); refine ay (some 23) rfl rfl Try.func29 z0 rfl #[.int .u8 (bt a0 x7_1)] rfl z14 ?_; (with_reducible refine (spec_l1Open.calls (bt a0 x7_1) true _ pj.out).mono ?_); rintro e w' ⟨rfl, ⟨nd, rfl⟩⟩; refine ⟨_, rfl, ?_⟩) | ((with_reducible refine av (f := 72) rfl ?_); refine ay (some 36) rfl rfl Try.func72 z0 rfl #[.string a0, .int .i64 a1, .int .i64 a1, .string ((⟨#[47]⟩ : ByteArray) ++ (a0.extract (x7_1 : Int).toNat ((wrap64 (x7_1 + 1)) : Int).toNat))] rfl z14 ?_; (with_reducible refine (spec_l3Splice.calls kj6 a0 a1 a1 ((⟨#[47]⟩ : ByteArray) ++ (a0.extract (x7_1 : Int).toNat ((wrap64 (x7_1 + 1)) : Int).toNat)) re _ un.out).mono ?_); rintro e w20 ⟨v157, rfl, ho0, hb⟩; refine ⟨_, rfl, ?_⟩; have HO158 := aM (az ho0 (aq z13)); replace HB := aM (ap z13 hb); (try clear hb); (try clear ho0)))
               go_ret2
               exact ⟨_, y4, by (with_reducible repeat (first | apply ac | apply ab | apply aa)); exact HO158.out, y5⟩
              ·rw [if_neg e8] at H
               exact absurd H (by simp)
             ·rw [if_neg e4] at H
              exact absurd H (by simp)
            ·rw [if_neg eu] at H
             exact absurd H (by simp)
           ·rw [if_neg cD] at H
            have c14b0 : (x6_6 == 0) = false := qF cD
            have c14b1 : (x6_6 != 0) = true := nT cD
            have H' := aM H
            clear H
            have p11 : 0 ≤ (x7_1 : Int) := oD z2
            have q11 : x7_1 < (a0.size : Int) := oD z2
            have hx11 := bt_at a0 x7_1
            replace p11 := eq_true p11
            replace q11 := eq_true q11
            go_wp2_with (first | ((with_reducible refine av (f := 29) rfl ?_); refine ay (some 23) rfl rfl Try.func29 z0 rfl #[.int .u8 (bt a0 x7_1)] rfl z14 ?_; (with_reducible refine (spec_l1Open.calls (bt a0 x7_1) true _ pj.out).mono ?_); rintro e w' ⟨rfl, ⟨nd, rfl⟩⟩; refine ⟨_, rfl, ?_⟩))
            go_roundg kj6
            case measure => have := HK1.out; have := uc.out; omega
            case rel => exact ⟨(wrap64 (x6_6 - 1)), (wrap64 (x7_1 - 1)), z1, z1, H', ⟨by have := HK1.out; have := uc.out; omega⟩, ⟨y5⟩⟩
          ·replace ce := Bool.eq_false_iff.mpr ce
           subst ce
           rw [if_neg nF_] at H
           have H' := aM H
           clear H
           have p11 : 0 ≤ (x7_1 : Int) := oD z2
           have q11 : x7_1 < (a0.size : Int) := oD z2
           have hx11 := bt_at a0 x7_1
           replace p11 := eq_true p11
           replace q11 := eq_true q11
           go_wp2_with (first | ((with_reducible refine av (f := 29) rfl ?_); refine ay (some 23) rfl rfl Try.func29 z0 rfl #[.int .u8 (bt a0 x7_1)] rfl z14 ?_; (with_reducible refine (spec_l1Open.calls (bt a0 x7_1) false _ pj.out).mono ?_); rintro e w' ⟨rfl, ⟨nd, rfl⟩⟩; refine ⟨_, rfl, ?_⟩))
           go_roundg kj6
           case measure => have := HK1.out; have := uc.out; omega
           case rel => exact ⟨(x6_6), (wrap64 (x7_1 - 1)), z1, z1, H', ⟨by have := HK1.out; have := uc.out; omega⟩, ⟨y5⟩⟩
         ·rw [if_neg dk] at H
          exact absurd H (by simp)
        ·rw [if_neg c9] at H
         exact absurd H (by simp)
     ·rw [if_neg c5] at H
      exact absurd H (by simp)
    ·rw [if_neg c4] at H
     exact absurd H (by simp)
   ·rw [if_neg c3] at H
    have c3b0 : decide (0 ≤ x7_1) = false := dF c3
    clear c3
    simp only [Option.some.injEq, Prod.mk.injEq] at H
    obtain ⟨rfl, rfl⟩ := H
    go_wp2
    go_ret2
    exact ⟨_, y4, y20, y5⟩

/-! ### spec_l8Move: function 76 -/
def spec_l8Move.j0 : Nat → ByteArray → Int → Int → Int → Bool → Option ((List (S61)) × Bool)
 | 0, _, _, _, _, _ => none
 | k + 1, x0, x1, x2, x3, x21 => if x21 = true then (some (([] : List (S61)), false)) else (if 0 ≤ x1 then (if x1 ≤ x2 then (if x2 ≤ (x0.size : Int) then (if x3 < x1 then ((spec_l3Normal.f k (([(⟨x3, (⟨#[]⟩ : ByteArray), (⟨#[]⟩ : ByteArray)⟩ : S61), (⟨0, x0.extract (x1 : Int).toNat (x2 : Int).toNat, (⟨#[]⟩ : ByteArray)⟩ : S61), (⟨wrap64 (x1 - x3), (⟨#[]⟩ : ByteArray), (⟨#[]⟩ : ByteArray)⟩ : S61), (⟨0, (⟨#[]⟩ : ByteArray), x0.extract (x1 : Int).toNat (x2 : Int).toNat⟩ : S61), (⟨wrap64 ((x0.size : Int) - x2), (⟨#[]⟩ : ByteArray), (⟨#[]⟩ : ByteArray)⟩ : S61)] : List (S61)))).bind fun n0 => (some (n0, true))) else ((spec_l3Normal.f k (([(⟨x1, (⟨#[]⟩ : ByteArray), (⟨#[]⟩ : ByteArray)⟩ : S61), (⟨0, (⟨#[]⟩ : ByteArray), x0.extract (x1 : Int).toNat (x2 : Int).toNat⟩ : S61), (⟨wrap64 (x3 - x2), (⟨#[]⟩ : ByteArray), (⟨#[]⟩ : ByteArray)⟩ : S61), (⟨0, x0.extract (x1 : Int).toNat (x2 : Int).toNat, (⟨#[]⟩ : ByteArray)⟩ : S61), (⟨wrap64 ((x0.size : Int) - x3), (⟨#[]⟩ : ByteArray), (⟨#[]⟩ : ByteArray)⟩ : S61)] : List (S61)))).bind fun nZ => (some (nZ, true)))) else (none)) else (none)) else (none))
def spec_l8Move.f (k : Nat) (a0 : ByteArray) (a1 : Int) (a2 : Int) (a3 : Int) : Option ((List (S61)) × Bool) := (spec_l1In.f a3 0 (a0.size : Int)).bind fun n1 => (if n1 = true then ((spec_l1In.f a3 a1 a2).bind fun nz => (spec_l8Move.j0 k a0 a1 a2 a3 nz)) else (spec_l8Move.j0 k a0 a1 a2 a3 true))
theorem spec_l8Move.mono_l : ∀ k, (∀ y0 y1 y2 y3 y4, LeO (spec_l8Move.j0 k y0 y1 y2 y3 y4) (spec_l8Move.j0 (k + 1) y0 y1 y2 y3 y4))
 | 0 => fun _ _ _ _ _ r h => by simp [spec_l8Move.j0] at h
 | k + 1 => by
  have ih0 := spec_l8Move.mono_l k
  ·intro y0 y1 y2 y3 y4
   unfold spec_l8Move.j0
   repeat' first
   | (with_reducible exact ih0 _ _ _ _ _)
   | (with_reducible exact spec_l3Normal.mono _ _)
   | (with_reducible exact LeO.refl _)
   | (with_reducible exact LeO.none _)
   | (with_reducible refine LeO.ite ?_ ?_)
   | (with_reducible refine LeO.bind ?_ (fun _ => ?_))
theorem spec_l8Move.mono : ∀ a0 a1 a2 a3 k, LeO (spec_l8Move.f k a0 a1 a2 a3) (spec_l8Move.f (k + 1) a0 a1 a2 a3) := by
 intro a0 a1 a2 a3 k
 have ih0 := spec_l8Move.mono_l k
 unfold spec_l8Move.f
 repeat' first
   | (with_reducible exact ih0 _ _ _ _ _)
   | (with_reducible exact spec_l3Normal.mono _ _)
   | (with_reducible exact LeO.refl _)
   | (with_reducible exact LeO.none _)
   | (with_reducible refine LeO.ite ?_ ?_)
   | (with_reducible refine LeO.bind ?_ (fun _ => ?_))
set_option maxHeartbeats 8000000 in
set_option maxRecDepth 100000 in
theorem spec_l8Move.calls (k : Nat) (a0 : ByteArray) (a1 : Int) (a2 : Int) (a3 : Int) (r1 : List (S61)) (r2 : Bool) (w : World) (h : spec_l8Move.f k a0 a1 a2 a3 = some (r1, r2)) :
  Calls Try.prog 76 #[.string a0, .int .i64 a1, .int .i64 a2, .int .i64 a3] w fun e w' => ∃ v0_ : Value, e = .returned (.tuple #[v0_, .bool r2]) ∧ Kd.R k61 61 w' w.heap.size (fun _ => True) v0_ r1 ∧ Below w.heap.size w w' := by
 have hu61 := Try.underlying61
 have HB := aM (Below.refl w.heap.size w)
 have H : ((spec_l1In.f a3 0 (a0.size : Int)).bind fun n1 => (if n1 = true then ((spec_l1In.f a3 a1 a2).bind fun nz => (spec_l8Move.j0 k a0 a1 a2 a3 nz)) else (spec_l8Move.j0 k a0 a1 a2 a3 true))) = some (r1, r2) := h
 clear h
 have oW := aM H
 clear H
 go_enter Try.func76, Try.ntmps76
 go_upto_region 1 with (fail)
 go_cut [21] (fun v21 wc => ∃ (kq : Nat) (x21_4 : Bool), v21 = .bool x21_4 ∧ Aside0 (spec_l8Move.j0 kq a0 a1 a2 a3 x21_4 = some (r1, r2)) ∧ Aside0 (kq ≤ k) ∧ Aside0 (Below w.heap.size w wc))
 case first =>
  have H := oW.out
  clear oW
  obtain ⟨n1, A6, H⟩ := oA_ H
  try dsimp only at H
  by_cases c7 : n1 = true
  ·subst c7
   rw [if_pos rfl] at H
   obtain ⟨nz, A8, H⟩ := oA_ H
   try dsimp only at H
   have H' := aM H
   clear H
   go_wp2_with (first | ((with_reducible refine av (f := 71) rfl ?_); refine ay (some 14) rfl rfl Try.func71 z0 rfl #[.int .i64 a3, .int .i64 0, .int .i64 (a0.size : Int)] rfl z14 ?_; (with_reducible refine (spec_l1In.calls a3 0 (a0.size : Int) true _ A6.out).mono ?_); rintro e w' ⟨rfl, ⟨nd, rfl⟩⟩; refine ⟨_, rfl, ?_⟩) | (go_at_call 71; (with_reducible refine (spec_l1In.calls a3 a1 a2 nz _ A8.out).mono ?_); rintro e w' ⟨rfl, ⟨nd, rfl⟩⟩))
   go_meet
   case rel => exact ⟨_, (nz), z1, H', ⟨y0⟩, ⟨y5⟩⟩
  ·replace c7 := Bool.eq_false_iff.mpr c7
   subst c7
   rw [if_neg nF_] at H
   have H' := aM H
   clear H
   go_wp2_with (first | ((with_reducible refine av (f := 71) rfl ?_); refine ay (some 14) rfl rfl Try.func71 z0 rfl #[.int .i64 a3, .int .i64 0, .int .i64 (a0.size : Int)] rfl z14 ?_; (with_reducible refine (spec_l1In.calls a3 0 (a0.size : Int) false _ A6.out).mono ?_); rintro e w' ⟨rfl, ⟨nd, rfl⟩⟩; refine ⟨_, rfl, ?_⟩))
   go_meet
   case rel => exact ⟨_, (true), z1, H', ⟨y0⟩, ⟨y5⟩⟩
 case rest =>
  clear oW
  obtain ⟨kq, x21_4, rfl, HA, pY, HB⟩ := hcut
  cases kq with
  | zero => exact absurd HA.out (by simp [spec_l8Move.j0])
  | succ kj4 =>
   have H := HA.out
   clear HA
   simp only [spec_l8Move.j0] at H
   by_cases c9 : x21_4 = true
   ·subst c9
    rw [if_pos rfl] at H
    simp only [Option.some.injEq, Prod.mk.injEq] at H
    obtain ⟨rfl, rfl⟩ := H
    go_wp2
    go_ret2
    exact ⟨_, y4, y20, y5⟩
   ·replace c9 := Bool.eq_false_iff.mpr c9
    subst c9
    rw [if_neg nF_] at H
    by_cases dk : 0 ≤ a1
    ·rw [if_pos dk] at H
     have c10b0 := eq_true dk
     have c10b1 : decide (0 ≤ a1) = true := dT dk
     clear dk
     by_cases cP : a1 ≤ a2
     ·rw [if_pos cP] at H
      have c11b0 := eq_true cP
      have c11b1 : decide (a1 ≤ a2) = true := dT cP
      clear cP
      by_cases b5 : a2 ≤ (a0.size : Int)
      ·rw [if_pos b5] at H
       have c12b0 := eq_true b5
       have c12b1 : decide (a2 ≤ (a0.size : Int)) = true := dT b5
       clear b5
       by_cases ce : a3 < a1
       ·rw [if_pos ce] at H
        have c13b0 : decide (a3 < a1) = true := dT ce
        clear ce
        obtain ⟨y161, hy161⟩ : ∃ y_ : List (S61), y_ = (([(⟨a3, (⟨#[]⟩ : ByteArray), (⟨#[]⟩ : ByteArray)⟩ : S61), (⟨0, a0.extract (a1 : Int).toNat (a2 : Int).toNat, (⟨#[]⟩ : ByteArray)⟩ : S61), (⟨wrap64 (a1 - a3), (⟨#[]⟩ : ByteArray), (⟨#[]⟩ : ByteArray)⟩ : S61), (⟨0, (⟨#[]⟩ : ByteArray), a0.extract (a1 : Int).toNat (a2 : Int).toNat⟩ : S61), (⟨wrap64 ((a0.size : Int) - a2), (⟨#[]⟩ : ByteArray), (⟨#[]⟩ : ByteArray)⟩ : S61)] : List (S61))) := ⟨_, rfl⟩
        replace H : ((spec_l3Normal.f kj4 y161).bind fun n0 => (some (n0, true))) = some (r1, r2) := by first | (rw [hy161]; with_reducible exact H) | (have H2_ := (Option.bind_some _ _).symm.trans H; rw [hy161]; with_reducible exact H2_) | (have H2_ := (Option.bind_some _ _).symm.trans H; with_reducible exact H2_) | with_reducible exact H | (rw [hy161]; exact H) | exact H
        have Ny161 := aM hy161
        clear hy161
        obtain ⟨n0, mh, H⟩ := oA_ H
        try dsimp only at H
        simp only [Option.some.injEq, Prod.mk.injEq] at H
        obtain ⟨rfl, rfl⟩ := H
        go_wp2_with (first | ((with_reducible refine aw (N := 44) rfl ?_); refine Kd.R_lit k61 _ 61 ?hg (N := 44) ?hd (xs := ([(⟨a3, (⟨#[]⟩ : ByteArray), (⟨#[]⟩ : ByteArray)⟩ : S61), (⟨0, a0.extract (a1 : Int).toNat (a2 : Int).toNat, (⟨#[]⟩ : ByteArray)⟩ : S61), (⟨wrap64 (a1 - a3), (⟨#[]⟩ : ByteArray), (⟨#[]⟩ : ByteArray)⟩ : S61), (⟨0, (⟨#[]⟩ : ByteArray), a0.extract (a1 : Int).toNat (a2 : Int).toNat⟩ : S61), (⟨wrap64 ((a0.size : Int) - a2), (⟨#[]⟩ : ByteArray), (⟨#[]⟩ : ByteArray)⟩ : S61)] : List (S61))) (inner := [.int .i64 a3, .string ⟨#[]⟩, .string ⟨#[]⟩, .int .i64 0, .string (a0.extract (a1 : Int).toNat (a2 : Int).toNat), .string ⟨#[]⟩, .int .i64 (wrap64 (a1 - a3)), .string ⟨#[]⟩, .string ⟨#[]⟩, .int .i64 0, .string ⟨#[]⟩, .string (a0.extract (a1 : Int).toNat (a2 : Int).toNat), .int .i64 (wrap64 ((a0.size : Int) - a2)), .string ⟨#[]⟩, .string ⟨#[]⟩]) (ok := fun _ => True) (okp := fun _ => True) ?hr ?hp (fun _ hk => hk) trivial (Below.refl _ _) (Nat.le_refl _) (by simp) ?_; (case hd => rfl); (case hg => rfl); (case hr => first | (go_simp; done) | (go_simp; rfl)); (case hp => exact (Reps.c3 (show Kd.M k61 _ _ _ (⟨a3, (⟨#[]⟩ : ByteArray), (⟨#[]⟩ : ByteArray)⟩ : S61) [.int .i64 a3, .string ⟨#[]⟩, .string ⟨#[]⟩] from (k61_mkM _ _ _ (⟨a3, (⟨#[]⟩ : ByteArray), (⟨#[]⟩ : ByteArray)⟩ : S61) )) (Reps.c3 (show Kd.M k61 _ _ _ (⟨0, a0.extract (a1 : Int).toNat (a2 : Int).toNat, (⟨#[]⟩ : ByteArray)⟩ : S61) [.int .i64 0, .string (a0.extract (a1 : Int).toNat (a2 : Int).toNat), .string ⟨#[]⟩] from (k61_mkM _ _ _ (⟨0, a0.extract (a1 : Int).toNat (a2 : Int).toNat, (⟨#[]⟩ : ByteArray)⟩ : S61) )) (Reps.c3 (show Kd.M k61 _ _ _ (⟨wrap64 (a1 - a3), (⟨#[]⟩ : ByteArray), (⟨#[]⟩ : ByteArray)⟩ : S61) [.int .i64 (wrap64 (a1 - a3)), .string ⟨#[]⟩, .string ⟨#[]⟩] from (k61_mkM _ _ _ (⟨wrap64 (a1 - a3), (⟨#[]⟩ : ByteArray), (⟨#[]⟩ : ByteArray)⟩ : S61) )) (Reps.c3 (show Kd.M k61 _ _ _ (⟨0, (⟨#[]⟩ : ByteArray), a0.extract (a1 : Int).toNat (a2 : Int).toNat⟩ : S61) [.int .i64 0, .string ⟨#[]⟩, .string (a0.extract (a1 : Int).toNat (a2 : Int).toNat)] from (k61_mkM _ _ _ (⟨0, (⟨#[]⟩ : ByteArray), a0.extract (a1 : Int).toNat (a2 : Int).toNat⟩ : S61) )) (Reps.c3 (show Kd.M k61 _ _ _ (⟨wrap64 ((a0.size : Int) - a2), (⟨#[]⟩ : ByteArray), (⟨#[]⟩ : ByteArray)⟩ : S61) [.int .i64 (wrap64 ((a0.size : Int) - a2)), .string ⟨#[]⟩, .string ⟨#[]⟩] from (k61_mkM _ _ _ (⟨wrap64 ((a0.size : Int) - a2), (⟨#[]⟩ : ByteArray), (⟨#[]⟩ : ByteArray)⟩ : S61) )) (Reps.none _ _))))))); intro v162 w15 ho16 hb hg_ hnew_; clear hg_ hnew_; (first | rw [← Ny161.out] at ho16 | (simp only [Int.reduceToNat] at ho16; rw [← Ny161.out] at ho16)); have iO := aM (az ho16 (aq z13)); replace HB := aM (ap z13 hb); clear hb ho16; obtain ⟨Ao17, co17, eo17⟩ := Kd.R_slice iO.out; subst eo17) | ((with_reducible refine av (f := 74) rfl ?_); refine ay (some 45) rfl rfl Try.func74 z0 rfl #[.slice Ao17 y161.length co17] rfl z14 ?_; (with_reducible refine (spec_l3Normal.calls kj4 _ _ y161 n0 _ ?side1 ?side2 mh.out).mono ?_); (case side1 => repeat (first | exact (ah iO.out).2.2 | (with_reducible refine Kd.C_alloc ?_ _) | (with_reducible refine Kd.C_drewN ?_ _) | (with_reducible refine Kd.C_drew ?_))); (case side2 => exact (ah iO.out).2.1); rintro e w18 ⟨v165, rfl, ho0, hb⟩; refine ⟨_, rfl, ?_⟩; have HO166 := aM (az (Kd.R_new' ho0 (Kd.R_lt (kR_ iO.out))) (aq z13)); replace iO := aM (Kd.R_elder' (kR_ iO.out) (Kd.R_base ho0) hb); replace HB := aM (ap z13 hb); (try clear hb); (try clear ho0)))
        go_ret2
        exact ⟨_, y4, by (with_reducible repeat (first | apply ac | apply ab | apply aa)); exact ag HO166.out (fun _ hk => trivial), y5⟩
       ·rw [if_neg ce] at H
        have c13b0 : decide (a3 < a1) = false := dF ce
        clear ce
        obtain ⟨y167, hy167⟩ : ∃ y_ : List (S61), y_ = (([(⟨a1, (⟨#[]⟩ : ByteArray), (⟨#[]⟩ : ByteArray)⟩ : S61), (⟨0, (⟨#[]⟩ : ByteArray), a0.extract (a1 : Int).toNat (a2 : Int).toNat⟩ : S61), (⟨wrap64 (a3 - a2), (⟨#[]⟩ : ByteArray), (⟨#[]⟩ : ByteArray)⟩ : S61), (⟨0, a0.extract (a1 : Int).toNat (a2 : Int).toNat, (⟨#[]⟩ : ByteArray)⟩ : S61), (⟨wrap64 ((a0.size : Int) - a3), (⟨#[]⟩ : ByteArray), (⟨#[]⟩ : ByteArray)⟩ : S61)] : List (S61))) := ⟨_, rfl⟩
        replace H : ((spec_l3Normal.f kj4 y167).bind fun nZ => (some (nZ, true))) = some (r1, r2) := by first | (rw [hy167]; with_reducible exact H) | (have H2_ := (Option.bind_some _ _).symm.trans H; rw [hy167]; with_reducible exact H2_) | (have H2_ := (Option.bind_some _ _).symm.trans H; with_reducible exact H2_) | with_reducible exact H | (rw [hy167]; exact H) | exact H
        have Ny167 := aM hy167
        clear hy167
        obtain ⟨nZ, un, H⟩ := oA_ H
        try dsimp only at H
        simp only [Option.some.injEq, Prod.mk.injEq] at H
        obtain ⟨rfl, rfl⟩ := H
        go_wp2_with (first | ((with_reducible refine aw (N := 61) rfl ?_); refine Kd.R_lit k61 _ 61 ?hg (N := 61) ?hd (xs := ([(⟨a1, (⟨#[]⟩ : ByteArray), (⟨#[]⟩ : ByteArray)⟩ : S61), (⟨0, (⟨#[]⟩ : ByteArray), a0.extract (a1 : Int).toNat (a2 : Int).toNat⟩ : S61), (⟨wrap64 (a3 - a2), (⟨#[]⟩ : ByteArray), (⟨#[]⟩ : ByteArray)⟩ : S61), (⟨0, a0.extract (a1 : Int).toNat (a2 : Int).toNat, (⟨#[]⟩ : ByteArray)⟩ : S61), (⟨wrap64 ((a0.size : Int) - a3), (⟨#[]⟩ : ByteArray), (⟨#[]⟩ : ByteArray)⟩ : S61)] : List (S61))) (inner := [.int .i64 a1, .string ⟨#[]⟩, .string ⟨#[]⟩, .int .i64 0, .string ⟨#[]⟩, .string (a0.extract (a1 : Int).toNat (a2 : Int).toNat), .int .i64 (wrap64 (a3 - a2)), .string ⟨#[]⟩, .string ⟨#[]⟩, .int .i64 0, .string (a0.extract (a1 : Int).toNat (a2 : Int).toNat), .string ⟨#[]⟩, .int .i64 (wrap64 ((a0.size : Int) - a3)), .string ⟨#[]⟩, .string ⟨#[]⟩]) (ok := fun _ => True) (okp := fun _ => True) ?hr ?hp (fun _ hk => hk) trivial (Below.refl _ _) (Nat.le_refl _) (by simp) ?_; (case hd => rfl); (case hg => rfl); (case hr => first | (go_simp; done) | (go_simp; rfl)); (case hp => exact (Reps.c3 (show Kd.M k61 _ _ _ (⟨a1, (⟨#[]⟩ : ByteArray), (⟨#[]⟩ : ByteArray)⟩ : S61) [.int .i64 a1, .string ⟨#[]⟩, .string ⟨#[]⟩] from (k61_mkM _ _ _ (⟨a1, (⟨#[]⟩ : ByteArray), (⟨#[]⟩ : ByteArray)⟩ : S61) )) (Reps.c3 (show Kd.M k61 _ _ _ (⟨0, (⟨#[]⟩ : ByteArray), a0.extract (a1 : Int).toNat (a2 : Int).toNat⟩ : S61) [.int .i64 0, .string ⟨#[]⟩, .string (a0.extract (a1 : Int).toNat (a2 : Int).toNat)] from (k61_mkM _ _ _ (⟨0, (⟨#[]⟩ : ByteArray), a0.extract (a1 : Int).toNat (a2 : Int).toNat⟩ : S61) )) (Reps.c3 (show Kd.M k61 _ _ _ (⟨wrap64 (a3 - a2), (⟨#[]⟩ : ByteArray), (⟨#[]⟩ : ByteArray)⟩ : S61) [.int .i64 (wrap64 (a3 - a2)), .string ⟨#[]⟩, .string ⟨#[]⟩] from (k61_mkM _ _ _ (⟨wrap64 (a3 - a2), (⟨#[]⟩ : ByteArray), (⟨#[]⟩ : ByteArray)⟩ : S61) )) (Reps.c3 (show Kd.M k61 _ _ _ (⟨0, a0.extract (a1 : Int).toNat (a2 : Int).toNat, (⟨#[]⟩ : ByteArray)⟩ : S61) [.int .i64 0, .string (a0.extract (a1 : Int).toNat (a2 : Int).toNat), .string ⟨#[]⟩] from (k61_mkM _ _ _ (⟨0, a0.extract (a1 : Int).toNat (a2 : Int).toNat, (⟨#[]⟩ : ByteArray)⟩ : S61) )) (Reps.c3 (show Kd.M k61 _ _ _ (⟨wrap64 ((a0.size : Int) - a3), (⟨#[]⟩ : ByteArray), (⟨#[]⟩ : ByteArray)⟩ : S61) [.int .i64 (wrap64 ((a0.size : Int) - a3)), .string ⟨#[]⟩, .string ⟨#[]⟩] from (k61_mkM _ _ _ (⟨wrap64 ((a0.size : Int) - a3), (⟨#[]⟩ : ByteArray), (⟨#[]⟩ : ByteArray)⟩ : S61) )) (Reps.none _ _))))))); intro v168 w20 ho21 hb hg_ hnew_; clear hg_ hnew_; (first | rw [← Ny167.out] at ho21 | (simp only [Int.reduceToNat] at ho21; rw [← Ny167.out] at ho21)); have iN := aM (az ho21 (aq z13)); replace HB := aM (ap z13 hb); clear hb ho21; obtain ⟨Ao22, co22, eo22⟩ := Kd.R_slice iN.out; subst eo22) | ((with_reducible refine av (f := 74) rfl ?_); refine ay (some 62) rfl rfl Try.func74 z0 rfl #[.slice Ao22 y167.length co22] rfl z14 ?_; (with_reducible refine (spec_l3Normal.calls kj4 _ _ y167 nZ _ ?side1 ?side2 un.out).mono ?_); (case side1 => repeat (first | exact (ah iN.out).2.2 | (with_reducible refine Kd.C_alloc ?_ _) | (with_reducible refine Kd.C_drewN ?_ _) | (with_reducible refine Kd.C_drew ?_))); (case side2 => exact (ah iN.out).2.1); rintro e w23 ⟨v171, rfl, ho0, hb⟩; refine ⟨_, rfl, ?_⟩; have HO172 := aM (az (Kd.R_new' ho0 (Kd.R_lt (kR_ iN.out))) (aq z13)); replace iN := aM (Kd.R_elder' (kR_ iN.out) (Kd.R_base ho0) hb); replace HB := aM (ap z13 hb); (try clear hb); (try clear ho0)))
        go_ret2
        exact ⟨_, y4, by (with_reducible repeat (first | apply ac | apply ab | apply aa)); exact ag HO172.out (fun _ hk => trivial), y5⟩
      ·rw [if_neg b5] at H
       exact absurd H (by simp)
     ·rw [if_neg cP] at H
      exact absurd H (by simp)
    ·rw [if_neg dk] at H
     exact absurd H (by simp)

end Go.Proofs.Ytmigfgcpdelnfaa.AFnUndoneBy
