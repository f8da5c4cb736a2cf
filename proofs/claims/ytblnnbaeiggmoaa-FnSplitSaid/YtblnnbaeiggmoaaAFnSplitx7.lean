-- this session's own text: written by wip/tools/ownprint.py over the kit's print
import Derived.Test.YtblnnbaeiggmoaaAFnSplitx0
import Derived.Test.YtblnnbaeiggmoaaAFnSplitx6
namespace Go.Proofs.Ytblnnbaeiggmoaa.AFnSplit
open Go.RowKit Go.Proofs.YtblnnbaeiggmoaaW.PrintWords Go.Proofs.YtblnnbaeiggmoaaW.PrintLast Go.Proofs.YtblnnbaeiggmoaaW.PrintMore
attribute [local go_sem] max2_int min2_int max_two min_two max_three min_three max_four min_four   -- for this text's walks alone
set_option linter.unusedVariables false
set_option linter.unusedSimpArgs false

/-! ### impl_Part_isPart: function 74 -/
def impl_Part_isPart.f (k : Nat) (a0_0 : Int) (a0_1 : ByteArray) (a0_2 : ByteArray) : Option (Bool) := if a0_0 = 0 then (if a0_1.toList = ([] : List UInt8) then (if a0_2.toList = ([] : List UInt8) then (some false) else ((impl_GoodText.f k a0_2).bind fun qE => (some qE))) else (if a0_2.toList = ([] : List UInt8) then ((impl_GoodText.f k a0_1).bind fun qD => (some qD)) else (some false))) else (if a0_0 ≥ 1 then (if a0_0 ≤ 300 then (if a0_1.toList = ([] : List UInt8) then (some (a0_2.toList == ([] : List UInt8))) else (some false)) else (some false)) else (some false))
theorem impl_Part_isPart.mono : ∀ a0 a1 a2 k, LeO (impl_Part_isPart.f k a0 a1 a2) (impl_Part_isPart.f (k + 1) a0 a1 a2) := by
 intro a0 a1 a2 k
 unfold impl_Part_isPart.f
 repeat' first
   | (with_reducible exact impl_GoodText.mono _ _)
   | (with_reducible exact LeO.refl _)
   | (with_reducible exact LeO.none _)
   | (with_reducible refine LeO.ite ?_ ?_)
   | (with_reducible refine LeO.bind ?_ (fun _ => ?_))
set_option maxHeartbeats 8000000 in
set_option maxRecDepth 100000 in
theorem impl_Part_isPart.calls (k : Nat) (a0_0 : Int) (a0_1 : ByteArray) (a0_2 : ByteArray) (r : Bool) (w : World) (h : impl_Part_isPart.f k a0_0 a0_1 a0_2 = some r) :
  Calls Try.prog 74 #[.agg #[.int .i64 a0_0, .string a0_1, .string a0_2]] w fun e w' => e = .returned (.bool r) ∧ Below w.heap.size w w' := by
 have hu59 := Try.underlying59
 have HB := aM (Below.refl w.heap.size w)
 have H : (if a0_0 = 0 then (if a0_1.toList = ([] : List UInt8) then (if a0_2.toList = ([] : List UInt8) then (some false) else ((impl_GoodText.f k a0_2).bind fun qE => (some qE))) else (if a0_2.toList = ([] : List UInt8) then ((impl_GoodText.f k a0_1).bind fun qD => (some qD)) else (some false))) else (if a0_0 ≥ 1 then (if a0_0 ≤ 300 then (if a0_1.toList = ([] : List UInt8) then (some (a0_2.toList == ([] : List UInt8))) else (some false)) else (some false)) else (some false))) = some r := h
 clear h
 by_cases c2 : a0_0 = 0
 ·rw [if_pos c2] at H
  have c2b0 : (a0_0 == 0) = true := qT c2
  have c2b1 : (a0_0 != 0) = false := nF c2
  clear c2
  by_cases c3 : a0_1.toList = ([] : List UInt8)
  ·rw [if_pos c3] at H
   have c3b0 : (a0_1.toList == ([] : List UInt8)) = true := qT c3
   have c3b1 : (a0_1.toList != ([] : List UInt8)) = false := nF c3
   clear c3
   by_cases c4 : a0_2.toList = ([] : List UInt8)
   ·rw [if_pos c4] at H
    have c4b0 : (a0_2.toList == ([] : List UInt8)) = true := qT c4
    have c4b1 : (a0_2.toList != ([] : List UInt8)) = false := nF c4
    clear c4
    obtain rfl := sI H
    go_enter Try.func74, Try.ntmps74
    go_wp2_with (first | ((with_reducible refine aN (N := 1) rfl ?_); refine aQ ?hg (N := 1) ?hd (cs := #[.int .i64 a0_0, .string a0_1, .string a0_2]) (t := 59) ?hr ?_; (case hd => rfl); (case hg => rfl); (case hr => first | (go_simp; done) | (go_simp; rfl)); intro da hg w5 hbox hb; have cS := aM (hbox); have lL := aM ((by rw [hg]; exact (aC z32) : w.heap.size ≤ da)); have lP := aM ((by rw [hg]; exact (aC z32) : w.heap.size ≤ da)); replace HB := aM (aA z32 hb); clear hb hbox hg; obtain ⟨lh, mY, mX, mJ, mI, mH⟩ := cc3 cS.out))
    all_goals (try (exfalso; rename_i h_; rw [c3b0] at h_; cases h_; done))
    all_goals (try (exfalso; rename_i h_; rw [c4b0] at h_; cases h_; done))
    go_ret
    exact ⟨y4, y11⟩
   ·rw [if_neg c4] at H
    have c4b0 : (a0_2.toList == ([] : List UInt8)) = false := qF c4
    have c4b1 : (a0_2.toList != ([] : List UInt8)) = true := nT c4
    obtain ⟨qE, A7, H⟩ := oA_ H
    try dsimp only at H
    obtain rfl := sI H
    go_enter Try.func74, Try.ntmps74
    go_wp2_with (first | ((with_reducible refine aN (N := 1) rfl ?_); refine aQ ?hg (N := 1) ?hd (cs := #[.int .i64 a0_0, .string a0_1, .string a0_2]) (t := 59) ?hr ?_; (case hd => rfl); (case hg => rfl); (case hr => first | (go_simp; done) | (go_simp; rfl)); intro da hg w8 hbox hb; have cS := aM (hbox); have lL := aM ((by rw [hg]; exact (aC z32) : w.heap.size ≤ da)); have lP := aM ((by rw [hg]; exact (aC z32) : w.heap.size ≤ da)); replace HB := aM (aA z32 hb); clear hb hbox hg; obtain ⟨jc, jb, ja, jT, i9, i7⟩ := cc3 cS.out) | (go_at_call 56; (with_reducible refine (impl_GoodText.calls k a0_2 qE _ A7.out).mono ?_); rintro e w' ⟨rfl, ⟨nd, rfl⟩⟩))
    all_goals (try (exfalso; rename_i h_; rw [c3b0] at h_; cases h_; done))
    all_goals (try (exfalso; rename_i h_; rw [c4b0] at h_; cases h_; done))
    go_ret
    exact ⟨y4, y11⟩
  ·rw [if_neg c3] at H
   have c3b0 : (a0_1.toList == ([] : List UInt8)) = false := qF c3
   have c3b1 : (a0_1.toList != ([] : List UInt8)) = true := nT c3
   by_cases fo : a0_2.toList = ([] : List UInt8)
   ·rw [if_pos fo] at H
    have c10b0 : (a0_2.toList == ([] : List UInt8)) = true := qT fo
    have c10b1 : (a0_2.toList != ([] : List UInt8)) = false := nF fo
    clear fo
    obtain ⟨qD, ua, H⟩ := oA_ H
    try dsimp only at H
    obtain rfl := sI H
    go_enter Try.func74, Try.ntmps74
    go_wp2_with (first | ((with_reducible refine aN (N := 1) rfl ?_); refine aQ ?hg (N := 1) ?hd (cs := #[.int .i64 a0_0, .string a0_1, .string a0_2]) (t := 59) ?hr ?_; (case hd => rfl); (case hg => rfl); (case hr => first | (go_simp; done) | (go_simp; rfl)); intro da hg w12 hbox hb; have cS := aM (hbox); have lL := aM ((by rw [hg]; exact (aC z32) : w.heap.size ≤ da)); have lP := aM ((by rw [hg]; exact (aC z32) : w.heap.size ≤ da)); replace HB := aM (aA z32 hb); clear hb hbox hg; obtain ⟨pK, hcz13_1, hcz13_2, pa, hfz13_1, hfz13_2⟩ := cc3 cS.out) | (go_at_call 56; (with_reducible refine (impl_GoodText.calls k a0_1 qD _ ua.out).mono ?_); rintro e w' ⟨rfl, ⟨nd, rfl⟩⟩))
    all_goals (try (exfalso; rename_i h_; rw [c3b0] at h_; cases h_; done))
    all_goals (try (exfalso; rename_i h_; rw [c10b0] at h_; cases h_; done))
    go_ret
    exact ⟨y4, y11⟩
   ·rw [if_neg fo] at H
    have c10b0 : (a0_2.toList == ([] : List UInt8)) = false := qF fo
    have c10b1 : (a0_2.toList != ([] : List UInt8)) = true := nT fo
    obtain rfl := sI H
    go_enter Try.func74, Try.ntmps74
    go_wp2_with (first | ((with_reducible refine aN (N := 1) rfl ?_); refine aQ ?hg (N := 1) ?hd (cs := #[.int .i64 a0_0, .string a0_1, .string a0_2]) (t := 59) ?hr ?_; (case hd => rfl); (case hg => rfl); (case hr => first | (go_simp; done) | (go_simp; rfl)); intro da hg w14 hbox hb; have cS := aM (hbox); have lL := aM ((by rw [hg]; exact (aC z32) : w.heap.size ≤ da)); have lP := aM ((by rw [hg]; exact (aC z32) : w.heap.size ≤ da)); replace HB := aM (aA z32 hb); clear hb hbox hg; obtain ⟨kG, kF, kE, ku, kt, ks⟩ := cc3 cS.out))
    all_goals (try (exfalso; rename_i h_; rw [c3b0] at h_; cases h_; done))
    all_goals (try (exfalso; rename_i h_; rw [c10b0] at h_; cases h_; done))
    go_ret
    exact ⟨y4, y11⟩
 ·rw [if_neg c2] at H
  have c2b0 : (a0_0 == 0) = false := qF c2
  have c2b1 : (a0_0 != 0) = true := nT c2
  by_cases gE : a0_0 ≥ 1
  ·rw [if_pos gE] at H
   have c16b0 : decide (1 ≤ a0_0) = true := dT gE
   clear gE
   by_cases gA : a0_0 ≤ 300
   ·rw [if_pos gA] at H
    have c17b0 : decide (a0_0 ≤ 300) = true := dT gA
    clear gA
    by_cases hH : a0_1.toList = ([] : List UInt8)
    ·rw [if_pos hH] at H
     have c18b0 : (a0_1.toList == ([] : List UInt8)) = true := qT hH
     have c18b1 : (a0_1.toList != ([] : List UInt8)) = false := nF hH
     clear hH
     obtain rfl := sI H
     go_enter Try.func74, Try.ntmps74
     go_wp2_with (first | ((with_reducible refine aN (N := 1) rfl ?_); refine aQ ?hg (N := 1) ?hd (cs := #[.int .i64 a0_0, .string a0_1, .string a0_2]) (t := 59) ?hr ?_; (case hd => rfl); (case hg => rfl); (case hr => first | (go_simp; done) | (go_simp; rfl)); intro da hg w19 hbox hb; have cS := aM (hbox); have lL := aM ((by rw [hg]; exact (aC z32) : w.heap.size ≤ da)); have lP := aM ((by rw [hg]; exact (aC z32) : w.heap.size ≤ da)); replace HB := aM (aA z32 hb); clear hb hbox hg; obtain ⟨kC, kB, kz, kp, ko, kn⟩ := cc3 cS.out))
     all_goals (try (exfalso; rename_i h_; rw [c18b0] at h_; cases h_; done))
     go_ret
     exact ⟨y4, y11⟩
    ·rw [if_neg hH] at H
     have c18b0 : (a0_1.toList == ([] : List UInt8)) = false := qF hH
     have c18b1 : (a0_1.toList != ([] : List UInt8)) = true := nT hH
     obtain rfl := sI H
     go_enter Try.func74, Try.ntmps74
     go_wp2_with (first | ((with_reducible refine aN (N := 1) rfl ?_); refine aQ ?hg (N := 1) ?hd (cs := #[.int .i64 a0_0, .string a0_1, .string a0_2]) (t := 59) ?hr ?_; (case hd => rfl); (case hg => rfl); (case hr => first | (go_simp; done) | (go_simp; rfl)); intro da hg w21 hbox hb; have cS := aM (hbox); have lL := aM ((by rw [hg]; exact (aC z32) : w.heap.size ≤ da)); have lP := aM ((by rw [hg]; exact (aC z32) : w.heap.size ≤ da)); replace HB := aM (aA z32 hb); clear hb hbox hg; obtain ⟨iT, kx, kw, iQ, kk, kj⟩ := cc3 cS.out))
     all_goals (try (exfalso; rename_i h_; rw [c18b0] at h_; cases h_; done))
     go_ret
     exact ⟨y4, y11⟩
   ·rw [if_neg gA] at H
    have c17b0 : decide (a0_0 ≤ 300) = false := dF gA
    clear gA
    obtain rfl := sI H
    go_enter Try.func74, Try.ntmps74
    go_wp2_with (first | ((with_reducible refine aN (N := 1) rfl ?_); refine aQ ?hg (N := 1) ?hd (cs := #[.int .i64 a0_0, .string a0_1, .string a0_2]) (t := 59) ?hr ?_; (case hd => rfl); (case hg => rfl); (case hr => first | (go_simp; done) | (go_simp; rfl)); intro da hg w23 hbox hb; have cS := aM (hbox); have lL := aM ((by rw [hg]; exact (aC z32) : w.heap.size ≤ da)); have lP := aM ((by rw [hg]; exact (aC z32) : w.heap.size ≤ da)); replace HB := aM (aA z32 hb); clear hb hbox hg; obtain ⟨hcz24_0, hcz24_1, hcz24_2, hfz24_0, hfz24_1, hfz24_2⟩ := cc3 cS.out))
    go_ret
    exact ⟨y4, y11⟩
  ·rw [if_neg gE] at H
   have c16b0 : decide (1 ≤ a0_0) = false := dF gE
   clear gE
   obtain rfl := sI H
   go_enter Try.func74, Try.ntmps74
   go_wp2_with (first | ((with_reducible refine aN (N := 1) rfl ?_); refine aQ ?hg (N := 1) ?hd (cs := #[.int .i64 a0_0, .string a0_1, .string a0_2]) (t := 59) ?hr ?_; (case hd => rfl); (case hg => rfl); (case hr => first | (go_simp; done) | (go_simp; rfl)); intro da hg w25 hbox hb; have cS := aM (hbox); have lL := aM ((by rw [hg]; exact (aC z32) : w.heap.size ≤ da)); have lP := aM ((by rw [hg]; exact (aC z32) : w.heap.size ≤ da)); replace HB := aM (aA z32 hb); clear hb hbox hg; obtain ⟨kv, m9, m8, ki, mM, mL⟩ := cc3 cS.out))
   go_ret
   exact ⟨y4, y11⟩

/-! ### impl_GoodOp_1: function 73 -/
def impl_GoodOp_1.f (k : Nat) (a0_0 : Int) (a0_1 : ByteArray) (a0_2 : ByteArray) : Option (Bool) := (impl_Part_isPart.f k a0_0 a0_1 a0_2).bind fun qC => (some (!qC))
theorem impl_GoodOp_1.mono : ∀ a0 a1 a2 k, LeO (impl_GoodOp_1.f k a0 a1 a2) (impl_GoodOp_1.f (k + 1) a0 a1 a2) := by
 intro a0 a1 a2 k
 unfold impl_GoodOp_1.f
 repeat' first
   | (with_reducible exact impl_Part_isPart.mono _ _ _ _)
   | (with_reducible exact LeO.refl _)
   | (with_reducible exact LeO.none _)
   | (with_reducible refine LeO.ite ?_ ?_)
   | (with_reducible refine LeO.bind ?_ (fun _ => ?_))
set_option maxHeartbeats 8000000 in
set_option maxRecDepth 100000 in
theorem impl_GoodOp_1.calls (k : Nat) (a0_0 : Int) (a0_1 : ByteArray) (a0_2 : ByteArray) (r : Bool) (w : World) (h : impl_GoodOp_1.f k a0_0 a0_1 a0_2 = some r) :
  Calls Try.prog 73 #[.agg #[.int .i64 a0_0, .string a0_1, .string a0_2]] w fun e w' => e = .returned (.bool r) ∧ Below w.heap.size w w' := by
 have hu59 := Try.underlying59
 have HB := aM (Below.refl w.heap.size w)
 have H : ((impl_Part_isPart.f k a0_0 a0_1 a0_2).bind fun qC => (some (!qC))) = some r := h
 clear h
 obtain ⟨qC, A2, H⟩ := oA_ H
 try dsimp only at H
 obtain rfl := sI H
 go_enter Try.func73, Try.ntmps73
 go_wp2_with (first | ((with_reducible refine aN (N := 1) rfl ?_); refine aQ ?hg (N := 1) ?hd (cs := #[.int .i64 a0_0, .string a0_1, .string a0_2]) (t := 59) ?hr ?_; (case hd => rfl); (case hg => rfl); (case hr => first | (go_simp; done) | (go_simp; rfl)); intro mh hg w3 hbox hb; have jJ := aM (hbox); have GW173 := aM ((by rw [hg]; exact (aC z32) : w.heap.size ≤ mh)); have sJ := aM ((by rw [hg]; exact (aC z32) : w.heap.size ≤ mh)); replace HB := aM (aA z32 hb); clear hb hbox hg; obtain ⟨hcz4_0, hcz4_1, hcz4_2, hfz4_0, hfz4_1, hfz4_2⟩ := cc3 jJ.out) | ((with_reducible refine aK (f := 74) rfl ?_); refine aT (some 4) rfl rfl Try.func74 z1 rfl #[.agg #[.int .i64 a0_0, .string a0_1, .string a0_2]] rfl z33 ?_; (with_reducible refine (impl_Part_isPart.calls k a0_0 a0_1 a0_2 qC _ A2.out).mono ?_); rintro e w5 ⟨rfl, hb⟩; refine ⟨_, rfl, ?_⟩; replace jJ := aM (af (g := mh) (o := .cells #[.int .i64 a0_0, .string a0_1, .string a0_2] 59 (0, 0)) (kB_ jJ.out) hb); replace HB := aM (aA (by repeat (first | (with_reducible first | exact HB.out | apply bA | apply pD | apply bD | refine az ?_ sJ.out) | exact HB.out)) hb); (try clear hb)))
 go_ret
 exact ⟨y4, by repeat (first | (with_reducible first | exact HB.out | apply bA | apply pD | apply bD | refine az ?_ sJ.out) | exact HB.out)⟩

/-! ### impl_Part_82: function 82 -/
def impl_Part_82.l0 : Nat → List (S59) → Int → Int → Option (Int)
 | 0, _, _, _ => none
 | k + 1, x0, x7, x8 => if x8 < x7 then (if 0 ≤ x8 then (if x8 < (x0.length : Int) then ((impl_GoodOp_1.f k ((rd_T59 x0 x8).f0) ((rd_T59 x0 x8).f1) ((rd_T59 x0 x8).f2)).bind fun tC => (if tC = true then (some x8) else (impl_Part_82.l0 k x0 x7 (wrap64 (x8 + 1))))) else (none)) else (none)) else (some (-1))
def impl_Part_82.f (k : Nat) (l0 : List (S59))  : Option (Int) := impl_Part_82.l0 k l0 (l0.length : Int) 0
theorem impl_Part_82.mono_l : ∀ k, (∀ y0 y1 y2, LeO (impl_Part_82.l0 k y0 y1 y2) (impl_Part_82.l0 (k + 1) y0 y1 y2))
 | 0 => fun _ _ _ r h => by simp [impl_Part_82.l0] at h
 | k + 1 => by
  have ih0 := impl_Part_82.mono_l k
  ·intro y0 y1 y2
   unfold impl_Part_82.l0
   repeat' first
   | (with_reducible exact ih0 _ _ _)
   | (with_reducible exact impl_GoodOp_1.mono _ _ _ _)
   | (with_reducible exact LeO.refl _)
   | (with_reducible exact LeO.none _)
   | (with_reducible refine LeO.ite ?_ ?_)
   | (with_reducible refine LeO.bind ?_ (fun _ => ?_))
theorem impl_Part_82.mono : ∀ a0 k, LeO (impl_Part_82.f k a0) (impl_Part_82.f (k + 1) a0) := by
 intro a0 k
 have ih0 := impl_Part_82.mono_l k
 unfold impl_Part_82.f
 repeat' first
   | (with_reducible exact ih0 _ _ _)
   | (with_reducible exact impl_GoodOp_1.mono _ _ _ _)
   | (with_reducible exact LeO.refl _)
   | (with_reducible exact LeO.none _)
   | (with_reducible refine LeO.ite ?_ ?_)
   | (with_reducible refine LeO.bind ?_ (fun _ => ?_))
set_option maxHeartbeats 8000000 in
set_option maxRecDepth 100000 in
theorem impl_Part_82.calls (k : Nat) (A0 : Option Addr) (c0 : Nat) (l0 : List (S59))  (r : Int) (w : World) (hr0 : Kd.C k59 w A0 l0.length l0) (hc0 : l0.length ≤ c0) (h : impl_Part_82.f k l0 = some r) :
  Calls Try.prog 82 #[.slice A0 l0.length c0, .func (.func 73) #[] #[]] w fun e w' => e = .returned (.int .i64 r) ∧ Below w.heap.size w w' := by
 have hu59 := Try.underlying59
 have dY := aM hr0
 have en := aM hc0
 clear hr0 hc0
 have HB := aM (Below.refl w.heap.size w)
 have H : (impl_Part_82.l0 k l0 (l0.length : Int) 0) = some r := h
 clear h
 have H' := aM H
 clear H
 go_enter Try.func82, Try.ntmps82
 go_wp2
 go_loopg [8] k (fun kq v8 w' => ∃ (x8_1 : Int), v8 = .int .i64 x8_1 ∧ Aside0 (impl_Part_82.l0 kq l0 (l0.length : Int) x8_1 = some r) ∧ Aside0 (kq ≤ k) ∧ Aside0 (Below w.heap.size w w'))
 case atStart => exact ⟨(0), z2, H', ⟨Nat.le_refl _⟩, ⟨y5⟩⟩
 case round =>
  clear H'
  obtain ⟨x8_1, rfl, HA, HK1, HB⟩ := hrel
  cases gk with
  | zero => exact absurd HA.out (by simp [impl_Part_82.l0])
  | succ k1 =>
   have H := HA.out
   clear HA
   simp only [impl_Part_82.l0] at H
   by_cases c3 : x8_1 < (l0.length : Int)
   ·rw [if_pos c3] at H
    have c3b0 : decide (x8_1 < (l0.length : Int)) = true := dT c3
    clear c3
    by_cases c4 : 0 ≤ x8_1
    ·rw [if_pos c4] at H
     have c4b0 : decide (0 ≤ x8_1) = true := dT c4
     clear c4
     by_cases c5 : x8_1 < (l0.length : Int)
     ·rw [if_pos c5] at H
      have c5b0 : decide (x8_1 < (l0.length : Int)) = true := dT c5
      clear c5
      obtain ⟨tC, A6, H⟩ := oA_ H
      try dsimp only at H
      by_cases c7 : tC = true
      ·subst c7
       rw [if_pos rfl] at H
       obtain rfl := sI H
       have p175 : 0 ≤ (x8_1 : Int) := oD z3
       have q175 : x8_1 < (l0.length : Int) := oD z3
       obtain ⟨ad175, e175, hx175_0, hx175_1, hx175_2⟩ := at_T59 dY.out x8_1 p175 q175
       cases e175
       replace hx175_0 := (HB.out.cell (World.block_lt_of_cell? w _ hx175_0)).trans hx175_0
       replace hx175_1 := (HB.out.cell (World.block_lt_of_cell? w _ hx175_1)).trans hx175_1
       replace hx175_2 := (HB.out.cell (World.block_lt_of_cell? w _ hx175_2)).trans hx175_2
       replace p175 := eq_true p175
       replace q175 := eq_true q175
       go_wp2_with (first | (go_at_call 73; (with_reducible refine (impl_GoodOp_1.calls k1 ((rd_T59 l0 x8_1).f0) ((rd_T59 l0 x8_1).f1) ((rd_T59 l0 x8_1).f2) true _ A6.out).mono ?_); rintro e w8 ⟨rfl, hb⟩; replace HB := aM (aA z32 hb); (try clear hb)))
       go_ret
       exact ⟨y4, y5⟩
      ·replace c7 := Bool.eq_false_iff.mpr c7
       subst c7
       rw [if_neg nF_] at H
       have H' := aM H
       clear H
       have p175 : 0 ≤ (x8_1 : Int) := oD z3
       have q175 : x8_1 < (l0.length : Int) := oD z3
       obtain ⟨ad175, e175, hx175_0, hx175_1, hx175_2⟩ := at_T59 dY.out x8_1 p175 q175
       cases e175
       replace hx175_0 := (HB.out.cell (World.block_lt_of_cell? w _ hx175_0)).trans hx175_0
       replace hx175_1 := (HB.out.cell (World.block_lt_of_cell? w _ hx175_1)).trans hx175_1
       replace hx175_2 := (HB.out.cell (World.block_lt_of_cell? w _ hx175_2)).trans hx175_2
       replace p175 := eq_true p175
       replace q175 := eq_true q175
       go_wp2_with (first | (go_at_call 73; (with_reducible refine (impl_GoodOp_1.calls k1 ((rd_T59 l0 x8_1).f0) ((rd_T59 l0 x8_1).f1) ((rd_T59 l0 x8_1).f2) false _ A6.out).mono ?_); rintro e w9 ⟨rfl, hb⟩; replace HB := aM (aA z32 hb); (try clear hb)))
       go_roundg k1
       case measure => have := HK1.out; omega
       case rel => exact ⟨(wrap64 (x8_1 + 1)), z2, H', ⟨y0⟩, ⟨y5⟩⟩
     ·rw [if_neg c5] at H
      exact absurd H (by simp)
    ·rw [if_neg c4] at H
     exact absurd H (by simp)
   ·rw [if_neg c3] at H
    have c3b0 : decide (x8_1 < (l0.length : Int)) = false := dF c3
    clear c3
    obtain rfl := sI H
    go_wp2
    go_ret
    exact ⟨y4, y5⟩

/-! ### impl_Part_72: function 72 -/
def impl_Part_72.f (k : Nat) (l0 : List (S59))  : Option (Bool) := (impl_Part_82.f k l0).bind fun qB => (some (decide (qB ≥ 0)))
theorem impl_Part_72.mono : ∀ a0 k, LeO (impl_Part_72.f k a0) (impl_Part_72.f (k + 1) a0) := by
 intro a0 k
 unfold impl_Part_72.f
 repeat' first
   | (with_reducible exact impl_Part_82.mono _ _)
   | (with_reducible exact LeO.refl _)
   | (with_reducible exact LeO.none _)
   | (with_reducible refine LeO.ite ?_ ?_)
   | (with_reducible refine LeO.bind ?_ (fun _ => ?_))
set_option maxHeartbeats 8000000 in
set_option maxRecDepth 100000 in
theorem impl_Part_72.calls (k : Nat) (A0 : Option Addr) (c0 : Nat) (l0 : List (S59))  (r : Bool) (w : World) (hr0 : Kd.C k59 w A0 l0.length l0) (hc0 : l0.length ≤ c0) (h : impl_Part_72.f k l0 = some r) :
  Calls Try.prog 72 #[.slice A0 l0.length c0, .func (.func 73) #[] #[]] w fun e w' => e = .returned (.bool r) ∧ Below w.heap.size w w' := by
 have dY := aM hr0
 have en := aM hc0
 clear hr0 hc0
 have HB := aM (Below.refl w.heap.size w)
 have H : ((impl_Part_82.f k l0).bind fun qB => (some (decide (qB ≥ 0)))) = some r := h
 clear h
 obtain ⟨qB, A3, H⟩ := oA_ H
 try dsimp only at H
 obtain rfl := sI H
 go_enter Try.func72, Try.ntmps72
 go_wp2_with (first | ((with_reducible refine aK (f := 82) rfl ?_); refine aT (some 7) rfl rfl Try.func82 z1 rfl #[.slice A0 l0.length c0, .func (.func 73) #[] #[]] rfl z33 ?_; (with_reducible refine (impl_Part_82.calls k _ _ l0  qB _ ?side1 ?side2 A3.out).mono ?_); (case side1 => exact y34); (case side2 => exact en.out); rintro e w4 ⟨rfl, hb⟩; refine ⟨_, rfl, ?_⟩; replace HB := aM (aA z32 hb); (try clear hb)))
 go_ret
 exact ⟨y4, y5⟩

/-! ### impl_GoodOp: function 55 -/
def impl_GoodOp.f (k : Nat) (l0 : List (S59)) : Option (Bool) := if (l0.length : Int) > 60 then (some false) else ((impl_Part_72.f k l0).bind fun qA => (if qA = true then (some false) else ((impl_sizes.f k l0).bind fun nU => (if nU.1 ≤ 300 then (some (decide (nU.2 ≤ 300))) else (some false)))))
theorem impl_GoodOp.mono : ∀ a0 k, LeO (impl_GoodOp.f k a0) (impl_GoodOp.f (k + 1) a0) := by
 intro a0 k
 unfold impl_GoodOp.f
 repeat' first
   | (with_reducible exact impl_Part_72.mono _ _)
   | (with_reducible exact impl_sizes.mono _ _)
   | (with_reducible exact LeO.refl _)
   | (with_reducible exact LeO.none _)
   | (with_reducible refine LeO.ite ?_ ?_)
   | (with_reducible refine LeO.bind ?_ (fun _ => ?_))
set_option maxHeartbeats 8000000 in
set_option maxRecDepth 100000 in
theorem impl_GoodOp.calls (k : Nat) (A0 : Option Addr) (c0 : Nat) (l0 : List (S59)) (r : Bool) (w : World) (hr0 : Kd.C k59 w A0 l0.length l0) (hc0 : l0.length ≤ c0) (h : impl_GoodOp.f k l0 = some r) :
  Calls Try.prog 55 #[.slice A0 l0.length c0] w fun e w' => e = .returned (.bool r) ∧ Below w.heap.size w w' := by
 have dY := aM hr0
 have en := aM hc0
 clear hr0 hc0
 have HB := aM (Below.refl w.heap.size w)
 have H : (if (l0.length : Int) > 60 then (some false) else ((impl_Part_72.f k l0).bind fun qA => (if qA = true then (some false) else ((impl_sizes.f k l0).bind fun nU => (if nU.1 ≤ 300 then (some (decide (nU.2 ≤ 300))) else (some false)))))) = some r := h
 clear h
 by_cases c2 : (l0.length : Int) > 60
 ·rw [if_pos c2] at H
  have c2b0 : decide (60 < (l0.length : Int)) = true := dT c2
  have c2b1 : decide (60 < l0.length) = true := dT (by omega)
  clear c2
  obtain rfl := sI H
  go_enter Try.func55, Try.ntmps55
  go_wp2
  go_ret
  exact ⟨y4, y5⟩
 ·rw [if_neg c2] at H
  have c2b0 : decide (60 < (l0.length : Int)) = false := dF c2
  have c2b1 : decide (60 < l0.length) = false := dF (by omega)
  clear c2
  obtain ⟨qA, A3, H⟩ := oA_ H
  try dsimp only at H
  by_cases c4 : qA = true
  ·subst c4
   rw [if_pos rfl] at H
   obtain rfl := sI H
   go_enter Try.func55, Try.ntmps55
   go_wp2_with (first | (go_at_call 72; (with_reducible refine (impl_Part_72.calls k _ _ l0  true _ ?side1 ?side2 A3.out).mono ?_); (case side1 => exact y34); (case side2 => exact en.out); rintro e w5 ⟨rfl, hb⟩; replace HB := aM (aA z32 hb); (try clear hb)))
   go_ret
   exact ⟨y4, y5⟩
  ·replace c4 := Bool.eq_false_iff.mpr c4
   subst c4
   rw [if_neg nF_] at H
   obtain ⟨⟨qz, vm⟩, A6, H⟩ := oA_ H
   try dsimp only at H
   by_cases c7 : qz ≤ 300
   ·rw [if_pos c7] at H
    have c7b0 : decide (qz ≤ 300) = true := dT c7
    clear c7
    obtain rfl := sI H
    go_enter Try.func55, Try.ntmps55
    go_wp2_with (first | (go_at_call 72; (with_reducible refine (impl_Part_72.calls k _ _ l0  false _ ?side1 ?side2 A3.out).mono ?_); (case side1 => exact y34); (case side2 => exact en.out); rintro e w8 ⟨rfl, hb⟩; replace HB := aM (aA z32 hb); (try clear hb)) | ((with_reducible refine aK (f := 57) rfl ?_); refine aT (some 14) rfl rfl Try.func57 z1 rfl #[.slice A0 l0.length c0] rfl z33 ?_; (with_reducible refine (impl_sizes.calls k _ _ l0 qz vm _ ?side1 ?side2 A6.out).mono ?_); (case side1 => exact y38); (case side2 => exact en.out); rintro e w9 ⟨rfl, hb⟩; refine ⟨_, rfl, ?_⟩; replace HB := aM (aA z32 hb); (try clear hb)))
    go_ret
    exact ⟨y4, y5⟩
   ·rw [if_neg c7] at H
    have c7b0 : decide (qz ≤ 300) = false := dF c7
    clear c7
    obtain rfl := sI H
    go_enter Try.func55, Try.ntmps55
    go_wp2_with (first | (go_at_call 72; (with_reducible refine (impl_Part_72.calls k _ _ l0  false _ ?side1 ?side2 A3.out).mono ?_); (case side1 => exact y34); (case side2 => exact en.out); rintro e w10 ⟨rfl, hb⟩; replace HB := aM (aA z32 hb); (try clear hb)) | ((with_reducible refine aK (f := 57) rfl ?_); refine aT (some 14) rfl rfl Try.func57 z1 rfl #[.slice A0 l0.length c0] rfl z33 ?_; (with_reducible refine (impl_sizes.calls k _ _ l0 qz vm _ ?side1 ?side2 A6.out).mono ?_); (case side1 => exact y38); (case side2 => exact en.out); rintro e w11 ⟨rfl, hb⟩; refine ⟨_, rfl, ?_⟩; replace HB := aM (aA z32 hb); (try clear hb)))
    go_ret
    exact ⟨y4, y5⟩

/-! ### impl_ApplyOp: function 21 -/
mutual
def impl_ApplyOp.j0 : Nat → List (S59) → ByteArray → Bool → Option (ByteArray × Bool)
 | 0, _, _, _ => none
 | k + 1, x0, x1, x18 => if x18 = true then (some ((⟨#[]⟩ : ByteArray), false)) else ((impl_sizes.f k x0).bind fun bt183 => (if bt183.1 = (x1.size : Int) then (impl_ApplyOp.l0 k x1 (⟨#[]⟩ : ByteArray) x0 (x0.length : Int) 0) else (some ((⟨#[]⟩ : ByteArray), false))))
def impl_ApplyOp.l0 : Nat → ByteArray → ByteArray → List (S59) → Int → Int → Option (ByteArray × Bool)
 | 0, _, _, _, _, _ => none
 | k + 1, x1, x8, x28, x29, x30 => if x30 < x29 then (if 0 ≤ x30 then (if x30 < (x28.length : Int) then (if 0 ≤ (((rd_T59 x28 x30).f2).size : Int) then (if (((rd_T59 x28 x30).f2).size : Int) ≤ (x1.size : Int) then (if (x1.extract 0 ((((rd_T59 x28 x30).f2).size : Int) : Int).toNat).toList = ((rd_T59 x28 x30).f2).toList then (if 0 ≤ ((rd_T59 x28 x30).f0) then (if ((rd_T59 x28 x30).f0) ≤ (x1.size : Int) then (if (x1.extract 0 (((rd_T59 x28 x30).f0) : Int).toNat).size + ((rd_T59 x28 x30).f1).size ≤ 9223372036854775807 then (if x8.size + ((x1.extract 0 (((rd_T59 x28 x30).f0) : Int).toNat) ++ ((rd_T59 x28 x30).f1)).size ≤ 9223372036854775807 then (if 0 ≤ (wrap64 (((rd_T59 x28 x30).f0) + (((rd_T59 x28 x30).f2).size : Int))) then (if (wrap64 (((rd_T59 x28 x30).f0) + (((rd_T59 x28 x30).f2).size : Int))) ≤ (x1.size : Int) then (impl_ApplyOp.l0 k (x1.extract ((wrap64 (((rd_T59 x28 x30).f0) + (((rd_T59 x28 x30).f2).size : Int))) : Int).toNat x1.size) (x8 ++ ((x1.extract 0 (((rd_T59 x28 x30).f0) : Int).toNat) ++ ((rd_T59 x28 x30).f1))) x28 x29 (wrap64 (x30 + 1))) else (none)) else (none)) else (none)) else (none)) else (none)) else (none)) else (some ((⟨#[]⟩ : ByteArray), false))) else (none)) else (none)) else (none)) else (none)) else (some (x8, true))
end
def impl_ApplyOp.f (k : Nat) (l0 : List (S59)) (a1 : ByteArray) : Option (ByteArray × Bool) := (impl_GoodOp.f k l0).bind fun qy => (if qy = true then ((impl_GoodText.f k a1).bind fun nA => (impl_ApplyOp.j0 k l0 a1 (!nA))) else (impl_ApplyOp.j0 k l0 a1 true))
theorem impl_ApplyOp.mono_l : ∀ k, (∀ y0 y1 y2, LeO (impl_ApplyOp.j0 k y0 y1 y2) (impl_ApplyOp.j0 (k + 1) y0 y1 y2)) ∧ (∀ y0 y1 y2 y3 y4, LeO (impl_ApplyOp.l0 k y0 y1 y2 y3 y4) (impl_ApplyOp.l0 (k + 1) y0 y1 y2 y3 y4))
 | 0 => ⟨fun _ _ _ r h => by simp [impl_ApplyOp.j0] at h, fun _ _ _ _ _ r h => by simp [impl_ApplyOp.l0] at h⟩
 | k + 1 => by
  obtain ⟨ih0, ih1⟩ := impl_ApplyOp.mono_l k
  refine ⟨?_, ?_⟩
  ·intro y0 y1 y2
   unfold impl_ApplyOp.j0
   repeat' first
   | (with_reducible exact ih0 _ _ _)
   | (with_reducible exact ih1 _ _ _ _ _)
   | (with_reducible exact impl_GoodOp.mono _ _)
   | (with_reducible exact impl_GoodText.mono _ _)
   | (with_reducible exact impl_sizes.mono _ _)
   | (with_reducible exact LeO.refl _)
   | (with_reducible exact LeO.none _)
   | (with_reducible refine LeO.ite ?_ ?_)
   | (with_reducible refine LeO.bind ?_ (fun _ => ?_))
  ·intro y0 y1 y2 y3 y4
   unfold impl_ApplyOp.l0
   repeat' first
   | (with_reducible exact ih0 _ _ _)
   | (with_reducible exact ih1 _ _ _ _ _)
   | (with_reducible exact impl_GoodOp.mono _ _)
   | (with_reducible exact impl_GoodText.mono _ _)
   | (with_reducible exact impl_sizes.mono _ _)
   | (with_reducible exact LeO.refl _)
   | (with_reducible exact LeO.none _)
   | (with_reducible refine LeO.ite ?_ ?_)
   | (with_reducible refine LeO.bind ?_ (fun _ => ?_))
theorem impl_ApplyOp.mono : ∀ a0 a1 k, LeO (impl_ApplyOp.f k a0 a1) (impl_ApplyOp.f (k + 1) a0 a1) := by
 intro a0 a1 k
 obtain ⟨ih0, ih1⟩ := impl_ApplyOp.mono_l k
 unfold impl_ApplyOp.f
 repeat' first
   | (with_reducible exact ih0 _ _ _)
   | (with_reducible exact ih1 _ _ _ _ _)
   | (with_reducible exact impl_GoodOp.mono _ _)
   | (with_reducible exact impl_GoodText.mono _ _)
   | (with_reducible exact impl_sizes.mono _ _)
   | (with_reducible exact LeO.refl _)
   | (with_reducible exact LeO.none _)
   | (with_reducible refine LeO.ite ?_ ?_)
   | (with_reducible refine LeO.bind ?_ (fun _ => ?_))
set_option maxHeartbeats 8000000 in
set_option maxRecDepth 100000 in
theorem impl_ApplyOp.calls (k : Nat) (A0 : Option Addr) (c0 : Nat) (l0 : List (S59)) (a1 : ByteArray) (r1 : ByteArray) (r2 : Bool) (w : World) (hr0 : Kd.C k59 w A0 l0.length l0) (hc0 : l0.length ≤ c0) (h : impl_ApplyOp.f k l0 a1 = some (r1, r2)) :
  Calls Try.prog 21 #[.slice A0 l0.length c0, .string a1] w fun e w' => e = .returned (.tuple #[.string r1, .bool r2]) ∧ Below w.heap.size w w' := by
 have hu59 := Try.underlying59
 have dY := aM hr0
 have en := aM hc0
 clear hr0 hc0
 have HB := aM (Below.refl w.heap.size w)
 have H : ((impl_GoodOp.f k l0).bind fun qy => (if qy = true then ((impl_GoodText.f k a1).bind fun nA => (impl_ApplyOp.j0 k l0 a1 (!nA))) else (impl_ApplyOp.j0 k l0 a1 true))) = some (r1, r2) := h
 clear h
 have rj := aM H
 clear H
 go_enter Try.func21, Try.ntmps21
 go_upto_region 1 with (fail)
 repeat (go_quiet (fail); go_upto_region 1 with (fail))
 go_cut [18] (fun v18 wc => ∃ (kq : Nat) (x18_2 : Bool), v18 = .bool x18_2 ∧ Aside0 (impl_ApplyOp.j0 kq l0 a1 x18_2 = some (r1, r2)) ∧ Aside0 (kq ≤ k) ∧ Aside0 (Below w.heap.size w wc))
 case first =>
  have H := rj.out
  clear rj
  obtain ⟨qy, A4, H⟩ := oA_ H
  try dsimp only at H
  by_cases c5 : qy = true
  ·subst c5
   rw [if_pos rfl] at H
   obtain ⟨nA, A6, H⟩ := oA_ H
   try dsimp only at H
   have H' := aM H
   clear H
   go_wp2_with (first | (go_at_call 55; (with_reducible refine (impl_GoodOp.calls k _ _ l0 true _ ?side1 ?side2 A4.out).mono ?_); (case side1 => exact y38); (case side2 => exact en.out); rintro e w7 ⟨rfl, hb⟩; replace HB := aM (aA z32 hb); (try clear hb)) | (go_at_call 56; (with_reducible refine (impl_GoodText.calls k a1 nA _ A6.out).mono ?_); rintro e w' ⟨rfl, ⟨nd, rfl⟩⟩; (try exact dD_)))
   repeat (go_quiet (first | (go_at_call 56; (with_reducible refine (impl_GoodText.calls k a1 nA _ A6.out).mono ?_); rintro e w' ⟨rfl, ⟨nd, rfl⟩⟩; (try exact dD_))); try go_wp2_with (first | (go_at_call 55; (with_reducible refine (impl_GoodOp.calls k _ _ l0 true _ ?side1 ?side2 A4.out).mono ?_); (case side1 => exact y38); (case side2 => exact en.out); rintro e w7 ⟨rfl, hb⟩; replace HB := aM (aA z32 hb); (try clear hb)) | (go_at_call 56; (with_reducible refine (impl_GoodText.calls k a1 nA _ A6.out).mono ?_); rintro e w' ⟨rfl, ⟨nd, rfl⟩⟩; (try exact dD_))))
   go_meet
   case rel => exact ⟨_, (!nA), z2, H', ⟨by first | omega | exact Nat.le_refl _⟩, ⟨y5⟩⟩
  ·replace c5 := Bool.eq_false_iff.mpr c5
   subst c5
   rw [if_neg nF_] at H
   have H' := aM H
   clear H
   go_wp2_with (first | (go_at_call 55; (with_reducible refine (impl_GoodOp.calls k _ _ l0 false _ ?side1 ?side2 A4.out).mono ?_); (case side1 => exact y38); (case side2 => exact en.out); rintro e w8 ⟨rfl, hb⟩; replace HB := aM (aA z32 hb); (try clear hb)))
   repeat (go_quiet (fail); try go_wp2_with (first | (go_at_call 55; (with_reducible refine (impl_GoodOp.calls k _ _ l0 false _ ?side1 ?side2 A4.out).mono ?_); (case side1 => exact y38); (case side2 => exact en.out); rintro e w8 ⟨rfl, hb⟩; replace HB := aM (aA z32 hb); (try clear hb))))
   go_meet
   case rel => exact ⟨_, (true), z2, H', ⟨by first | omega | exact Nat.le_refl _⟩, ⟨y5⟩⟩
 case rest =>
  clear rj
  obtain ⟨kq, x18_2, rfl, HA, r5, HB⟩ := hcut
  cases kq with
  | zero => exact absurd HA.out (by simp [impl_ApplyOp.j0])
  | succ kj2 =>
   have H := HA.out
   clear HA
   simp only [impl_ApplyOp.j0] at H
   by_cases c9 : x18_2 = true
   ·subst c9
    rw [if_pos rfl] at H
    simp only [Option.some.injEq, Prod.mk.injEq] at H
    obtain ⟨rfl, rfl⟩ := H
    go_wp2
    repeat (go_quiet (fail); try go_wp2)
    go_ret2
    exact ⟨y4, y5⟩
   ·replace c9 := Bool.eq_false_iff.mpr c9
    subst c9
    rw [if_neg nF_] at H
    obtain ⟨⟨kQ, qb⟩, i5, H⟩ := oA_ H
    try dsimp only at H
    by_cases fY : kQ = (a1.size : Int)
    ·rw [if_pos fY] at H
     have c11b0 : (kQ == (a1.size : Int)) = true := qT fY
     have c11b1 : (kQ != (a1.size : Int)) = false := nF fY
     clear fY
     have H' := aM H
     clear H
     go_wp2_with (first | (go_at_call 57; (with_reducible refine (impl_sizes.calls kj2 _ _ l0 kQ qb _ ?side1 ?side2 i5.out).mono ?_); (case side1 => exact y38); (case side2 => exact en.out); rintro e w12 ⟨rfl, hb⟩; replace HB := aM (aA z32 hb); (try clear hb)))
     repeat (go_quiet (fail); try go_wp2_with (first | (go_at_call 57; (with_reducible refine (impl_sizes.calls kj2 _ _ l0 kQ qb _ ?side1 ?side2 i5.out).mono ?_); (case side1 => exact y38); (case side2 => exact en.out); rintro e w12 ⟨rfl, hb⟩; replace HB := aM (aA z32 hb); (try clear hb))))
     go_loopg [1, 8, 30] kj2 (fun kq v1 v8 v30 w' => ∃ (x1_2 : ByteArray) (x8_2 : ByteArray) (x30_2 : Int), v1 = .string x1_2 ∧ v8 = .string x8_2 ∧ v30 = .int .i64 x30_2 ∧ Aside0 (impl_ApplyOp.l0 kq x1_2 x8_2 l0 (l0.length : Int) x30_2 = some (r1, r2)) ∧ Aside0 (kq ≤ kj2) ∧ Aside0 (Below w.heap.size w w'))
     case atStart => exact ⟨(a1), ((⟨#[]⟩ : ByteArray)), (0), z2, z2, z2, H', ⟨Nat.le_refl _⟩, ⟨y5⟩⟩
     case round =>
      clear H'
      try clear c9
      try clear fY
      try clear c11b0
      try clear c11b1
      obtain ⟨x1_2, x8_2, x30_2, rfl, rfl, rfl, HA, HK2, HB⟩ := hrel
      cases gk with
      | zero => exact absurd HA.out (by simp [impl_ApplyOp.l0])
      | succ k2 =>
       have H := HA.out
       clear HA
       simp only [impl_ApplyOp.l0] at H
       by_cases fZ : x30_2 < (l0.length : Int)
       ·rw [if_pos fZ] at H
        have c13b0 : decide (x30_2 < (l0.length : Int)) = true := dT fZ
        clear fZ
        by_cases gF : 0 ≤ x30_2
        ·rw [if_pos gF] at H
         have c14b0 : decide (0 ≤ x30_2) = true := dT gF
         clear gF
         by_cases gn : x30_2 < (l0.length : Int)
         ·rw [if_pos gn] at H
          have c15b0 : decide (x30_2 < (l0.length : Int)) = true := dT gn
          clear gn
          by_cases gE : 0 ≤ (((rd_T59 l0 x30_2).f2).size : Int)
          ·rw [if_pos gE] at H
           have c16b0 := eq_true gE
           have c16b1 : decide (0 ≤ (((rd_T59 l0 x30_2).f2).size : Int)) = true := dT gE
           clear gE
           by_cases gA : (((rd_T59 l0 x30_2).f2).size : Int) ≤ (x1_2.size : Int)
           ·rw [if_pos gA] at H
            have c17b0 := eq_true gA
            have c17b1 : decide ((((rd_T59 l0 x30_2).f2).size : Int) ≤ (x1_2.size : Int)) = true := dT gA
            clear gA
            by_cases hH : (x1_2.extract 0 ((((rd_T59 l0 x30_2).f2).size : Int) : Int).toNat).toList = ((rd_T59 l0 x30_2).f2).toList
            ·rw [if_pos hH] at H
             have c18b0 : ((x1_2.extract 0 ((((rd_T59 l0 x30_2).f2).size : Int) : Int).toNat).toList == ((rd_T59 l0 x30_2).f2).toList) = true := qT hH
             (try (have c18b0n := c18b0; simp only [aZ] at c18b0n))
             have c18b1 : ((x1_2.extract 0 ((((rd_T59 l0 x30_2).f2).size : Int) : Int).toNat).toList != ((rd_T59 l0 x30_2).f2).toList) = false := nF hH
             (try (have c18b1n := c18b1; simp only [aZ] at c18b1n))
             clear hH
             by_cases nI : 0 ≤ ((rd_T59 l0 x30_2).f0)
             ·rw [if_pos nI] at H
              have c19b0 := eq_true nI
              have c19b1 : decide (0 ≤ ((rd_T59 l0 x30_2).f0)) = true := dT nI
              clear nI
              by_cases np : ((rd_T59 l0 x30_2).f0) ≤ (x1_2.size : Int)
              ·rw [if_pos np] at H
               have c20b0 := eq_true np
               have c20b1 : decide (((rd_T59 l0 x30_2).f0) ≤ (x1_2.size : Int)) = true := dT np
               clear np
               by_cases lU : (x1_2.extract 0 (((rd_T59 l0 x30_2).f0) : Int).toNat).size + ((rd_T59 l0 x30_2).f1).size ≤ 9223372036854775807
               ·rw [if_pos lU] at H
                have c21b0 := eq_true lU
                have c21b1 : decide ((x1_2.extract 0 (((rd_T59 l0 x30_2).f0) : Int).toNat).size + ((rd_T59 l0 x30_2).f1).size ≤ 9223372036854775807) = true := dT lU
                try have c21b2 : (9223372036854775807 < (x1_2.extract 0 (((rd_T59 l0 x30_2).f0) : Int).toNat).size + ((rd_T59 l0 x30_2).f1).size) = False := eq_false (Nat.not_lt.2 lU)
                (try (have c21x : (9223372036854775807 < ((rd_T59 l0 x30_2).f0).toNat + ((rd_T59 l0 x30_2).f1).size) = False := eq_false (fun h_ => by have e_ := of_eq_true c21b0; simp only [a8, a7] at e_; have f0_ : ((rd_T59 l0 x30_2).f0) ≤ (x1_2.size : Int) := (by first | assumption | exact of_eq_true (by assumption) | exact oD (by assumption)); omega)))
                by_cases qf : x8_2.size + ((x1_2.extract 0 (((rd_T59 l0 x30_2).f0) : Int).toNat) ++ ((rd_T59 l0 x30_2).f1)).size ≤ 9223372036854775807
                ·rw [if_pos qf] at H
                 have c22b0 := eq_true qf
                 have c22b1 : decide (x8_2.size + ((x1_2.extract 0 (((rd_T59 l0 x30_2).f0) : Int).toNat) ++ ((rd_T59 l0 x30_2).f1)).size ≤ 9223372036854775807) = true := dT qf
                 try have c22b2 : (9223372036854775807 < x8_2.size + ((x1_2.extract 0 (((rd_T59 l0 x30_2).f0) : Int).toNat) ++ ((rd_T59 l0 x30_2).f1)).size) = False := eq_false (Nat.not_lt.2 qf)
                 (try (have c22x : (9223372036854775807 < x8_2.size + (((rd_T59 l0 x30_2).f0).toNat + ((rd_T59 l0 x30_2).f1).size)) = False := eq_false (fun h_ => by have e_ := of_eq_true c22b0; simp only [a8, a7] at e_; have f0_ : ((rd_T59 l0 x30_2).f0) ≤ (x1_2.size : Int) := (by first | assumption | exact of_eq_true (by assumption) | exact oD (by assumption)); omega)))
                 (try (have c22b2s := c22b2; simp only [a7] at c22b2s))
                 obtain ⟨mF, mf⟩ : ∃ j_ : Int, (wrap64 (((rd_T59 l0 x30_2).f0) + (((rd_T59 l0 x30_2).f2).size : Int))) = j_ := ⟨_, rfl⟩
                 replace H : (if 0 ≤ (mF) then (if (mF) ≤ (x1_2.size : Int) then (impl_ApplyOp.l0 k2 (x1_2.extract ((mF) : Int).toNat x1_2.size) (x8_2 ++ ((x1_2.extract 0 (((rd_T59 l0 x30_2).f0) : Int).toNat) ++ ((rd_T59 l0 x30_2).f1))) l0 (l0.length : Int) (wrap64 (x30_2 + 1))) else (none)) else (none)) = some (r1, r2) := by first | (rw [mf] at H; exact H) | (simp only [mf] at H ⊢; exact H)
                 have hji23w : (IntKind.i64.wrap (((rd_T59 l0 x30_2).f0) + (((rd_T59 l0 x30_2).f2).size : Int))) = mF := (i64_w _).trans mf
                 by_cases oE : 0 ≤ (mF)
                 ·rw [if_pos oE] at H
                  have c24b0 := eq_true oE
                  have c24b1 : decide (0 ≤ (mF)) = true := dT oE
                  clear oE
                  by_cases j3 : (mF) ≤ (x1_2.size : Int)
                  ·rw [if_pos j3] at H
                   have c25b0 := eq_true j3
                   have c25b1 : decide ((mF) ≤ (x1_2.size : Int)) = true := dT j3
                   clear j3
                   have H' := aM H
                   clear H
                   have p185 : 0 ≤ (x30_2 : Int) := oD z3
                   have q185 : x30_2 < (l0.length : Int) := oD z3
                   obtain ⟨ad185, e185, hx185_0, hx185_1, hx185_2⟩ := at_T59 dY.out x30_2 p185 q185
                   cases e185
                   replace hx185_0 := (HB.out.cell (World.block_lt_of_cell? w _ hx185_0)).trans hx185_0
                   replace hx185_1 := (HB.out.cell (World.block_lt_of_cell? w _ hx185_1)).trans hx185_1
                   replace hx185_2 := (HB.out.cell (World.block_lt_of_cell? w _ hx185_2)).trans hx185_2
                   replace p185 := eq_true p185
                   replace q185 := eq_true q185
                   go_wp2_with (first | ((with_reducible refine aN (N := 10) rfl ?_); refine aQ ?hg (N := 10) ?hd (cs := #[.int .i64 0, .string ⟨#[]⟩, .string ⟨#[]⟩]) (t := 59) ?hr ?_; (case hd => rfl); (case hg => rfl); (case hr => first | (go_simp; done) | (go_simp; rfl)); intro dQ hg w26 hbox hb; have dl := aM (hbox); have nZ := aM ((by rw [hg]; exact (aC z32) : w.heap.size ≤ dQ)); have lO := aM ((by rw [hg]; exact (aC z32) : w.heap.size ≤ dQ)); replace HB := aM (aA z32 hb); clear hb hbox hg; obtain ⟨jy, jx, jw, jv, ju, jt⟩ := cc3 dl.out))
                   all_goals (try (exfalso; rename_i h_; rw [c18b0] at h_; cases h_; done))
                   repeat (go_quiet (fail); try go_wp2_with (first | ((with_reducible refine aN (N := 10) rfl ?_); refine aQ ?hg (N := 10) ?hd (cs := #[.int .i64 0, .string ⟨#[]⟩, .string ⟨#[]⟩]) (t := 59) ?hr ?_; (case hd => rfl); (case hg => rfl); (case hr => first | (go_simp; done) | (go_simp; rfl)); intro dQ hg w26 hbox hb; have dl := aM (hbox); have nZ := aM ((by rw [hg]; exact (aC z32) : w.heap.size ≤ dQ)); have lO := aM ((by rw [hg]; exact (aC z32) : w.heap.size ≤ dQ)); replace HB := aM (aA z32 hb); clear hb hbox hg; obtain ⟨jy, jx, jw, jv, ju, jt⟩ := cc3 dl.out)))
                   all_goals (try (exfalso; rename_i h_; rw [c18b0] at h_; cases h_; done))
                   go_roundg k2
                   case measure => have := r5.out; have := HK2.out; omega
                   case rel => exact ⟨(x1_2.extract ((mF) : Int).toNat x1_2.size), (x8_2 ++ ((x1_2.extract 0 (((rd_T59 l0 x30_2).f0) : Int).toNat) ++ ((rd_T59 l0 x30_2).f1))), (wrap64 (x30_2 + 1)), (by first | rfl | (simp; done) | (simp only [← mf] <;> (first | rfl | (simp; done) | (simp; generalize ByteArray.toList _ = u_; cases u_ <;> (first | rfl | (simp; done))))) | (simp [*]; done)), z2, z2, (by first | exact H' | (simp only [mf]; exact H') | (simp only [← mf]; exact H')), ⟨by have := r5.out; have := HK2.out; omega⟩, ⟨by repeat (first | (with_reducible first | exact HB.out | apply bA | apply pD | apply bD | refine az ?_ lO.out) | exact HB.out)⟩⟩
                  ·rw [if_neg j3] at H
                   exact absurd H (by simp)
                 ·rw [if_neg oE] at H
                  exact absurd H (by simp)
                ·rw [if_neg qf] at H
                 exact absurd H (by simp)
               ·rw [if_neg lU] at H
                exact absurd H (by simp)
              ·rw [if_neg np] at H
               exact absurd H (by simp)
             ·rw [if_neg nI] at H
              exact absurd H (by simp)
            ·rw [if_neg hH] at H
             have c18b0 : ((x1_2.extract 0 ((((rd_T59 l0 x30_2).f2).size : Int) : Int).toNat).toList == ((rd_T59 l0 x30_2).f2).toList) = false := qF hH
             (try (have c18b0n := c18b0; simp only [aZ] at c18b0n))
             have c18b1 : ((x1_2.extract 0 ((((rd_T59 l0 x30_2).f2).size : Int) : Int).toNat).toList != ((rd_T59 l0 x30_2).f2).toList) = true := nT hH
             (try (have c18b1n := c18b1; simp only [aZ] at c18b1n))
             simp only [Option.some.injEq, Prod.mk.injEq] at H
             obtain ⟨rfl, rfl⟩ := H
             have p185 : 0 ≤ (x30_2 : Int) := oD z3
             have q185 : x30_2 < (l0.length : Int) := oD z3
             obtain ⟨ad185, e185, hx185_0, hx185_1, hx185_2⟩ := at_T59 dY.out x30_2 p185 q185
             cases e185
             replace hx185_0 := (HB.out.cell (World.block_lt_of_cell? w _ hx185_0)).trans hx185_0
             replace hx185_1 := (HB.out.cell (World.block_lt_of_cell? w _ hx185_1)).trans hx185_1
             replace hx185_2 := (HB.out.cell (World.block_lt_of_cell? w _ hx185_2)).trans hx185_2
             replace p185 := eq_true p185
             replace q185 := eq_true q185
             go_wp2_with (first | ((with_reducible refine aN (N := 10) rfl ?_); refine aQ ?hg (N := 10) ?hd (cs := #[.int .i64 0, .string ⟨#[]⟩, .string ⟨#[]⟩]) (t := 59) ?hr ?_; (case hd => rfl); (case hg => rfl); (case hr => first | (go_simp; done) | (go_simp; rfl)); intro dQ hg w28 hbox hb; have dl := aM (hbox); have nZ := aM ((by rw [hg]; exact (aC z32) : w.heap.size ≤ dQ)); have lO := aM ((by rw [hg]; exact (aC z32) : w.heap.size ≤ dQ)); replace HB := aM (aA z32 hb); clear hb hbox hg; obtain ⟨m7, ph, pg, mK, oM, oL⟩ := cc3 dl.out))
             all_goals (try (exfalso; rename_i h_; rw [c18b0] at h_; cases h_; done))
             repeat (go_quiet (fail); try go_wp2_with (first | ((with_reducible refine aN (N := 10) rfl ?_); refine aQ ?hg (N := 10) ?hd (cs := #[.int .i64 0, .string ⟨#[]⟩, .string ⟨#[]⟩]) (t := 59) ?hr ?_; (case hd => rfl); (case hg => rfl); (case hr => first | (go_simp; done) | (go_simp; rfl)); intro dQ hg w28 hbox hb; have dl := aM (hbox); have nZ := aM ((by rw [hg]; exact (aC z32) : w.heap.size ≤ dQ)); have lO := aM ((by rw [hg]; exact (aC z32) : w.heap.size ≤ dQ)); replace HB := aM (aA z32 hb); clear hb hbox hg; obtain ⟨m7, ph, pg, mK, oM, oL⟩ := cc3 dl.out)))
             all_goals (try (exfalso; rename_i h_; rw [c18b0] at h_; cases h_; done))
             go_ret2
             exact ⟨y4, by repeat (first | (with_reducible first | exact HB.out | apply bA | apply pD | apply bD | refine az ?_ lO.out) | exact HB.out)⟩
           ·rw [if_neg gA] at H
            exact absurd H (by simp)
          ·rw [if_neg gE] at H
           exact absurd H (by simp)
         ·rw [if_neg gn] at H
          exact absurd H (by simp)
        ·rw [if_neg gF] at H
         exact absurd H (by simp)
       ·rw [if_neg fZ] at H
        have c13b0 : decide (x30_2 < (l0.length : Int)) = false := dF fZ
        clear fZ
        simp only [Option.some.injEq, Prod.mk.injEq] at H
        obtain ⟨rfl, rfl⟩ := H
        go_wp2
        repeat (go_quiet (fail); try go_wp2)
        go_ret2
        exact ⟨y4, y5⟩
    ·rw [if_neg fY] at H
     have c11b0 : (kQ == (a1.size : Int)) = false := qF fY
     have c11b1 : (kQ != (a1.size : Int)) = true := nT fY
     simp only [Option.some.injEq, Prod.mk.injEq] at H
     obtain ⟨rfl, rfl⟩ := H
     go_wp2_with (first | (go_at_call 57; (with_reducible refine (impl_sizes.calls kj2 _ _ l0 kQ qb _ ?side1 ?side2 i5.out).mono ?_); (case side1 => exact y38); (case side2 => exact en.out); rintro e w30 ⟨rfl, hb⟩; replace HB := aM (aA z32 hb); (try clear hb)))
     repeat (go_quiet (fail); try go_wp2_with (first | (go_at_call 57; (with_reducible refine (impl_sizes.calls kj2 _ _ l0 kQ qb _ ?side1 ?side2 i5.out).mono ?_); (case side1 => exact y38); (case side2 => exact en.out); rintro e w30 ⟨rfl, hb⟩; replace HB := aM (aA z32 hb); (try clear hb))))
     go_ret2
     exact ⟨y4, y5⟩

/-! ### rope_Limb.txt, by hand -/
/-- A rope as a tree. -/
inductive Limb where
 | nil : Limb
 | node (l r : Limb) (s : ByteArray) (n d : Int) : Limb
def Limb.size : Limb → Int
 | .nil => 0
 | .node _ _ _ n _ => n
def Limb.deep : Limb → Int
 | .nil => 0
 | .node _ _ _ _ d => d
/-- The tree lies in w at A; every block of it is ok. -/
def LmAt (w : World) (ok : Nat → Prop) : Limb → Option Addr → Prop
 | .nil, A => A = none
 | .node l r s n d, A => ∃ b L R, A = some ⟨b, 0, none⟩ ∧ ok b ∧ w.heap[b]? = some (.cells #[.pointer L, .pointer R, .string s, .int .i64 n, .int .i64 d] 84 (0, 0)) ∧ LmAt w ok l L ∧ LmAt w ok r R
theorem LmAt.mono {w : World} {ok ok' : Nat → Prop} (hok : ∀ k, ok k → ok' k) : ∀ {t : Limb} {A : Option Addr}, LmAt w ok t A → LmAt w ok' t A
 | .nil, _, h => h
 | .node _ _ _ _ _, _, ⟨b, L, R, e, ho, hb, hl, hr⟩ => ⟨b, L, R, e, hok b ho, hb, hl.mono hok, hr.mono hok⟩
theorem LmAt.move {w w1 : World} {ok : Nat → Prop} (hm : ∀ k, ok k → w1.heap[k]? = w.heap[k]?) : ∀ {t : Limb} {A : Option Addr}, LmAt w ok t A → LmAt w1 ok t A
 | .nil, _, h => h
 | .node _ _ _ _ _, _, ⟨b, L, R, e, ho, hb, hl, hr⟩ => ⟨b, L, R, e, ho, (hm b ho).trans hb, hl.move hm, hr.move hm⟩
theorem LmAt.bound {w : World} {ok : Nat → Prop} : ∀ {t : Limb} {A : Option Addr}, LmAt w ok t A → LmAt w (fun k => ok k ∧ k < w.heap.size ∧ ∃ cells, w.heap[k]? = some (.cells cells 84 (0, 0))) t A
 | .nil, _, h => h
 | .node _ _ _ _ _, _, ⟨b, L, R, e, ho, hb, hl, hr⟩ => ⟨b, L, R, e, ⟨ho, ay hb, _, hb⟩, hb, hl.bound, hr.bound⟩
theorem LmAt.below {w w1 : World} {ok : Nat → Prop} {t : Limb} {A : Option Addr} (h : LmAt w ok t A) (hb : Below w.heap.size w w1) : LmAt w1 ok t A :=
 (h.bound.move (fun k hk => hb.block k hk.2.1)).mono (fun _ hk => hk.1)
theorem LmAt.kept {w w1 : World} {ok S : Nat → Prop} {t : Limb} {A : Option Addr} (h : LmAt w ok t A) (hk : Kept w w1 S) (hS : ∀ k, S k → ∀ cells, w.heap[k]? ≠ some (.cells cells 84 (0, 0))) : LmAt w1 ok t A :=
 (h.bound.move (fun k hk' => hk.2 k hk'.2.1 (fun hs => by obtain ⟨_, _, c, hc⟩ := hk'; exact hS k hs c hc))).mono (fun _ hk => hk.1)
theorem LmAt.alloc {w : World} {ok : Nat → Prop} {t : Limb} {A : Option Addr} (h : LmAt w ok t A) (o : Obj) : LmAt (w.alloc o) ok t A := h.below (bA (Below.refl _ _) o)
theorem LmAt.drew {w : World} {ok : Nat → Prop} {t : Limb} {A : Option Addr} (h : LmAt w ok t A) : LmAt w.drew ok t A := h.below (below_drew (Below.refl _ _))
theorem LmAt.drewN {w : World} {ok : Nat → Prop} {t : Limb} {A : Option Addr} (h : LmAt w ok t A) (n : Nat) : LmAt (w.drewN n) ok t A := h.below (pD (Below.refl _ _) n)
/-- A store into a block of another type. -/
theorem LmAt.set {w : World} {ok : Nat → Prop} {t : Limb} {A : Option Addr} (h : LmAt w ok t A) {g e : Nat} {cells : Array Value} (hb : w.heap[g]? = some (.cells cells e (0, 0))) (he : 84 ≠ e) (j : Nat) (u : Value) : LmAt (w.setCell ⟨g, j, none⟩ u) ok t A :=
 (h.bound.move (w1 := w.setCell ⟨g, j, none⟩ u) (fun k hk => Below.heap_setCell w ⟨g, j, none⟩ u k (fun e1 => by
  obtain ⟨_, _, c, hc⟩ := hk
  subst e1
  rw [hc] at hb
  injection hb with hb
  injection hb with _ hb
  exact he hb))).mono (fun _ hk => hk.1)
/-- A row of another type has been written. -/
theorem LmAt.grown {w w1 : World} {ok : Nat → Prop} {t : Limb} {A : Option Addr} (h : LmAt w ok t A) {v : Value} (hg : w.grownBy w1 v.ownBlock) {e : Nat} (hty : ∀ k, v.ownBlock = some k → ∃ cells, w.heap[k]? = some (.cells cells e (0, 0))) (he : 84 ≠ e) : LmAt w1 ok t A :=
 (h.bound.move (fun k hk => hg.block k hk.2.1 (fun e1 => by
  obtain ⟨_, _, c, hc⟩ := hk
  obtain ⟨c', hc'⟩ := hty k e1.symm
  rw [hc] at hc'
  injection hc' with hc'
  injection hc' with _ hc'
  exact he hc'))).mono (fun _ hk => hk.1)
/-- Pointers to trees, as elements of a row. -/
def kLm : Kd Limb where
 sz := 1
 E := [84]
 K := fun w x cs => ∃ A, cs = [.pointer A] ∧ LmAt w (fun _ => True) x A
 M := fun w base ok x cs => ∃ A, cs = [.pointer A] ∧ LmAt w (fun k => ok k ∧ base ≤ k) x A
 K_len := by rintro w x cs ⟨A, rfl, _⟩; rfl
 K_one := by rintro w x cs ⟨A, rfl, _⟩ u hu; rw [List.mem_singleton.1 hu]; rfl
 K_below := by rintro w w1 x cs hb ⟨A, rfl, h⟩; exact ⟨A, rfl, h.below hb⟩
 K_of_M := by rintro w base ok x cs ⟨A, rfl, h⟩; exact ⟨A, rfl, h.mono (fun _ _ => trivial)⟩
 M_mono := by rintro w base ok ok' x cs hok ⟨A, rfl, h⟩; exact ⟨A, rfl, h.mono (fun k hk => ⟨hok k hk.1, hk.2⟩)⟩
 M_bound := by rintro w base ok x cs ⟨A, rfl, h⟩; exact ⟨A, rfl, h.bound.mono (fun k hk => ⟨⟨hk.1.1, hk.1.2, hk.2.1, _, List.mem_singleton.2 rfl, hk.2.2⟩, hk.1.2⟩)⟩
 M_move := by rintro w w1 base ok x cs hm ⟨A, rfl, h⟩; exact ⟨A, rfl, h.move (fun k hk => hm k hk.1)⟩
 M_lower := by rintro w base base' ok x cs hb ⟨A, rfl, h⟩; exact ⟨A, rfl, h.mono (fun k hk => ⟨hk.1, Nat.le_trans hb hk.2⟩)⟩
def Limb.isNil : Limb → Bool
 | .nil => true
 | .node _ _ _ _ _ => false
def cnt : Limb → Nat
 | .nil => 0
 | .node l r _ _ _ => if l.isNil = true then 1 else cnt l + cnt r + 1
/-- How a row that is appended to goes on. -/
def RowTo (w w' : World) (v v' : Value) : Prop := Kept w w' (fun k => some k = v.ownBlock) ∧ (v'.ownBlock = v.ownBlock ∨ ∃ b, v'.ownBlock = some b ∧ w.heap.size ≤ b)
theorem RowTo.refl (w : World) (v : Value) : RowTo w w v v := ⟨Kept.refl _ _, .inl rfl⟩
theorem RowTo.trans {w w1 w2 : World} {v v1 v2 : Value} (h : RowTo w w1 v v1) (k : RowTo w1 w2 v1 v2) : RowTo w w2 v v2 := by
 obtain ⟨h1, h2⟩ := h
 obtain ⟨k1, k2⟩ := k
 refine ⟨h1.then_ k1 (fun b hb => ?_), ?_⟩
 ·rcases h2 with h2 | ⟨b', h2, hle⟩
  ·exact .inl (hb.trans h2)
  ·rw [h2] at hb; injection hb with hb; exact .inr (by omega)
 ·rcases k2 with k2 | ⟨b', k2, hle⟩
  ·rw [k2]; exact h2
  ·exact .inr ⟨b', k2, Nat.le_trans h1.1 hle⟩
theorem RowTo.drewN {w w' : World} {v v' : Value} (h : RowTo w w' v v') (n : Nat) : RowTo w (w'.drewN n) v v' := ⟨h.1.drewN n, h.2⟩
theorem RowTo.drew {w w' : World} {v v' : Value} (h : RowTo w w' v v') : RowTo w w'.drew v v' := ⟨h.1.drew, h.2⟩
theorem LmAt.rowTo {α : Type} {d : Kd α} {e base : Nat} {ok ok' : Nat → Prop} {w w' : World} {v v' : Value} {xs : List α} {t : Limb} {A : Option Addr} (h : LmAt w ok t A) (hr : d.R e w base ok' v xs) (he : 84 ≠ e) (hk : RowTo w w' v v') : LmAt w' ok t A :=
 h.kept hk.1 (fun k hs cells hc => by
  obtain ⟨inner, ho⟩ := Kd.R_own hr
  obtain ⟨c', hc'⟩ := own_typed ho k hs.symm
  rw [hc] at hc'
  injection hc' with hc'
  injection hc' with _ hc'
  exact he hc')
theorem RowTo.below {w0 w w' : World} {α : Type} {d : Kd α} {e : Nat} {ok : Nat → Prop} {v v' : Value} {xs : List α} (hb : Below w0.heap.size w0 w) (hr : d.R e w w0.heap.size ok v xs) (hw' : Below w0.heap.size w0 w') : Below w0.heap.size w0 w' := hw'

/-! ### impl_fork: function 40, by hand -/
def fk : Limb → Limb → Limb
 | .nil, b => b
 | .node l r s n d, .nil => .node l r s n d
 | .node l r s n d, .node l' r' s' n' d' => .node (.node l r s n d) (.node l' r' s' n' d') ⟨#[]⟩ (wrap64 (n + n')) (wrap64 (1 + max d d'))
set_option maxHeartbeats 2000000 in
theorem fork_any (a b : Limb) (A B : Option Addr) (ok : Nat → Prop) (w : World) (ha : LmAt w ok a A) (hb : LmAt w ok b B) (hok : ∀ k, w.heap.size ≤ k → ok k) :
  Calls Try.prog 40 #[.pointer A, .pointer B] w fun e w' => ∃ C, e = .returned (.pointer C) ∧ LmAt w' ok (fk a b) C ∧ Below w.heap.size w w' := by
 cases a with
 | nil =>
  obtain rfl : A = none := ha
  have HB := aM hb
  clear hb
  go_enter Try.func40, Try.ntmps40
  go_wp2
  go_ret
  exact ⟨B, rfl, by show LmAt _ ok b B; exact HB.out, Below.refl _ _⟩
 | node l r s n d =>
  have HA := aM ha
  obtain ⟨p, L, R, rfl, hp, hc, hl, hr⟩ := ha
  cases b with
  | nil =>
   obtain rfl : B = none := hb
   clear hl hr hp hc
   go_enter Try.func40, Try.ntmps40
   go_wp2
   go_ret
   exact ⟨_, rfl, HA.out, Below.refl _ _⟩
  | node l' r' s' n' d' =>
   have HB := aM hb
   obtain ⟨p', L', R', rfl, hp', hc', hl', hr'⟩ := hb
   have c3 : w.cell? ⟨p, 3, none⟩ = some (.int .i64 n) := (bC hc 3).trans rfl
   have c4 : w.cell? ⟨p, 4, none⟩ = some (.int .i64 d) := (bC hc 4).trans rfl
   have c3' : w.cell? ⟨p', 3, none⟩ = some (.int .i64 n') := (bC hc' 3).trans rfl
   have c4' : w.cell? ⟨p', 4, none⟩ = some (.int .i64 d') := (bC hc' 4).trans rfl
   clear hl hr hp hc hl' hr' hp' hc'
   go_enter Try.func40, Try.ntmps40
   go_wp2
   go_region
   go_wp2
   all_goals
    go_ret
    refine ⟨_, rfl, ⟨w.heap.size, some ⟨p, 0, none⟩, some ⟨p', 0, none⟩, rfl, hok _ (Nat.le_refl _), ?_, ?_, ?_⟩, ?_⟩
    rotate_left
    ·exact (HA.out.alloc _).drew
    ·exact (HB.out.alloc _).drew
    ·exact below_drew (bA (Below.refl _ _) _)
    first | rw [Int.max_eq_left (by omega)] | rw [Int.max_eq_right (by omega)]
    exact blk_new _ _

end Go.Proofs.Ytblnnbaeiggmoaa.AFnSplit
