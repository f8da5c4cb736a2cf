-- this session's own text: written by wip/tools/ownprint.py over the kit's print
import Derived.Test.YtjbllgdehpomiaaAFnMarksx0
import Derived.Test.YtjbllgdehpomiaaAFnMarksx3
import Derived.Test.YtjbllgdehpomiaaAFnMarksx5
import Derived.Test.YtjbllgdehpomiaaAFnMarksx8
import Derived.Test.YtjbllgdehpomiaaAFnMarksx23
import Derived.Test.YtjbllgdehpomiaaAFnMarksx25
namespace Go.Proofs.Ytjbllgdehpomiaa.AFnMarks
open Go.RowKit Go.Proofs.YtjbllgdehpomiaaW.PrintWords Go.Proofs.YtjbllgdehpomiaaW.PrintLast Go.Proofs.YtjbllgdehpomiaaW.PrintMore
attribute [local go_sem] max2_int min2_int max_two min_two max_three min_three max_four min_four   -- for this text's walks alone
set_option linter.unusedVariables false
set_option maxHeartbeats 8000000
set_option maxRecDepth 100000
set_option linter.unusedSimpArgs false
attribute [local go_sem high] eqA34
/-! ### spec_MoveMarks: function 6 -/
mutual
def spec_MoveMarks.j0 : Nat → List (S68) → List (S34) → Bool → Option ((List (S34)) × Bool)
 | 0, _, _, _ => none
 | k + 1, x0, x1, x28 => if x28 = true then (some (([] : List (S34)), false)) else (spec_MoveMarks.l0 k x0 ([] : List (S34)) x1 (x1.length : Int) 0)
def spec_MoveMarks.l0 : Nat → List (S68) → List (S34) → List (S34) → Int → Int → Option ((List (S34)) × Bool)
 | 0, _, _, _, _, _ => none
 | k + 1, x0, x8, x29, x30, x31 => if x31 < x30 then (if 0 ≤ x31 then (if x31 < (x29.length : Int) then ((spec_l5Gap.f k x0 ((so x29 x31).f0)).bind fun pO => ((spec_l5Gap.f k x0 ((so x29 x31).f1)).bind fun pN => (if pO.2 < pN.1 then ((spec_l5Add.f k x8 pO.2 pN.1 ((so x29 x31).f2)).bind fun pp => (spec_MoveMarks.l0 k x0 pp x29 x30 (wrap64 (x31 + 1)))) else (spec_MoveMarks.l0 k x0 x8 x29 x30 (wrap64 (x31 + 1)))))) else (none)) else (none)) else (some (x8, true))
end
def spec_MoveMarks.f (k : Nat) (l0 : List (S68)) (l1 : List (S34)) : Option ((List (S34)) × Bool) := (spec_l3Sizes.f k l0).bind fun oS => ((spec_GoodOp.f k l0).bind fun n5 => (if n5 = true then ((spec_GoodMarks.f k l1 oS.1).bind fun nn => (spec_MoveMarks.j0 k l0 l1 (!nn))) else (spec_MoveMarks.j0 k l0 l1 true)))
theorem spec_MoveMarks.mono_l : ∀ k, (∀ y0 y1 y2, LeO (spec_MoveMarks.j0 k y0 y1 y2) (spec_MoveMarks.j0 (k + 1) y0 y1 y2)) ∧ (∀ y0 y1 y2 y3 y4, LeO (spec_MoveMarks.l0 k y0 y1 y2 y3 y4) (spec_MoveMarks.l0 (k + 1) y0 y1 y2 y3 y4))
 | 0 => ⟨fun _ _ _ r h => by simp [spec_MoveMarks.j0] at h, fun _ _ _ _ _ r h => by simp [spec_MoveMarks.l0] at h⟩
 | k + 1 => by
  obtain ⟨ih0, ih1⟩ := spec_MoveMarks.mono_l k
  refine ⟨?_, ?_⟩
  ·intro y0 y1 y2
   unfold spec_MoveMarks.j0
   with_reducible repeat' first | exact ih0 _ _ _ | exact ih1 _ _ _ _ _ | exact spec_GoodMarks.mono _ _ _ | exact spec_GoodOp.mono _ _ | exact spec_l3Sizes.mono _ _ | exact spec_l5Add.mono _ _ _ _ _ | exact spec_l5Gap.mono _ _ _ | exact lR_ _ | exact lN_ _ | refine lI_ ?_ ?_ | refine lB_ ?_ fun _ => ?_
  ·intro y0 y1 y2 y3 y4
   unfold spec_MoveMarks.l0
   with_reducible repeat' first | exact ih0 _ _ _ | exact ih1 _ _ _ _ _ | exact spec_GoodMarks.mono _ _ _ | exact spec_GoodOp.mono _ _ | exact spec_l3Sizes.mono _ _ | exact spec_l5Add.mono _ _ _ _ _ | exact spec_l5Gap.mono _ _ _ | exact lR_ _ | exact lN_ _ | refine lI_ ?_ ?_ | refine lB_ ?_ fun _ => ?_
theorem spec_MoveMarks.mono : ∀ a0 a1 k, LeO (spec_MoveMarks.f k a0 a1) (spec_MoveMarks.f (k + 1) a0 a1) := by
 intro a0 a1 k
 obtain ⟨ih0, ih1⟩ := spec_MoveMarks.mono_l k
 unfold spec_MoveMarks.f
 with_reducible repeat' first | exact ih0 _ _ _ | exact ih1 _ _ _ _ _ | exact spec_GoodMarks.mono _ _ _ | exact spec_GoodOp.mono _ _ | exact spec_l3Sizes.mono _ _ | exact spec_l5Add.mono _ _ _ _ _ | exact spec_l5Gap.mono _ _ _ | exact lR_ _ | exact lN_ _ | refine lI_ ?_ ?_ | refine lB_ ?_ fun _ => ?_
theorem spec_MoveMarks.calls (k : Nat) (A0 : Option Addr) (c0 : Nat) (l0 : List (S68)) (A1 : Option Addr) (c1 : Nat) (l1 : List (S34)) (r1 : List (S34)) (r2 : Bool) (w : World) (hr0 : Kd.C k68 w A0 l0.length l0) (hc0 : l0.length ≤ c0) (hr1 : Kd.C k34 w A1 l1.length l1) (hc1 : l1.length ≤ c1) (h : spec_MoveMarks.f k l0 l1 = some (r1, r2)) :
  Calls Try.prog 6 #[.slice A0 l0.length c0, .slice A1 l1.length c1] w fun e w' => ∃ v0_ : Value, e = .returned (.tuple #[v0_, .bool r2]) ∧ Kd.R k34 34 w' w.heap.size (fun _ => True) v0_ r1 ∧ Below w.heap.size w w' := by
 have hu34 := Try.underlying34
 have bH := aM hr0
 have cH := aM hc0
 clear hr0 hc0
 have lp := aM hr1
 have pU := aM hc1
 clear hr1 hc1
 have HB := aM (Below.refl w.heap.size w)
 have H : ((spec_l3Sizes.f k l0).bind fun oS => ((spec_GoodOp.f k l0).bind fun n5 => (if n5 = true then ((spec_GoodMarks.f k l1 oS.1).bind fun nn => (spec_MoveMarks.j0 k l0 l1 (!nn))) else (spec_MoveMarks.j0 k l0 l1 true)))) = some (r1, r2) := h
 clear h
 obtain ⟨⟨rA, t597⟩, A3, H⟩ := oA_ H
 try dsimp only at H
 have iJ := aM H
 clear H
 go_enter Try.func6, Try.ntmps6
 go_upto_region 2 with (first | ((with_reducible refine ax (f := 17) rfl ?_); refine aC (some 17) rfl rfl Try.func17 z0 rfl #[.slice A0 l0.length c0] rfl z10 ?_; (with_reducible refine (spec_l3Sizes.calls k _ _ l0 rA t597 _ ?side1 ?side2 A3.out).mono ?_); (case side1 => exact y53); (case side2 => exact y51); rintro e w5 ⟨rfl, hb⟩; refine ⟨_, rfl, ?_⟩; replace HB := aM (ap z9 hb); (try clear hb)))
 (try simp only [Act.put, sA, sB, sC])
 go_cut [28] (fun v28 wc => ∃ (kq : Nat) (x28_3 : Bool), v28 = .bool x28_3 ∧ Aside0 (spec_MoveMarks.j0 kq l0 l1 x28_3 = some (r1, r2)) ∧ Aside0 (kq ≤ k) ∧ Aside0 (Below w.heap.size w wc))
 case first =>
  have H := iJ.out
  clear iJ
  obtain ⟨n5, A6, H⟩ := oA_ H
  try dsimp only at H
  by_cases c7 : n5 = true
  ·subst c7
   rw [if_pos rfl] at H
   obtain ⟨nn, A8, H⟩ := oA_ H
   try dsimp only at H
   have H' := aM H
   clear H
   go_wp2_with (first | ((with_reducible refine ax (f := 24) rfl ?_); refine aC (some 21) rfl rfl Try.func24 z0 rfl #[.slice A0 l0.length c0] rfl z10 ?_; (with_reducible refine (spec_GoodOp.calls k _ _ l0 true _ ?side1 ?side2 A6.out).mono ?_); (case side1 => exact y64); (case side2 => exact y51); rintro e w9 ⟨rfl, hb⟩; refine ⟨_, rfl, ?_⟩; replace HB := aM (ap z9 hb); (try clear hb)) | (go_at_call 25; (with_reducible refine (spec_GoodMarks.calls k _ _ l1 rA nn _ ?side1 ?side2 A8.out).mono ?_); (case side1 => exact y65); (case side2 => exact pU.out); rintro e w10 ⟨rfl, hb⟩; replace HB := aM (ap z9 hb); (try clear hb)))
   go_meet
   case rel => exact ⟨_, (!nn), z1, H', ⟨y1⟩, ⟨y6⟩⟩
  ·replace c7 := Bool.eq_false_iff.mpr c7
   subst c7
   rw [if_neg nF_] at H
   have H' := aM H
   clear H
   go_wp2_with (first | ((with_reducible refine ax (f := 24) rfl ?_); refine aC (some 21) rfl rfl Try.func24 z0 rfl #[.slice A0 l0.length c0] rfl z10 ?_; (with_reducible refine (spec_GoodOp.calls k _ _ l0 false _ ?side1 ?side2 A6.out).mono ?_); (case side1 => exact y64); (case side2 => exact y51); rintro e w11 ⟨rfl, hb⟩; refine ⟨_, rfl, ?_⟩; replace HB := aM (ap z9 hb); (try clear hb)))
   go_meet
   case rel => exact ⟨_, (true), z1, H', ⟨y1⟩, ⟨y6⟩⟩
 case rest =>
  clear iJ
  try clear c1
  obtain ⟨kq, x28_3, rfl, HA, jh, HB⟩ := hcut
  cases kq with
  | zero => exact absurd HA.out (by simp [spec_MoveMarks.j0])
  | succ kj3 =>
   have H := HA.out
   clear HA
   simp only [spec_MoveMarks.j0] at H
   by_cases bT : x28_3 = true
   ·subst bT
    rw [if_pos rfl] at H
    simp only [Option.some.injEq, Prod.mk.injEq] at H
    obtain ⟨rfl, rfl⟩ := H
    go_wp2
    go_ret2
    exact ⟨_, y5, y29, y6⟩
   ·replace bT := Bool.eq_false_iff.mpr bT
    subst bT
    rw [if_neg nF_] at H
    have H' := aM H
    clear H
    go_wp2
    go_loopg [8, 31] kj3 (fun kq v8 v31 w' => ∃ (x8_2 : List (S34)) (x31_2 : Int), v31 = .int .i64 x31_2 ∧ Aside0 (spec_MoveMarks.l0 kq l0 x8_2 l1 (l1.length : Int) x31_2 = some (r1, r2)) ∧ Aside0 (kq ≤ kj3) ∧ Aside0 (Kd.R k34 34 w' w.heap.size (fun _ => True) v8 x8_2) ∧ Aside0 (Below w.heap.size w w'))
    case atStart => exact ⟨(([] : List (S34))), (0), z1, H', ⟨Nat.le_refl _⟩, ⟨y29⟩, ⟨y6⟩⟩
    case round =>
     clear H'
     try clear c1
     try clear bT
     obtain ⟨x8_2, x31_2, rfl, HA, HK2, ci, HB⟩ := hrel
     cases gk with
     | zero => exact absurd HA.out (by simp [spec_MoveMarks.l0])
     | succ k2 =>
      have H := HA.out
      clear HA
      simp only [spec_MoveMarks.l0] at H
      by_cases bU : x31_2 < (l1.length : Int)
      ·rw [if_pos bU] at H
       have c13b0 : decide (x31_2 < (l1.length : Int)) = true := dT bU
       clear bU
       by_cases cO : 0 ≤ x31_2
       ·rw [if_pos cO] at H
        have c14b0 : decide (0 ≤ x31_2) = true := dT cO
        clear cO
        by_cases ce : x31_2 < (l1.length : Int)
        ·rw [if_pos ce] at H
         have c15b0 : decide (x31_2 < (l1.length : Int)) = true := dT ce
         clear ce
         obtain ⟨⟨rz, l4⟩, nP, H⟩ := oA_ H
         try dsimp only at H
         obtain ⟨⟨l3, ry⟩, rk, H⟩ := oA_ H
         try dsimp only at H
         by_cases cJ : l4 < l3
         ·rw [if_pos cJ] at H
          have c18b0 : decide (l4 < l3) = true := dT cJ
          clear cJ
          obtain ⟨pp, A19, H⟩ := oA_ H
          try dsimp only at H
          have H' := aM H
          clear H
          have p600 : 0 ≤ (x31_2 : Int) := oD z2
          have q600 : x31_2 < (l1.length : Int) := oD z2
          obtain ⟨ad600, e600, hx600_0, hx600_1, hx600_2⟩ := at_T34 lp.out x31_2 p600 q600
          cases e600
          replace hx600_0 := hC_ HB.out hx600_0
          replace hx600_1 := hC_ HB.out hx600_1
          replace hx600_2 := hC_ HB.out hx600_2
          replace p600 := eq_true p600
          replace q600 := eq_true q600
          go_wp2_with (first | ((with_reducible refine ay (N := 10) rfl ?_); refine bE_ (N := 10) (cs := #[.int .i64 0, .int .i64 0, .string ⟨#[]⟩]) (t := 34) (h := ?_); intro b3 hg w20 hbox hb; replace ci := aM (af (Kd.R_elderB (kR_ ci.out) b3 (Nat.le_of_eq hg.symm)) hb); have bL := aM (hbox); have GW601 := aM ((zg_ : w.heap.size ≤ b3)); have f3 := aM ((zg_ : w.heap.size ≤ b3)); replace HB := aM (ap z9 hb); clear hb hbox hg; obtain ⟨fu, ft, fq, fc, fb, fa⟩ := cc3 bL.out) | ((with_reducible refine ax (f := 26) rfl ?_); refine aC (some 39) rfl rfl Try.func26 z0 rfl #[.slice A0 l0.length c0, .int .i64 ((so l1 x31_2).f0)] rfl z10 ?_; (with_reducible refine (spec_l5Gap.calls k2 _ _ l0 ((so l1 x31_2).f0) rz l4 _ ?side1 ?side2 nP.out).mono ?_); (case side1 => exact y66); (case side2 => exact y51); rintro e w22 ⟨rfl, hb⟩; refine ⟨_, rfl, ?_⟩; replace ci := aM (af (by (with_reducible repeat (first | apply ac | apply ab | apply aa)); exact (ag (ai (p := ⟨b3, 2, none⟩) (ai (p := ⟨b3, 1, none⟩) (ai (p := ⟨b3, 0, none⟩) (ag ci.out (fun k_ hk => (⟨hk, hk.2⟩ : _ ∧ k_ ≠ b3))) (fun _ hk => hk.2) (.int .i64 ((so l1 x31_2).f0))) (fun _ hk => hk.2) (.int .i64 ((so l1 x31_2).f1))) (fun _ hk => hk.2) (.string ((so l1 x31_2).f2))) (fun _ h_ => h_.1))) hb); replace bL := aM (ae (g := b3) (o := .cells #[.int .i64 ((so l1 x31_2).f0), .int .i64 ((so l1 x31_2).f1), .string ((so l1 x31_2).f2)] 34 (0, 0)) (by (with_reducible repeat (first | refine ak ?_ _ | refine aj ?_ | refine al ?_ _)); refine am (cs := #[.int .i64 ((so l1 x31_2).f0), .int .i64 ((so l1 x31_2).f1), .string ⟨#[]⟩]) ?_ 2 _ rfl; (with_reducible repeat (first | refine ak ?_ _ | refine aj ?_ | refine al ?_ _)); refine am (cs := #[.int .i64 ((so l1 x31_2).f0), .int .i64 0, .string ⟨#[]⟩]) ?_ 1 _ rfl; (with_reducible repeat (first | refine ak ?_ _ | refine aj ?_ | refine al ?_ _)); refine am (cs := #[.int .i64 0, .int .i64 0, .string ⟨#[]⟩]) ?_ 0 _ rfl; (with_reducible repeat (first | refine ak ?_ _ | refine aj ?_ | refine al ?_ _)); exact bL.out) hb); replace HB := aM (ap zb_ hb); (try clear hb); obtain ⟨hcz23_0, hcz23_1, hcz23_2, hfz23_0, hfz23_1, hfz23_2⟩ := cc3 bL.out) | ((with_reducible refine ax (f := 26) rfl ?_); refine aC (some 46) rfl rfl Try.func26 z0 rfl #[.slice A0 l0.length c0, .int .i64 ((so l1 x31_2).f1)] rfl z10 ?_; (with_reducible refine (spec_l5Gap.calls k2 _ _ l0 ((so l1 x31_2).f1) l3 ry _ ?side1 ?side2 rk.out).mono ?_); (case side1 => exact y64); (case side2 => exact y51); rintro e w24 ⟨rfl, hb⟩; refine ⟨_, rfl, ?_⟩; replace ci := aM (af (kR_ ci.out) hb); replace bL := aM (ae (g := b3) (o := .cells #[.int .i64 ((so l1 x31_2).f0), .int .i64 ((so l1 x31_2).f1), .string ((so l1 x31_2).f2)] 34 (0, 0)) (kB_ bL.out) hb); replace HB := aM (ap zb_ hb); (try clear hb); obtain ⟨ed, ec, eb, d4, d3, d2⟩ := cc3 bL.out; obtain ⟨Ao26, co26, eo26⟩ := Kd.R_slice ci.out; subst eo26) | ((with_reducible refine ax (f := 27) rfl ?_); refine aC (some 58) rfl rfl Try.func27 z0 rfl #[.slice Ao26 x8_2.length co26, .agg #[.int .i64 l4, .int .i64 l3, .string ((so l1 x31_2).f2)]] rfl z10 ?_; (with_reducible refine (spec_l5Add.calls k2 _ _ x8_2 l4 l3 ((so l1 x31_2).f2) pp _ ?side1 ?side2 A19.out).mono ?_); (case side1 => repeat (first | exact (ah ci.out).2.2 | (with_reducible refine au ?_ _) | (with_reducible refine av ?_ _) | (with_reducible refine aw ?_))); (case side2 => exact (ah ci.out).2.1); rintro e w27 ⟨v607, rfl, ho0, hb⟩; refine ⟨_, rfl, ?_⟩; have HO608 := aM (aD (Kd.R_newB (Kd.R_new' ho0 (Kd.R_lt (kR_ ci.out))) (g := b3) (o := .cells #[.int .i64 ((so l1 x31_2).f0), .int .i64 ((so l1 x31_2).f1), .string ((so l1 x31_2).f2)] 34 (0, 0)) (kB_ bL.out)) (aq zb_)); replace ci := aM (Kd.R_elder' (kR_ ci.out) (Kd.R_base ho0) hb); replace bL := aM (ae (g := b3) (o := .cells #[.int .i64 ((so l1 x31_2).f0), .int .i64 ((so l1 x31_2).f1), .string ((so l1 x31_2).f2)] 34 (0, 0)) (kB_ bL.out) hb); replace HB := aM (ap zb_ hb); (try clear hb); (try clear ho0)))
          go_roundg k2
          case measure => have := jh.out; have := HK2.out; omega
          case rel => exact ⟨(pp), (wrap64 (x31_2 + 1)), z1, H', ⟨by have := jh.out; have := HK2.out; omega⟩, ⟨kM_ HO608.out (fun _ hk => trivial)⟩, ⟨zb_⟩⟩
         ·rw [if_neg cJ] at H
          have c18b0 : decide (l4 < l3) = false := dF cJ
          clear cJ
          have H' := aM H
          clear H
          have p600 : 0 ≤ (x31_2 : Int) := oD z2
          have q600 : x31_2 < (l1.length : Int) := oD z2
          obtain ⟨ad600, e600, hx600_0, hx600_1, hx600_2⟩ := at_T34 lp.out x31_2 p600 q600
          cases e600
          replace hx600_0 := hC_ HB.out hx600_0
          replace hx600_1 := hC_ HB.out hx600_1
          replace hx600_2 := hC_ HB.out hx600_2
          replace p600 := eq_true p600
          replace q600 := eq_true q600
          go_wp2_with (first | ((with_reducible refine ay (N := 10) rfl ?_); refine bE_ (N := 10) (cs := #[.int .i64 0, .int .i64 0, .string ⟨#[]⟩]) (t := 34) (h := ?_); intro b3 hg w28 hbox hb; replace ci := aM (af (Kd.R_elderB (kR_ ci.out) b3 (Nat.le_of_eq hg.symm)) hb); have bL := aM (hbox); have GW601 := aM ((zg_ : w.heap.size ≤ b3)); have f3 := aM ((zg_ : w.heap.size ≤ b3)); replace HB := aM (ap z9 hb); clear hb hbox hg; obtain ⟨k4, k3, k0, kL, kK, kJ⟩ := cc3 bL.out) | ((with_reducible refine ax (f := 26) rfl ?_); refine aC (some 39) rfl rfl Try.func26 z0 rfl #[.slice A0 l0.length c0, .int .i64 ((so l1 x31_2).f0)] rfl z10 ?_; (with_reducible refine (spec_l5Gap.calls k2 _ _ l0 ((so l1 x31_2).f0) rz l4 _ ?side1 ?side2 nP.out).mono ?_); (case side1 => exact y66); (case side2 => exact y51); rintro e w30 ⟨rfl, hb⟩; refine ⟨_, rfl, ?_⟩; replace ci := aM (af (by (with_reducible repeat (first | apply ac | apply ab | apply aa)); exact (ag (ai (p := ⟨b3, 2, none⟩) (ai (p := ⟨b3, 1, none⟩) (ai (p := ⟨b3, 0, none⟩) (ag ci.out (fun k_ hk => (⟨hk, hk.2⟩ : _ ∧ k_ ≠ b3))) (fun _ hk => hk.2) (.int .i64 ((so l1 x31_2).f0))) (fun _ hk => hk.2) (.int .i64 ((so l1 x31_2).f1))) (fun _ hk => hk.2) (.string ((so l1 x31_2).f2))) (fun _ h_ => h_.1))) hb); replace bL := aM (ae (g := b3) (o := .cells #[.int .i64 ((so l1 x31_2).f0), .int .i64 ((so l1 x31_2).f1), .string ((so l1 x31_2).f2)] 34 (0, 0)) (by (with_reducible repeat (first | refine ak ?_ _ | refine aj ?_ | refine al ?_ _)); refine am (cs := #[.int .i64 ((so l1 x31_2).f0), .int .i64 ((so l1 x31_2).f1), .string ⟨#[]⟩]) ?_ 2 _ rfl; (with_reducible repeat (first | refine ak ?_ _ | refine aj ?_ | refine al ?_ _)); refine am (cs := #[.int .i64 ((so l1 x31_2).f0), .int .i64 0, .string ⟨#[]⟩]) ?_ 1 _ rfl; (with_reducible repeat (first | refine ak ?_ _ | refine aj ?_ | refine al ?_ _)); refine am (cs := #[.int .i64 0, .int .i64 0, .string ⟨#[]⟩]) ?_ 0 _ rfl; (with_reducible repeat (first | refine ak ?_ _ | refine aj ?_ | refine al ?_ _)); exact bL.out) hb); replace HB := aM (ap zb_ hb); (try clear hb); obtain ⟨gz, gy, gx, gl, gj, gi⟩ := cc3 bL.out) | ((with_reducible refine ax (f := 26) rfl ?_); refine aC (some 46) rfl rfl Try.func26 z0 rfl #[.slice A0 l0.length c0, .int .i64 ((so l1 x31_2).f1)] rfl z10 ?_; (with_reducible refine (spec_l5Gap.calls k2 _ _ l0 ((so l1 x31_2).f1) l3 ry _ ?side1 ?side2 rk.out).mono ?_); (case side1 => exact y64); (case side2 => exact y51); rintro e w32 ⟨rfl, hb⟩; refine ⟨_, rfl, ?_⟩; replace ci := aM (af (kR_ ci.out) hb); replace bL := aM (ae (g := b3) (o := .cells #[.int .i64 ((so l1 x31_2).f0), .int .i64 ((so l1 x31_2).f1), .string ((so l1 x31_2).f2)] 34 (0, 0)) (kB_ bL.out) hb); replace HB := aM (ap zb_ hb); (try clear hb)))
          go_roundg k2
          case measure => have := jh.out; have := HK2.out; omega
          case rel => exact ⟨(x8_2), (wrap64 (x31_2 + 1)), z1, H', ⟨by have := jh.out; have := HK2.out; omega⟩, ⟨kM_ ci.out (fun _ hk => trivial)⟩, ⟨zb_⟩⟩
        ·rw [if_neg ce] at H
         exact absurd H (by simp)
       ·rw [if_neg cO] at H
        exact absurd H (by simp)
      ·rw [if_neg bU] at H
       have c13b0 : decide (x31_2 < (l1.length : Int)) = false := dF bU
       clear bU
       simp only [Option.some.injEq, Prod.mk.injEq] at H
       obtain ⟨rfl, rfl⟩ := H
       go_wp2
       go_ret2
       exact ⟨_, y5, by (with_reducible repeat (first | apply ac | apply ab | apply aa)); exact ci.out, y6⟩

/-! ### laws_sameMarks: function 7 -/
def laws_sameMarks.l0 : Nat → List (S34) → List (S34) → Int → Int → Option (Bool)
 | 0, _, _, _, _ => none
 | k + 1, x0, x1, x12, x13 => if x13 < x12 then (if 0 ≤ x13 then (if x13 < (x0.length : Int) then (if x13 < (x1.length : Int) then (if (!(((so x0 x13).f0) == ((so x1 x13).f0)) || (!(((so x0 x13).f1) == ((so x1 x13).f1)) || (!((((so x0 x13).f2).toList) == (((so x1 x13).f2).toList))))) = true then (some false) else (laws_sameMarks.l0 k x0 x1 x12 (wrap64 (x13 + 1)))) else (none)) else (none)) else (none)) else (some true)
def laws_sameMarks.f (k : Nat) (l0 : List (S34)) (l1 : List (S34)) : Option (Bool) := if (l0.length : Int) = (l1.length : Int) then (laws_sameMarks.l0 k l0 l1 (l0.length : Int) 0) else (some false)
theorem laws_sameMarks.mono_l : ∀ k, (∀ y0 y1 y2 y3, LeO (laws_sameMarks.l0 k y0 y1 y2 y3) (laws_sameMarks.l0 (k + 1) y0 y1 y2 y3))
 | 0 => fun _ _ _ _ r h => by simp [laws_sameMarks.l0] at h
 | k + 1 => by
  have ih0 := laws_sameMarks.mono_l k
  ·intro y0 y1 y2 y3
   unfold laws_sameMarks.l0
   with_reducible repeat' first | exact ih0 _ _ _ _ | exact lR_ _ | exact lN_ _ | refine lI_ ?_ ?_ | refine lB_ ?_ fun _ => ?_
theorem laws_sameMarks.mono : ∀ a0 a1 k, LeO (laws_sameMarks.f k a0 a1) (laws_sameMarks.f (k + 1) a0 a1) := by
 intro a0 a1 k
 have ih0 := laws_sameMarks.mono_l k
 unfold laws_sameMarks.f
 with_reducible repeat' first | exact ih0 _ _ _ _ | exact lR_ _ | exact lN_ _ | refine lI_ ?_ ?_ | refine lB_ ?_ fun _ => ?_
theorem laws_sameMarks.calls (k : Nat) (A0 : Option Addr) (c0 : Nat) (l0 : List (S34)) (A1 : Option Addr) (c1 : Nat) (l1 : List (S34)) (r : Bool) (w : World) (hr0 : Kd.C k34 w A0 l0.length l0) (hc0 : l0.length ≤ c0) (hr1 : Kd.C k34 w A1 l1.length l1) (hc1 : l1.length ≤ c1) (h : laws_sameMarks.f k l0 l1 = some r) :
  Calls Try.prog 7 #[.slice A0 l0.length c0, .slice A1 l1.length c1] w fun e w' => e = .returned (.bool r) ∧ Drawn0 w w' := by
 have hu34 := Try.underlying34
 have bH := aM hr0
 have cH := aM hc0
 clear hr0 hc0
 have lp := aM hr1
 have pU := aM hc1
 clear hr1 hc1
 have H : (if (l0.length : Int) = (l1.length : Int) then (laws_sameMarks.l0 k l0 l1 (l0.length : Int) 0) else (some false)) = some r := h
 clear h
 by_cases c3 : (l0.length : Int) = (l1.length : Int)
 ·rw [if_pos c3] at H
  have c3b0 : ((l0.length : Int) == (l1.length : Int)) = true := qT c3
  have c3b1 : ((l0.length : Int) != (l1.length : Int)) = false := nF c3
  have c3b2 : (l0.length == l1.length) = true := by first | simpa using c3 | (simp at c3 ⊢; omega)
  clear c3
  have H' := aM H
  clear H
  go_enter Try.func7, Try.ntmps7
  go_wp2
  repeat (go_quiet (fail); try go_wp2)
  go_loopg [13] k (fun kq v13 w' => ∃ (x13_1 : Int), v13 = .int .i64 x13_1 ∧ Aside0 (laws_sameMarks.l0 kq l0 l1 (l0.length : Int) x13_1 = some r) ∧ Aside0 (kq ≤ k) ∧ Drawn0 w w')
  case atStart => exact ⟨(0), z1, H', ⟨Nat.le_refl _⟩, y4⟩
  case round =>
   clear H'
   try clear c1
   try clear c3
   try clear c3b0
   try clear c3b1
   try clear c3b2
   obtain ⟨x13_1, rfl, HA, HK1, ⟨m1, rfl⟩⟩ := hrel
   cases gk with
   | zero => exact absurd HA.out (by simp [laws_sameMarks.l0])
   | succ k1 =>
    have H := HA.out
    clear HA
    simp only [laws_sameMarks.l0] at H
    by_cases c4 : x13_1 < (l0.length : Int)
    ·rw [if_pos c4] at H
     have c4b0 : decide (x13_1 < (l0.length : Int)) = true := dT c4
     clear c4
     by_cases c5 : 0 ≤ x13_1
     ·rw [if_pos c5] at H
      have c5b0 : decide (0 ≤ x13_1) = true := dT c5
      clear c5
      by_cases c6 : x13_1 < (l0.length : Int)
      ·rw [if_pos c6] at H
       have c6b0 : decide (x13_1 < (l0.length : Int)) = true := dT c6
       clear c6
       by_cases c7 : x13_1 < (l1.length : Int)
       ·rw [if_pos c7] at H
        have c7b0 : decide (x13_1 < (l1.length : Int)) = true := dT c7
        clear c7
        by_cases c8 : (!(((so l0 x13_1).f0) == ((so l1 x13_1).f0)) || (!(((so l0 x13_1).f1) == ((so l1 x13_1).f1)) || (!((((so l0 x13_1).f2).toList) == (((so l1 x13_1).f2).toList))))) = true
        ·rw [if_pos c8] at H
         have c8b0 : (!(((so l0 x13_1).f0) == ((so l1 x13_1).f0)) || (!(((so l0 x13_1).f1) == ((so l1 x13_1).f1)) || (!((((so l0 x13_1).f2).toList) == (((so l1 x13_1).f2).toList))))) = true := c8
         clear c8
         obtain rfl := sI H
         have p609 : 0 ≤ (x13_1 : Int) := oD z2
         have q609 : x13_1 < (l0.length : Int) := oD z2
         obtain ⟨ad609, e609, hx609_0, hx609_1, hx609_2⟩ := at_T34 bH.out x13_1 p609 q609
         cases e609
         replace p609 := eq_true p609
         replace q609 := eq_true q609
         have p610 : 0 ≤ (x13_1 : Int) := oD z2
         have q610 : x13_1 < (l1.length : Int) := oD z2
         obtain ⟨ad610, e610, hx610_0, hx610_1, hx610_2⟩ := at_T34 lp.out x13_1 p610 q610
         cases e610
         replace p610 := eq_true p610
         replace q610 := eq_true q610
         go_wp2
         all_goals (try (exfalso; rename_i h_; rw [c8b0] at h_; cases h_; done))
         repeat (go_quiet (fail); try go_wp2)
         all_goals (try (exfalso; rename_i h_; rw [c8b0] at h_; cases h_; done))
         go_ret
         exact ⟨y2, y4⟩
        ·rw [if_neg c8] at H
         have c8b0 : (!(((so l0 x13_1).f0) == ((so l1 x13_1).f0)) || (!(((so l0 x13_1).f1) == ((so l1 x13_1).f1)) || (!((((so l0 x13_1).f2).toList) == (((so l1 x13_1).f2).toList))))) = false := by simpa using c8
         clear c8
         have H' := aM H
         clear H
         have p609 : 0 ≤ (x13_1 : Int) := oD z2
         have q609 : x13_1 < (l0.length : Int) := oD z2
         obtain ⟨ad609, e609, hx609_0, hx609_1, hx609_2⟩ := at_T34 bH.out x13_1 p609 q609
         cases e609
         replace p609 := eq_true p609
         replace q609 := eq_true q609
         have p610 : 0 ≤ (x13_1 : Int) := oD z2
         have q610 : x13_1 < (l1.length : Int) := oD z2
         obtain ⟨ad610, e610, hx610_0, hx610_1, hx610_2⟩ := at_T34 lp.out x13_1 p610 q610
         cases e610
         replace p610 := eq_true p610
         replace q610 := eq_true q610
         go_wp2
         all_goals (try (exfalso; rename_i h_; rw [c8b0] at h_; cases h_; done))
         repeat (go_quiet (fail); try go_wp2)
         all_goals (try (exfalso; rename_i h_; rw [c8b0] at h_; cases h_; done))
         go_roundg k1
         case measure => have := HK1.out; omega
         case rel => exact ⟨(wrap64 (x13_1 + 1)), z1, H', ⟨y0⟩, y4⟩
       ·rw [if_neg c7] at H
        exact absurd H (by simp)
      ·rw [if_neg c6] at H
       exact absurd H (by simp)
     ·rw [if_neg c5] at H
      exact absurd H (by simp)
    ·rw [if_neg c4] at H
     have c4b0 : decide (x13_1 < (l0.length : Int)) = false := dF c4
     clear c4
     obtain rfl := sI H
     go_wp2
     repeat (go_quiet (fail); try go_wp2)
     go_ret
     exact ⟨y2, y4⟩
 ·rw [if_neg c3] at H
  have c3b0 : ((l0.length : Int) == (l1.length : Int)) = false := qF c3
  have c3b1 : ((l0.length : Int) != (l1.length : Int)) = true := nT c3
  have c3b2 : (l0.length == l1.length) = false := by first | simpa using c3 | (simp at c3 ⊢; omega)
  obtain rfl := sI H
  go_enter Try.func7, Try.ntmps7
  go_wp2
  repeat (go_quiet (fail); try go_wp2)
  go_ret
  exact ⟨y2, y4⟩

/-! ### spec_SizesOf: function 8 -/
def spec_SizesOf.f (k : Nat) (l0 : List (S68)) : Option (Int × Int × Bool) := (spec_GoodOp.f k l0).bind fun n4 => (if n4 = true then ((spec_l3Sizes.f k l0).bind fun lC => (some (lC.1, lC.2, true))) else (some (0, 0, false)))
theorem spec_SizesOf.mono : ∀ a0 k, LeO (spec_SizesOf.f k a0) (spec_SizesOf.f (k + 1) a0) := by
 intro a0 k
 unfold spec_SizesOf.f
 with_reducible repeat' first | exact spec_GoodOp.mono _ _ | exact spec_l3Sizes.mono _ _ | exact lR_ _ | exact lN_ _ | refine lI_ ?_ ?_ | refine lB_ ?_ fun _ => ?_
theorem spec_SizesOf.calls (k : Nat) (A0 : Option Addr) (c0 : Nat) (l0 : List (S68)) (r1 : Int) (r2 : Int) (r3 : Bool) (w : World) (hr0 : Kd.C k68 w A0 l0.length l0) (hc0 : l0.length ≤ c0) (h : spec_SizesOf.f k l0 = some (r1, r2, r3)) :
  Calls Try.prog 8 #[.slice A0 l0.length c0] w fun e w' => e = .returned (.tuple #[.int .i64 r1, .int .i64 r2, .bool r3]) ∧ Below w.heap.size w w' := by
 have bH := aM hr0
 have cH := aM hc0
 clear hr0 hc0
 have HB := aM (Below.refl w.heap.size w)
 have H : ((spec_GoodOp.f k l0).bind fun n4 => (if n4 = true then ((spec_l3Sizes.f k l0).bind fun lC => (some (lC.1, lC.2, true))) else (some (0, 0, false)))) = some (r1, r2, r3) := h
 clear h
 obtain ⟨n4, A2, H⟩ := oA_ H
 try dsimp only at H
 by_cases c3 : n4 = true
 ·subst c3
  rw [if_pos rfl] at H
  obtain ⟨⟨t612, t613⟩, A4, H⟩ := oA_ H
  try dsimp only at H
  simp only [Option.some.injEq, Prod.mk.injEq] at H
  obtain ⟨rfl, rfl, rfl⟩ := H
  go_enter Try.func8, Try.ntmps8
  go_wp2_with (first | ((with_reducible refine ax (f := 24) rfl ?_); refine aC (some 8) rfl rfl Try.func24 z0 rfl #[.slice A0 l0.length c0] rfl z10 ?_; (with_reducible refine (spec_GoodOp.calls k _ _ l0 true _ ?side1 ?side2 A2.out).mono ?_); (case side1 => exact y53); (case side2 => exact y51); rintro e w5 ⟨rfl, hb⟩; refine ⟨_, rfl, ?_⟩; replace HB := aM (ap z9 hb); (try clear hb)) | ((with_reducible refine ax (f := 17) rfl ?_); refine aC (some 12) rfl rfl Try.func17 z0 rfl #[.slice A0 l0.length c0] rfl z10 ?_; (with_reducible refine (spec_l3Sizes.calls k _ _ l0 t612 t613 _ ?side1 ?side2 A4.out).mono ?_); (case side1 => exact y64); (case side2 => exact y51); rintro e w6 ⟨rfl, hb⟩; refine ⟨_, rfl, ?_⟩; replace HB := aM (ap z9 hb); (try clear hb)))
  go_ret3
  exact ⟨y5, y6⟩
 ·replace c3 := Bool.eq_false_iff.mpr c3
  subst c3
  rw [if_neg nF_] at H
  simp only [Option.some.injEq, Prod.mk.injEq] at H
  obtain ⟨rfl, rfl, rfl⟩ := H
  go_enter Try.func8, Try.ntmps8
  go_wp2_with (first | ((with_reducible refine ax (f := 24) rfl ?_); refine aC (some 8) rfl rfl Try.func24 z0 rfl #[.slice A0 l0.length c0] rfl z10 ?_; (with_reducible refine (spec_GoodOp.calls k _ _ l0 false _ ?side1 ?side2 A2.out).mono ?_); (case side1 => exact y53); (case side2 => exact y51); rintro e w7 ⟨rfl, hb⟩; refine ⟨_, rfl, ?_⟩; replace HB := aM (ap z9 hb); (try clear hb)))
  go_ret3
  exact ⟨y5, y6⟩

/-! ### spec_DrawAddMark: function 10 -/
def spec_DrawAddMark.f (k : Nat) (l0 : List Int) : Option ((List (S34)) × Int × Int × Int × ByteArray) := (spec_l1Cur_pick.f l0 0 0 40).bind fun fQ => ((spec_l1Cur_pick.f l0 fQ.2.1 fQ.2.2 (wrap64 (1 + fQ.1))).bind fun ip => ((spec_l1Cur_marks.f k l0 ip.2.1 ip.2.2 (wrap64 (1 + fQ.1))).bind fun jv => ((spec_l1Cur_pick.f l0 jv.2.1 jv.2.2 7).bind fun ju => ((spec_l1Cur_of.f l0 ju.2.1 ju.2.2 (([(⟨#[98, 111, 108, 100]⟩ : ByteArray), (⟨#[101, 109]⟩ : ByteArray), (⟨#[]⟩ : ByteArray), (⟨#[65]⟩ : ByteArray)] : List ByteArray))).bind fun lB => (some (jv.1, wrap64 (1 + fQ.1), ip.1, wrap64 (ip.1 + ju.1), lB.1))))))
theorem spec_DrawAddMark.mono : ∀ a0 k, LeO (spec_DrawAddMark.f k a0) (spec_DrawAddMark.f (k + 1) a0) := by
 intro a0 k
 unfold spec_DrawAddMark.f
 with_reducible repeat' first | exact spec_l1Cur_marks.mono _ _ _ _ _ | exact lR_ _ | exact lN_ _ | refine lI_ ?_ ?_ | refine lB_ ?_ fun _ => ?_
theorem spec_DrawAddMark.calls (k : Nat) (A0 : Option Addr) (c0 : Nat) (l0 : List Int) (r1 : List (S34)) (r2 : Int) (r3 : Int) (r4 : Int) (r5 : ByteArray) (w : World) (hr0 : Kd.C (Kd.int .u8) w A0 l0.length l0) (hc0 : l0.length ≤ c0) (h : spec_DrawAddMark.f k l0 = some (r1, r2, r3, r4, r5)) :
  Calls Try.prog 10 #[.slice A0 l0.length c0] w fun e w' => ∃ v0_ : Value, e = .returned (.tuple #[v0_, .int .i64 r2, .agg #[.int .i64 r3, .int .i64 r4, .string r5]]) ∧ Kd.R k34 34 w' w.heap.size (fun _ => True) v0_ r1 ∧ Below w.heap.size w w' := by
 have hu34 := Try.underlying34
 have hu48 := Try.underlying48
 have bH := aM hr0
 have cH := aM hc0
 clear hr0 hc0
 have HB := aM (Below.refl w.heap.size w)
 have H : ((spec_l1Cur_pick.f l0 0 0 40).bind fun fQ => ((spec_l1Cur_pick.f l0 fQ.2.1 fQ.2.2 (wrap64 (1 + fQ.1))).bind fun ip => ((spec_l1Cur_marks.f k l0 ip.2.1 ip.2.2 (wrap64 (1 + fQ.1))).bind fun jv => ((spec_l1Cur_pick.f l0 jv.2.1 jv.2.2 7).bind fun ju => ((spec_l1Cur_of.f l0 ju.2.1 ju.2.2 (([(⟨#[98, 111, 108, 100]⟩ : ByteArray), (⟨#[101, 109]⟩ : ByteArray), (⟨#[]⟩ : ByteArray), (⟨#[65]⟩ : ByteArray)] : List ByteArray))).bind fun lB => (some (jv.1, wrap64 (1 + fQ.1), ip.1, wrap64 (ip.1 + ju.1), lB.1))))))) = some (r1, r2, r3, r4, r5) := h
 clear h
 obtain ⟨⟨nm, rx, rv⟩, A2, H⟩ := oA_ H
 try dsimp only at H
 obtain ⟨⟨j7, ru, rt⟩, A3, H⟩ := oA_ H
 try dsimp only at H
 obtain ⟨⟨rr, qf, qe⟩, A4, H⟩ := oA_ H
 try dsimp only at H
 obtain ⟨⟨n3, n2, n1⟩, A5, H⟩ := oA_ H
 try dsimp only at H
 obtain ⟨y630, hy630⟩ : ∃ y_ : List ByteArray, y_ = (([(⟨#[98, 111, 108, 100]⟩ : ByteArray), (⟨#[101, 109]⟩ : ByteArray), (⟨#[]⟩ : ByteArray), (⟨#[65]⟩ : ByteArray)] : List ByteArray)) := ⟨_, rfl⟩
 replace H : ((spec_l1Cur_of.f l0 n2 n1 y630).bind fun lB => (some (rr, wrap64 (1 + nm), j7, wrap64 (j7 + n3), lB.1))) = some (r1, r2, r3, r4, r5) := zh_ hy630
 have Ny630 := aM hy630
 clear hy630
 obtain ⟨⟨qd, t634, t635⟩, A6, H⟩ := oA_ H
 try dsimp only at H
 simp only [Option.some.injEq, Prod.mk.injEq] at H
 obtain ⟨rfl, rfl, rfl, rfl, rfl⟩ := H
 go_enter Try.func10, Try.ntmps10
 go_wp2_with (first | ((with_reducible refine ay (N := 4) rfl ?_); refine bE_ (N := 4) (cs := #[.int .i64 0, .int .i64 0, .string ⟨#[]⟩]) (t := 34) (h := ?_); intro cW hg w7 hbox hb; have cf := aM (hbox); have GW614 := aM ((zg_ : w.heap.size ≤ cW)); have fG := aM ((zg_ : w.heap.size ≤ cW)); replace HB := aM (ap z9 hb); clear hb hbox hg) | ((with_reducible refine ay (N := 10) rfl ?_); refine bE_ (N := 10) (cs := #[.slice A0 l0.length c0, .int .i64 0, .int .u64 0]) (t := 48) (h := ?_); intro dO hg w8 hbox hb; have kr := aM (hbox); have GW615 := aM ((zg2_ : w.heap.size ≤ dO)); have GE615 := aM ((zg2_ : w.heap.size ≤ dO)); replace HB := aM (ap zb_ hb); have eh := aM ((by rw [hg]; exact Nat.ne_of_lt (blk_lt (g := cW) (o := .cells #[.int .i64 0, .int .i64 0, .string ⟨#[]⟩] 34 (0, 0)) (kB_ cf.out)) : cW ≠ dO)); have cV := aM ((by rw [hg]; exact Nat.ne_of_gt (blk_lt (g := cW) (o := .cells #[.int .i64 0, .int .i64 0, .string ⟨#[]⟩] 34 (0, 0)) (kB_ cf.out)) : dO ≠ cW)); replace cf := aM (ae (g := cW) (o := .cells #[.int .i64 0, .int .i64 0, .string ⟨#[]⟩] 34 (0, 0)) (kB_ cf.out) hb); clear hb hbox hg) | ((with_reducible refine ax (f := 29) rfl ?_); refine aC (some 12) rfl rfl Try.func29 z0 rfl #[.pointer (some ⟨dO, 0, none⟩), .int .i64 40] rfl z10 ?_; (with_reducible refine (spec_l1Cur_pick.calls dO l0 0 0 40 nm rx rv w _ ?side1 ?side2 A2.out).mono ?_); (case side1 => exact ⟨_, _, by (with_reducible repeat (first | refine ak ?_ _ | refine aj ?_ | refine al ?_ _)); exact kr.out, GE615.out, bH.out⟩); (case side2 => exact y67); rintro e w9 ⟨rfl, hi, hb, hk⟩; refine ⟨_, rfl, ?_⟩; replace cf := aM (KeepBut.blk hk (g' := cW) (o := .cells #[.int .i64 0, .int .i64 0, .string ⟨#[]⟩] 34 (0, 0)) (kB_ cf.out) eh.out (by simp)); replace HB := aM hb; have HI615 := aM (hi); (try clear hb hk hi); (try clear kr)) | ((with_reducible refine ax (f := 29) rfl ?_); refine aC (some 16) rfl rfl Try.func29 z0 rfl #[.pointer (some ⟨dO, 0, none⟩), .int .i64 (wrap64 (1 + nm))] rfl z10 ?_; (with_reducible refine (spec_l1Cur_pick.calls dO l0 rx rv (wrap64 (1 + nm)) j7 ru rt w _ ?side1 ?side2 A3.out).mono ?_); (case side1 => exact y70); (case side2 => exact y67); rintro e w10 ⟨rfl, hi, hb, hk⟩; refine ⟨_, rfl, ?_⟩; replace cf := aM (KeepBut.blk hk (g' := cW) (o := .cells #[.int .i64 0, .int .i64 0, .string ⟨#[]⟩] 34 (0, 0)) (kB_ cf.out) eh.out (by simp)); replace HB := aM hb; replace HI615 := aM (hi); (try clear hb hk hi); (try clear kr)) | ((with_reducible refine ax (f := 18) rfl ?_); refine aC (some 19) rfl rfl Try.func18 z0 rfl #[.pointer (some ⟨dO, 0, none⟩), .int .i64 (wrap64 (1 + nm))] rfl z10 ?_; (with_reducible refine (spec_l1Cur_marks.calls k dO l0 ru rt (wrap64 (1 + nm)) rr qf qe w _ ?side1 ?side2 A4.out).mono ?_); (case side1 => exact y70); (case side2 => exact y67); rintro e w11 ⟨v623, rfl, ho0, hi, hb, hk⟩; refine ⟨_, rfl, ?_⟩; have gO := aM (aD (Kd.R_newB ho0 (g := cW) (o := .cells #[.int .i64 0, .int .i64 0, .string ⟨#[]⟩] 34 (0, 0)) (kB_ cf.out)) (aq (by repeat (first | (with_reducible first | exact HB.out | apply bA | apply pD | apply bD | refine ao ?_ (IsS48.ge HI615.out) | refine ao ?_ fG.out) | exact HB.out)))); replace cf := aM (KeepBut.blk hk (g' := cW) (o := .cells #[.int .i64 0, .int .i64 0, .string ⟨#[]⟩] 34 (0, 0)) (kB_ cf.out) eh.out (by simp)); replace HB := aM hb; replace HI615 := aM (hi); (try clear hb hk hi); (try clear ho0); (try clear kr)) | ((with_reducible refine ax (f := 29) rfl ?_); refine aC (some 24) rfl rfl Try.func29 z0 rfl #[.pointer (some ⟨dO, 0, none⟩), .int .i64 7] rfl z10 ?_; (with_reducible refine (spec_l1Cur_pick.calls dO l0 qf qe 7 n3 n2 n1 w _ ?side1 ?side2 A5.out).mono ?_); (case side1 => exact y70); (case side2 => exact y67); rintro e w12 ⟨rfl, hi, hb, hk⟩; refine ⟨_, rfl, ?_⟩; replace cf := aM (KeepBut.blk hk (g' := cW) (o := .cells #[.int .i64 0, .int .i64 0, .string ⟨#[]⟩] 34 (0, 0)) (kB_ cf.out) eh.out (by simp)); replace gO := aM (ag (Kd.R_keep (IsS48.apart (show IsS48 w _ dO l0 qf qe from by (try simp only [Int.add_zero]); repeat (first | (with_reducible first | exact HI615.out | apply IsS48.alloc | apply IsS48.drewN | apply IsS48.drew | apply IsS48.set_1 | apply IsS48.set_2 | refine IsS48.far ?_ cV.out _) | exact HI615.out)) (kR_ gO.out) (by decide)) hk (fun _ h => h.2)) (fun _ h => h.1)); replace HB := aM hb; replace HI615 := aM (hi); (try clear hb hk hi); (try clear kr)) | ((with_reducible refine ay (N := 27) rfl ?_); refine Kd.R_lit Kd.string _ 9 ?hg (N := 27) ?hd (xs := ([(⟨#[98, 111, 108, 100]⟩ : ByteArray), (⟨#[101, 109]⟩ : ByteArray), (⟨#[]⟩ : ByteArray), (⟨#[65]⟩ : ByteArray)] : List ByteArray)) (inner := [.string (⟨#[98, 111, 108, 100]⟩ : ByteArray), .string (⟨#[101, 109]⟩ : ByteArray), .string ⟨#[]⟩, .string (⟨#[65]⟩ : ByteArray)]) (ok := fun _ => True) (okp := fun _ => True) ?hr ?hp (fun _ hk => hk) trivial (Below.refl _ _) (Nat.le_refl _) (by simp) ?_; (case hd => rfl); (case hg => rfl); (case hr => first | (go_simp; done) | (go_simp; rfl)); (case hp => exact (Reps.one (show Kd.M Kd.string _ _ _ (⟨#[98, 111, 108, 100]⟩ : ByteArray) [.string (⟨#[98, 111, 108, 100]⟩ : ByteArray)] from rfl) (Reps.one (show Kd.M Kd.string _ _ _ (⟨#[101, 109]⟩ : ByteArray) [.string (⟨#[101, 109]⟩ : ByteArray)] from rfl) (Reps.one (show Kd.M Kd.string _ _ _ (⟨#[]⟩ : ByteArray) [.string ⟨#[]⟩] from rfl) (Reps.one (show Kd.M Kd.string _ _ _ (⟨#[65]⟩ : ByteArray) [.string (⟨#[65]⟩ : ByteArray)] from rfl) (Reps.none _ _)))))); intro v631 w13 ho14 hb hg_ hnew_; clear hg_ hnew_; (first | rw [← Ny630.out] at ho14 | (simp only [Int.reduceToNat] at ho14; rw [← Ny630.out] at ho14)); replace gO := aM (af (kR_ gO.out) hb); have jL := aM (aD ho14 (aq (by repeat (first | (with_reducible first | exact HB.out | apply bA | apply pD | apply bD | refine ao ?_ (IsS48.ge HI615.out) | refine ao ?_ fG.out) | exact HB.out)))); replace cf := aM (ae (g := cW) (o := .cells #[.int .i64 0, .int .i64 0, .string ⟨#[]⟩] 34 (0, 0)) (kB_ cf.out) hb); replace HB := aM (ap (by repeat (first | (with_reducible first | exact HB.out | apply bA | apply pD | apply bD | refine ao ?_ (IsS48.ge HI615.out) | refine ao ?_ fG.out) | exact HB.out)) hb); replace HI615 := aM (IsS48.below (by (try simp only [Int.add_zero]); repeat (first | (with_reducible first | exact HI615.out | apply IsS48.alloc | apply IsS48.drewN | apply IsS48.drew | apply IsS48.set_1 | apply IsS48.set_2 | refine IsS48.far ?_ cV.out _) | exact HI615.out)) hb); clear hb ho14; obtain ⟨sU, sJ, eo15⟩ := Kd.R_slice jL.out; subst eo15) | ((with_reducible refine ax (f := 30) rfl ?_); refine aC (some 28) rfl rfl Try.func30 z0 rfl #[.pointer (some ⟨dO, 0, none⟩), .slice sU y630.length sJ] rfl z10 ?_; (with_reducible refine (spec_l1Cur_of.calls dO l0 n2 n1 _ _ y630 qd t634 t635 w _ ?side1 ?side2 ?side3 ?side4 ?side5 A6.out).mono ?_); (case side1 => exact y70); (case side2 => exact y67); (case side3 => repeat (first | exact (ah jL.out).2.2 | (with_reducible refine au ?_ _) | (with_reducible refine av ?_ _) | (with_reducible refine aw ?_))); (case side4 => exact (ah jL.out).2.1); (case side5 => exact far_slice (IsS48.own_ne HI615.out jL.out (by decide))); rintro e w16 ⟨rfl, hi, hb, hk⟩; refine ⟨_, rfl, ?_⟩; replace cf := aM (KeepBut.blk hk (g' := cW) (o := .cells #[.int .i64 0, .int .i64 0, .string ⟨#[]⟩] 34 (0, 0)) (kB_ cf.out) eh.out (by simp)); replace gO := aM (ag (Kd.R_keep (IsS48.apart (show IsS48 w _ dO l0 n2 n1 from by (try simp only [Int.add_zero]); repeat (first | (with_reducible first | exact HI615.out | apply IsS48.alloc | apply IsS48.drewN | apply IsS48.drew | apply IsS48.set_1 | apply IsS48.set_2 | refine IsS48.far ?_ cV.out _) | exact HI615.out)) (kR_ gO.out) (by decide)) hk (fun _ h => h.2)) (fun _ h => h.1)); replace jL := aM (ag (Kd.R_keep (IsS48.apart (show IsS48 w _ dO l0 n2 n1 from by (try simp only [Int.add_zero]); repeat (first | (with_reducible first | exact HI615.out | apply IsS48.alloc | apply IsS48.drewN | apply IsS48.drew | apply IsS48.set_1 | apply IsS48.set_2 | refine IsS48.far ?_ cV.out _) | exact HI615.out)) (kR_ jL.out) (by decide)) hk (fun _ h => h.2)) (fun _ h => h.1)); replace HB := aM hb; replace HI615 := aM (hi); (try clear hb hk hi); (try clear kr); have hnb17 := eh.out; have hnc17 := cV.out; obtain ⟨fx, fw, fv, ff, fe, fd⟩ := cc3 cf.out))
 refine bodyPost_ret (results_list (rs := [.tmp 2, .tmp 3, .cell 4 34]) rfl (by simp) (.tmp (.tmp (.cell cW 34 #[.int .i64 j7, .int .i64 (wrap64 (j7 + n3)), .string qd] (0, 0) _ rfl (by (with_reducible repeat (first | refine ak ?_ _ | refine aj ?_ | refine al ?_ _)); refine am (cs := #[.int .i64 j7, .int .i64 (wrap64 (j7 + n3)), .string ⟨#[]⟩]) ?_ 2 _ rfl; (with_reducible repeat (first | refine ak ?_ _ | refine aj ?_ | refine al ?_ _)); refine am (cs := #[.int .i64 j7, .int .i64 0, .string ⟨#[]⟩]) ?_ 1 _ rfl; (with_reducible repeat (first | refine ak ?_ _ | refine aj ?_ | refine al ?_ _)); refine am (cs := #[.int .i64 0, .int .i64 0, .string ⟨#[]⟩]) ?_ 0 _ rfl; (with_reducible repeat (first | refine ak ?_ _ | refine aj ?_ | refine al ?_ _)); exact cf.out) Try.underlying34 rfl z0 .nil)))) rfl ?_
 exact ⟨_, y5, by (with_reducible repeat (first | apply ac | apply ab | apply aa)); exact ag (ai (p := ⟨cW, 2, none⟩) (ai (p := ⟨cW, 1, none⟩) (ai (p := ⟨cW, 0, none⟩) (ag gO.out (fun k_ hk => (⟨hk, hk.2⟩ : _ ∧ k_ ≠ cW))) (fun _ hk => hk.2) (.int .i64 j7)) (fun _ hk => hk.2) (.int .i64 (wrap64 (j7 + n3)))) (fun _ hk => hk.2) (.string qd)) (fun _ hk => trivial), by repeat (first | (with_reducible first | exact HB.out | apply bA | apply pD | apply bD | refine ao ?_ (IsS48.ge HI615.out) | refine ao ?_ fG.out) | exact HB.out)⟩

end Go.Proofs.Ytjbllgdehpomiaa.AFnMarks
