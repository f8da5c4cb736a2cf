-- this session's own text: written by wip/tools/ownprint.py over the kit's print
import Derived.Test.YtifllccpfiobfaaAFnExactMergeThreex0
import Derived.Test.YtifllccpfiobfaaAFnExactMergeThreex9
import Derived.Test.YtifllccpfiobfaaAFnExactMergeThreex10
import Derived.Test.YtifllccpfiobfaaAFnExactMergeThreex11
namespace Go.Proofs.Ytifllccpfiobfaa.AFnExactMergeThree
open Go.RowKit Go.Proofs.YtifllccpfiobfaaW.PrintWords Go.Proofs.YtifllccpfiobfaaW.PrintLast Go.Proofs.YtifllccpfiobfaaW.PrintMore
attribute [local go_sem] max2_int min2_int max_two min_two max_three min_three max_four min_four   -- for this text's walks alone
set_option linter.unusedVariables false
set_option linter.unusedSimpArgs false

/-! ### impl_DiffOps: function 9, by hand -/
theorem R_mkto {α : Type} {d : Kd α} {e : Nat} {base : Nat} {ok : Nat → Prop} {u : Value} {xs : List α} {w0 w1 w2 : World} {g : Nat} {v v' : Value} {out : List S44} {put drop : ByteArray} (h : d.R e w1 base ok u xs) (hm : Mk w0 w1 g v out put drop) (ht : MkTo w1 w2 g v v') (hT : ∀ q, q ∈ e :: d.E → q ≠ 39) (hS : ∀ q, q ∈ e :: d.E → q ≠ 44) : d.R e w2 base ok u xs :=
 af (Kd.R_kept (Kd.R_apart' (Kd.R_types h hm.1 hT) (Kd.R_typed hm.2.1) hS) ht.1 (fun k hk hs => by
  rcases hs with hs | hs
  ·exact hk.1.2 hs
  ·exact hk.2 hs)) (fun _ hk => hk.1.1)
def dif (a b : ByteArray) (t : List (List Int)) : Nat → List S44 → ByteArray → ByteArray → Nat → Nat → Option (List S44)
 | 0, _, _, _, _, _ => none
 | d + 1, out, put, drop, i, j =>
  if i < a.size ∨ j < b.size then
   (if out.length + 3 ≤ 3518437208883 ∧ put.size + 1 ≤ 9223372036854775807 ∧ drop.size + 1 ≤ 9223372036854775807 then
    (if i < a.size then
     (if j < b.size ∧ bt a (i : Int) = bt b (j : Int) then dif a b t d (kO out put drop 1) ⟨#[]⟩ ⟨#[]⟩ (i + 1) (j + 1)
     else (if i + 1 < t.length ∧ j < (rd_L1 t ((i : Int) + 1)).length ∧ j < (rd_L1 t (i : Int)).length then
       (if rd (rd_L1 t ((i : Int) + 1)) (j : Int) = rd (rd_L1 t (i : Int)) (j : Int) then dif a b t d out (put ++ ⟨#[]⟩) (drop ++ a.extract i (i + 1)) (i + 1) j
       else (if j < b.size then dif a b t d out (put ++ b.extract j (j + 1)) (drop ++ ⟨#[]⟩) i (j + 1) else none))
      else none))
    else dif a b t d out (put ++ b.extract j (j + 1)) (drop ++ ⟨#[]⟩) i (j + 1))
   else none)
  else (if out.length + 3 ≤ 3518437208883 then some (out ++ ends put drop) else none)
def impl_DiffOps.f (k : Nat) (a0 : ByteArray) (a1 : ByteArray) : Option (List S44 × Bool) := if a0.size + a1.size < 4611686018427387904 then (impl_areTexts.f k a0 a1).bind fun t => (if t = true then ((impl_common.f k a0 a1).bind fun tb => (dif a0 a1 tb (a0.size + a1.size + 1) [] ⟨#[]⟩ ⟨#[]⟩ 0 0).bind fun op => impl_goodOp.f k op) else some ([], false)) else none
def DifAt (w : World) (g : Nat) (a b : ByteArray) (tb : List (List Int)) (vt : Value) (op : List S44) (d : Nat) (v8 v9 : Value) (w' : World) : Prop :=
 ∃ (i j : Nat) (v : Value) (out : List S44) (put drop : ByteArray), v8 = .int .i64 i ∧ v9 = .int .i64 j ∧ i ≤ a.size ∧ j ≤ b.size ∧ Mk w w' g v out put drop ∧ Kd.R (Kd.slice 3 (Kd.int .i64)) 41 w' w.heap.size (fun _ => True) vt tb ∧ dif a b tb d out put drop i j = some op
set_option maxHeartbeats 8000000 in
set_option maxRecDepth 100000 in
theorem impl_DiffOps.calls (k : Nat) (a0 : ByteArray) (a1 : ByteArray) (r1 : List S44) (r2 : Bool) (w : World) (h : impl_DiffOps.f k a0 a1 = some (r1, r2)) :
  Calls Try.prog 9 #[.string a0, .string a1] w fun e w' => ∃ v0_ : Value, e = .returned (.tuple #[v0_, .bool r2]) ∧ Kd.R k44 44 w' w.heap.size (fun _ => True) v0_ r1 ∧ Below w.heap.size w w' := by
 unfold impl_DiffOps.f at h
 split at h
 case isFalse => cases h
 case isTrue hsz =>
 obtain ⟨t, ht, h⟩ := oB h
 have HT := aM ht
 cases t with
 | false =>
  simp only [Bool.false_eq_true, if_false, Option.some.injEq, Prod.mk.injEq] at h
  obtain ⟨rfl, rfl⟩ := h
  clear ht hsz
  go_enter Try.func9, Try.ntmps9
  go_wp2_with (first | (go_at_call 19; refine (impl_areTexts.calls k a0 a1 false _ HT.out).mono ?_; rintro e w' ⟨rfl, ⟨nd, rfl⟩⟩))
  go_ret2
  exact ⟨_, rfl, Kd.R_nil _ _ _ _ _, Drawn0.below ⟨_, rfl⟩⟩
 | true =>
  simp only [if_true] at h
  obtain ⟨tb, htb, h⟩ := oB h
  obtain ⟨op, hop, h⟩ := oB h
  have HTB := aM htb
  have HOP := aM hop
  have HG := aM h
  have HSZ := aM hsz
  clear ht htb hop h hsz
  go_enter Try.func9, Try.ntmps9
  go_wp2_with (first | (go_at_call 19; refine (impl_areTexts.calls k a0 a1 true _ HT.out).mono ?_; rintro e w' ⟨rfl, ⟨nd, rfl⟩⟩) | (go_at_call 20; refine (impl_common.calls k a0 a1 tb _ HTB.out).mono ?_; rintro e w1 ⟨vt, rfl, hst, hb1⟩; have HST := aM (aH (Kd.S_R hst) (Nat.le_refl w.heap.size)); have HB1 : Aside0 (Below w.heap.size w w1) := ⟨ap (pD (Below.refl _ _) _) hb1⟩; clear hst hb1))
  obtain ⟨At, ct, eo⟩ := Kd.R_slice HST.out
  subst eo
  have HM0 : Aside0 (Mk w (w1.alloc (.cells #[.slice none 0 0, .string ⟨#[]⟩, .string ⟨#[]⟩] 39)) w1.heap.size (.slice none 0 0) [] ⟨#[]⟩ ⟨#[]⟩) := ⟨⟨heap_alloc_new w1 _, Kd.R_nil _ _ _ _ _, bA HB1.out _, HB1.out.size⟩⟩
  have HS0 := aM (ac HST.out (.cells #[.slice none 0 0, .string ⟨#[]⟩, .string ⟨#[]⟩] 39))
  go_loopg [8, 9] (a0.size + a1.size + 1) (fun d v8 v9 w' => DifAt w w1.heap.size a0 a1 tb (.slice At tb.length ct) op d v8 v9 w')
  case atStart => exact ⟨0, 0, _, _, _, _, rfl, rfl, Nat.zero_le _, Nat.zero_le _, HM0.out, HS0.out, HOP.out⟩
  case round =>
   obtain ⟨i, j, v, out, put, drop, rfl, rfl, hi, hj, hm, htb, hd⟩ := hrel
   have HM := aM hm
   have HTB := aM htb
   have HWI : Aside0 (wrap64 ((i : Int) + 1) = ((i + 1 : Nat) : Int)) := ⟨by have := HSZ.out; unfold wrap64; omega⟩
   have HWJ : Aside0 (wrap64 ((j : Int) + 1) = ((j + 1 : Nat) : Int)) := ⟨by have := HSZ.out; unfold wrap64; omega⟩
   cases gk with
   | zero => exact absurd hd (by simp [dif])
   | succ k1 =>
   unfold dif at hd
   by_cases hx : i < a0.size ∨ j < a1.size
   ·rw [if_pos hx] at hd
    split at hd
    case isFalse => cases hd
    case isTrue hlt =>
    obtain ⟨hl1, hl2, hl3⟩ := hlt
    have H1 := aM hl1
    have H2 := aM hl2
    have H3 := aM hl3
    by_cases ha0 : i < a0.size
    ·rw [if_pos ha0] at hd
     by_cases hK : j < a1.size ∧ bt a0 (i : Int) = bt a1 (j : Int)
     ·rw [if_pos hK] at hd
      obtain ⟨ha1, hbt⟩ := hK
      have HN := aM hd
      have hbb : (bt a0 (i : Int) == bt a1 (j : Int)) = true := qT hbt
      have pa0 : decide (i < a0.size) = true := dT ha0
      have za0 : (0 ≤ (i : Int)) = True := eq_true (by omega)
      have xa0 : ∀ h : i < a0.size, ((a0[i]'h).toNat : Int) = bt a0 (i : Int) := fun h => by have := bt_at a0 (i : Int); simp only [aI] at this; exact this h
      have pa1 : decide (j < a1.size) = true := dT ha1
      have za1 : (0 ≤ (j : Int)) = True := eq_true (by omega)
      have xa1 : ∀ h : j < a1.size, ((a1[j]'h).toNat : Int) = bt a1 (j : Int) := fun h => by have := bt_at a1 (j : Int); simp only [aI] at this; exact this h
      clear hd hm htb hbt hx hl1 hl2 hl3
      go_wp2
      repeat (go_quiet (fail); try go_wp2_with (first | (go_at_call 21; refine (mk_keep w _ _ v out put drop 1 (by first | exact HM.out.drewN _ | exact HM.out) H1.out).mono ?_; rintro e w2 ⟨rfl, v2, h2_, ht2⟩; have HM2 := aM h2_; have HT2 := aM (R_mkto (by first | exact ab HTB.out _ | exact HTB.out) (by first | exact HM.out.drewN _ | exact HM.out) ht2 (by decide) (by decide)); clear h2_ ht2)))
      go_roundg k1
      case measure => omega
      case rel => exact ⟨i + 1, j + 1, _, _, _, _, by rw [HWI.out], by rw [HWJ.out], by omega, by omega, HM2.out, HT2.out, HN.out⟩
     ·rw [if_neg hK] at hd
      split at hd
      case isFalse => cases hd
      case isTrue hg =>
      obtain ⟨hg1, hg2, hg3⟩ := hg
      by_cases hj0 : j < a1.size
      ·have hbt : ¬ bt a0 (i : Int) = bt a1 (j : Int) := fun e => hK ⟨hj0, e⟩
       have hbb : (bt a0 (i : Int) == bt a1 (j : Int)) = false := qF hbt
       have ha1 := hj0
       have pa0 : decide (i < a0.size) = true := dT ha0
       have za0 : (0 ≤ (i : Int)) = True := eq_true (by omega)
       have xa0 : ∀ h : i < a0.size, ((a0[i]'h).toNat : Int) = bt a0 (i : Int) := fun h => by have := bt_at a0 (i : Int); simp only [aI] at this; exact this h
       have pa1 : decide (j < a1.size) = true := dT ha1
       have za1 : (0 ≤ (j : Int)) = True := eq_true (by omega)
       have xa1 : ∀ h : j < a1.size, ((a1[j]'h).toNat : Int) = bt a1 (j : Int) := fun h => by have := bt_at a1 (j : Int); simp only [aI] at this; exact this h
       clear hbt
       go_wp2
       go_quiet (fail)
       go_wp2
       obtain ⟨s, hs⟩ : ∃ s : Int, (i : Int) + 1 = s := ⟨_, rfl⟩
       rw [hs] at hd hg2
       have hs0 : 0 ≤ s := by omega
       have hs1 : s < (tb.length : Int) := by omega
       obtain ⟨ad, A1, c1, e1, t1, l1, g1⟩ := at_L1 (ag HTB.out).2.2 s hs0 hs1
       obtain ⟨ad', A2, c2, e2, t2, l2, g2⟩ := at_L1 (ag HTB.out).2.2 (i : Int) (by omega) (by omega)
       obtain rfl := e1
       obtain rfl := sI e2
       obtain ⟨b1, f1, r1⟩ := Kd.at_int g1 (j : Int) (by omega) (by omega)
       obtain ⟨b2, f2, r2⟩ := Kd.at_int g2 (j : Int) (by omega) (by omega)
       simp only [aI] at t2 r1 r2
       have hw1 : IntKind.i64.wrap ((i : Int) + 1) = s := (i64_w _).trans (HWI.out.trans (by omega))
       replace hs0 := eq_true hs0
       replace hs1 := eq_true hs1
       have q3 : (j < (rd_L1 tb s).length) = True := eq_true hg2
       have q4 : (j < (rd_L1 tb (i : Int)).length) = True := eq_true hg3
       have q5 : (i < tb.length) = True := eq_true (by omega)
       obtain rfl := f1
       obtain rfl := f2
       clear e2 g1 g2 l1 l2
       by_cases hE : rd (rd_L1 tb s) (j : Int) = rd (rd_L1 tb (i : Int)) (j : Int)
       ·rw [if_pos hE] at hd
        have HN := aM hd
        have hEb : (rd (rd_L1 tb s) (j : Int) == rd (rd_L1 tb (i : Int)) (j : Int)) = true := qT hE
        have SE : Aside0 ((a0.extract i s.toNat).size = 1) := ⟨by rw [aK]; omega⟩
        have HSI : Aside0 (s = ((i + 1 : Nat) : Int)) := ⟨by omega⟩
        have HSN : Aside0 (s.toNat = i + 1) := ⟨by omega⟩
        have hsl1 : ((i : Int) ≤ s) = True := eq_true (by omega)
        have hsl2 : (s ≤ (a0.size : Int)) = True := eq_true (by omega)
        clear hd hm htb hE hx hl1 hl2 hl3 hg1 hg2 hg3 hK hs
        go_quiet (fail)
        go_wp2_with (first | (go_at_call 22; refine (mk_take w _ _ v out put drop (⟨0, (⟨#[]⟩ : ByteArray), (a0.extract i s.toNat)⟩ : S44) (by first | exact HM.out.drewN _ | exact HM.out) H1.out ?_ ?_).mono ?_; (case refine_1 => exact by show put.size + 0 ≤ _; have := H2.out; omega); (case refine_2 => exact by show drop.size + (a0.extract i s.toNat).size ≤ _; rw [SE.out]; exact H3.out); rintro e w2 ⟨rfl, v2, h2_, ht2⟩; have HM2 := aM h2_; have HT2 := aM (R_mkto (by first | exact ab HTB.out _ | exact HTB.out) (by first | exact HM.out.drewN _ | exact HM.out) ht2 (by decide) (by decide)); clear h2_ ht2))
        rw [HSN.out] at HM2
        go_roundg k1
        case measure => omega
        case rel => exact ⟨i + 1, j, _, _, _, _, by first | rw [HSI.out] | rw [HWI.out] | go_num, rfl, by omega, by omega, HM2.out, HT2.out, HN.out⟩
       ·rw [if_neg hE] at hd
        rw [if_pos hj0] at hd
        have HN := aM hd
        have hEb : (rd (rd_L1 tb s) (j : Int) == rd (rd_L1 tb (i : Int)) (j : Int)) = false := qF hE
        obtain ⟨sj, hsj⟩ : ∃ s : Int, (j : Int) + 1 = s := ⟨_, rfl⟩
        have hwj : IntKind.i64.wrap ((j : Int) + 1) = sj := (i64_w _).trans (HWJ.out.trans (by omega))
        have HSJ : Aside0 (sj = ((j + 1 : Nat) : Int)) := ⟨by omega⟩
        have HSN : Aside0 (sj.toNat = j + 1) := ⟨by omega⟩
        have hsl1 : ((j : Int) ≤ sj) = True := eq_true (by omega)
        have hsl2 : (sj ≤ (a1.size : Int)) = True := eq_true (by omega)
        have SE : Aside0 ((a1.extract j sj.toNat).size = 1) := ⟨by rw [aK]; omega⟩
        clear hsj
        clear hd hm htb hE hx hl1 hl2 hl3 hg1 hg2 hg3 hK hs
        go_quiet (fail)
        go_wp2_with (first | (go_at_call 22; refine (mk_take w _ _ v out put drop (⟨0, (a1.extract j sj.toNat), (⟨#[]⟩ : ByteArray)⟩ : S44) (by first | exact HM.out.drewN _ | exact HM.out) H1.out ?_ ?_).mono ?_; (case refine_1 => exact by show put.size + (a1.extract j sj.toNat).size ≤ _; rw [SE.out]; exact H2.out); (case refine_2 => exact by show drop.size + 0 ≤ _; have := H3.out; omega); rintro e w2 ⟨rfl, v2, h2_, ht2⟩; have HM2 := aM h2_; have HT2 := aM (R_mkto (by first | exact ab HTB.out _ | exact HTB.out) (by first | exact HM.out.drewN _ | exact HM.out) ht2 (by decide) (by decide)); clear h2_ ht2))
        rw [HSN.out] at HM2
        go_roundg k1
        case measure => omega
        case rel => exact ⟨i, j + 1, _, _, _, _, rfl, by first | rw [HSJ.out] | rw [HWJ.out] | go_num, by omega, by omega, HM2.out, HT2.out, HN.out⟩
      ·have pa1 : decide (j < a1.size) = false := dF hj0
       have pa0 : decide (i < a0.size) = true := dT ha0
       go_wp2
       go_quiet (fail)
       go_wp2
       obtain ⟨s, hs⟩ : ∃ s : Int, (i : Int) + 1 = s := ⟨_, rfl⟩
       rw [hs] at hd hg2
       have hs0 : 0 ≤ s := by omega
       have hs1 : s < (tb.length : Int) := by omega
       obtain ⟨ad, A1, c1, e1, t1, l1, g1⟩ := at_L1 (ag HTB.out).2.2 s hs0 hs1
       obtain ⟨ad', A2, c2, e2, t2, l2, g2⟩ := at_L1 (ag HTB.out).2.2 (i : Int) (by omega) (by omega)
       obtain rfl := e1
       obtain rfl := sI e2
       obtain ⟨b1, f1, r1⟩ := Kd.at_int g1 (j : Int) (by omega) (by omega)
       obtain ⟨b2, f2, r2⟩ := Kd.at_int g2 (j : Int) (by omega) (by omega)
       simp only [aI] at t2 r1 r2
       have hw1 : IntKind.i64.wrap ((i : Int) + 1) = s := (i64_w _).trans (HWI.out.trans (by omega))
       replace hs0 := eq_true hs0
       replace hs1 := eq_true hs1
       have q3 : (j < (rd_L1 tb s).length) = True := eq_true hg2
       have q4 : (j < (rd_L1 tb (i : Int)).length) = True := eq_true hg3
       have q5 : (i < tb.length) = True := eq_true (by omega)
       obtain rfl := f1
       obtain rfl := f2
       clear e2 g1 g2 l1 l2
       by_cases hE : rd (rd_L1 tb s) (j : Int) = rd (rd_L1 tb (i : Int)) (j : Int)
       ·rw [if_pos hE] at hd
        have HN := aM hd
        have hEb : (rd (rd_L1 tb s) (j : Int) == rd (rd_L1 tb (i : Int)) (j : Int)) = true := qT hE
        have SE : Aside0 ((a0.extract i s.toNat).size = 1) := ⟨by rw [aK]; omega⟩
        have HSI : Aside0 (s = ((i + 1 : Nat) : Int)) := ⟨by omega⟩
        have HSN : Aside0 (s.toNat = i + 1) := ⟨by omega⟩
        have hsl1 : ((i : Int) ≤ s) = True := eq_true (by omega)
        have hsl2 : (s ≤ (a0.size : Int)) = True := eq_true (by omega)
        clear hd hm htb hE hx hl1 hl2 hl3 hg1 hg2 hg3 hK hs
        go_quiet (fail)
        go_wp2_with (first | (go_at_call 22; refine (mk_take w _ _ v out put drop (⟨0, (⟨#[]⟩ : ByteArray), (a0.extract i s.toNat)⟩ : S44) (by first | exact HM.out.drewN _ | exact HM.out) H1.out ?_ ?_).mono ?_; (case refine_1 => exact by show put.size + 0 ≤ _; have := H2.out; omega); (case refine_2 => exact by show drop.size + (a0.extract i s.toNat).size ≤ _; rw [SE.out]; exact H3.out); rintro e w2 ⟨rfl, v2, h2_, ht2⟩; have HM2 := aM h2_; have HT2 := aM (R_mkto (by first | exact ab HTB.out _ | exact HTB.out) (by first | exact HM.out.drewN _ | exact HM.out) ht2 (by decide) (by decide)); clear h2_ ht2))
        rw [HSN.out] at HM2
        go_roundg k1
        case measure => omega
        case rel => exact ⟨i + 1, j, _, _, _, _, by first | rw [HSI.out] | rw [HWI.out] | go_num, rfl, by omega, by omega, HM2.out, HT2.out, HN.out⟩
       ·rw [if_neg hE] at hd
        rw [if_neg hj0] at hd
        cases hd
    ·rw [if_neg ha0] at hd
     have HN := aM hd
     have hj1 : j < a1.size := hx.resolve_left ha0
     have pa0 : decide (i < a0.size) = false := dF ha0
     have pa1 : decide (j < a1.size) = true := dT hj1
     obtain ⟨sj, hsj⟩ : ∃ s : Int, (j : Int) + 1 = s := ⟨_, rfl⟩
     have hwj : IntKind.i64.wrap ((j : Int) + 1) = sj := (i64_w _).trans (HWJ.out.trans (by omega))
     have HSJ : Aside0 (sj = ((j + 1 : Nat) : Int)) := ⟨by omega⟩
     have HSN : Aside0 (sj.toNat = j + 1) := ⟨by omega⟩
     have hsl1 : ((j : Int) ≤ sj) = True := eq_true (by omega)
     have hsl2 : (sj ≤ (a1.size : Int)) = True := eq_true (by omega)
     have SE : Aside0 ((a1.extract j sj.toNat).size = 1) := ⟨by rw [aK]; omega⟩
     clear hsj
     clear hd hm htb hx hl1 hl2 hl3
     go_wp2
     go_quiet (fail)
     go_wp2
     go_quiet (fail)
     go_wp2_with (first | (go_at_call 22; refine (mk_take w _ _ v out put drop (⟨0, (a1.extract j sj.toNat), (⟨#[]⟩ : ByteArray)⟩ : S44) (by first | exact HM.out.drewN _ | exact HM.out) H1.out ?_ ?_).mono ?_; (case refine_1 => exact by show put.size + (a1.extract j sj.toNat).size ≤ _; rw [SE.out]; exact H2.out); (case refine_2 => exact by show drop.size + 0 ≤ _; have := H3.out; omega); rintro e w2 ⟨rfl, v2, h2_, ht2⟩; have HM2 := aM h2_; have HT2 := aM (R_mkto (by first | exact ab HTB.out _ | exact HTB.out) (by first | exact HM.out.drewN _ | exact HM.out) ht2 (by decide) (by decide)); clear h2_ ht2))
     rw [HSN.out] at HM2
     go_roundg k1
     case measure => omega
     case rel => exact ⟨i, j + 1, _, _, _, _, rfl, by first | rw [HSJ.out] | rw [HWJ.out] | go_num, by omega, by omega, HM2.out, HT2.out, HN.out⟩
   ·rw [if_neg hx] at hd
    split at hd
    case isFalse => cases hd
    case isTrue hl1 =>
    obtain rfl := sI hd
    have H1 := aM hl1
    have pa0 : decide (i < a0.size) = false := dF (fun e => hx (.inl e))
    have pa1 : decide (j < a1.size) = false := dF (fun e => hx (.inr e))
    clear hd hm htb hx hl1
    go_wp2_with (first | (go_at_call 24; refine (mk_made w _ _ v out put drop (by first | exact HM.out.drewN _ | exact HM.out) H1.out).mono ?_; rintro e w2 ⟨v2, rfl, hr2, hb2, ht2⟩; have nJ := aM hr2; have HB2 := aM hb2; clear hr2 hb2 ht2) | (go_at_call 23; refine (impl_goodOp.calls k (fun _ => True) _ _ r1 r2 w _ HB2.out nJ.out HG.out).mono ?_; rintro e w3 ⟨v3, rfl, hr3, hb3, -⟩; have HR3 := aM (af (ok' := fun _ => True) hr3 (fun _ _ => trivial)); have HB3 := aM hb3; clear hr3 hb3))
    go_ret2
    exact ⟨_, rfl, HR3.out, HB3.out⟩
theorem impl_DiffOps.mono : ∀ a0 a1 k, LeO (impl_DiffOps.f k a0 a1) (impl_DiffOps.f (k + 1) a0 a1) := by
 intro a0 a1 k
 unfold impl_DiffOps.f
 repeat' first
   | (with_reducible exact impl_areTexts.mono _ _ _)
   | (with_reducible exact impl_common.mono _ _ _)
   | (with_reducible exact impl_goodOp.mono _ _)
   | (with_reducible exact LeO.refl _)
   | (with_reducible exact LeO.none _)
   | (with_reducible refine LeO.ite ?_ ?_)
   | (with_reducible refine LeO.bind ?_ (fun _ => ?_))

/-! ### impl_dropped: function 31 -/
def impl_dropped.l0 : Nat → List Int → List (S44) → Int → Int → Option (List Int)
 | 0, _, _, _, _ => none
 | k + 1, x3, x6, x7, x8 => if x8 < x7 then (if 0 ≤ x8 then (if x8 < (x6.length : Int) then (if 0 ≤ ((rd_T44 x6 x8).f0) then (if x3.length + ((rd_T44 x6 x8).f0 : Int).toNat < 140737488355328 then ((some (x3 ++ List.replicate ((rd_T44 x6 x8).f0 : Int).toNat 0 : List Int)).bind fun y338 => (if y338.length + ((rd_T44 x6 x8).f2).size < 140737488355328 then (impl_dropped.l0 k (y338 ++ bytesOf ((rd_T44 x6 x8).f2)) x6 x7 (wrap64 (x8 + 1))) else (none))) else (none)) else (none)) else (none)) else (none)) else (some x3)
def impl_dropped.f (k : Nat) (l0 : List (S44)) : Option (List Int) := impl_dropped.l0 k ([] : List Int) l0 (l0.length : Int) 0
theorem impl_dropped.mono_l : ∀ k, (∀ y0 y1 y2 y3, LeO (impl_dropped.l0 k y0 y1 y2 y3) (impl_dropped.l0 (k + 1) y0 y1 y2 y3))
 | 0 => fun _ _ _ _ r h => by simp [impl_dropped.l0] at h
 | k + 1 => by
  have ih0 := impl_dropped.mono_l k
  ·intro y0 y1 y2 y3
   unfold impl_dropped.l0
   repeat' first
   | (with_reducible exact ih0 _ _ _ _)
   | (with_reducible exact LeO.refl _)
   | (with_reducible exact LeO.none _)
   | (with_reducible refine LeO.ite ?_ ?_)
   | (with_reducible refine LeO.bind ?_ (fun _ => ?_))
   | exact ih0 _ _ _ _
   | exact LeO.none _
   | refine LeO.ite ?_ ?_
   | refine LeO.bind ?_ (fun _ => ?_)
theorem impl_dropped.mono : ∀ a0 k, LeO (impl_dropped.f k a0) (impl_dropped.f (k + 1) a0) := by
 intro a0 k
 have ih0 := impl_dropped.mono_l k
 unfold impl_dropped.f
 repeat' first
   | (with_reducible exact ih0 _ _ _ _)
   | (with_reducible exact LeO.refl _)
   | (with_reducible exact LeO.none _)
   | (with_reducible refine LeO.ite ?_ ?_)
   | (with_reducible refine LeO.bind ?_ (fun _ => ?_))
   | exact ih0 _ _ _ _
   | exact LeO.none _
   | refine LeO.ite ?_ ?_
   | refine LeO.bind ?_ (fun _ => ?_)
set_option maxHeartbeats 8000000 in
set_option maxRecDepth 100000 in
theorem impl_dropped.calls (k : Nat) (A0 : Option Addr) (c0 : Nat) (l0 : List (S44)) (r : List Int) (w : World) (hr0 : Kd.C k44 w A0 l0.length l0) (hc0 : l0.length ≤ c0) (h : impl_dropped.f k l0 = some r) :
  Calls Try.prog 31 #[.slice A0 l0.length c0] w fun e w' => ∃ v0_ : Value, e = .returned (v0_) ∧ Kd.R (Kd.int .u8) 5 w' w.heap.size (fun _ => True) v0_ r ∧ Below w.heap.size w w' := by
 have hu44 := Try.underlying44
 have bG := aM hr0
 have b8 := aM hc0
 clear hr0 hc0
 have HB := aM (Below.refl w.heap.size w)
 have H : (impl_dropped.l0 k ([] : List Int) l0 (l0.length : Int) 0) = some r := h
 clear h
 have H' := aM H
 clear H
 go_enter Try.func31, Try.ntmps31
 go_wp2
 go_loopg [3, 8] k (fun kq v3 v8 w' => ∃ (x3_1 : List Int) (x8_1 : Int), v8 = .int .i64 x8_1 ∧ Aside0 (impl_dropped.l0 kq x3_1 l0 (l0.length : Int) x8_1 = some r) ∧ Aside0 (kq ≤ k) ∧ Aside0 (Kd.R (Kd.int .u8) 5 w' w.heap.size (fun _ => True) v3 x3_1) ∧ Aside0 (Below w.heap.size w w'))
 case atStart => exact ⟨(([] : List Int)), (0), z1, H', ⟨Nat.le_refl _⟩, ⟨y21⟩, ⟨y5⟩⟩
 case round =>
  clear H'
  obtain ⟨x3_1, x8_1, rfl, HA, HK1, bY, HB⟩ := hrel
  cases gk with
  | zero => exact absurd HA.out (by simp [impl_dropped.l0])
  | succ k1 =>
   have H := HA.out
   clear HA
   simp only [impl_dropped.l0] at H
   by_cases c2 : x8_1 < (l0.length : Int)
   ·rw [if_pos c2] at H
    have c2b0 : decide (x8_1 < (l0.length : Int)) = true := dT c2
    clear c2
    by_cases c3 : 0 ≤ x8_1
    ·rw [if_pos c3] at H
     have c3b0 : decide (0 ≤ x8_1) = true := dT c3
     clear c3
     by_cases c4 : x8_1 < (l0.length : Int)
     ·rw [if_pos c4] at H
      have c4b0 : decide (x8_1 < (l0.length : Int)) = true := dT c4
      clear c4
      by_cases c5 : 0 ≤ ((rd_T44 l0 x8_1).f0)
      ·rw [if_pos c5] at H
       have c5b0 := eq_true c5
       have c5b1 : decide (0 ≤ ((rd_T44 l0 x8_1).f0)) = true := dT c5
       clear c5
       by_cases c6 : x3_1.length + ((rd_T44 l0 x8_1).f0 : Int).toNat < 140737488355328
       ·rw [if_pos c6] at H
        have LMc6 := aM c6
        clear c6
        obtain ⟨y338, hy338⟩ : ∃ y_ : List Int, y_ = (x3_1 ++ List.replicate ((rd_T44 l0 x8_1).f0 : Int).toNat 0) := ⟨_, rfl⟩
        replace H : (if y338.length + ((rd_T44 l0 x8_1).f2).size < 140737488355328 then (impl_dropped.l0 k1 (y338 ++ bytesOf ((rd_T44 l0 x8_1).f2)) l0 (l0.length : Int) (wrap64 (x8_1 + 1))) else (none)) = some r := by first | (rw [hy338]; with_reducible exact H) | (have H2_ := (Option.bind_some _ _).symm.trans H; rw [hy338]; with_reducible exact H2_) | (have H2_ := (Option.bind_some _ _).symm.trans H; with_reducible exact H2_) | with_reducible exact H | (rw [hy338]; exact H) | exact H
        have Ny338 := aM hy338
        clear hy338
        by_cases c7 : y338.length + ((rd_T44 l0 x8_1).f2).size < 140737488355328
        ·rw [if_pos c7] at H
         have LMc7 := aM c7
         clear c7
         obtain ⟨y341, hy341⟩ : ∃ y_ : List Int, y_ = (y338 ++ bytesOf ((rd_T44 l0 x8_1).f2)) := ⟨_, rfl⟩
         replace H : (impl_dropped.l0 k1 y341 l0 (l0.length : Int) (wrap64 (x8_1 + 1))) = some r := by first | (rw [hy341]; with_reducible exact H) | (have H2_ := (Option.bind_some _ _).symm.trans H; rw [hy341]; with_reducible exact H2_) | (have H2_ := (Option.bind_some _ _).symm.trans H; with_reducible exact H2_) | with_reducible exact H | (rw [hy341]; exact H) | exact H
         have Ny341 := aM hy341
         clear hy341
         have H' := aM H
         clear H
         have p336 : 0 ≤ (x8_1 : Int) := oD z2
         have q336 : x8_1 < (l0.length : Int) := oD z2
         obtain ⟨ad336, e336, hx336_0, hx336_1, hx336_2⟩ := at_T44 bG.out x8_1 p336 q336
         cases e336
         replace hx336_0 := (HB.out.cell (World.block_lt_of_cell? w _ hx336_0)).trans hx336_0
         replace hx336_1 := (HB.out.cell (World.block_lt_of_cell? w _ hx336_1)).trans hx336_1
         replace hx336_2 := (HB.out.cell (World.block_lt_of_cell? w _ hx336_2)).trans hx336_2
         replace p336 := eq_true p336
         replace q336 := eq_true q336
         go_wp2_with (first | ((with_reducible refine aD (N := 5) rfl ?_); refine aE ?hg (N := 5) ?hd (cs := #[.int .i64 0, .string (⟨#[]⟩ : ByteArray), .string (⟨#[]⟩ : ByteArray)]) (t := 44) ?hr ?_; (case hd => rfl); (case hg => rfl); (case hr => first | (go_simp; done) | (go_simp; rfl)); intro dr hg w8 hbox hb; have aT := aM (ae (by (with_reducible repeat (first | apply ac | apply ab | apply aa)); exact bY.out) hb); have aU := aM (ap z9 hb); have aX := aM (hbox); have a5 := aM ((by rw [hg]; exact (aq z9) : w.heap.size ≤ dr)); have bf := aM ((by rw [hg]; exact (aq z9) : w.heap.size ≤ dr)); clear bY; clear HB; have bY := aT; have HB := aU; have ci := aX; have GW337 := a5; have ia := bf; clear aT aU aX a5 bf; clear hb hbox hg; have cZ : w8.cell? ⟨dr, 0, none⟩ = some (.int .i64 0) := (bC ci.out 0).trans rfl; have cY : w8.cell? ⟨dr, 1, none⟩ = some (.string (⟨#[]⟩ : ByteArray)) := (bC ci.out 1).trans rfl; have cX : w8.cell? ⟨dr, 2, none⟩ = some (.string (⟨#[]⟩ : ByteArray)) := (bC ci.out 2).trans rfl; have cW := bF ci.out 0; have cV := bF ci.out 1; have cU := bF ci.out 2) | (at_builtin; refine Kd.R_append_zeros (Kd.int .u8) (w0 := w) w.heap.size rfl (.tmp 12) (.tmp 14) 55 3 5 (.int .u8 0) 1 rfl Try.underlying55 Try.underlying3 info5 rfl (by decide) (by omega) u3 x3_1 0 ((rd_T44 l0 x8_1).f0 : Int) (fun _ => True) rfl rfl rfl ?aF ?aO (oD z2) ?aB ?aS ?aL ?_; (case aB => exact (by repeat (first | (with_reducible first | exact HB.out | apply bA | apply pD | apply bD | refine ao ?_ ia.out) | exact HB.out))); (case aF => exact (fun _ _ => trivial)); (case aO => exact (by (with_reducible repeat (first | apply ac | apply ab | apply aa)); exact af (Kd.R_far (p := ⟨dr, 2, none⟩) (Kd.R_far (p := ⟨dr, 1, none⟩) (Kd.R_far (p := ⟨dr, 0, none⟩) (Kd.R_types bY.out ci.out (by decide)) (fun _ hk => hk.2) (.int .i64 ((rd_T44 l0 x8_1).f0))) (fun _ hk => hk.2) (.string ((rd_T44 l0 x8_1).f1))) (fun _ hk => hk.2) (.string ((rd_T44 l0 x8_1).f2))) (fun _ hk => trivial))); (case aS => exact (aq (by repeat (first | (with_reducible first | exact HB.out | apply bA | apply pD | apply bD | refine ao ?_ ia.out) | exact HB.out)))); (case aL => have := LMc6.out; omega); intro v339 w10 ho hb hg hat; rw [← Ny338.out] at ho; have aT := aM (blk_grown (g := dr) (o := .cells #[.int .i64 ((rd_T44 l0 x8_1).f0), .string ((rd_T44 l0 x8_1).f1), .string ((rd_T44 l0 x8_1).f2)] 44 (0, 0)) (by (with_reducible repeat (first | refine al ?_ _ | refine ak ?_ | refine am ?_ _)); refine blk_put (cs := #[.int .i64 ((rd_T44 l0 x8_1).f0), .string ((rd_T44 l0 x8_1).f1), .string (⟨#[]⟩ : ByteArray)]) ?_ 2 _ rfl; (with_reducible repeat (first | refine al ?_ _ | refine ak ?_ | refine am ?_ _)); refine blk_put (cs := #[.int .i64 ((rd_T44 l0 x8_1).f0), .string (⟨#[]⟩ : ByteArray), .string (⟨#[]⟩ : ByteArray)]) ?_ 1 _ rfl; (with_reducible repeat (first | refine al ?_ _ | refine ak ?_ | refine am ?_ _)); refine blk_put (cs := #[.int .i64 0, .string (⟨#[]⟩ : ByteArray), .string (⟨#[]⟩ : ByteArray)]) ?_ 0 _ rfl; (with_reducible repeat (first | refine al ?_ _ | refine ak ?_ | refine am ?_ _)); exact ci.out) hg (aA bY.out ci.out (by decide))); have aU := aM (hb); have aX := aM (ho); clear ci; clear HB; clear bY; have ci := aT; have HB := aU; have kN := aX; clear aT aU aX; clear ho hb hg hat; have gL : w10.cell? ⟨dr, 0, none⟩ = some (.int .i64 ((rd_T44 l0 x8_1).f0)) := (bC ci.out 0).trans rfl; have gK : w10.cell? ⟨dr, 1, none⟩ = some (.string ((rd_T44 l0 x8_1).f1)) := (bC ci.out 1).trans rfl; have gJ : w10.cell? ⟨dr, 2, none⟩ = some (.string ((rd_T44 l0 x8_1).f2)) := (bC ci.out 2).trans rfl; have gn := bF ci.out 0; have gl := bF ci.out 1; have gj := bF ci.out 2) | (at_builtin; refine print_append_str (w0 := w) w.heap.size rfl (.tmp 16) _ 55 9 5 rfl Try.underlying55 Try.underlying9 info5 v339 y338 ((rd_T44 l0 x8_1).f2) rfl rfl ?aO ?aB ?aS ?aL ?_; (case aB => exact (by repeat (first | (with_reducible first | exact HB.out | apply bA | apply pD | apply bD | refine ao ?_ ia.out) | exact HB.out))); (case aO => exact (Kd.own_of_R (by (with_reducible repeat (first | apply ac | apply ab | apply aa)); exact kN.out))); (case aS => exact (aq (by repeat (first | (with_reducible first | exact HB.out | apply bA | apply pD | apply bD | refine ao ?_ ia.out) | exact HB.out)))); (case aL => have := LMc7.out; omega); intro v342 w12 ho0 hb hg; have ho := Kd.R_of_own (h1 := fun _ => rfl) (ok := fun _ => True) ho0 (fun _ _ => trivial); clear ho0; have hat := True.intro; rw [← Ny341.out] at ho; change Kd.R (Kd.int .u8) 5 w12 w.heap.size (fun _ => True) v342 y341 at ho; have aT := aM (blk_grown (g := dr) (o := .cells #[.int .i64 ((rd_T44 l0 x8_1).f0), .string ((rd_T44 l0 x8_1).f1), .string ((rd_T44 l0 x8_1).f2)] 44 (0, 0)) (by (with_reducible repeat (first | refine al ?_ _ | refine ak ?_ | refine am ?_ _)); exact ci.out) hg (aA kN.out ci.out (by decide))); have aU := aM (hb); have aX := aM (ho); clear ci; clear HB; clear kN; have ci := aT; have HB := aU; have HO343 := aX; clear aT aU aX; clear ho hb hg hat))
         go_roundg k1
         case measure => have := HK1.out; omega
         case rel => exact ⟨(y341), (wrap64 (x8_1 + 1)), z1, H', ⟨y0⟩, ⟨by (with_reducible repeat (first | apply ac | apply ab | apply aa)); exact HO343.out⟩, ⟨by repeat (first | (with_reducible first | exact HB.out | apply bA | apply pD | apply bD | refine ao ?_ ia.out) | exact HB.out)⟩⟩
        ·rw [if_neg c7] at H
         exact absurd H (by simp)
       ·rw [if_neg c6] at H
        exact absurd H (by simp)
      ·rw [if_neg c5] at H
       exact absurd H (by simp)
     ·rw [if_neg c4] at H
      exact absurd H (by simp)
    ·rw [if_neg c3] at H
     exact absurd H (by simp)
   ·rw [if_neg c2] at H
    have c2b0 : decide (x8_1 < (l0.length : Int)) = false := dF c2
    clear c2
    obtain rfl := sI H
    go_wp2
    go_ret
    exact ⟨_, y4, y7, y5⟩

/-! ### impl_SameTexts: function 25 -/
mutual
def impl_SameTexts.j0 : Nat → List (S44) → List (S44) → Bool → Option (Bool × Bool)
 | 0, _, _, _ => none
 | k + 1, x0, x1, x17 => if x17 = true then (some (false, false)) else ((impl_dropped.f k x0).bind fun b9 => ((impl_dropped.f k x1).bind fun cg => (if (b9.length : Int) = (cg.length : Int) then (impl_SameTexts.l0 k cg b9 (b9.length : Int) 0) else (some (false, false)))))
def impl_SameTexts.l0 : Nat → List Int → List Int → Int → Int → Option (Bool × Bool)
 | 0, _, _, _, _ => none
 | k + 1, x7, x27, x28, x29 => if x29 < x28 then (if 0 ≤ x29 then (if x29 < (x27.length : Int) then (if (rd x27 x29) = 0 then (impl_SameTexts.l0 k x7 x27 x28 (wrap64 (x29 + 1))) else (if x29 < (x7.length : Int) then (if (rd x7 x29) = 0 then (impl_SameTexts.l0 k x7 x27 x28 (wrap64 (x29 + 1))) else (if (rd x27 x29) = (rd x7 x29) then (impl_SameTexts.l0 k x7 x27 x28 (wrap64 (x29 + 1))) else (some (false, true)))) else (none))) else (none)) else (none)) else (some (true, true))
end
def impl_SameTexts.f (k : Nat) (l0 : List (S44)) (l1 : List (S44)) : Option (Bool × Bool) := (impl_GoodOp.f k l0).bind fun kf => (if kf = true then ((impl_GoodOp.f k l1).bind fun jE => (impl_SameTexts.j0 k l0 l1 (!jE))) else (impl_SameTexts.j0 k l0 l1 true))
theorem impl_SameTexts.mono_l : ∀ k, (∀ y0 y1 y2, LeO (impl_SameTexts.j0 k y0 y1 y2) (impl_SameTexts.j0 (k + 1) y0 y1 y2)) ∧ (∀ y0 y1 y2 y3, LeO (impl_SameTexts.l0 k y0 y1 y2 y3) (impl_SameTexts.l0 (k + 1) y0 y1 y2 y3))
 | 0 => ⟨fun _ _ _ r h => by simp [impl_SameTexts.j0] at h, fun _ _ _ _ r h => by simp [impl_SameTexts.l0] at h⟩
 | k + 1 => by
  obtain ⟨ih0, ih1⟩ := impl_SameTexts.mono_l k
  refine ⟨?_, ?_⟩
  ·intro y0 y1 y2
   unfold impl_SameTexts.j0
   repeat' first
   | (with_reducible exact ih0 _ _ _)
   | (with_reducible exact ih1 _ _ _ _)
   | (with_reducible exact impl_GoodOp.mono _ _)
   | (with_reducible exact impl_dropped.mono _ _)
   | (with_reducible exact LeO.refl _)
   | (with_reducible exact LeO.none _)
   | (with_reducible refine LeO.ite ?_ ?_)
   | (with_reducible refine LeO.bind ?_ (fun _ => ?_))
   | exact ih0 _ _ _
   | exact ih1 _ _ _ _
   | exact impl_GoodOp.mono _ _
   | exact impl_dropped.mono _ _
   | exact LeO.none _
   | refine LeO.ite ?_ ?_
   | refine LeO.bind ?_ (fun _ => ?_)
  ·intro y0 y1 y2 y3
   unfold impl_SameTexts.l0
   repeat' first
   | (with_reducible exact ih0 _ _ _)
   | (with_reducible exact ih1 _ _ _ _)
   | (with_reducible exact impl_GoodOp.mono _ _)
   | (with_reducible exact impl_dropped.mono _ _)
   | (with_reducible exact LeO.refl _)
   | (with_reducible exact LeO.none _)
   | (with_reducible refine LeO.ite ?_ ?_)
   | (with_reducible refine LeO.bind ?_ (fun _ => ?_))
   | exact ih0 _ _ _
   | exact ih1 _ _ _ _
   | exact impl_GoodOp.mono _ _
   | exact impl_dropped.mono _ _
   | exact LeO.none _
   | refine LeO.ite ?_ ?_
   | refine LeO.bind ?_ (fun _ => ?_)
theorem impl_SameTexts.mono : ∀ a0 a1 k, LeO (impl_SameTexts.f k a0 a1) (impl_SameTexts.f (k + 1) a0 a1) := by
 intro a0 a1 k
 obtain ⟨ih0, ih1⟩ := impl_SameTexts.mono_l k
 unfold impl_SameTexts.f
 repeat' first
   | (with_reducible exact ih0 _ _ _)
   | (with_reducible exact ih1 _ _ _ _)
   | (with_reducible exact impl_GoodOp.mono _ _)
   | (with_reducible exact impl_dropped.mono _ _)
   | (with_reducible exact LeO.refl _)
   | (with_reducible exact LeO.none _)
   | (with_reducible refine LeO.ite ?_ ?_)
   | (with_reducible refine LeO.bind ?_ (fun _ => ?_))
   | exact ih0 _ _ _
   | exact ih1 _ _ _ _
   | exact impl_GoodOp.mono _ _
   | exact impl_dropped.mono _ _
   | exact LeO.none _
   | refine LeO.ite ?_ ?_
   | refine LeO.bind ?_ (fun _ => ?_)
set_option maxHeartbeats 8000000 in
set_option maxRecDepth 100000 in
theorem impl_SameTexts.calls (k : Nat) (A0 : Option Addr) (c0 : Nat) (l0 : List (S44)) (A1 : Option Addr) (c1 : Nat) (l1 : List (S44)) (r1 : Bool) (r2 : Bool) (w : World) (hr0 : Kd.C k44 w A0 l0.length l0) (hc0 : l0.length ≤ c0) (hr1 : Kd.C k44 w A1 l1.length l1) (hc1 : l1.length ≤ c1) (h : impl_SameTexts.f k l0 l1 = some (r1, r2)) :
  Calls Try.prog 25 #[.slice A0 l0.length c0, .slice A1 l1.length c1] w fun e w' => e = .returned (.tuple #[.bool r1, .bool r2]) ∧ Below w.heap.size w w' := by
 have bG := aM hr0
 have b8 := aM hc0
 clear hr0 hc0
 have cz := aM hr1
 have dg := aM hc1
 clear hr1 hc1
 have HB := aM (Below.refl w.heap.size w)
 have H : ((impl_GoodOp.f k l0).bind fun kf => (if kf = true then ((impl_GoodOp.f k l1).bind fun jE => (impl_SameTexts.j0 k l0 l1 (!jE))) else (impl_SameTexts.j0 k l0 l1 true))) = some (r1, r2) := h
 clear h
 have gT := aM H
 clear H
 go_enter Try.func25, Try.ntmps25
 go_upto_region 1 with (fail)
 go_cut [17] (fun v17 wc => ∃ (kq : Nat) (x17_2 : Bool), v17 = .bool x17_2 ∧ Aside0 (impl_SameTexts.j0 kq l0 l1 x17_2 = some (r1, r2)) ∧ Aside0 (kq ≤ k) ∧ Aside0 (Below w.heap.size w wc))
 case first =>
  have H := gT.out
  clear gT
  replace H := oB H
  obtain ⟨kf, eE, H⟩ := H
  try dsimp only at H
  have A4 := aM eE
  clear eE
  by_cases c5 : kf = true
  ·subst c5
   rw [if_pos rfl] at H
   replace H := oB H
   obtain ⟨jE, ez, H⟩ := H
   try dsimp only at H
   have A6 := aM ez
   clear ez
   have H' := aM H
   clear H
   go_wp2_with (first | ((with_reducible refine aC (f := 33) rfl ?_); refine aG (some 11) rfl rfl Try.func33 z0 rfl #[.slice A0 l0.length c0] rfl z10 ?_; (with_reducible refine (impl_GoodOp.calls k _ _ l0 true _ ?side1 ?side2 A4.out).mono ?_); (case side1 => repeat (first | exact (au bG.out HB.out) | (with_reducible refine av ?_ _) | (with_reducible refine aw ?_ _) | (with_reducible refine ay ?_))); (case side2 => exact b8.out); rintro e w7 ⟨rfl, hb⟩; refine ⟨_, rfl, ?_⟩; have aT := aM (ap z9 hb); clear HB; have HB := aT; clear aT; (try clear hb); (try clear hb2); (try clear hk); (try clear hi)) | (go_at_call 33; (with_reducible refine (impl_GoodOp.calls k _ _ l1 jE _ ?side1 ?side2 A6.out).mono ?_); (case side1 => repeat (first | exact (au cz.out HB.out) | (with_reducible refine av ?_ _) | (with_reducible refine aw ?_ _) | (with_reducible refine ay ?_))); (case side2 => exact dg.out); rintro e w8 ⟨rfl, hb⟩; have aT := aM (ap z9 hb); clear HB; have HB := aT; clear aT; (try clear hb); (try clear hb2); (try clear hk); (try clear hi)))
   go_meet
   case rel => exact ⟨_, (!jE), z1, H', ⟨y1⟩, ⟨y5⟩⟩
  ·replace c5 := Bool.eq_false_iff.mpr c5
   subst c5
   rw [if_neg (show ¬ (false = true) by decide)] at H
   have H' := aM H
   clear H
   go_wp2_with (first | ((with_reducible refine aC (f := 33) rfl ?_); refine aG (some 11) rfl rfl Try.func33 z0 rfl #[.slice A0 l0.length c0] rfl z10 ?_; (with_reducible refine (impl_GoodOp.calls k _ _ l0 false _ ?side1 ?side2 A4.out).mono ?_); (case side1 => repeat (first | exact (au bG.out HB.out) | (with_reducible refine av ?_ _) | (with_reducible refine aw ?_ _) | (with_reducible refine ay ?_))); (case side2 => exact b8.out); rintro e w9 ⟨rfl, hb⟩; refine ⟨_, rfl, ?_⟩; have aT := aM (ap z9 hb); clear HB; have HB := aT; clear aT; (try clear hb); (try clear hb2); (try clear hk); (try clear hi)))
   go_meet
   case rel => exact ⟨_, (true), z1, H', ⟨y1⟩, ⟨y5⟩⟩
 case rest =>
  clear gT
  try clear c1
  try clear c2
  try clear p2
  try clear c3
  try clear c5
  obtain ⟨kq, x17_2, rfl, HA, eB, HB⟩ := hcut
  cases kq with
  | zero => exact absurd HA.out (by simp [impl_SameTexts.j0])
  | succ kj2 =>
   have H := HA.out
   clear HA
   simp only [impl_SameTexts.j0] at H
   by_cases bz : x17_2 = true
   ·subst bz
    rw [if_pos rfl] at H
    simp only [Option.some.injEq, Prod.mk.injEq] at H
    obtain ⟨rfl, rfl⟩ := H
    go_wp2
    go_ret2
    exact ⟨y4, y5⟩
   ·replace bz := Bool.eq_false_iff.mpr bz
    subst bz
    rw [if_neg (show ¬ (false = true) by decide)] at H
    replace H := oB H
    obtain ⟨b9, da, H⟩ := H
    try dsimp only at H
    have eG := aM da
    clear da
    replace H := oB H
    obtain ⟨cg, ii, H⟩ := H
    try dsimp only at H
    have lC := aM ii
    clear ii
    by_cases bR : (b9.length : Int) = (cg.length : Int)
    ·rw [if_pos bR] at H
     have c13b0 : ((b9.length : Int) == (cg.length : Int)) = true := qT bR
     have c13b1 : ((b9.length : Int) != (cg.length : Int)) = false := nF bR
     have c13b2 : (b9.length == cg.length) = true := by first | simpa using bR | (simp at bR ⊢; omega)
     clear bR
     have H' := aM H
     clear H
     go_wp2_with (first | ((with_reducible refine aC (f := 31) rfl ?_); refine aG (some 19) rfl rfl Try.func31 z0 rfl #[.slice A0 l0.length c0] rfl z10 ?_; (with_reducible refine (impl_dropped.calls kj2 _ _ l0 b9 _ ?side1 ?side2 eG.out).mono ?_); (case side1 => repeat (first | exact (au bG.out HB.out) | (with_reducible refine av ?_ _) | (with_reducible refine aw ?_ _) | (with_reducible refine ay ?_))); (case side2 => exact b8.out); rintro e w14 ⟨v347, rfl, ho0, hb⟩; refine ⟨_, rfl, ?_⟩; have aT := aM (aH ho0 (aq z9)); have aU := aM (ap z9 hb); clear HB; have dO := aT; have HB := aU; clear aT aU; (try clear hb); (try clear hb2); (try clear hk); (try clear hi); (try clear ho0)) | ((with_reducible refine aC (f := 31) rfl ?_); refine aG (some 21) rfl rfl Try.func31 z0 rfl #[.slice A1 l1.length c1] rfl z10 ?_; (with_reducible refine (impl_dropped.calls kj2 _ _ l1 cg _ ?side1 ?side2 lC.out).mono ?_); (case side1 => repeat (first | exact (au cz.out HB.out) | (with_reducible refine av ?_ _) | (with_reducible refine aw ?_ _) | (with_reducible refine ay ?_))); (case side2 => exact dg.out); rintro e w15 ⟨v350, rfl, ho0, hb⟩; refine ⟨_, rfl, ?_⟩; have aT := aM (Kd.R_elder' (by (with_reducible repeat (first | apply ac | apply ab | apply aa)); exact dO.out) (ai ho0) hb); have aU := aM (aH (ah ho0 (aj (by (with_reducible repeat (first | apply ac | apply ab | apply aa)); exact dO.out))) (aq z9)); have aX := aM (ap z9 hb); clear dO; clear HB; have dO := aT; have jB := aU; have HB := aX; clear aT aU aX; (try clear hb); (try clear hb2); (try clear hk); (try clear hi); (try clear ho0); obtain ⟨nf, m6, eo16⟩ := Kd.R_slice dO.out; subst eo16; obtain ⟨fq, e9, eo17⟩ := Kd.R_slice jB.out; subst eo17))
     go_loopg [29] kj2 (fun kq v29 w' => ∃ (x29_2 : Int), v29 = .int .i64 x29_2 ∧ Aside0 (impl_SameTexts.l0 kq cg b9 (b9.length : Int) x29_2 = some (r1, r2)) ∧ Aside0 (kq ≤ kj2) ∧ Aside0 (Kd.R (Kd.int .u8) 5 w' w.heap.size (fun k_ => some k_ ≠ ((.slice nf b9.length m6) : Value).ownBlock) (.slice fq cg.length e9) cg) ∧ Aside0 (Kd.R (Kd.int .u8) 5 w' w.heap.size (fun k_ => some k_ ≠ ((.slice fq cg.length e9) : Value).ownBlock) (.slice nf b9.length m6) b9) ∧ Aside0 (Below w.heap.size w w'))
     case atStart => exact ⟨(0), z1, H', ⟨Nat.le_refl _⟩, ⟨by (with_reducible repeat (first | apply ac | apply ab | apply aa)); exact af jB.out (fun _ hk => hk.2)⟩, ⟨by (with_reducible repeat (first | apply ac | apply ab | apply aa)); exact af dO.out (fun _ hk => hk.2)⟩, ⟨y5⟩⟩
     case round =>
      clear H'
      try clear c1
      try clear c2
      try clear p2
      try clear c3
      try clear c5
      try clear bz
      try clear bR
      try clear c13b0
      try clear c13b1
      try clear c13b2
      try clear p2
      obtain ⟨x29_2, rfl, HA, HK2, fi, fj, HB⟩ := hrel
      cases gk with
      | zero => exact absurd HA.out (by simp [impl_SameTexts.l0])
      | succ k2 =>
       have H := HA.out
       clear HA
       simp only [impl_SameTexts.l0] at H
       by_cases cn : x29_2 < (b9.length : Int)
       ·rw [if_pos cn] at H
        have c18b0 : decide (x29_2 < (b9.length : Int)) = true := dT cn
        clear cn
        by_cases fy : 0 ≤ x29_2
        ·rw [if_pos fy] at H
         have c19b0 : decide (0 ≤ x29_2) = true := dT fy
         clear fy
         by_cases dd : x29_2 < (b9.length : Int)
         ·rw [if_pos dd] at H
          have c20b0 : decide (x29_2 < (b9.length : Int)) = true := dT dd
          clear dd
          by_cases cF : (rd b9 x29_2) = 0
          ·rw [if_pos cF] at H
           have c21b0 : ((rd b9 x29_2) == 0) = true := qT cF
           have c21b1 : ((rd b9 x29_2) != 0) = false := nF cF
           clear cF
           have H' := aM H
           clear H
           have p352 : 0 ≤ (x29_2 : Int) := oD z2
           have q352 : x29_2 < (b9.length : Int) := oD z2
           obtain ⟨ad352, e352, hx352_0⟩ := Kd.at_int (ag fj.out).2.2 x29_2 p352 q352
           cases e352
           replace p352 := eq_true p352
           replace q352 := eq_true q352
           go_wp2
           go_roundg k2
           case measure => have := eB.out; have := HK2.out; omega
           case rel => exact ⟨(wrap64 (x29_2 + 1)), z1, H', ⟨by have := eB.out; have := HK2.out; omega⟩, ⟨y8⟩, ⟨by (with_reducible repeat (first | apply ac | apply ab | apply aa)); exact fj.out⟩, ⟨y5⟩⟩
          ·rw [if_neg cF] at H
           have c21b0 : ((rd b9 x29_2) == 0) = false := qF cF
           have c21b1 : ((rd b9 x29_2) != 0) = true := nT cF
           by_cases ec : x29_2 < (cg.length : Int)
           ·rw [if_pos ec] at H
            have c22b0 : decide (x29_2 < (cg.length : Int)) = true := dT ec
            clear ec
            by_cases dw : (rd cg x29_2) = 0
            ·rw [if_pos dw] at H
             have c23b0 : ((rd cg x29_2) == 0) = true := qT dw
             have c23b1 : ((rd cg x29_2) != 0) = false := nF dw
             clear dw
             have H' := aM H
             clear H
             have p352 : 0 ≤ (x29_2 : Int) := oD z2
             have q352 : x29_2 < (b9.length : Int) := oD z2
             obtain ⟨ad352, e352, hx352_0⟩ := Kd.at_int (ag fj.out).2.2 x29_2 p352 q352
             cases e352
             replace p352 := eq_true p352
             replace q352 := eq_true q352
             have p353 : 0 ≤ (x29_2 : Int) := oD z2
             have q353 : x29_2 < (cg.length : Int) := oD z2
             obtain ⟨ad353, e353, hx353_0⟩ := Kd.at_int (ag fi.out).2.2 x29_2 p353 q353
             cases e353
             replace p353 := eq_true p353
             replace q353 := eq_true q353
             go_wp2
             go_roundg k2
             case measure => have := eB.out; have := HK2.out; omega
             case rel => exact ⟨(wrap64 (x29_2 + 1)), z1, H', ⟨by have := eB.out; have := HK2.out; omega⟩, ⟨y8⟩, ⟨by (with_reducible repeat (first | apply ac | apply ab | apply aa)); exact fj.out⟩, ⟨y5⟩⟩
            ·rw [if_neg dw] at H
             have c23b0 : ((rd cg x29_2) == 0) = false := qF dw
             have c23b1 : ((rd cg x29_2) != 0) = true := nT dw
             by_cases dN : (rd b9 x29_2) = (rd cg x29_2)
             ·rw [if_pos dN] at H
              have c24b0 : ((rd b9 x29_2) == (rd cg x29_2)) = true := qT dN
              have c24b1 : ((rd b9 x29_2) != (rd cg x29_2)) = false := nF dN
              clear dN
              have H' := aM H
              clear H
              have p352 : 0 ≤ (x29_2 : Int) := oD z2
              have q352 : x29_2 < (b9.length : Int) := oD z2
              obtain ⟨ad352, e352, hx352_0⟩ := Kd.at_int (ag fj.out).2.2 x29_2 p352 q352
              cases e352
              replace p352 := eq_true p352
              replace q352 := eq_true q352
              have p353 : 0 ≤ (x29_2 : Int) := oD z2
              have q353 : x29_2 < (cg.length : Int) := oD z2
              obtain ⟨ad353, e353, hx353_0⟩ := Kd.at_int (ag fi.out).2.2 x29_2 p353 q353
              cases e353
              replace p353 := eq_true p353
              replace q353 := eq_true q353
              have p354 : 0 ≤ (x29_2 : Int) := oD z2
              have q354 : x29_2 < (cg.length : Int) := oD z2
              obtain ⟨ad354, e354, hx354_0⟩ := Kd.at_int (ag fi.out).2.2 x29_2 p354 q354
              obtain rfl : ad353 = ad354 := (by injection e354)
              replace p354 := eq_true p354
              replace q354 := eq_true q354
              go_wp2
              go_roundg k2
              case measure => have := eB.out; have := HK2.out; omega
              case rel => exact ⟨(wrap64 (x29_2 + 1)), z1, H', ⟨by have := eB.out; have := HK2.out; omega⟩, ⟨y8⟩, ⟨by (with_reducible repeat (first | apply ac | apply ab | apply aa)); exact fj.out⟩, ⟨y5⟩⟩
             ·rw [if_neg dN] at H
              have c24b0 : ((rd b9 x29_2) == (rd cg x29_2)) = false := qF dN
              have c24b1 : ((rd b9 x29_2) != (rd cg x29_2)) = true := nT dN
              simp only [Option.some.injEq, Prod.mk.injEq] at H
              obtain ⟨rfl, rfl⟩ := H
              have p352 : 0 ≤ (x29_2 : Int) := oD z2
              have q352 : x29_2 < (b9.length : Int) := oD z2
              obtain ⟨ad352, e352, hx352_0⟩ := Kd.at_int (ag fj.out).2.2 x29_2 p352 q352
              cases e352
              replace p352 := eq_true p352
              replace q352 := eq_true q352
              have p353 : 0 ≤ (x29_2 : Int) := oD z2
              have q353 : x29_2 < (cg.length : Int) := oD z2
              obtain ⟨ad353, e353, hx353_0⟩ := Kd.at_int (ag fi.out).2.2 x29_2 p353 q353
              cases e353
              replace p353 := eq_true p353
              replace q353 := eq_true q353
              have p354 : 0 ≤ (x29_2 : Int) := oD z2
              have q354 : x29_2 < (cg.length : Int) := oD z2
              obtain ⟨ad354, e354, hx354_0⟩ := Kd.at_int (ag fi.out).2.2 x29_2 p354 q354
              obtain rfl : ad353 = ad354 := (by injection e354)
              replace p354 := eq_true p354
              replace q354 := eq_true q354
              go_wp2
              go_ret2
              exact ⟨y4, y5⟩
           ·rw [if_neg ec] at H
            exact absurd H (by simp)
         ·rw [if_neg dd] at H
          exact absurd H (by simp)
        ·rw [if_neg fy] at H
         exact absurd H (by simp)
       ·rw [if_neg cn] at H
        have c18b0 : decide (x29_2 < (b9.length : Int)) = false := dF cn
        clear cn
        simp only [Option.some.injEq, Prod.mk.injEq] at H
        obtain ⟨rfl, rfl⟩ := H
        go_wp2
        go_ret2
        exact ⟨y4, y5⟩
    ·rw [if_neg bR] at H
     have c13b0 : ((b9.length : Int) == (cg.length : Int)) = false := qF bR
     have c13b1 : ((b9.length : Int) != (cg.length : Int)) = true := nT bR
     have c13b2 : (b9.length == cg.length) = false := by first | simpa using bR | (simp at bR ⊢; omega)
     simp only [Option.some.injEq, Prod.mk.injEq] at H
     obtain ⟨rfl, rfl⟩ := H
     go_wp2_with (first | ((with_reducible refine aC (f := 31) rfl ?_); refine aG (some 19) rfl rfl Try.func31 z0 rfl #[.slice A0 l0.length c0] rfl z10 ?_; (with_reducible refine (impl_dropped.calls kj2 _ _ l0 b9 _ ?side1 ?side2 eG.out).mono ?_); (case side1 => repeat (first | exact (au bG.out HB.out) | (with_reducible refine av ?_ _) | (with_reducible refine aw ?_ _) | (with_reducible refine ay ?_))); (case side2 => exact b8.out); rintro e w25 ⟨v347, rfl, ho0, hb⟩; refine ⟨_, rfl, ?_⟩; have aT := aM (aH ho0 (aq z9)); have aU := aM (ap z9 hb); clear HB; have dO := aT; have HB := aU; clear aT aU; (try clear hb); (try clear hb2); (try clear hk); (try clear hi); (try clear ho0)) | ((with_reducible refine aC (f := 31) rfl ?_); refine aG (some 21) rfl rfl Try.func31 z0 rfl #[.slice A1 l1.length c1] rfl z10 ?_; (with_reducible refine (impl_dropped.calls kj2 _ _ l1 cg _ ?side1 ?side2 lC.out).mono ?_); (case side1 => repeat (first | exact (au cz.out HB.out) | (with_reducible refine av ?_ _) | (with_reducible refine aw ?_ _) | (with_reducible refine ay ?_))); (case side2 => exact dg.out); rintro e w26 ⟨v350, rfl, ho0, hb⟩; refine ⟨_, rfl, ?_⟩; have aT := aM (Kd.R_elder' (by (with_reducible repeat (first | apply ac | apply ab | apply aa)); exact dO.out) (ai ho0) hb); have aU := aM (aH (ah ho0 (aj (by (with_reducible repeat (first | apply ac | apply ab | apply aa)); exact dO.out))) (aq z9)); have aX := aM (ap z9 hb); clear dO; clear HB; have dO := aT; have jB := aU; have HB := aX; clear aT aU aX; (try clear hb); (try clear hb2); (try clear hk); (try clear hi); (try clear ho0); obtain ⟨mm, l9, eo27⟩ := Kd.R_slice dO.out; subst eo27; obtain ⟨jW, jP, eo28⟩ := Kd.R_slice jB.out; subst eo28))
     go_ret2
     exact ⟨y4, y5⟩

/-! ### impl_normal: function 26, by hand -/
def nrm : List S44 → List S44 → ByteArray → ByteArray → Option (List S44)
 | [], out, put, drop => if out.length + 3 ≤ 3518437208883 then some (out ++ ends put drop) else none
 | p :: l, out, put, drop => if out.length + 3 ≤ 3518437208883 ∧ (kS put p.f0).size + p.f1.size ≤ 9223372036854775807 ∧ (kS drop p.f0).size + p.f2.size ≤ 9223372036854775807 then nrm l (kO out put drop p.f0) (kS put p.f0 ++ p.f1) (kS drop p.f0 ++ p.f2) else none
def impl_normal.f (l0 : List S44) : Option (List S44) := nrm l0 [] ⟨#[]⟩ ⟨#[]⟩
theorem Mk.new (w : World) : Mk w (w.alloc (.cells #[.slice none 0 0, .string ⟨#[]⟩, .string ⟨#[]⟩] 39)) w.heap.size (.slice none 0 0) [] ⟨#[]⟩ ⟨#[]⟩ :=
 ⟨heap_alloc_new w _, Kd.R_nil _ _ _ _ _, bA (Below.refl _ _) _, Nat.le_refl _⟩
/-- What the loop of 'normal' holds at its head. -/
def NrmAt (w : World) (l0 : List S44) (r : List S44) (d : Nat) (v8 : Value) (w' : World) : Prop :=
 ∃ (i : Nat) (v : Value) (out : List S44) (put drop : ByteArray), v8 = .int .i64 i ∧ i + d = l0.length ∧ Mk w w' w.heap.size v out put drop ∧ nrm (l0.drop i) out put drop = some r
set_option maxHeartbeats 2000000 in
theorem impl_normal.calls (A0 : Option Addr) (c0 : Nat) (l0 : List S44) (r : List S44) (w : World) (hr0 : Kd.C k44 w A0 l0.length l0) (hc0 : l0.length ≤ c0) (h : impl_normal.f l0 = some r) :
  Calls Try.prog 26 #[.slice A0 l0.length c0] w fun e w' => ∃ v0_ : Value, e = .returned v0_ ∧ Kd.R k44 44 w' w.heap.size (fun _ => True) v0_ r ∧ Below w.heap.size w w' := by
 have HR := aM hr0
 have HC := aM hc0
 have hlen := Kd.C_max hr0
 have HN : Aside0 (nrm (l0.drop 0) [] ⟨#[]⟩ ⟨#[]⟩ = some r) := ⟨h⟩
 clear hr0 hc0 h
 go_enter Try.func26, Try.ntmps26
 go_wp2
 go_loopg [8] l0.length (fun d v8 w' => NrmAt w l0 r d v8 w')
 case atStart => exact ⟨0, _, [], ⟨#[]⟩, ⟨#[]⟩, rfl, by omega, Mk.new w, HN.out⟩
 case round =>
  obtain ⟨i, v, out, put, drop, rfl, hid, hm, hn⟩ := hrel
  have HM := aM hm
  cases gk with
  | zero =>
   have hil : i = l0.length := by omega
   subst hil
   rw [List.drop_length] at hn
   unfold nrm at hn
   split at hn
   case isFalse => cases hn
   case isTrue hlt =>
    obtain rfl := sI hn
    have HLT := aM hlt
    clear hm hn hid hlt
    go_wp2_with (first | (go_at_call 24; refine (mk_made w _ w.heap.size v out put drop HM.out HLT.out).mono ?_; rintro e w1 ⟨v2, rfl, hr2, hb2, ht2⟩; have nJ := aM hr2; have HB2 := aM hb2; clear hr2 hb2 ht2))
    go_ret
    exact ⟨_, rfl, nJ.out, HB2.out⟩
  | succ k1 =>
   have hil : i < l0.length := by omega
   have hd : l0.drop i = rd_T44 l0 (i : Int) :: l0.drop (i + 1) := by
    rw [List.drop_eq_getElem_cons hil]
    unfold rd_T44
    rw [aI, List.getD_eq_getElem?_getD, List.getElem?_eq_getElem hil, Option.getD_some]
   rw [hd] at hn
   unfold nrm at hn
   split at hn
   case isFalse => cases hn
   case isTrue hlt =>
    obtain ⟨hl1, hl2, hl3⟩ := hlt
    have H1 := aM hl1
    have H2 := aM hl2
    have H3 := aM hl3
    have HN1 := aM hn
    have HI : Aside0 (i + 1 + k1 = l0.length) := ⟨by omega⟩
    have hib : decide (i < l0.length) = true := dT hil
    obtain ⟨ad, rfl, x0, x1, x2⟩ := at_T44 (au HR.out hm.2.2.1) (i : Int) (by omega) (by omega)
    simp only [aI] at x0 x1 x2
    clear hm hn hid hd hl1 hl2 hl3
    go_wp2_with (first | (go_at_call 22; refine (mk_take w _ w.heap.size v out put drop (rd_T44 l0 (i : Int)) (HM.out.alloc _) H1.out H2.out H3.out).mono ?_; rintro e w1 ⟨rfl, v2, h2_, ht2⟩; have HM2 := aM h2_; clear h2_ ht2))
    go_roundg k1
    case measure => omega
    case rel => exact ⟨i + 1, _, _, _, _, by go_num, HI.out, HM2.out, HN1.out⟩

/-! ### impl_reader_head: function 27, by hand -/

/-! ### impl_reader_next: function 28, by hand -/

/-! ### impl_Part_size: function 29 -/
def impl_Part_size.f (a0_0 : Int) (a0_1 : ByteArray) (a0_2 : ByteArray) : Option (Int) := some (wrap64 ((wrap64 (a0_0 + (a0_1.size : Int))) + (a0_2.size : Int)))
set_option maxHeartbeats 8000000 in
set_option maxRecDepth 100000 in
theorem impl_Part_size.calls (a0_0 : Int) (a0_1 : ByteArray) (a0_2 : ByteArray) (r : Int) (w : World) (h : impl_Part_size.f a0_0 a0_1 a0_2 = some r) :
  Calls Try.prog 29 #[.agg #[.int .i64 a0_0, .string a0_1, .string a0_2]] w fun e w' => e = .returned (.int .i64 r) ∧ Below w.heap.size w w' := by
 have hu44 := Try.underlying44
 have HB := aM (Below.refl w.heap.size w)
 have H : (some (wrap64 ((wrap64 (a0_0 + (a0_1.size : Int))) + (a0_2.size : Int)))) = some r := h
 clear h
 obtain rfl := sI H
 go_enter Try.func29, Try.ntmps29
 go_wp2_with (first | ((with_reducible refine aD (N := 1) rfl ?_); refine aE ?hg (N := 1) ?hd (cs := #[.int .i64 a0_0, .string a0_1, .string a0_2]) (t := 44) ?hr ?_; (case hd => rfl); (case hg => rfl); (case hr => first | (go_simp; done) | (go_simp; rfl)); intro hD hg w2 hbox hb; have aT := aM (ap z9 hb); have aU := aM (hbox); have aX := aM ((by rw [hg]; exact (aq z9) : w.heap.size ≤ hD)); have a5 := aM ((by rw [hg]; exact (aq z9) : w.heap.size ≤ hD)); clear HB; have HB := aT; have fM := aU; have GW355 := aX; have GE355 := a5; clear aT aU aX a5; clear hb hbox hg; have hcz3_0 : w2.cell? ⟨hD, 0, none⟩ = some (.int .i64 a0_0) := (bC fM.out 0).trans rfl; have hcz3_1 : w2.cell? ⟨hD, 1, none⟩ = some (.string a0_1) := (bC fM.out 1).trans rfl; have hcz3_2 : w2.cell? ⟨hD, 2, none⟩ = some (.string a0_2) := (bC fM.out 2).trans rfl; have hfz3_0 := bF fM.out 0; have hfz3_1 := bF fM.out 1; have hfz3_2 := bF fM.out 2))
 go_ret
 exact ⟨y4, by repeat (first | (with_reducible first | exact HB.out | apply bA | apply pD | apply bD | refine ao ?_ GE355.out) | exact HB.out)⟩

/-! ### impl_reader_cut: function 30, by hand -/

end Go.Proofs.Ytifllccpfiobfaa.AFnExactMergeThree
