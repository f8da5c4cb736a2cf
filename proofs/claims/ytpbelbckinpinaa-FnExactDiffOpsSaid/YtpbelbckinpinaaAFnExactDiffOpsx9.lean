-- this session's own text: written by wip/tools/ownprint.py over the kit's print
import Derived.Test.YtpbelbckinpinaaAFnExactDiffOpsx0
import Derived.Test.YtpbelbckinpinaaAFnExactDiffOpsx6
import Derived.Test.YtpbelbckinpinaaAFnExactDiffOpsx7
import Derived.Test.YtpbelbckinpinaaAFnExactDiffOpsx8
namespace Go.Proofs.Ytpbelbckinpinaa.AFnExactDiffOps
open Go.RowKit Go.Proofs.YtpbelbckinpinaaW.PrintWords Go.Proofs.YtpbelbckinpinaaW.PrintLast Go.Proofs.YtpbelbckinpinaaW.PrintMore
attribute [local go_sem] max2_int min2_int max_two min_two max_three min_three max_four min_four   -- for this text's walks alone
set_option linter.unusedVariables false
set_option linter.unusedSimpArgs false

/-! ### impl_DiffOps: function 16, by hand -/
theorem R_mkto {α : Type} {d : Kd α} {e : Nat} {base : Nat} {ok : Nat → Prop} {u : Value} {xs : List α} {w0 w1 w2 : World} {g : Nat} {v v' : Value} {out : List S74} {put drop : ByteArray} (h : d.R e w1 base ok u xs) (hm : Mk w0 w1 g v out put drop) (ht : MkTo w1 w2 g v v') (hT : ∀ q, q ∈ e :: d.E → q ≠ 81) (hS : ∀ q, q ∈ e :: d.E → q ≠ 74) : d.R e w2 base ok u xs :=
 Kd.R_mono (Kd.R_kept (Kd.R_apart' (Kd.R_types h hm.1 hT) (Kd.R_typed hm.2.1) hS) ht.1 (fun k hk hs => by
  rcases hs with hs | hs
  ·exact hk.1.2 hs
  ·exact hk.2 hs)) (fun _ hk => hk.1.1)
def dif (a b : ByteArray) (t : List (List Int)) : Nat → List S74 → ByteArray → ByteArray → Nat → Nat → Option (List S74)
 | 0, _, _, _, _, _ => none
 | d + 1, out, put, drop, i, j =>
  if i < a.size ∨ j < b.size then
   (if out.length + 3 ≤ 3518437208883 ∧ put.size + 1 ≤ 9223372036854775807 ∧ drop.size + 1 ≤ 9223372036854775807 then
    (if i < a.size then
     (if j < b.size ∧ bt a (i : Int) = bt b (j : Int) then dif a b t d (kO out put drop 1) ⟨#[]⟩ ⟨#[]⟩ (i + 1) (j + 1)
     else (if i + 1 < t.length ∧ j < (rd_L3 t ((i : Int) + 1)).length ∧ j < (rd_L3 t (i : Int)).length then
       (if rd (rd_L3 t ((i : Int) + 1)) (j : Int) = rd (rd_L3 t (i : Int)) (j : Int) then dif a b t d out (put ++ ⟨#[]⟩) (drop ++ a.extract i (i + 1)) (i + 1) j
       else (if j < b.size then dif a b t d out (put ++ b.extract j (j + 1)) (drop ++ ⟨#[]⟩) i (j + 1) else none))
      else none))
    else dif a b t d out (put ++ b.extract j (j + 1)) (drop ++ ⟨#[]⟩) i (j + 1))
   else none)
  else (if out.length + 3 ≤ 3518437208883 then some (out ++ ends put drop) else none)
def impl_DiffOps.f (k : Nat) (a0 : ByteArray) (a1 : ByteArray) : Option (List S74 × Bool) := if a0.size + a1.size < 4611686018427387904 then (impl_areTexts.f k a0 a1).bind fun t => (if t = true then ((impl_common.f k a0 a1).bind fun tb => (dif a0 a1 tb (a0.size + a1.size + 1) [] ⟨#[]⟩ ⟨#[]⟩ 0 0).bind fun op => impl_goodOp.f k op) else some ([], false)) else none
def DifAt (w : World) (g : Nat) (a b : ByteArray) (tb : List (List Int)) (vt : Value) (op : List S74) (d : Nat) (v8 v9 : Value) (w' : World) : Prop :=
 ∃ (i j : Nat) (v : Value) (out : List S74) (put drop : ByteArray), v8 = .int .i64 i ∧ v9 = .int .i64 j ∧ i ≤ a.size ∧ j ≤ b.size ∧ Mk w w' g v out put drop ∧ Kd.R (Kd.slice 3 (Kd.int .i64)) 83 w' w.heap.size (fun _ => True) vt tb ∧ dif a b tb d out put drop i j = some op
set_option maxHeartbeats 8000000 in
set_option maxRecDepth 100000 in
theorem impl_DiffOps.calls (k : Nat) (a0 : ByteArray) (a1 : ByteArray) (r1 : List S74) (r2 : Bool) (w : World) (h : impl_DiffOps.f k a0 a1 = some (r1, r2)) :
  Calls Try.prog 16 #[.string a0, .string a1] w fun e w' => ∃ v0_ : Value, e = .returned (.tuple #[v0_, .bool r2]) ∧ Kd.R k74 74 w' w.heap.size (fun _ => True) v0_ r1 ∧ Below w.heap.size w w' := by
 unfold impl_DiffOps.f at h
 split at h
 case isFalse => cases h
 case isTrue hsz =>
 obtain ⟨t, ht, h⟩ := Option.bind_eq_some_iff.mp h
 have HT := Aside0.mk ht
 cases t with
 | false =>
  simp only [Bool.false_eq_true, if_false, Option.some.injEq, Prod.mk.injEq] at h
  obtain ⟨rfl, rfl⟩ := h
  clear ht hsz
  go_enter Try.func16, Try.ntmps16
  go_wp2_with (first | (go_at_call 52; refine (impl_areTexts.calls k a0 a1 false _ HT.out).mono ?_; rintro e w' ⟨rfl, ⟨nd, rfl⟩⟩))
  go_ret2
  exact ⟨_, rfl, Kd.R_nil _ _ _ _ _, Drawn0.below ⟨_, rfl⟩⟩
 | true =>
  simp only [if_true] at h
  obtain ⟨tb, htb, h⟩ := Option.bind_eq_some_iff.mp h
  obtain ⟨op, hop, h⟩ := Option.bind_eq_some_iff.mp h
  have HTB := Aside0.mk htb
  have HOP := Aside0.mk hop
  have HG := Aside0.mk h
  have HSZ := Aside0.mk hsz
  clear ht htb hop h hsz
  go_enter Try.func16, Try.ntmps16
  go_wp2_with (first | (go_at_call 52; refine (impl_areTexts.calls k a0 a1 true _ HT.out).mono ?_; rintro e w' ⟨rfl, ⟨nd, rfl⟩⟩) | (go_at_call 53; refine (impl_common.calls k a0 a1 tb _ HTB.out).mono ?_; rintro e w1 ⟨vt, rfl, hst, hb1⟩; have HST := Aside0.mk (Kd.R_lower (Kd.S_R hst) (Nat.le_refl w.heap.size)); have HB1 : Aside0 (Below w.heap.size w w1) := ⟨below_step (pw_below_drewN (Below.refl _ _) _) hb1⟩; clear hst hb1))
  obtain ⟨At, ct, eo⟩ := Kd.R_slice HST.out
  subst eo
  have HM0 : Aside0 (Mk w (w1.alloc (.cells #[.slice none 0 0, .string ⟨#[]⟩, .string ⟨#[]⟩] 81)) w1.heap.size (.slice none 0 0) [] ⟨#[]⟩ ⟨#[]⟩) := ⟨⟨heap_alloc_new w1 _, Kd.R_nil _ _ _ _ _, below_alloc HB1.out _, HB1.out.size⟩⟩
  have HS0 := Aside0.mk (Kd.R_alloc HST.out (.cells #[.slice none 0 0, .string ⟨#[]⟩, .string ⟨#[]⟩] 81))
  go_loopg [8, 9] (a0.size + a1.size + 1) (fun d v8 v9 w' => DifAt w w1.heap.size a0 a1 tb (.slice At tb.length ct) op d v8 v9 w')
  case atStart => exact ⟨0, 0, _, _, _, _, rfl, rfl, Nat.zero_le _, Nat.zero_le _, HM0.out, HS0.out, HOP.out⟩
  case round =>
   obtain ⟨i, j, v, out, put, drop, rfl, rfl, hi, hj, hm, htb, hd⟩ := hrel
   have HM := Aside0.mk hm
   have HTB := Aside0.mk htb
   have HWI : Aside0 (wrap64 ((i : Int) + 1) = ((i + 1 : Nat) : Int)) := ⟨by have := HSZ.out; unfold wrap64; omega⟩
   have HWJ : Aside0 (wrap64 ((j : Int) + 1) = ((j + 1 : Nat) : Int)) := ⟨by have := HSZ.out; unfold wrap64; omega⟩
   cases gk with
   | zero => exact absurd hd (by simp [dif])
   | succ k1 =>
   unfold dif at hd
   by_cases hx : i < a0.size ∨ j < a1.size
   ·rw [if_pos hx] at hd
    split at hd
    case isFalse => cases hd
    case isTrue hlt =>
    obtain ⟨hl1, hl2, hl3⟩ := hlt
    have H1 := Aside0.mk hl1
    have H2 := Aside0.mk hl2
    have H3 := Aside0.mk hl3
    by_cases ha0 : i < a0.size
    ·rw [if_pos ha0] at hd
     by_cases hK : j < a1.size ∧ bt a0 (i : Int) = bt a1 (j : Int)
     ·rw [if_pos hK] at hd
      obtain ⟨ha1, hbt⟩ := hK
      have HN := Aside0.mk hd
      have hbb : (bt a0 (i : Int) == bt a1 (j : Int)) = true := beq_iff_eq.mpr hbt
      have pa0 : decide (i < a0.size) = true := decide_eq_true ha0
      have za0 : (0 ≤ (i : Int)) = True := eq_true (by omega)
      have xa0 : ∀ h : i < a0.size, ((a0[i]'h).toNat : Int) = bt a0 (i : Int) := fun h => by have := bt_at a0 (i : Int); simp only [Int.toNat_natCast] at this; exact this h
      have pa1 : decide (j < a1.size) = true := decide_eq_true ha1
      have za1 : (0 ≤ (j : Int)) = True := eq_true (by omega)
      have xa1 : ∀ h : j < a1.size, ((a1[j]'h).toNat : Int) = bt a1 (j : Int) := fun h => by have := bt_at a1 (j : Int); simp only [Int.toNat_natCast] at this; exact this h
      clear hd hm htb hbt hx hl1 hl2 hl3
      go_wp2
      repeat (go_quiet (fail); try go_wp2_with (first | (go_at_call 54; refine (mk_keep w _ _ v out put drop 1 (by first | exact HM.out.drewN _ | exact HM.out) H1.out).mono ?_; rintro e w2 ⟨rfl, v2, h2_, ht2⟩; have HM2 := Aside0.mk h2_; have HT2 := Aside0.mk (R_mkto (by first | exact Kd.R_drewN HTB.out _ | exact HTB.out) (by first | exact HM.out.drewN _ | exact HM.out) ht2 (by decide) (by decide)); clear h2_ ht2)))
      go_roundg k1
      case measure => omega
      case rel => exact ⟨i + 1, j + 1, _, _, _, _, by rw [HWI.out], by rw [HWJ.out], by omega, by omega, HM2.out, HT2.out, HN.out⟩
     ·rw [if_neg hK] at hd
      split at hd
      case isFalse => cases hd
      case isTrue hg =>
      obtain ⟨hg1, hg2, hg3⟩ := hg
      by_cases hj0 : j < a1.size
      ·have hbt : ¬ bt a0 (i : Int) = bt a1 (j : Int) := fun e => hK ⟨hj0, e⟩
       have hbb : (bt a0 (i : Int) == bt a1 (j : Int)) = false := beq_eq_false_iff_ne.mpr hbt
       have ha1 := hj0
       have pa0 : decide (i < a0.size) = true := decide_eq_true ha0
       have za0 : (0 ≤ (i : Int)) = True := eq_true (by omega)
       have xa0 : ∀ h : i < a0.size, ((a0[i]'h).toNat : Int) = bt a0 (i : Int) := fun h => by have := bt_at a0 (i : Int); simp only [Int.toNat_natCast] at this; exact this h
       have pa1 : decide (j < a1.size) = true := decide_eq_true ha1
       have za1 : (0 ≤ (j : Int)) = True := eq_true (by omega)
       have xa1 : ∀ h : j < a1.size, ((a1[j]'h).toNat : Int) = bt a1 (j : Int) := fun h => by have := bt_at a1 (j : Int); simp only [Int.toNat_natCast] at this; exact this h
       clear hbt
       go_wp2
       go_quiet (fail)
       go_wp2
       obtain ⟨s, hs⟩ : ∃ s : Int, (i : Int) + 1 = s := ⟨_, rfl⟩
       rw [hs] at hd hg2
       have hs0 : 0 ≤ s := by omega
       have hs1 : s < (tb.length : Int) := by omega
       obtain ⟨ad, A1, c1, e1, t1, l1, g1⟩ := at_L3 (Kd.R_reads' HTB.out).2.2 s hs0 hs1
       obtain ⟨ad', A2, c2, e2, t2, l2, g2⟩ := at_L3 (Kd.R_reads' HTB.out).2.2 (i : Int) (by omega) (by omega)
       obtain rfl := e1
       obtain rfl := Option.some.inj e2
       obtain ⟨b1, f1, r1⟩ := Kd.at_int g1 (j : Int) (by omega) (by omega)
       obtain ⟨b2, f2, r2⟩ := Kd.at_int g2 (j : Int) (by omega) (by omega)
       simp only [Int.toNat_natCast] at t2 r1 r2
       have hw1 : IntKind.i64.wrap ((i : Int) + 1) = s := (i64_w _).trans (HWI.out.trans (by omega))
       replace hs0 := eq_true hs0
       replace hs1 := eq_true hs1
       have q3 : (j < (rd_L3 tb s).length) = True := eq_true hg2
       have q4 : (j < (rd_L3 tb (i : Int)).length) = True := eq_true hg3
       have q5 : (i < tb.length) = True := eq_true (by omega)
       obtain rfl := f1
       obtain rfl := f2
       clear e2 g1 g2 l1 l2
       by_cases hE : rd (rd_L3 tb s) (j : Int) = rd (rd_L3 tb (i : Int)) (j : Int)
       ·rw [if_pos hE] at hd
        have HN := Aside0.mk hd
        have hEb : (rd (rd_L3 tb s) (j : Int) == rd (rd_L3 tb (i : Int)) (j : Int)) = true := beq_iff_eq.mpr hE
        have SE : Aside0 ((a0.extract i s.toNat).size = 1) := ⟨by rw [ByteArray.size_extract]; omega⟩
        have HSI : Aside0 (s = ((i + 1 : Nat) : Int)) := ⟨by omega⟩
        have HSN : Aside0 (s.toNat = i + 1) := ⟨by omega⟩
        have hsl1 : ((i : Int) ≤ s) = True := eq_true (by omega)
        have hsl2 : (s ≤ (a0.size : Int)) = True := eq_true (by omega)
        clear hd hm htb hE hx hl1 hl2 hl3 hg1 hg2 hg3 hK hs
        go_quiet (fail)
        go_wp2_with (first | (go_at_call 55; refine (mk_take w _ _ v out put drop (⟨0, (⟨#[]⟩ : ByteArray), (a0.extract i s.toNat)⟩ : S74) (by first | exact HM.out.drewN _ | exact HM.out) H1.out ?_ ?_).mono ?_; (case refine_1 => exact by show put.size + 0 ≤ _; have := H2.out; omega); (case refine_2 => exact by show drop.size + (a0.extract i s.toNat).size ≤ _; rw [SE.out]; exact H3.out); rintro e w2 ⟨rfl, v2, h2_, ht2⟩; have HM2 := Aside0.mk h2_; have HT2 := Aside0.mk (R_mkto (by first | exact Kd.R_drewN HTB.out _ | exact HTB.out) (by first | exact HM.out.drewN _ | exact HM.out) ht2 (by decide) (by decide)); clear h2_ ht2))
        rw [HSN.out] at HM2
        go_roundg k1
        case measure => omega
        case rel => exact ⟨i + 1, j, _, _, _, _, by first | rw [HSI.out] | rw [HWI.out] | go_num, rfl, by omega, by omega, HM2.out, HT2.out, HN.out⟩
       ·rw [if_neg hE] at hd
        rw [if_pos hj0] at hd
        have HN := Aside0.mk hd
        have hEb : (rd (rd_L3 tb s) (j : Int) == rd (rd_L3 tb (i : Int)) (j : Int)) = false := beq_eq_false_iff_ne.mpr hE
        obtain ⟨sj, hsj⟩ : ∃ s : Int, (j : Int) + 1 = s := ⟨_, rfl⟩
        have hwj : IntKind.i64.wrap ((j : Int) + 1) = sj := (i64_w _).trans (HWJ.out.trans (by omega))
        have HSJ : Aside0 (sj = ((j + 1 : Nat) : Int)) := ⟨by omega⟩
        have HSN : Aside0 (sj.toNat = j + 1) := ⟨by omega⟩
        have hsl1 : ((j : Int) ≤ sj) = True := eq_true (by omega)
        have hsl2 : (sj ≤ (a1.size : Int)) = True := eq_true (by omega)
        have SE : Aside0 ((a1.extract j sj.toNat).size = 1) := ⟨by rw [ByteArray.size_extract]; omega⟩
        clear hsj
        clear hd hm htb hE hx hl1 hl2 hl3 hg1 hg2 hg3 hK hs
        go_quiet (fail)
        go_wp2_with (first | (go_at_call 55; refine (mk_take w _ _ v out put drop (⟨0, (a1.extract j sj.toNat), (⟨#[]⟩ : ByteArray)⟩ : S74) (by first | exact HM.out.drewN _ | exact HM.out) H1.out ?_ ?_).mono ?_; (case refine_1 => exact by show put.size + (a1.extract j sj.toNat).size ≤ _; rw [SE.out]; exact H2.out); (case refine_2 => exact by show drop.size + 0 ≤ _; have := H3.out; omega); rintro e w2 ⟨rfl, v2, h2_, ht2⟩; have HM2 := Aside0.mk h2_; have HT2 := Aside0.mk (R_mkto (by first | exact Kd.R_drewN HTB.out _ | exact HTB.out) (by first | exact HM.out.drewN _ | exact HM.out) ht2 (by decide) (by decide)); clear h2_ ht2))
        rw [HSN.out] at HM2
        go_roundg k1
        case measure => omega
        case rel => exact ⟨i, j + 1, _, _, _, _, rfl, by first | rw [HSJ.out] | rw [HWJ.out] | go_num, by omega, by omega, HM2.out, HT2.out, HN.out⟩
      ·have pa1 : decide (j < a1.size) = false := decide_eq_false hj0
       have pa0 : decide (i < a0.size) = true := decide_eq_true ha0
       go_wp2
       go_quiet (fail)
       go_wp2
       obtain ⟨s, hs⟩ : ∃ s : Int, (i : Int) + 1 = s := ⟨_, rfl⟩
       rw [hs] at hd hg2
       have hs0 : 0 ≤ s := by omega
       have hs1 : s < (tb.length : Int) := by omega
       obtain ⟨ad, A1, c1, e1, t1, l1, g1⟩ := at_L3 (Kd.R_reads' HTB.out).2.2 s hs0 hs1
       obtain ⟨ad', A2, c2, e2, t2, l2, g2⟩ := at_L3 (Kd.R_reads' HTB.out).2.2 (i : Int) (by omega) (by omega)
       obtain rfl := e1
       obtain rfl := Option.some.inj e2
       obtain ⟨b1, f1, r1⟩ := Kd.at_int g1 (j : Int) (by omega) (by omega)
       obtain ⟨b2, f2, r2⟩ := Kd.at_int g2 (j : Int) (by omega) (by omega)
       simp only [Int.toNat_natCast] at t2 r1 r2
       have hw1 : IntKind.i64.wrap ((i : Int) + 1) = s := (i64_w _).trans (HWI.out.trans (by omega))
       replace hs0 := eq_true hs0
       replace hs1 := eq_true hs1
       have q3 : (j < (rd_L3 tb s).length) = True := eq_true hg2
       have q4 : (j < (rd_L3 tb (i : Int)).length) = True := eq_true hg3
       have q5 : (i < tb.length) = True := eq_true (by omega)
       obtain rfl := f1
       obtain rfl := f2
       clear e2 g1 g2 l1 l2
       by_cases hE : rd (rd_L3 tb s) (j : Int) = rd (rd_L3 tb (i : Int)) (j : Int)
       ·rw [if_pos hE] at hd
        have HN := Aside0.mk hd
        have hEb : (rd (rd_L3 tb s) (j : Int) == rd (rd_L3 tb (i : Int)) (j : Int)) = true := beq_iff_eq.mpr hE
        have SE : Aside0 ((a0.extract i s.toNat).size = 1) := ⟨by rw [ByteArray.size_extract]; omega⟩
        have HSI : Aside0 (s = ((i + 1 : Nat) : Int)) := ⟨by omega⟩
        have HSN : Aside0 (s.toNat = i + 1) := ⟨by omega⟩
        have hsl1 : ((i : Int) ≤ s) = True := eq_true (by omega)
        have hsl2 : (s ≤ (a0.size : Int)) = True := eq_true (by omega)
        clear hd hm htb hE hx hl1 hl2 hl3 hg1 hg2 hg3 hK hs
        go_quiet (fail)
        go_wp2_with (first | (go_at_call 55; refine (mk_take w _ _ v out put drop (⟨0, (⟨#[]⟩ : ByteArray), (a0.extract i s.toNat)⟩ : S74) (by first | exact HM.out.drewN _ | exact HM.out) H1.out ?_ ?_).mono ?_; (case refine_1 => exact by show put.size + 0 ≤ _; have := H2.out; omega); (case refine_2 => exact by show drop.size + (a0.extract i s.toNat).size ≤ _; rw [SE.out]; exact H3.out); rintro e w2 ⟨rfl, v2, h2_, ht2⟩; have HM2 := Aside0.mk h2_; have HT2 := Aside0.mk (R_mkto (by first | exact Kd.R_drewN HTB.out _ | exact HTB.out) (by first | exact HM.out.drewN _ | exact HM.out) ht2 (by decide) (by decide)); clear h2_ ht2))
        rw [HSN.out] at HM2
        go_roundg k1
        case measure => omega
        case rel => exact ⟨i + 1, j, _, _, _, _, by first | rw [HSI.out] | rw [HWI.out] | go_num, rfl, by omega, by omega, HM2.out, HT2.out, HN.out⟩
       ·rw [if_neg hE] at hd
        rw [if_neg hj0] at hd
        cases hd
    ·rw [if_neg ha0] at hd
     have HN := Aside0.mk hd
     have hj1 : j < a1.size := hx.resolve_left ha0
     have pa0 : decide (i < a0.size) = false := decide_eq_false ha0
     have pa1 : decide (j < a1.size) = true := decide_eq_true hj1
     obtain ⟨sj, hsj⟩ : ∃ s : Int, (j : Int) + 1 = s := ⟨_, rfl⟩
     have hwj : IntKind.i64.wrap ((j : Int) + 1) = sj := (i64_w _).trans (HWJ.out.trans (by omega))
     have HSJ : Aside0 (sj = ((j + 1 : Nat) : Int)) := ⟨by omega⟩
     have HSN : Aside0 (sj.toNat = j + 1) := ⟨by omega⟩
     have hsl1 : ((j : Int) ≤ sj) = True := eq_true (by omega)
     have hsl2 : (sj ≤ (a1.size : Int)) = True := eq_true (by omega)
     have SE : Aside0 ((a1.extract j sj.toNat).size = 1) := ⟨by rw [ByteArray.size_extract]; omega⟩
     clear hsj
     clear hd hm htb hx hl1 hl2 hl3
     go_wp2
     go_quiet (fail)
     go_wp2
     go_quiet (fail)
     go_wp2_with (first | (go_at_call 55; refine (mk_take w _ _ v out put drop (⟨0, (a1.extract j sj.toNat), (⟨#[]⟩ : ByteArray)⟩ : S74) (by first | exact HM.out.drewN _ | exact HM.out) H1.out ?_ ?_).mono ?_; (case refine_1 => exact by show put.size + (a1.extract j sj.toNat).size ≤ _; rw [SE.out]; exact H2.out); (case refine_2 => exact by show drop.size + 0 ≤ _; have := H3.out; omega); rintro e w2 ⟨rfl, v2, h2_, ht2⟩; have HM2 := Aside0.mk h2_; have HT2 := Aside0.mk (R_mkto (by first | exact Kd.R_drewN HTB.out _ | exact HTB.out) (by first | exact HM.out.drewN _ | exact HM.out) ht2 (by decide) (by decide)); clear h2_ ht2))
     rw [HSN.out] at HM2
     go_roundg k1
     case measure => omega
     case rel => exact ⟨i, j + 1, _, _, _, _, rfl, by first | rw [HSJ.out] | rw [HWJ.out] | go_num, by omega, by omega, HM2.out, HT2.out, HN.out⟩
   ·rw [if_neg hx] at hd
    split at hd
    case isFalse => cases hd
    case isTrue hl1 =>
    obtain rfl := Option.some.inj hd
    have H1 := Aside0.mk hl1
    have pa0 : decide (i < a0.size) = false := decide_eq_false (fun e => hx (.inl e))
    have pa1 : decide (j < a1.size) = false := decide_eq_false (fun e => hx (.inr e))
    clear hd hm htb hx hl1
    go_wp2_with (first | (go_at_call 57; refine (mk_made w _ _ v out put drop (by first | exact HM.out.drewN _ | exact HM.out) H1.out).mono ?_; rintro e w2 ⟨v2, rfl, hr2, hb2, ht2⟩; have HR2 := Aside0.mk hr2; have HB2 := Aside0.mk hb2; clear hr2 hb2 ht2) | (go_at_call 56; refine (impl_goodOp.calls k (fun _ => True) _ _ r1 r2 w _ HB2.out HR2.out HG.out).mono ?_; rintro e w3 ⟨v3, rfl, hr3, hb3, -⟩; have HR3 := Aside0.mk (Kd.R_mono (ok' := fun _ => True) hr3 (fun _ _ => trivial)); have HB3 := Aside0.mk hb3; clear hr3 hb3))
    go_ret2
    exact ⟨_, rfl, HR3.out, HB3.out⟩
theorem impl_DiffOps.mono : ∀ a0 a1 k, LeO (impl_DiffOps.f k a0 a1) (impl_DiffOps.f (k + 1) a0 a1) := by
 intro a0 a1 k
 unfold impl_DiffOps.f
 repeat' first
   | (with_reducible exact impl_areTexts.mono _ _ _)
   | (with_reducible exact impl_common.mono _ _ _)
   | (with_reducible exact impl_goodOp.mono _ _)
   | (with_reducible exact LeO.refl _)
   | (with_reducible exact LeO.none _)
   | (with_reducible refine LeO.ite ?_ ?_)
   | (with_reducible refine LeO.bind ?_ (fun _ => ?_))

/-! ### laws_markText: function 58 -/
def laws_markText.l0 : Nat → Int → ByteArray → Option (ByteArray)
 | 0, _, _ => none
 | k + 1, x0, x3 => if x0 > 0 then ((some (([(wrap64 (48 + (Int.tmod x0 10))) % 256] : List Int) : List Int)).bind fun y241 => (if (strOfNums y241).size + x3.size ≤ 9223372036854775807 then (laws_markText.l0 k (wrap64 (Int.tdiv x0 10)) ((strOfNums y241) ++ x3)) else (none))) else (if 1 + x3.size ≤ 9223372036854775807 then (some ((⟨#[109]⟩ : ByteArray) ++ x3)) else (none))
def laws_markText.f (k : Nat) (a0 : Int) : Option (ByteArray) := if a0 ≤ 0 then (some (⟨#[109, 48]⟩ : ByteArray)) else (laws_markText.l0 k a0 (⟨#[]⟩ : ByteArray))
theorem laws_markText.mono_l : ∀ k, (∀ y0 y1, LeO (laws_markText.l0 k y0 y1) (laws_markText.l0 (k + 1) y0 y1))
 | 0 => fun _ _ r h => by simp [laws_markText.l0] at h
 | k + 1 => by
  have ih0 := laws_markText.mono_l k
  ·intro y0 y1
   unfold laws_markText.l0
   repeat' first
   | (with_reducible exact ih0 _ _)
   | (with_reducible exact LeO.refl _)
   | (with_reducible exact LeO.none _)
   | (with_reducible refine LeO.ite ?_ ?_)
   | (with_reducible refine LeO.bind ?_ (fun _ => ?_))
   | exact ih0 _ _
   | exact LeO.none _
   | refine LeO.ite ?_ ?_
   | refine LeO.bind ?_ (fun _ => ?_)
theorem laws_markText.mono : ∀ a0 k, LeO (laws_markText.f k a0) (laws_markText.f (k + 1) a0) := by
 intro a0 k
 have ih0 := laws_markText.mono_l k
 unfold laws_markText.f
 repeat' first
   | (with_reducible exact ih0 _ _)
   | (with_reducible exact LeO.refl _)
   | (with_reducible exact LeO.none _)
   | (with_reducible refine LeO.ite ?_ ?_)
   | (with_reducible refine LeO.bind ?_ (fun _ => ?_))
   | exact ih0 _ _
   | exact LeO.none _
   | refine LeO.ite ?_ ?_
   | refine LeO.bind ?_ (fun _ => ?_)
set_option maxHeartbeats 8000000 in
set_option maxRecDepth 100000 in
theorem laws_markText.calls (k : Nat) (a0 : Int) (r : ByteArray) (w : World) (h : laws_markText.f k a0 = some r) :
  Calls Try.prog 58 #[.int .i64 a0] w fun e w' => e = .returned (.string r) ∧ Below w.heap.size w w' := by
 have HB := Aside0.mk (Below.refl w.heap.size w)
 have H : (if a0 ≤ 0 then (some (⟨#[109, 48]⟩ : ByteArray)) else (laws_markText.l0 k a0 (⟨#[]⟩ : ByteArray))) = some r := h
 clear h
 by_cases c2 : a0 ≤ 0
 ·rw [if_pos c2] at H
  have c2b0 : decide (a0 ≤ 0) = true := decide_eq_true c2
  clear c2
  obtain rfl := Option.some.inj H
  go_enter Try.func58, Try.ntmps58
  go_wp2
  go_ret
  exact ⟨by first | rfl | (simp [errW_none, errW_some] <;> rfl) | (simp [*, errW_none, errW_some] <;> rfl), by repeat (first | (with_reducible first | exact HB.out | apply below_alloc | apply pw_below_drewN | apply below_drew1) | exact HB.out)⟩
 ·rw [if_neg c2] at H
  have c2b0 : decide (a0 ≤ 0) = false := decide_eq_false c2
  clear c2
  have H' := Aside0.mk H
  clear H
  go_enter Try.func58, Try.ntmps58
  go_wp2
  go_loopg [0, 3] k (fun kq v0 v3 w' => ∃ (x0_1 : Int) (x3_1 : ByteArray), v0 = .int .i64 x0_1 ∧ v3 = .string x3_1 ∧ Aside0 (laws_markText.l0 kq x0_1 x3_1 = some r) ∧ Aside0 (kq ≤ k) ∧ Aside0 (Below w.heap.size w w'))
  case atStart => exact ⟨(a0), ((⟨#[]⟩ : ByteArray)), (by first | rfl | (simp; done) | (simp [*]; done)), (by first | rfl | (simp; done) | (simp [*]; done)), H', ⟨Nat.le_refl _⟩, ⟨by repeat (first | (with_reducible first | exact HB.out | apply below_alloc | apply pw_below_drewN | apply below_drew1) | exact HB.out)⟩⟩
  case round =>
   clear H'
   try clear c2
   try clear c2b0
   try clear p2
   obtain ⟨x0_1, x3_1, rfl, rfl, HA, HK1, HB⟩ := hrel
   cases gk with
   | zero => exact absurd HA.out (by simp [laws_markText.l0])
   | succ k1 =>
    have H := HA.out
    clear HA
    simp only [laws_markText.l0] at H
    by_cases c3 : x0_1 > 0
    ·rw [if_pos c3] at H
     have c3b0 : decide (0 < x0_1) = true := decide_eq_true c3
     clear c3
     obtain ⟨y241, hy241⟩ : ∃ y_ : List Int, y_ = (([(wrap64 (48 + (Int.tmod x0_1 10))) % 256] : List Int)) := ⟨_, rfl⟩
     replace H : (if (strOfNums y241).size + x3_1.size ≤ 9223372036854775807 then (laws_markText.l0 k1 (wrap64 (Int.tdiv x0_1 10)) ((strOfNums y241) ++ x3_1)) else (none)) = some r := by first | (rw [hy241]; with_reducible exact H) | (have H2_ := (Option.bind_some _ _).symm.trans H; rw [hy241]; with_reducible exact H2_) | (have H2_ := (Option.bind_some _ _).symm.trans H; with_reducible exact H2_) | with_reducible exact H | (rw [hy241]; exact H) | exact H
     have Ny241 := Aside0.mk hy241
     clear hy241
     by_cases c4 : (strOfNums y241).size + x3_1.size ≤ 9223372036854775807
     ·rw [if_pos c4] at H
      have c4b0 := eq_true c4
      have c4b1 : decide ((strOfNums y241).size + x3_1.size ≤ 9223372036854775807) = true := decide_eq_true c4
      try have c4b2 : (9223372036854775807 < (strOfNums y241).size + x3_1.size) = False := eq_false (Nat.not_lt.2 c4)
      have H' := Aside0.mk H
      clear H
      go_wp2_with (first | ((with_reducible refine gate_dst (N := 12) rfl ?_); refine Kd.R_lit (Kd.int .u8) _ 5 ?hg (N := 12) ?hd (xs := ([(wrap64 (48 + (Int.tmod x0_1 10))) % 256] : List Int)) (inner := [.int .u8 ((wrap64 (48 + (Int.tmod x0_1 10))) % 256)]) (ok := fun _ => True) (okp := fun _ => True) ?hr ?hp (fun _ hk => hk) trivial (Below.refl _ _) (Nat.le_refl _) (by simp) ?_; (case hd => rfl); (case hg => rfl); (case hr => first | (go_simp; done) | (go_simp; rfl)); (case hp => exact (Reps.one (show Kd.M (Kd.int .u8) _ _ _ ((wrap64 (48 + (Int.tmod x0_1 10))) % 256) [.int .u8 ((wrap64 (48 + (Int.tmod x0_1 10))) % 256)] from rfl) (Reps.none _ _))); intro v242 w5 ho6 hb hg_ hnew_; clear hg_ hnew_; (first | rw [← Ny241.out] at ho6 | (simp only [Int.reduceToNat] at ho6; rw [← Ny241.out] at ho6)); have n0_ := Aside0.mk (Kd.R_lower ho6 (below_size (by repeat (first | (with_reducible first | exact HB.out | apply below_alloc | apply pw_below_drewN | apply below_drew1) | exact HB.out)))); have n1_ := Aside0.mk (below_step (by repeat (first | (with_reducible first | exact HB.out | apply below_alloc | apply pw_below_drewN | apply below_drew1) | exact HB.out)) hb); clear HB; have HO243 := n0_; have HB := n1_; clear n0_ n1_; clear hb ho6; have hcv7 := own_string (P := Try.prog) Try.underlying34 Try.underlying5 Try.underlying9 (Kd.own_of_R HO243.out)))
      go_roundg k1
      case measure => have := HK1.out; omega
      case rel => exact ⟨(wrap64 (Int.tdiv x0_1 10)), ((strOfNums y241) ++ x3_1), (by first | rfl | (simp; done) | (simp [*]; done)), (by first | rfl | (simp; done) | (simp [*]; done)), H', ⟨by have := HK1.out; omega⟩, ⟨by repeat (first | (with_reducible first | exact HB.out | apply below_alloc | apply pw_below_drewN | apply below_drew1) | exact HB.out)⟩⟩
     ·rw [if_neg c4] at H
      exact absurd H (by simp)
    ·rw [if_neg c3] at H
     have c3b0 : decide (0 < x0_1) = false := decide_eq_false c3
     clear c3
     by_cases c8 : 1 + x3_1.size ≤ 9223372036854775807
     ·rw [if_pos c8] at H
      have c8b0 := eq_true c8
      have c8b1 : decide (1 + x3_1.size ≤ 9223372036854775807) = true := decide_eq_true c8
      try have c8b2 : (9223372036854775807 < 1 + x3_1.size) = False := eq_false (Nat.not_lt.2 c8)
      obtain rfl := Option.some.inj H
      go_wp2
      go_ret
      exact ⟨by first | rfl | (simp [errW_none, errW_some] <;> rfl) | (simp [*, errW_none, errW_some] <;> rfl), by repeat (first | (with_reducible first | exact HB.out | apply below_alloc | apply pw_below_drewN | apply below_drew1) | exact HB.out)⟩
     ·rw [if_neg c8] at H
      exact absurd H (by simp)

/-! ### laws_markPartS: function 17 -/
def laws_markPartS.l0 : Nat → List (S74) → Int → Int → Option (Int × (List (S74)))
 | 0, _, _, _ => none
 | k + 1, x0, x1, x5 => if x5 < (x0.length : Int) then (if 0 ≤ x5 then ((some (x0.set (x5 : Int).toNat (⟨x1, (rd_T74 x0 x5).f1, (rd_T74 x0 x5).f2⟩ : S74) : List (S74))).bind fun y244 => ((laws_markText.f k (wrap64 (x1 + 1))).bind fun t245 => ((some (y244.set (x5 : Int).toNat (⟨(rd_T74 y244 x5).f0, t245, (rd_T74 y244 x5).f2⟩ : S74) : List (S74))).bind fun y246 => ((laws_markText.f k (wrap64 ((wrap64 (x1 + 1)) + 1))).bind fun t247 => (laws_markPartS.l0 k (y246.set (x5 : Int).toNat (⟨(rd_T74 y246 x5).f0, (rd_T74 y246 x5).f1, t247⟩ : S74)) (wrap64 ((wrap64 ((wrap64 (x1 + 1)) + 1)) + 1)) (wrap64 (x5 + 1))))))) else (none)) else (some (x1, x0))
def laws_markPartS.f (k : Nat) (l0 : List (S74)) (a1 : Int) : Option (Int × (List (S74))) := laws_markPartS.l0 k l0 a1 0
theorem laws_markPartS.mono_l : ∀ k, (∀ y0 y1 y2, LeO (laws_markPartS.l0 k y0 y1 y2) (laws_markPartS.l0 (k + 1) y0 y1 y2))
 | 0 => fun _ _ _ r h => by simp [laws_markPartS.l0] at h
 | k + 1 => by
  have ih0 := laws_markPartS.mono_l k
  ·intro y0 y1 y2
   unfold laws_markPartS.l0
   repeat' first
   | (with_reducible exact ih0 _ _ _)
   | (with_reducible exact laws_markText.mono _ _)
   | (with_reducible exact LeO.refl _)
   | (with_reducible exact LeO.none _)
   | (with_reducible refine LeO.ite ?_ ?_)
   | (with_reducible refine LeO.bind ?_ (fun _ => ?_))
   | exact ih0 _ _ _
   | exact laws_markText.mono _ _
   | exact LeO.none _
   | refine LeO.ite ?_ ?_
   | refine LeO.bind ?_ (fun _ => ?_)
theorem laws_markPartS.mono : ∀ a0 a1 k, LeO (laws_markPartS.f k a0 a1) (laws_markPartS.f (k + 1) a0 a1) := by
 intro a0 a1 k
 have ih0 := laws_markPartS.mono_l k
 unfold laws_markPartS.f
 repeat' first
   | (with_reducible exact ih0 _ _ _)
   | (with_reducible exact laws_markText.mono _ _)
   | (with_reducible exact LeO.refl _)
   | (with_reducible exact LeO.none _)
   | (with_reducible refine LeO.ite ?_ ?_)
   | (with_reducible refine LeO.bind ?_ (fun _ => ?_))
   | exact ih0 _ _ _
   | exact laws_markText.mono _ _
   | exact LeO.none _
   | refine LeO.ite ?_ ?_
   | refine LeO.bind ?_ (fun _ => ?_)
set_option maxHeartbeats 8000000 in
set_option maxRecDepth 100000 in
theorem laws_markPartS.calls (k : Nat) (P0_ : Nat → Prop) (u9000_ : Value) (l0 : List (S74)) (a1 : Int) (r1 : Int) (r2 : List (S74)) (w0 w : World) (hB : Below w0.heap.size w0 w) (ho0 : Kd.R k74 74 w w0.heap.size P0_ u9000_ l0) (h : laws_markPartS.f k l0 a1 = some (r1, r2)) :
  Calls Try.prog 17 #[u9000_, .int .i64 a1] w fun e w' => e = .returned (.int .i64 r1) ∧ Kd.R k74 74 w' w0.heap.size (fun k_ => (P0_ k_ ∨ w.heap.size ≤ k_)) u9000_ r2 ∧ Below w0.heap.size w0 w' ∧ Kept w w' (fun k_ => P0_ k_) := by
 have HO0 := Aside0.mk (show Kd.R k74 74 w w0.heap.size (fun k_ => (P0_ k_ ∨ w.heap.size ≤ k_)) u9000_ l0 from Kd.R_mono ho0 (fun k_ hk => (.inl hk)))
 have HK := Aside0.mk (Kept.refl w (fun k_ => P0_ k_))
 have HW0 := Aside0.mk hB.size
 have HB := Aside0.mk hB
 clear hB
 have H : (laws_markPartS.l0 k l0 a1 0) = some (r1, r2) := h
 clear h
 have H' := Aside0.mk H
 clear H
 go_enter Try.func17, Try.ntmps17
 go_wp2
 go_loopg [1, 5] k (fun kq v1 v5 w' => ∃ (x0_1 : List (S74)) (x1_1 : Int) (x5_1 : Int), v1 = .int .i64 x1_1 ∧ v5 = .int .i64 x5_1 ∧ Aside0 (laws_markPartS.l0 kq x0_1 x1_1 x5_1 = some (r1, r2)) ∧ Aside0 (kq ≤ k) ∧ Aside0 (Kd.R k74 74 w' w0.heap.size (fun k_ => (P0_ k_ ∨ w.heap.size ≤ k_)) u9000_ x0_1) ∧ Aside0 (Kept w w' (fun k_ => P0_ k_)) ∧ Aside0 (Below w0.heap.size w0 w'))
 case atStart => exact ⟨(l0), (a1), (0), (by first | rfl | (simp; done) | (simp [*]; done)), (by first | rfl | (simp; done) | (simp [*]; done)), H', ⟨Nat.le_refl _⟩, ⟨by (with_reducible repeat (first | apply Kd.R_alloc | apply Kd.R_drewN | apply Kd.R_drew)); exact HO0.out⟩, ⟨by repeat (first | (with_reducible first | exact HK.out | apply Kept.alloc | apply Kept.drewN | apply Kept.drew) | exact HK.out)⟩, ⟨by repeat (first | (with_reducible first | exact HB.out | apply below_alloc | apply pw_below_drewN | apply below_drew1) | exact HB.out)⟩⟩
 case round =>
  clear H'
  try clear c1
  try clear p2
  obtain ⟨x0_1, x1_1, x5_1, rfl, rfl, HA, HK1, HO_0, HK, HB⟩ := hrel
  cases gk with
  | zero => exact absurd HA.out (by simp [laws_markPartS.l0])
  | succ k1 =>
   have H := HA.out
   clear HA
   simp only [laws_markPartS.l0] at H
   by_cases c3 : x5_1 < (x0_1.length : Int)
   ·rw [if_pos c3] at H
    have c3b0 : decide (x5_1 < (x0_1.length : Int)) = true := decide_eq_true c3
    clear c3
    by_cases c4 : 0 ≤ x5_1
    ·rw [if_pos c4] at H
     have c4b0 : decide (0 ≤ x5_1) = true := decide_eq_true c4
     clear c4
     obtain ⟨y244, hy244⟩ : ∃ y_ : List (S74), y_ = (x0_1.set (x5_1 : Int).toNat (⟨x1_1, (rd_T74 x0_1 x5_1).f1, (rd_T74 x0_1 x5_1).f2⟩ : S74)) := ⟨_, rfl⟩
     replace H : ((laws_markText.f k1 (wrap64 (x1_1 + 1))).bind fun t245 => ((some (y244.set (x5_1 : Int).toNat (⟨(rd_T74 y244 x5_1).f0, t245, (rd_T74 y244 x5_1).f2⟩ : S74) : List (S74))).bind fun y246 => ((laws_markText.f k1 (wrap64 ((wrap64 (x1_1 + 1)) + 1))).bind fun t247 => (laws_markPartS.l0 k1 (y246.set (x5_1 : Int).toNat (⟨(rd_T74 y246 x5_1).f0, (rd_T74 y246 x5_1).f1, t247⟩ : S74)) (wrap64 ((wrap64 ((wrap64 (x1_1 + 1)) + 1)) + 1)) (wrap64 (x5_1 + 1)))))) = some (r1, r2) := by first | (rw [hy244]; with_reducible exact H) | (have H2_ := (Option.bind_some _ _).symm.trans H; rw [hy244]; with_reducible exact H2_) | (have H2_ := (Option.bind_some _ _).symm.trans H; with_reducible exact H2_) | with_reducible exact H | (rw [hy244]; exact H) | exact H
     have Ny244 := Aside0.mk hy244
     clear hy244
     replace H := Option.bind_eq_some_iff.mp H
     obtain ⟨t245, A60, H⟩ := H
     replace H : ((some (y244.set (x5_1 : Int).toNat (⟨(rd_T74 y244 x5_1).f0, t245, (rd_T74 y244 x5_1).f2⟩ : S74) : List (S74))).bind fun y246 => ((laws_markText.f k1 (wrap64 ((wrap64 (x1_1 + 1)) + 1))).bind fun t247 => (laws_markPartS.l0 k1 (y246.set (x5_1 : Int).toNat (⟨(rd_T74 y246 x5_1).f0, (rd_T74 y246 x5_1).f1, t247⟩ : S74)) (wrap64 ((wrap64 ((wrap64 (x1_1 + 1)) + 1)) + 1)) (wrap64 (x5_1 + 1))))) = some (r1, r2) := H
     have A6 := Aside0.mk A60
     clear A60
     obtain ⟨y246, hy246⟩ : ∃ y_ : List (S74), y_ = (y244.set (x5_1 : Int).toNat (⟨(rd_T74 y244 x5_1).f0, t245, (rd_T74 y244 x5_1).f2⟩ : S74)) := ⟨_, rfl⟩
     replace H : ((laws_markText.f k1 (wrap64 ((wrap64 (x1_1 + 1)) + 1))).bind fun t247 => (laws_markPartS.l0 k1 (y246.set (x5_1 : Int).toNat (⟨(rd_T74 y246 x5_1).f0, (rd_T74 y246 x5_1).f1, t247⟩ : S74)) (wrap64 ((wrap64 ((wrap64 (x1_1 + 1)) + 1)) + 1)) (wrap64 (x5_1 + 1)))) = some (r1, r2) := by first | (rw [hy246]; with_reducible exact H) | (have H2_ := (Option.bind_some _ _).symm.trans H; rw [hy246]; with_reducible exact H2_) | (have H2_ := (Option.bind_some _ _).symm.trans H; with_reducible exact H2_) | with_reducible exact H | (rw [hy246]; exact H) | exact H
     have Ny246 := Aside0.mk hy246
     clear hy246
     replace H := Option.bind_eq_some_iff.mp H
     obtain ⟨t247, A80, H⟩ := H
     replace H : (laws_markPartS.l0 k1 (y246.set (x5_1 : Int).toNat (⟨(rd_T74 y246 x5_1).f0, (rd_T74 y246 x5_1).f1, t247⟩ : S74)) (wrap64 ((wrap64 ((wrap64 (x1_1 + 1)) + 1)) + 1)) (wrap64 (x5_1 + 1))) = some (r1, r2) := H
     have A8 := Aside0.mk A80
     clear A80
     obtain ⟨y248, hy248⟩ : ∃ y_ : List (S74), y_ = (y246.set (x5_1 : Int).toNat (⟨(rd_T74 y246 x5_1).f0, (rd_T74 y246 x5_1).f1, t247⟩ : S74)) := ⟨_, rfl⟩
     replace H : (laws_markPartS.l0 k1 y248 (wrap64 ((wrap64 ((wrap64 (x1_1 + 1)) + 1)) + 1)) (wrap64 (x5_1 + 1))) = some (r1, r2) := by first | (rw [hy248]; with_reducible exact H) | (have H2_ := (Option.bind_some _ _).symm.trans H; rw [hy248]; with_reducible exact H2_) | (have H2_ := (Option.bind_some _ _).symm.trans H; with_reducible exact H2_) | with_reducible exact H | (rw [hy248]; exact H) | exact H
     have Ny248 := Aside0.mk hy248
     clear hy248
     have H' := Aside0.mk H
     clear H
     obtain ⟨Ao10, co10, eo10⟩ := Kd.R_slice HO_0.out
     subst eo10
     have p5 : 0 ≤ (x5_1 : Int) := of_decide_eq_true (by first | (with_reducible assumption) | assumption)
     have q5 : (x5_1 : Int) < ((x0_1.length : Int) : Int) := of_decide_eq_true (by first | (with_reducible assumption) | assumption)
     obtain ⟨go5, co5, eo5, gb5, gl5, cl5, HG5⟩ := Kd.R_form HO_0.out (by omega)
     (first | cases eo5 | (injection eo5 with ea_ en_ ec_; (first | subst ea_ | (injection ea_ with ea_; subst ea_)); subst ec_; clear en_))
     have GB5 := Aside0.mk gb5
     have GG5 := Aside0.mk HG5
     clear gb5 gl5 HG5
     have HMgo5 := Aside0.mk (show (P0_ go5 ∨ w.heap.size ≤ go5) from (HO_0.out.1 _ rfl))
     obtain ⟨ce5, hcl5, hM5, hcc5, hfr5⟩ := Kd.R_elem HO_0.out z74 (x5_1 : Int) p5 q5
     obtain rfl := k74_openM hM5
     have hx5_0 : wr.cell? ⟨go5, (x5_1 : Int).toNat * 3, none⟩ = some (.int .i64 ((rd_T74 x0_1 x5_1).f0)) := hcc5 0 _ rfl
     have hx5_1 : wr.cell? ⟨go5, (x5_1 : Int).toNat * 3 + 1, none⟩ = some (.string ((rd_T74 x0_1 x5_1).f1)) := hcc5 1 _ rfl
     have hx5_2 : wr.cell? ⟨go5, (x5_1 : Int).toNat * 3 + 2, none⟩ = some (.string ((rd_T74 x0_1 x5_1).f2)) := hcc5 2 _ rfl
     have hf5_0 : wr.frozen? ⟨go5, (x5_1 : Int).toNat * 3, none⟩ = false := hfr5 0
     have hf5_1 : wr.frozen? ⟨go5, (x5_1 : Int).toNat * 3 + 1, none⟩ = false := hfr5 1
     have hf5_2 : wr.frozen? ⟨go5, (x5_1 : Int).toNat * 3 + 2, none⟩ = false := hfr5 2
     clear hcl5 hcc5 hfr5; (try clear hM5)
     replace p5 := eq_true p5
     replace q5 := eq_true q5
     have HX11 := Aside0.mk (show Kd.R k74 74 wr w0.heap.size (fun k_ => (P0_ k_ ∨ w.heap.size ≤ k_)) (.slice (some ⟨go5, 0, none⟩) x0_1.length co10) x0_1 from (by (with_reducible repeat (first | apply Kd.R_alloc | apply Kd.R_drewN | apply Kd.R_drew)); exact HO_0.out))
     obtain ⟨ce11, hcl11, hM11, hcc11, hfr11⟩ := Kd.R_elem HX11.out z74 (x5_1 : Int) (of_decide_eq_true (by first | (with_reducible assumption) | assumption)) (by have h_ : (x5_1 : Int) < ((x0_1.length : Int) : Int) := of_decide_eq_true (by first | (with_reducible assumption) | assumption); first | exact h_ | (have e_ := (Kd.R_reads' HO_0.out).1; omega) | simpa using h_)
     obtain rfl := k74_openM hM11
     have HP11 := Kd.R_seg HX11.out (x5_1 : Int) (of_decide_eq_true (by first | (with_reducible assumption) | assumption)) (by have h_ : (x5_1 : Int) < ((x0_1.length : Int) : Int) := of_decide_eq_true (by first | (with_reducible assumption) | assumption); first | exact h_ | (have e_ := (Kd.R_reads' HO_0.out).1; omega) | simpa using h_) (seg := [.int .i64 x1_1]) (j := 0) hcl11 hcc11 (show 1 ≤ 3 from by decide) (x' := (⟨x1_1, (rd_T74 x0_1 x5_1).f1, (rd_T74 x0_1 x5_1).f2⟩ : S74)) (k74_mkM _ _ _ (⟨x1_1, (rd_T74 x0_1 x5_1).f1, (rd_T74 x0_1 x5_1).f2⟩ : S74) ) (fun _ hk => hk)
     have hx11_0 := hcc11 0 _ rfl
     (try simp only [show (k74).sz = 3 from rfl, Nat.mul_one, Nat.add_zero] at hx11_0)
     have hf11_0 := hfr11 0
     (try simp only [show (k74).sz = 3 from rfl, Nat.mul_one, Nat.add_zero] at hf11_0)
     clear hcl11 hcc11 hfr11; (try clear hM11)
     go_wp2_with (first | ((with_reducible refine gate_store (t := 3) (p := 16) rfl ?_); refine store_event (t := 3) (p := 16) (v := ?vo_w12) (w1 := (wr.setCell ⟨go5, (x5_1 : Int).toNat * 3, none⟩ (.int .i64 x1_1))) ?hg ?ho ?hn ?hr ?_; (case ho => rfl); (case hg => rfl); (case hn => rfl); (case hr => first | (go_simp; done) | (go_simp; rfl) | ((try simp only [Int.toNat_natCast] at *); go_simp; first | done | rfl)); intro w12 hw; have hg : wr.grownBy w12 (some go5) := (by rw [hw]; exact HP11.2); have hp_ : Kd.R k74 74 w12 w0.heap.size (fun k_ => (P0_ k_ ∨ w.heap.size ≤ k_)) (.slice (some ⟨go5, 0, none⟩) x0_1.length co10) y244 := (by rw [hw, Ny244.out]; exact HP11.1); clear HP11; have n0_ := Aside0.mk (hp_); have n1_ := Aside0.mk ((by rw [hw]; exact below_set (HB.out) GB5.out : Below w0.heap.size w0 w12)); have n2_ := Aside0.mk (Kept.of_grown (S := (fun k_ => P0_ k_)) hg (by repeat (first | (with_reducible first | exact HK.out | apply Kept.alloc | apply Kept.drewN | apply Kept.drew) | exact HK.out)) (fun k_ e_ => (HO_0.out.1 k_ e_))); clear HO_0; clear HB; clear HK; have HO_0 := n0_; have HB := n1_; have HK := n2_; clear n0_ n1_ n2_; clear hg hw hp_) | ((with_reducible refine gate_callee (f := 58) rfl ?_); refine goesL_ (some 22) rfl rfl Try.func58 (by kernel_rfl) rfl #[.int .i64 (wrap64 (x1_1 + 1))] rfl (by (try simp only [List.map_toArray, List.map_cons, List.map_nil]); first | done | rfl | (simp only [List.length_drop, List.length_take]; rfl)) ?_; (with_reducible refine (laws_markText.calls k1 (wrap64 (x1_1 + 1)) t245 _ A6.out).mono ?_); rintro e w13 ⟨rfl, hb⟩; refine ⟨_, rfl, ?_⟩; have n0_ := Aside0.mk (Kd.R_below (by (with_reducible repeat (first | apply Kd.R_alloc | apply Kd.R_drewN | apply Kd.R_drew)); exact HO_0.out) hb); have n1_ := Aside0.mk (Kept.below (S := (fun k_ => P0_ k_)) (by repeat (first | (with_reducible first | exact HK.out | apply Kept.alloc | apply Kept.drewN | apply Kept.drew) | exact HK.out)) hb); have n2_ := Aside0.mk (below_step (by repeat (first | (with_reducible first | exact HB.out | apply below_alloc | apply pw_below_drewN | apply below_drew1) | exact HB.out)) hb); clear HO_0; clear HK; clear HB; have HO_0 := n0_; have HK := n1_; have HB := n2_; clear n0_ n1_ n2_; (try clear hb); (try clear hb2); (try clear hk); (try clear hi); have p7 : 0 ≤ (x5_1 : Int) := of_decide_eq_true (by first | (with_reducible assumption) | assumption); have q7 : (x5_1 : Int) < ((x0_1.length : Int) : Int) := of_decide_eq_true (by first | (with_reducible assumption) | assumption); obtain ⟨ce7, hcl7, hM7, hcc7, hfr7⟩ := Kd.R_elem HO_0.out z74 (x5_1 : Int) p7 q7; obtain rfl := k74_openM hM7; have hx7_0 : w13.cell? ⟨go5, (x5_1 : Int).toNat * 3, none⟩ = some (.int .i64 ((rd_T74 y244 x5_1).f0)) := hcc7 0 _ rfl; have hx7_1 : w13.cell? ⟨go5, (x5_1 : Int).toNat * 3 + 1, none⟩ = some (.string ((rd_T74 y244 x5_1).f1)) := hcc7 1 _ rfl; have hx7_2 : w13.cell? ⟨go5, (x5_1 : Int).toNat * 3 + 2, none⟩ = some (.string ((rd_T74 y244 x5_1).f2)) := hcc7 2 _ rfl; have hf7_0 : w13.frozen? ⟨go5, (x5_1 : Int).toNat * 3, none⟩ = false := hfr7 0; have hf7_1 : w13.frozen? ⟨go5, (x5_1 : Int).toNat * 3 + 1, none⟩ = false := hfr7 1; have hf7_2 : w13.frozen? ⟨go5, (x5_1 : Int).toNat * 3 + 2, none⟩ = false := hfr7 2; clear hcl7 hcc7 hfr7; (try clear hM7); replace p7 := eq_true p7; replace q7 := eq_true q7; have HX14 := Aside0.mk (show Kd.R k74 74 w13 w0.heap.size (fun k_ => (P0_ k_ ∨ w.heap.size ≤ k_)) (.slice (some ⟨go5, 0, none⟩) x0_1.length co10) y244 from (by (with_reducible repeat (first | apply Kd.R_alloc | apply Kd.R_drewN | apply Kd.R_drew)); exact HO_0.out)); obtain ⟨ce14, hcl14, hM14, hcc14, hfr14⟩ := Kd.R_elem HX14.out z74 (x5_1 : Int) (of_decide_eq_true (by first | (with_reducible assumption) | assumption)) (by have h_ : (x5_1 : Int) < ((x0_1.length : Int) : Int) := of_decide_eq_true (by first | (with_reducible assumption) | assumption); first | exact h_ | (have e_ := (Kd.R_reads' HO_0.out).1; omega) | simpa using h_); obtain rfl := k74_openM hM14; have HP14 := Kd.R_seg HX14.out (x5_1 : Int) (of_decide_eq_true (by first | (with_reducible assumption) | assumption)) (by have h_ : (x5_1 : Int) < ((x0_1.length : Int) : Int) := of_decide_eq_true (by first | (with_reducible assumption) | assumption); first | exact h_ | (have e_ := (Kd.R_reads' HO_0.out).1; omega) | simpa using h_) (seg := [.string t245]) (j := 1) hcl14 hcc14 (show 2 ≤ 3 from by decide) (x' := (⟨(rd_T74 y244 x5_1).f0, t245, (rd_T74 y244 x5_1).f2⟩ : S74)) (k74_mkM _ _ _ (⟨(rd_T74 y244 x5_1).f0, t245, (rd_T74 y244 x5_1).f2⟩ : S74) ) (fun _ hk => hk); have hx14_1 := hcc14 1 _ rfl; (try simp only [show (k74).sz = 3 from rfl, Nat.mul_one, Nat.add_zero] at hx14_1); have hf14_1 := hfr14 1; (try simp only [show (k74).sz = 3 from rfl, Nat.mul_one, Nat.add_zero] at hf14_1); clear hcl14 hcc14 hfr14; (try clear hM14)) | ((with_reducible refine gate_store (t := 9) (p := 24) rfl ?_); refine store_event (t := 9) (p := 24) (v := ?vo_w15) (w1 := (w13.setCell ⟨go5, (x5_1 : Int).toNat * 3 + 1, none⟩ (.string t245))) ?hg ?ho ?hn ?hr ?_; (case ho => rfl); (case hg => rfl); (case hn => rfl); (case hr => first | (go_simp; done) | (go_simp; rfl) | ((try simp only [Int.toNat_natCast] at *); go_simp; first | done | rfl)); intro w15 hw; have hg : w13.grownBy w15 (some go5) := (by rw [hw]; exact HP14.2); have hp_ : Kd.R k74 74 w15 w0.heap.size (fun k_ => (P0_ k_ ∨ w.heap.size ≤ k_)) (.slice (some ⟨go5, 0, none⟩) x0_1.length co10) y246 := (by rw [hw, Ny246.out]; exact HP14.1); clear HP14; have n0_ := Aside0.mk (hp_); have n1_ := Aside0.mk ((by rw [hw]; exact below_set (HB.out) GB5.out : Below w0.heap.size w0 w15)); have n2_ := Aside0.mk (Kept.of_grown (S := (fun k_ => P0_ k_)) hg (by repeat (first | (with_reducible first | exact HK.out | apply Kept.alloc | apply Kept.drewN | apply Kept.drew) | exact HK.out)) (fun k_ e_ => (HO_0.out.1 k_ e_))); clear HO_0; clear HB; clear HK; have HO_0 := n0_; have HB := n1_; have HK := n2_; clear n0_ n1_ n2_; clear hg hw hp_) | ((with_reducible refine gate_callee (f := 58) rfl ?_); refine goesL_ (some 30) rfl rfl Try.func58 (by kernel_rfl) rfl #[.int .i64 (wrap64 ((wrap64 (x1_1 + 1)) + 1))] rfl (by (try simp only [List.map_toArray, List.map_cons, List.map_nil]); first | done | rfl | (simp only [List.length_drop, List.length_take]; rfl)) ?_; (with_reducible refine (laws_markText.calls k1 (wrap64 ((wrap64 (x1_1 + 1)) + 1)) t247 _ A8.out).mono ?_); rintro e w16 ⟨rfl, hb⟩; refine ⟨_, rfl, ?_⟩; have n0_ := Aside0.mk (Kd.R_below (by (with_reducible repeat (first | apply Kd.R_alloc | apply Kd.R_drewN | apply Kd.R_drew)); exact HO_0.out) hb); have n1_ := Aside0.mk (Kept.below (S := (fun k_ => P0_ k_)) (by repeat (first | (with_reducible first | exact HK.out | apply Kept.alloc | apply Kept.drewN | apply Kept.drew) | exact HK.out)) hb); have n2_ := Aside0.mk (below_step (by repeat (first | (with_reducible first | exact HB.out | apply below_alloc | apply pw_below_drewN | apply below_drew1) | exact HB.out)) hb); clear HO_0; clear HK; clear HB; have HO_0 := n0_; have HK := n1_; have HB := n2_; clear n0_ n1_ n2_; (try clear hb); (try clear hb2); (try clear hk); (try clear hi); have p9 : 0 ≤ (x5_1 : Int) := of_decide_eq_true (by first | (with_reducible assumption) | assumption); have q9 : (x5_1 : Int) < ((x0_1.length : Int) : Int) := of_decide_eq_true (by first | (with_reducible assumption) | assumption); obtain ⟨ce9, hcl9, hM9, hcc9, hfr9⟩ := Kd.R_elem HO_0.out z74 (x5_1 : Int) p9 q9; obtain rfl := k74_openM hM9; have hx9_0 : w16.cell? ⟨go5, (x5_1 : Int).toNat * 3, none⟩ = some (.int .i64 ((rd_T74 y246 x5_1).f0)) := hcc9 0 _ rfl; have hx9_1 : w16.cell? ⟨go5, (x5_1 : Int).toNat * 3 + 1, none⟩ = some (.string ((rd_T74 y246 x5_1).f1)) := hcc9 1 _ rfl; have hx9_2 : w16.cell? ⟨go5, (x5_1 : Int).toNat * 3 + 2, none⟩ = some (.string ((rd_T74 y246 x5_1).f2)) := hcc9 2 _ rfl; have hf9_0 : w16.frozen? ⟨go5, (x5_1 : Int).toNat * 3, none⟩ = false := hfr9 0; have hf9_1 : w16.frozen? ⟨go5, (x5_1 : Int).toNat * 3 + 1, none⟩ = false := hfr9 1; have hf9_2 : w16.frozen? ⟨go5, (x5_1 : Int).toNat * 3 + 2, none⟩ = false := hfr9 2; clear hcl9 hcc9 hfr9; (try clear hM9); replace p9 := eq_true p9; replace q9 := eq_true q9; have HX17 := Aside0.mk (show Kd.R k74 74 w16 w0.heap.size (fun k_ => (P0_ k_ ∨ w.heap.size ≤ k_)) (.slice (some ⟨go5, 0, none⟩) x0_1.length co10) y246 from (by (with_reducible repeat (first | apply Kd.R_alloc | apply Kd.R_drewN | apply Kd.R_drew)); exact HO_0.out)); obtain ⟨ce17, hcl17, hM17, hcc17, hfr17⟩ := Kd.R_elem HX17.out z74 (x5_1 : Int) (of_decide_eq_true (by first | (with_reducible assumption) | assumption)) (by have h_ : (x5_1 : Int) < ((x0_1.length : Int) : Int) := of_decide_eq_true (by first | (with_reducible assumption) | assumption); first | exact h_ | (have e_ := (Kd.R_reads' HO_0.out).1; omega) | simpa using h_); obtain rfl := k74_openM hM17; have HP17 := Kd.R_seg HX17.out (x5_1 : Int) (of_decide_eq_true (by first | (with_reducible assumption) | assumption)) (by have h_ : (x5_1 : Int) < ((x0_1.length : Int) : Int) := of_decide_eq_true (by first | (with_reducible assumption) | assumption); first | exact h_ | (have e_ := (Kd.R_reads' HO_0.out).1; omega) | simpa using h_) (seg := [.string t247]) (j := 2) hcl17 hcc17 (show 3 ≤ 3 from by decide) (x' := (⟨(rd_T74 y246 x5_1).f0, (rd_T74 y246 x5_1).f1, t247⟩ : S74)) (k74_mkM _ _ _ (⟨(rd_T74 y246 x5_1).f0, (rd_T74 y246 x5_1).f1, t247⟩ : S74) ) (fun _ hk => hk); have hx17_2 := hcc17 2 _ rfl; (try simp only [show (k74).sz = 3 from rfl, Nat.mul_one, Nat.add_zero] at hx17_2); have hf17_2 := hfr17 2; (try simp only [show (k74).sz = 3 from rfl, Nat.mul_one, Nat.add_zero] at hf17_2); clear hcl17 hcc17 hfr17; (try clear hM17)) | ((with_reducible refine gate_store (t := 9) (p := 32) rfl ?_); refine store_event (t := 9) (p := 32) (v := ?vo_w18) (w1 := (w16.setCell ⟨go5, (x5_1 : Int).toNat * 3 + 2, none⟩ (.string t247))) ?hg ?ho ?hn ?hr ?_; (case ho => rfl); (case hg => rfl); (case hn => rfl); (case hr => first | (go_simp; done) | (go_simp; rfl) | ((try simp only [Int.toNat_natCast] at *); go_simp; first | done | rfl)); intro w18 hw; have hg : w16.grownBy w18 (some go5) := (by rw [hw]; exact HP17.2); have hp_ : Kd.R k74 74 w18 w0.heap.size (fun k_ => (P0_ k_ ∨ w.heap.size ≤ k_)) (.slice (some ⟨go5, 0, none⟩) x0_1.length co10) y248 := (by rw [hw, Ny248.out]; exact HP17.1); clear HP17; have n0_ := Aside0.mk (hp_); have n1_ := Aside0.mk ((by rw [hw]; exact below_set (HB.out) GB5.out : Below w0.heap.size w0 w18)); have n2_ := Aside0.mk (Kept.of_grown (S := (fun k_ => P0_ k_)) hg (by repeat (first | (with_reducible first | exact HK.out | apply Kept.alloc | apply Kept.drewN | apply Kept.drew) | exact HK.out)) (fun k_ e_ => (HO_0.out.1 k_ e_))); clear HO_0; clear HB; clear HK; have HO_0 := n0_; have HB := n1_; have HK := n2_; clear n0_ n1_ n2_; clear hg hw hp_))
     go_roundg k1
     case measure => have := HK1.out; omega
     case rel => exact ⟨(y248), (wrap64 ((wrap64 ((wrap64 (x1_1 + 1)) + 1)) + 1)), (wrap64 (x5_1 + 1)), (by first | rfl | (simp; done) | (simp [*]; done)), (by first | rfl | (simp; done) | (simp [*]; done)), H', ⟨by have := HK1.out; omega⟩, ⟨by (with_reducible repeat (first | apply Kd.R_alloc | apply Kd.R_drewN | apply Kd.R_drew)); exact HO_0.out⟩, ⟨by repeat (first | (with_reducible first | exact HK.out | apply Kept.alloc | apply Kept.drewN | apply Kept.drew) | exact HK.out)⟩, ⟨by repeat (first | (with_reducible first | exact HB.out | apply below_alloc | apply pw_below_drewN | apply below_drew1) | exact HB.out)⟩⟩
    ·rw [if_neg c4] at H
     exact absurd H (by simp)
   ·rw [if_neg c3] at H
    have c3b0 : decide (x5_1 < (x0_1.length : Int)) = false := decide_eq_false c3
    clear c3
    simp only [Option.some.injEq, Prod.mk.injEq] at H
    obtain ⟨rfl, rfl⟩ := H
    obtain ⟨Ao19, co19, eo19⟩ := Kd.R_slice HO_0.out
    subst eo19
    go_wp2
    go_ret
    exact ⟨by first | rfl | (simp [errW_none, errW_some] <;> rfl) | (simp [*, errW_none, errW_some] <;> rfl), by (with_reducible repeat (first | apply Kd.R_alloc | apply Kd.R_drewN | apply Kd.R_drew)); exact HO_0.out, by repeat (first | (with_reducible first | exact HB.out | apply below_alloc | apply pw_below_drewN | apply below_drew1) | exact HB.out), by repeat (first | (with_reducible first | exact HK.out | apply Kept.alloc | apply Kept.drewN | apply Kept.drew) | exact HK.out)⟩

end Go.Proofs.Ytpbelbckinpinaa.AFnExactDiffOps
